import Derived.Test.Qxb6500865aEq47
import Derived.Test.Qxb6500865aW4
namespace Go.Proofs.Qxb6500865a
set_option linter.unusedSimpArgs false
set_option linter.unusedVariables false
open Go.RowKit

section
variable {P : Program} {f : FuncId} {n : Nat} {R : Value → World → Prop} {ρ : Env} {k : List Item} {ops : Array Oper} {rest : List Oper} {C : World → Prop}
variable {d : Nat} {ty : TypeId} {pos : String} {after : Array Edge}
theorem LQ_callF {g : FuncId} {xs : Array Operand} {ts : Array TypeId} (args : List Value) (v : Value) (hg : EN P g) (ha : xs.toList.map (ev ρ) = args) (hd : Nat.blt d n = true)
    (hc : ∀ w, C w → Ret P g args.toArray w fun u w' => u = v ∧ C w')
    (h : LQ P f n ops C rest k R (upd ρ d v)) : LQ P f n ops C (⟨some d, .call { callee := .value (.func g), args := xs, argTypes := ts }, ty, pos, after, none⟩ :: rest) k R ρ := by
  refine LQ_call (g := g) (args := args.toArray) v (fun w hw => ?_) hd hc h
  have e : xs.map (ev ρ) = args.toArray := by
    rw [← ha]; apply Array.ext'; simp
  have h1 := hg args.toArray w
  simp [execOp, resolve, e, ev, Deferred.ofValue, invoke, h1]
end
theorem LegsOwn.chg {w w1 : World} {base b : Nat} {a : Option Addr} {c : Nat} {gs : List Leg} {cs : Array Value} {t : TypeId} {o : Obj} (hc : Chg w w1 b o) (hb : Blk w b cs t) (h1 : t ≠ 62) (h2 : t ≠ 59) (h : LegsOwn w base a c gs) : LegsOwn w1 base a c gs :=
  ⟨owns_chg hc (.inl hb) h1 h.own, fun g hg => owns_chg hc (.inl hb) h2 (h.needs g hg)⟩

set_option maxHeartbeats 8000000 in
set_option maxRecDepth 10000 in
/-- bundlelaw.GraphsAreBuiltAlike -/
theorem graphsLaw_ret (a : Option Addr) (c : Nat) (xs : List OpD) (w : World) (hs : Script w a xs) :
    Ret Try.prog 5 #[.slice a xs.length c] w fun v w' => v = .bool true ∧ Below w.heap.size w w' := by
  refine ret_of_T (vs := [.slice a xs.length c]) Try.func5 Try.ntmps5 rfl (Nat.le_of_ble_eq_true rfl) ?_
  repeat (first | refine T_seq ?_ | refine T_block ?_ | refine T_inBlock ?_ | refine T_skip ?_)
  refine T_region ?_
  refine L_val _ _ (X_assign) rfl ?_
  refine L_nil ?_
  repeat (first | refine T_seq ?_ | refine T_block ?_ | refine T_inBlock ?_ | refine T_skip ?_)
  refine T_region ?_
  refine L_val _ _ (X_move) rfl ?_
  refine L_callF [.slice a xs.length c] E8 rfl rfl (small_ret a c xs w hs.ops hs.len hs.big) ?_
  rintro v w1 ⟨t, rfl, rfl, hsmall⟩
  refine L_val _ _ (X_not rfl) rfl ?_
  refine L_nil ?_
  cases t with
  | false =>
    refine T_true rfl ?_
    repeat (first | refine T_seq ?_ | refine T_block ?_ | refine T_inBlock ?_ | refine T_skip ?_)
    refine T_region ?_
    refine L_val _ _ (X_assign) rfl ?_
    refine L_nil ?_
    exact T_ret1 Try.func5 rfl ⟨rfl, Below.refl _ _⟩
  | true =>
  obtain ⟨hxl, hxs⟩ := hsmall rfl
  refine T_false rfl ?_
  repeat (first | refine T_seq ?_ | refine T_block ?_ | refine T_inBlock ?_ | refine T_skip ?_)
  refine T_region ?_
  refine L_val _ _ (X_move) rfl ?_
  refine L_val _ _ (X_lenS U22 rfl) rfl ?_
  refine L_val _ _ (X_move) rfl ?_
  refine L_nil ?_
  repeat (first | refine T_seq ?_ | refine T_block ?_ | refine T_inBlock ?_ | refine T_skip ?_)
  refine T_loopS [20, 19, 18] (fun m vs x => ∃ i : Nat, vs = [.int .i64 i, .int .i64 xs.length, .slice a xs.length c] ∧ i ≤ xs.length ∧ m = xs.length - i ∧ Below w1.heap.size w1 x) xs.length ⟨0, rfl, by omega, rfl, Below.refl _ _⟩ ?_
  rintro m vs ρ x ⟨i, rfl, hi, rfl, bx⟩ ih
  repeat (first | refine T_seq ?_ | refine T_block ?_ | refine T_inBlock ?_ | refine T_skip ?_)
  refine T_region ?_
  refine L_val _ _ (X_cmp rfl rfl rfl) rfl ?_
  refine L_nil ?_
  repeat (first | refine T_seq ?_ | refine T_block ?_ | refine T_inBlock ?_ | refine T_skip ?_)
  refine T_if rfl (fun ht => ?_) (fun hf => ?_)
  case refine_2 =>
    refine T_exit rfl ?_
    repeat (first | refine T_seq ?_ | refine T_block ?_ | refine T_inBlock ?_ | refine T_skip ?_)
    refine T_region ?_
    refine L_val _ _ (X_assign) rfl ?_
    refine L_nil ?_
    exact T_ret1 Try.func5 rfl ⟨rfl, bx⟩
  have hlt : i < xs.length := by simpa [cmpB] using ht
  have hox := hs.ops.keep (keeps_below bx)
  obtain ⟨p, q, rfl, hp, hc⟩ := hox.at (i := i) (x := xs[i]) (by simp)
  have hlx := hox.ok xs[i] (by simp)
  have hsx := hxs xs[i] (by simp)
  generalize xs[i] = X at *
  have hLl := hsx.legs
  have sx := bx.size
  repeat (first | refine T_seq ?_ | refine T_block ?_ | refine T_inBlock ?_ | refine T_skip ?_)
  refine T_region ?_
  refine L_val _ _ (X_index U22 S43 rfl rfl hlt) rfl ?_
  refine L_val _ _ (X_loadAgg X.cells A43 S43 (OpD.cells_length _) rfl hc) rfl ?_
  refine L_alloc Z43 rfl fun w2 h2 => ?_
  refine L_storeAll X.cells S43 rfl rfl (OpD.cells_length _) (OpD.cells_one _) h2.new rfl fun w3 h3 => ?_
  refine L_nil ?_
  have h23 := h2.trans h3
  have b3 : Below x.heap.size x w3 := h23.below (Below.refl _ _) (Nat.le_refl _)
  have k4 : Blk w3 x.heap.size X.cells.toArray 43 := h23.new
  have s3 := h23.size
  have hl3 := hlx.keep (keeps_below b3)
  clear h2 h3 h23
  repeat (first | refine T_seq ?_ | refine T_block ?_ | refine T_inBlock ?_ | refine T_skip ?_)
  refine T_region ?_
  refine L_val _ _ (X_field F43_2 rfl) rfl ?_
  refine L_val _ _ (X_field F28_0 rfl) rfl ?_
  refine L_val _ _ (X_load A26 rfl (op_blk k4 2 rfl)) rfl ?_
  refine L_val _ _ (X_lenS U26 rfl) rfl ?_
  refine L_val _ _ (X_assign) rfl ?_
  refine L_nil ?_
  repeat (first | refine T_seq ?_ | refine T_block ?_ | refine T_inBlock ?_ | refine T_skip ?_)
  rcases Nat.lt_or_ge 8 X.legs.length with h8 | h8
  case inl =>
    have e35 : cmpB .leq (X.legs.length : Int) 8 = false := by simp [cmpB]; omega
    refine T_region ?_
    refine L_val _ _ (X_move) rfl ?_
    refine L_callF [.int .i64 X.legs.length] E17 rfl rfl (newGraph_no X.legs.length w3 h8) ?_
    rintro v w4 ⟨rfl, b4⟩
    refine L_val _ _ (X_move) rfl ?_
    refine L_val _ _ (X_extract rfl rfl) rfl ?_
    refine L_val _ _ (X_extract rfl rfl) rfl ?_
    refine L_alloc Z47 rfl fun w5 h5 => ?_
    refine L_storeAll (gcells 0 (pad8 [])) S47 rfl rfl rfl (gcells_one _ _) h5.new rfl fun w6 h6 => ?_
    refine L_val _ _ (X_assign) rfl ?_
    refine L_nil ?_
    have s4 := b4.size
    have b6 : Below x.heap.size x w6 := (h5.trans h6).below (b3.trans (b4.mono s3)) (by omega)
    repeat (first | refine T_seq ?_ | refine T_block ?_ | refine T_inBlock ?_ | refine T_skip ?_)
    refine T_region ?_
    refine L_val _ _ (X_move) rfl ?_
    refine L_val _ _ (X_move) rfl ?_
    refine L_val _ _ (X_cmpR false rfl rfl rfl e35) rfl ?_
    refine L_val _ _ (X_neqB U4 rfl rfl) rfl ?_
    refine L_nil ?_
    refine T_false rfl ?_
    repeat (first | refine T_seq ?_ | refine T_block ?_ | refine T_inBlock ?_ | refine T_skip ?_)
    refine T_region ?_
    refine L_val _ _ (X_move) rfl ?_
    refine L_val _ _ (X_not rfl) rfl ?_
    refine L_nil ?_
    refine T_true rfl ?_
    refine T_exit rfl ?_
    repeat (first | refine T_seq ?_ | refine T_block ?_ | refine T_inBlock ?_ | refine T_skip ?_)
    refine T_region ?_
    refine L_val _ _ (X_add rfl rfl (by omega) (by omega)) rfl ?_
    refine L_val _ _ (X_move) rfl ?_
    refine L_nil ?_
    exact ih _ _ _ (by omega) ⟨i + 1, rfl, by omega, rfl, bx.trans (b6.mono sx)⟩
  have e35 : cmpB .leq (X.legs.length : Int) 8 = true := by simp [cmpB]; omega
  refine T_region ?_
  refine L_val _ _ (X_move) rfl ?_
  refine L_callF [.int .i64 X.legs.length] E17 rfl rfl (newGraph_yes X.legs.length w3 h8) ?_
  rintro v w4 ⟨rfl, b4⟩
  refine L_val _ _ (X_move) rfl ?_
  refine L_val _ _ (X_extract rfl rfl) rfl ?_
  refine L_val _ _ (X_extract rfl rfl) rfl ?_
  refine L_alloc Z47 rfl fun w5 h5 => ?_
  refine L_storeAll (gcells X.legs.length (pad8 [])) S47 rfl rfl rfl (gcells_one _ _) h5.new rfl fun w6 h6 => ?_
  refine L_val _ _ (X_assign) rfl ?_
  refine L_nil ?_
  have h56 := h5.trans h6
  have s4 := b4.size
  have s6 := h56.size
  have z6 := h56.lt
  have b6 : Below x.heap.size x w6 := h56.below (b3.trans (b4.mono s3)) (by omega)
  have kG : Blk w6 w4.heap.size (gcells X.legs.length (pad8 [])).toArray 47 := h56.new
  have k46 : Blk w6 x.heap.size X.cells.toArray 43 := h56.blk (below_blk b4 k4 k4.lt) (by have := k4.lt; omega)
  have hl6 := hlx.keep (keeps_below b6)
  have hGx : x.heap.size ≤ w4.heap.size := by omega
  clear h5 h6 h56 b4 b3 k4 hl3
  generalize w4.heap.size = GB at *
  repeat (first | refine T_seq ?_ | refine T_block ?_ | refine T_inBlock ?_ | refine T_skip ?_)
  refine T_region ?_
  refine L_val _ _ (X_move) rfl ?_
  refine L_val _ _ (X_move) rfl ?_
  refine L_val _ _ (X_cmpR true rfl rfl rfl e35) rfl ?_
  refine L_val _ _ (X_neqB U4 rfl rfl) rfl ?_
  refine L_nil ?_
  refine T_false rfl ?_
  repeat (first | refine T_seq ?_ | refine T_block ?_ | refine T_inBlock ?_ | refine T_skip ?_)
  refine T_region ?_
  refine L_val _ _ (X_move) rfl ?_
  refine L_val _ _ (X_not rfl) rfl ?_
  refine L_nil ?_
  refine T_false rfl ?_
  repeat (first | refine T_seq ?_ | refine T_block ?_ | refine T_inBlock ?_ | refine T_skip ?_)
  refine T_region ?_
  refine L_val _ _ (X_field F43_2 rfl) rfl ?_
  refine L_val _ _ (X_loadAgg [.slice X.la X.legs.length X.lc] A28 S28 rfl rfl (by intro j v hj; exact op_blk k46 (0 + 2 + j) (op_legs X hj))) rfl ?_
  refine L_callF [.agg #[.slice X.la X.legs.length X.lc]] E9 rfl rfl (well_ret X.la X.lc X.legs w6 hl6 hLl hsx.needs) ?_
  rintro v w7 ⟨a', c', gs', rfl, hgd, hgo, b7⟩
  have hgl : gs'.length = X.legs.length := by have := congrArg List.length hgd; simpa using this
  have hgn : ∀ g ∈ gs', g.needs.length < 1000000 := wn_needs hgd hsx.needs
  have h8l : gs'.length ≤ 8 := by omega
  rw [← hgl]
  rw [← hgl] at kG
  refine L_alloc Z28 rfl fun w8 h8 => ?_
  refine L_storeAll [.slice a' gs'.length c'] S28 rfl rfl rfl (by simp [Value.oneCell']) h8.new rfl fun w9 h9 => ?_
  refine L_nil ?_
  have h89 := h8.trans h9
  have s7 := b7.size
  have s9 := h89.size
  have z9 := h89.lt
  have b9 : Below x.heap.size x w9 := h89.below (b6.trans (b7.mono (by omega))) (by omega)
  have kG9 : Blk w9 GB (gcells gs'.length (pad8 [])).toArray 47 := h89.blk (below_blk b7 kG kG.lt) (by omega)
  have k8 : Blk w9 w7.heap.size #[.slice a' gs'.length c'] 28 := h89.new
  have hgo9 := hgo.below (h89.below (Below.refl _ _) (Nat.le_refl _))
  have hBx : x.heap.size ≤ w7.heap.size := by omega
  have b9w : Below w1.heap.size w1 w9 := bx.trans (b9.mono sx)
  have hne : GB ≠ w7.heap.size := by omega
  clear h8 h9 h89 hgo kG k46 hl6 b7 b6 b9
  generalize w7.heap.size = B8 at *
  generalize w6.heap.size = BB at *
  generalize hids : gs'.map (·.id) = ids
  have hidl : ids.length = gs'.length := by rw [← hids]; simp
  have hml : (masksOf gs').length = gs'.length := by simp [masksOf]
  have hwx := bx.size
  repeat (first | refine T_seq ?_ | refine T_block ?_ | refine T_inBlock ?_ | refine T_skip ?_)
  refine T_region ?_
  refine L_val _ _ (X_field F28_0 rfl) rfl ?_
  refine L_val _ _ (X_load A26 rfl (k8.cell 0)) rfl ?_
  refine L_val _ _ (X_lenS U26 rfl) rfl ?_
  refine L_val _ _ (X_move) rfl ?_
  refine L_nil ?_
  repeat (first | refine T_seq ?_ | refine T_block ?_ | refine T_inBlock ?_ | refine T_skip ?_)
  refine T_loopS [45, 44, 43, 5, 6, 8, 20, 19, 18] (fun m vs y => ∃ i' : Nat, vs = [.int .i64 i', .int .i64 gs'.length, .slice a' gs'.length c', .int .i64 gs'.length, .pointer (some ⟨GB, 0, none⟩), .pointer (some ⟨B8, 0, none⟩), .int .i64 i, .int .i64 xs.length, .slice (some ⟨p, q, none⟩) xs.length c] ∧ i' ≤ gs'.length ∧ m = gs'.length - i' ∧ Below w1.heap.size w1 y ∧
    LegsOwn y BB a' c' gs' ∧ Blk y B8 #[.slice a' gs'.length c'] 28 ∧ Blk y GB (gcells gs'.length (pad8 ((masksOf gs').take i'))).toArray 47) gs'.length
    ⟨0, rfl, by omega, rfl, b9w, hgo9, k8, kG9⟩ ?_
  clear kG9 k8 hgo9 b9w
  rintro m vs ρ1 y ⟨i', rfl, hi', rfl, by_, hgo, k8, kG⟩ ih1
  have y1 := k8.lt
  have y2 := kG.lt
  have sy := by_.size
  repeat (first | refine T_seq ?_ | refine T_block ?_ | refine T_inBlock ?_ | refine T_skip ?_)
  refine T_region ?_
  refine L_val _ _ (X_cmp rfl rfl rfl) rfl ?_
  refine L_nil ?_
  repeat (first | refine T_seq ?_ | refine T_block ?_ | refine T_inBlock ?_ | refine T_skip ?_)
  refine T_if rfl (fun ht1 => ?_) (fun hf1 => ?_)
  case refine_2 =>
    have hge : ¬ i' < gs'.length := by simpa [cmpB] using hf1
    obtain rfl : i' = gs'.length := by omega
    rw [List.take_of_length_le (by omega)] at kG
    refine T_exit rfl ?_
    repeat (first | refine T_seq ?_ | refine T_block ?_ | refine T_inBlock ?_ | refine T_skip ?_)
    have hMl := masks_len (gs := gs') (by omega)
    have hin : Below y.heap.size y y.drew := (sm_drew y).below (Below.refl _ _)
    refine T_quiet (fun z => Below y.heap.size y z) rfl (by kernel_rfl) (hin) ?_
    refine LQ_val _ (fun w hw => X_loadAgg (gcells gs'.length (pad8 (masksOf gs'))) A47 S47 (gcells_length hMl) rfl (gblk0 (below_blk hw kG y2))) rfl ?_
    refine LQ_val _ (fun w hw => X_loadAgg [.slice a' gs'.length c'] A28 S28 rfl rfl (agg1 (below_blk hw k8 y1))) rfl ?_
    refine LQ_callF [.agg #[.slice a' gs'.length c']] (.agg (gcells gs'.length (pad8 (masksOf gs'))).toArray) E10 rfl rfl (fun w hw => (graphOf_ret a' c' gs' w (hgo.below hw).legs (by omega) hgn).mono fun u w' hu => ⟨hu.1, hw.trans (hu.2.mono hw.size)⟩) ?_
    refine LQ_val _ (fun w hw => X_neq47 gs'.length (pad8 (masksOf gs')) hMl rfl rfl) rfl ?_
    refine LQ_val _ (fun w hw => X_move) rfl ?_
    refine LQ_guard rfl rfl rfl ?_
    refine LQ_callF [.pointer (some ⟨GB, 0, none⟩)] (.int .i64 gs'.length) E19 rfl rfl (fun w hw => (len_ret GB _ _ w (below_blk hw kG y2)).mono fun u w' hu => ⟨hu.1, hu.2 ▸ hw⟩) ?_
    refine LQ_guard rfl rfl rfl ?_
    refine LQ_val _ (fun w hw => X_move) rfl ?_
    refine LQ_guard rfl rfl rfl ?_
    refine LQ_val _ (fun w hw => X_cmpR false rfl rfl rfl (bne_self_eq_false _)) rfl ?_
    refine LQ_val _ (fun w hw => X_pick rfl) rfl ?_
    refine LQ_val _ (fun w hw => X_move) rfl ?_
    refine LQ_guard rfl rfl rfl ?_
    refine LQ_val _ (fun w hw => X_move) rfl ?_
    refine LQ_guard rfl rfl rfl ?_
    refine LQ_callF [.pointer (some ⟨GB, 0, none⟩), .int .i64 gs'.length, .int .i64 0] (.bool false) E18 rfl rfl (fun w hw => (need_no1 GB gs'.length gs'.length _ 0 w (below_blk hw kG y2) (Nat.le_refl _)).mono fun u w' hu => ⟨hu.1, hu.2 ▸ hw⟩) ?_
    refine LQ_val _ (fun w hw => X_pick rfl) rfl ?_
    refine LQ_val _ (fun w hw => X_move) rfl ?_
    refine LQ_guard rfl rfl rfl ?_
    refine LQ_callF [.pointer (some ⟨GB, 0, none⟩), .int .i64 0, .int .i64 (-1)] (.bool false) E18 rfl rfl (fun w hw => (need_no2 GB gs'.length 0 _ (-1) w (below_blk hw kG y2) (by omega)).mono fun u w' hu => ⟨hu.1, hu.2 ▸ hw⟩) ?_
    refine LQ_val _ (fun w hw => X_pick rfl) rfl ?_
    refine LQ_val _ (fun w hw => X_move) rfl ?_
    refine LQ_guard rfl rfl rfl ?_
    refine LQ_val _ (fun w hw => X_move) rfl ?_
    refine LQ_guard rfl rfl rfl ?_
    refine LQ_callF [.pointer (some ⟨GB, 0, none⟩), .int .i64 gs'.length, .int .i64 0] (.bool false) E16 rfl rfl (fun w hw => (needs_no GB gs'.length gs'.length _ 0 w (below_blk hw kG y2) (Nat.le_refl _)).mono fun u w' hu => ⟨hu.1, hu.2 ▸ hw⟩) ?_
    refine LQ_val _ (fun w hw => X_pick rfl) rfl ?_
    refine LQ_nil fun w hw => ?_
    refine T_false rfl ?_
    repeat (first | refine T_seq ?_ | refine T_block ?_ | refine T_inBlock ?_ | refine T_skip ?_)
    refine T_region ?_
    refine L_val _ _ (X_add rfl rfl (by omega) (by omega)) rfl ?_
    refine L_val _ _ (X_move) rfl ?_
    refine L_nil ?_
    exact ih _ _ _ (by omega) ⟨i + 1, rfl, by omega, rfl, by_.trans (hw.mono sy)⟩
  have hlt1 : i' < gs'.length := by simpa [cmpB] using ht1
  obtain ⟨p1, q1, rfl, hp1, hc1⟩ := hgo.legs.at (i := i') (g := gs'[i']) (by simp)
  have hgm : gs'[i'] ∈ gs' := by simp
  have hnl := hgn gs'[i'] (by simp)
  have hmask : (masksOf gs').take (i' + 1) = (masksOf gs').take i' ++ [maskOf ids gs'[i'].needs] := by
    rw [List.take_succ_eq_append_getElem (by omega)]
    simp [masksOf, hids]
  generalize gs'[i'] = g at *
  repeat (first | refine T_seq ?_ | refine T_block ?_ | refine T_inBlock ?_ | refine T_skip ?_)
  refine T_region ?_
  refine L_val _ _ (X_move) rfl ?_
  refine L_val _ _ (X_index U26 S62 rfl rfl hlt1) rfl ?_
  refine L_val _ _ (X_loadAgg g.cells A62 S62 (Leg.cells_length _) rfl hc1) rfl ?_
  refine L_alloc Z62 rfl fun u1 v1 => ?_
  refine L_val _ _ (X_assign) rfl ?_
  refine L_storeAll g.cells S62 rfl rfl (Leg.cells_length _) (Leg.cells_one _) v1.new rfl fun u2 v2 => ?_
  refine L_nil ?_
  have v12 := v1.trans v2
  have bu : Below y.heap.size y u2 := v12.below (Below.refl _ _) (Nat.le_refl _)
  have su := bu.size
  have kL : Blk u2 y.heap.size g.cells.toArray 62 := v12.new
  have k8u := below_blk bu k8 y1
  have kGu := below_blk bu kG y2
  have hgou := hgo.below bu
  have bu1 : Below w1.heap.size w1 u2 := by_.trans (bu.mono sy)
  clear v1 v2 v12
  repeat (first | refine T_seq ?_ | refine T_block ?_ | refine T_inBlock ?_ | refine T_skip ?_)
  refine T_region ?_
  refine L_val _ _ (X_field F62_3 rfl) rfl ?_
  refine L_val _ _ (X_load A60 rfl (leg_blk kL 21 rfl)) rfl ?_
  refine L_val _ _ (X_lenS U60 rfl) rfl ?_
  refine L_val _ _ (X_move) rfl ?_
  refine L_nil ?_
  repeat (first | refine T_seq ?_ | refine T_block ?_ | refine T_inBlock ?_ | refine T_skip ?_)
  generalize hMi : (masksOf gs').take i' = Mi at *
  have hMil : Mi.length = i' := by rw [← hMi, List.length_take]; omega
  refine T_loopS [53, 52, 51, 9, 45, 44, 43, 5, 6, 8, 20, 19, 18] (fun m vs z => ∃ j : Nat, vs = [.int .i64 j, .int .i64 g.needs.length, .slice g.na g.needs.length g.nc, .int .i64 i', .int .i64 i', .int .i64 gs'.length, .slice (some ⟨p1, q1, none⟩) gs'.length c', .int .i64 gs'.length, .pointer (some ⟨GB, 0, none⟩), .pointer (some ⟨B8, 0, none⟩), .int .i64 i, .int .i64 xs.length, .slice (some ⟨p, q, none⟩) xs.length c] ∧ j ≤ g.needs.length ∧ m = g.needs.length - j ∧ Below w1.heap.size w1 z ∧
    LegsOwn z BB (some ⟨p1, q1, none⟩) c' gs' ∧ Blk z B8 #[.slice (some ⟨p1, q1, none⟩) gs'.length c'] 28 ∧ Blk z GB (gcells gs'.length (pad8 (Mi ++ [maskOf ids (g.needs.take j)]))).toArray 47) g.needs.length
    ⟨0, rfl, by omega, rfl, bu1, hgou, k8u, by rw [List.take_zero]; show Blk u2 GB (gcells gs'.length (pad8 (Mi ++ [0]))).toArray 47; rw [pad8_zero (by omega)]; exact kGu⟩ ?_
  clear bu1 hgou k8u kGu hgo k8 kG by_ kL bu y1 y2 hc1
  rintro m vs ρ2 z ⟨j, rfl, hj, rfl, bz, hgo, k8, kG⟩ ih2
  have y1 := k8.lt
  have y2 := kG.lt
  have sz := bz.size
  repeat (first | refine T_seq ?_ | refine T_block ?_ | refine T_inBlock ?_ | refine T_skip ?_)
  refine T_region ?_
  refine L_val _ _ (X_cmp rfl rfl rfl) rfl ?_
  refine L_nil ?_
  repeat (first | refine T_seq ?_ | refine T_block ?_ | refine T_inBlock ?_ | refine T_skip ?_)
  refine T_if rfl (fun ht2 => ?_) (fun hf2 => ?_)
  case refine_2 =>
    have hge : ¬ j < g.needs.length := by simpa [cmpB] using hf2
    obtain rfl : j = g.needs.length := by omega
    rw [List.take_of_length_le (Nat.le_refl _)] at kG
    refine T_exit rfl ?_
    repeat (first | refine T_seq ?_ | refine T_block ?_ | refine T_inBlock ?_ | refine T_skip ?_)
    refine T_region ?_
    refine L_val _ _ (X_add rfl rfl (by omega) (by omega)) rfl ?_
    refine L_val _ _ (X_move) rfl ?_
    refine L_nil ?_
    exact ih1 _ _ _ (by omega) ⟨i' + 1, rfl, by omega, rfl, bz, hgo, k8, by rw [hmask]; exact kG⟩
  have hlt2 : j < g.needs.length := by simpa [cmpB] using ht2
  obtain ⟨p3, q3, hna3, hp3, hc3⟩ := (hgo.needs g hgm).arr.cell j [.int .u8 g.needs[j]] (by simp [ints, hlt2])
  have e51 : (Value.slice g.na g.needs.length g.nc) = .slice (some ⟨p3, q3, none⟩) g.needs.length g.nc := by rw [hna3]
  have htk : maskOf ids (g.needs.take (j + 1)) = addNeed ids (maskOf ids (g.needs.take j)) g.needs[j] := by
    rw [List.take_succ_eq_append_getElem hlt2, maskOf_snoc]
  generalize g.needs[j] = xx at *
  have hcur := maskOf_lt (ids := ids) (needs := g.needs.take j) (by omega)
  generalize hcur' : maskOf ids (g.needs.take j) = cur at *
  repeat (first | refine T_seq ?_ | refine T_block ?_ | refine T_inBlock ?_ | refine T_skip ?_)
  refine T_region ?_
  refine L_val _ _ (X_index U60 S59 e51 rfl hlt2) rfl ?_
  refine L_val _ _ (X_load A59 rfl (hc3 0 _ rfl)) rfl ?_
  refine L_val _ _ (X_assign) rfl ?_
  refine L_nil ?_
  repeat (first | refine T_seq ?_ | refine T_block ?_ | refine T_inBlock ?_ | refine T_skip ?_)
  refine T_region ?_
  refine L_val _ _ (X_field F28_0 rfl) rfl ?_
  refine L_val _ _ (X_load A26 rfl (k8.cell 0)) rfl ?_
  refine L_val _ _ (X_lenS U26 rfl) rfl ?_
  refine L_val _ _ (X_move) rfl ?_
  refine L_nil ?_
  repeat (first | refine T_seq ?_ | refine T_block ?_ | refine T_inBlock ?_ | refine T_skip ?_)
  refine T_loopS [60, 59, 58, 12, 53, 52, 51, 9, 45, 44, 43, 5, 6, 8, 20, 19, 18] (fun m vs y => ∃ kk : Nat, vs = [.int .i64 kk, .int .i64 gs'.length, .slice (some ⟨p1, q1, none⟩) gs'.length c', .int .u8 xx, .int .i64 j, .int .i64 g.needs.length, .slice g.na g.needs.length g.nc, .int .i64 i', .int .i64 i', .int .i64 gs'.length, .slice (some ⟨p1, q1, none⟩) gs'.length c', .int .i64 gs'.length, .pointer (some ⟨GB, 0, none⟩), .pointer (some ⟨B8, 0, none⟩), .int .i64 i, .int .i64 xs.length, .slice (some ⟨p, q, none⟩) xs.length c] ∧ kk ≤ gs'.length ∧ m = gs'.length - kk ∧ Below z.heap.size z y ∧ ∀ (t : Nat) v, t < kk → ids[t]? = some v → v ≠ xx) gs'.length
    ⟨0, rfl, by omega, rfl, Below.refl _ _, fun t v h => by omega⟩ ?_
  rintro m vs ρ3 y ⟨kk, rfl, hkk, rfl, by_, hno⟩ ih3
  have sy2 := by_.size
  repeat (first | refine T_seq ?_ | refine T_block ?_ | refine T_inBlock ?_ | refine T_skip ?_)
  refine T_region ?_
  refine L_val _ _ (X_cmp rfl rfl rfl) rfl ?_
  refine L_nil ?_
  repeat (first | refine T_seq ?_ | refine T_block ?_ | refine T_inBlock ?_ | refine T_skip ?_)
  refine T_if rfl (fun ht3 => ?_) (fun hf3 => ?_)
  case refine_2 =>
    have hge : ¬ kk < gs'.length := by simpa [cmpB] using hf3
    have hfd : findAt ids xx = none := findAt_none_of (fun t v hv => hno t v (by have := (List.getElem?_eq_some_iff.1 hv).1; omega) hv)
    have hadd : addNeed ids cur xx = cur := by simp [addNeed, hfd]
    refine T_exit rfl ?_
    repeat (first | refine T_seq ?_ | refine T_block ?_ | refine T_inBlock ?_ | refine T_skip ?_)
    refine T_region ?_
    refine L_val _ _ (X_add rfl rfl (by omega) (by omega)) rfl ?_
    refine L_val _ _ (X_move) rfl ?_
    refine L_nil ?_
    exact ih2 _ _ _ (by omega) ⟨j + 1, rfl, by omega, rfl, bz.trans (by_.mono sz), hgo.below by_, below_blk by_ k8 y1, by rw [htk, hadd]; exact below_blk by_ kG y2⟩
  have hlt3 : kk < gs'.length := by simpa [cmpB] using ht3
  obtain ⟨p4, q4, he4, hp4, hc4⟩ := (hgo.below by_).legs.at (i := kk) (g := gs'[kk]) (by simp)
  cases he4
  have hidk : ids[kk]? = some gs'[kk].id := by rw [← hids]; simp [hlt3]
  generalize gs'[kk] = g4 at *
  repeat (first | refine T_seq ?_ | refine T_block ?_ | refine T_inBlock ?_ | refine T_skip ?_)
  refine T_region ?_
  refine L_val _ _ (X_move) rfl ?_
  refine L_val _ _ (X_index U26 S62 rfl rfl hlt3) rfl ?_
  refine L_val _ _ (X_loadAgg g4.cells A62 S62 (Leg.cells_length _) rfl hc4) rfl ?_
  refine L_alloc Z62 rfl fun u1 v1 => ?_
  refine L_val _ _ (X_assign) rfl ?_
  refine L_storeAll g4.cells S62 rfl rfl (Leg.cells_length _) (Leg.cells_one _) v1.new rfl fun u2 v2 => ?_
  refine L_nil ?_
  have v12 := v1.trans v2
  have bu : Below z.heap.size z u2 := v12.below by_ sy2
  have kL : Blk u2 y.heap.size g4.cells.toArray 62 := v12.new
  clear v1 v2 v12
  repeat (first | refine T_seq ?_ | refine T_block ?_ | refine T_inBlock ?_ | refine T_skip ?_)
  refine T_region ?_
  refine L_val _ _ (X_field F62_0 rfl) rfl ?_
  refine L_val _ _ (X_load A59 rfl (leg_blk kL 0 rfl)) rfl ?_
  refine L_val _ _ (X_move) rfl ?_
  refine L_val _ _ (X_cmp rfl rfl rfl) rfl ?_
  refine L_nil ?_
  refine T_if rfl (fun ht4 => ?_) (fun hf4 => ?_)
  case refine_2 =>
    have he : g4.id ≠ xx := by simpa [cmpB] using hf4
    repeat (first | refine T_seq ?_ | refine T_block ?_ | refine T_inBlock ?_ | refine T_skip ?_)
    refine T_region ?_
    refine L_val _ _ (X_add rfl rfl (by omega) (by omega)) rfl ?_
    refine L_val _ _ (X_move) rfl ?_
    refine L_nil ?_
    refine ih3 _ _ _ (by omega) ⟨kk + 1, rfl, by omega, rfl, bu, ?_⟩
    intro t v ht hv
    rcases Nat.lt_succ_iff_lt_or_eq.1 ht with h | rfl
    · exact hno t v h hv
    · rw [hidk] at hv
      cases hv
      exact he
  have he : g4.id = xx := by simpa [cmpB] using ht4
  have hfd : findAt ids xx = some kk := findAt_some_of (by rw [hidk, he]) hno
  have hadd : addNeed ids cur xx = cur ||| 2 ^ kk := by simp [addNeed, hfd]
  have kGu := below_blk bu kG y2
  have hM8 : (pad8 (Mi ++ [cur])).length = 8 := pad8_length (by simp; omega)
  repeat (first | refine T_seq ?_ | refine T_block ?_ | refine T_inBlock ?_ | refine T_skip ?_)
  refine T_region ?_
  refine L_val _ _ (X_move) rfl ?_
  refine L_val _ _ (X_move) rfl ?_
  refine L_callF [.pointer (some ⟨GB, 0, none⟩), .int .i64 i', .int .i64 kk] E18 rfl rfl (need_yes GB gs'.length i' kk cur _ u2 kGu hM8 (by omega) hlt1 hlt3 (by rw [← hMil]; exact pad8_get (by omega)) hcur) ?_
  rintro v u3 ⟨rfl, h3⟩
  refine L_val _ _ (X_not rfl) rfl ?_
  refine L_nil ?_
  refine T_false rfl ?_
  repeat (first | refine T_seq ?_ | refine T_block ?_ | refine T_inBlock ?_ | refine T_skip ?_)
  refine T_exit rfl ?_
  repeat (first | refine T_seq ?_ | refine T_block ?_ | refine T_inBlock ?_ | refine T_skip ?_)
  refine T_region ?_
  refine L_val _ _ (X_add rfl rfl (by omega) (by omega)) rfl ?_
  refine L_val _ _ (X_move) rfl ?_
  refine L_nil ?_
  have e2 : (pad8 (Mi ++ [cur])).set i' (cur ||| 2 ^ kk) = pad8 (Mi ++ [cur ||| 2 ^ kk]) := by
    have := pad8_set (l := Mi) (a := cur) (b := cur ||| 2 ^ kk) (by omega)
    rw [hMil] at this
    exact this
  rw [e2] at h3
  exact ih2 _ _ _ (by omega) ⟨j + 1, rfl, by omega, rfl, h3.below (bz.trans (bu.mono sz)) (by omega), (hgo.below bu).chg h3 kGu (by decide) (by decide), h3.blk (below_blk bu k8 y1) (Ne.symm hne), by rw [htk, hadd]; exact h3.new⟩
end Go.Proofs.Qxb6500865a
