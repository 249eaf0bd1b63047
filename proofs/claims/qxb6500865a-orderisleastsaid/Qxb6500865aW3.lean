import Derived.Test.Qxb6500865aOrdE
import Derived.Test.Qxb6500865aW4
namespace Go.Proofs.Qxb6500865a
set_option linter.unusedSimpArgs false
set_option linter.unusedVariables false
open Go.RowKit

theorem Sm.drew {w x : World} (h : Sm w x) : Sm w x.drew := ⟨h.heap, h.os, h.tape, h.output⟩
theorem Sm.below0 {w x : World} (h : Sm w x) : Below w.heap.size w x := ⟨h.os, h.tape, h.output, by rw [h.heap]; exact Nat.le_refl _, fun k _ => by rw [h.heap]⟩
set_option maxHeartbeats 4000000 in
/-- bundlelaw.sameInts, of the same numbers -/
theorem sameInts_ret (a1 a2 : Option Addr) (c1 c2 n : Nat) (p : List Nat) (w : World) (h1 : Arr w a1 1 (natc p)) (h2 : Arr w a2 1 (natc p)) (hl : p.length = n) (hn : n ≤ 8) :
    Ret Try.prog 13 #[.slice a1 n c1, .slice a2 n c2] w fun v w' => v = .bool true ∧ Sm w w' := by
  refine ret_of_T (vs := [.slice a1 n c1, .slice a2 n c2]) Try.func13 Try.ntmps13 rfl (Nat.le_of_ble_eq_true rfl) ?_
  have e0 : cmpB .neq (n : Int) n = false := bne_self_eq_false _
  repeat (first | refine T_seq ?_ | refine T_block ?_ | refine T_inBlock ?_ | refine T_skip ?_)
  refine T_region ?_
  refine L_val _ _ (X_assign) rfl ?_
  refine L_nil ?_
  repeat (first | refine T_seq ?_ | refine T_block ?_ | refine T_inBlock ?_ | refine T_skip ?_)
  refine T_region ?_
  refine L_val _ _ (X_move) rfl ?_
  refine L_val _ _ (X_lenS U49 rfl) rfl ?_
  refine L_val _ _ (X_move) rfl ?_
  refine L_val _ _ (X_lenS U49 rfl) rfl ?_
  refine L_val _ _ (X_cmpR false rfl rfl rfl e0) rfl ?_
  refine L_nil ?_
  refine T_false rfl ?_
  repeat (first | refine T_seq ?_ | refine T_block ?_ | refine T_inBlock ?_ | refine T_skip ?_)
  refine T_region ?_
  refine L_val _ _ (X_move) rfl ?_
  refine L_val _ _ (X_lenS U49 rfl) rfl ?_
  refine L_val _ _ (X_move) rfl ?_
  refine L_nil ?_
  repeat (first | refine T_seq ?_ | refine T_block ?_ | refine T_inBlock ?_ | refine T_skip ?_)
  refine T_loopS [13, 12, 0, 1] (fun m vs y => ∃ i : Nat, vs = [.int .i64 i, .int .i64 n, .slice a1 n c1, .slice a2 n c2] ∧ i ≤ n ∧ m = n - i ∧ Sm w y) n ⟨0, rfl, by omega, rfl, Sm.refl _⟩ ?_
  rintro m vs ρ y ⟨i, rfl, hi, rfl, hy⟩ ih
  repeat (first | refine T_seq ?_ | refine T_block ?_ | refine T_inBlock ?_ | refine T_skip ?_)
  refine T_region ?_
  refine L_val _ _ (X_cmp rfl rfl rfl) rfl ?_
  refine L_nil ?_
  repeat (first | refine T_seq ?_ | refine T_block ?_ | refine T_inBlock ?_ | refine T_skip ?_)
  refine T_if rfl (fun ht => ?_) (fun hf => ?_)
  case refine_2 =>
    refine T_exit rfl ?_
    repeat (first | refine T_seq ?_ | refine T_block ?_ | refine T_inBlock ?_ | refine T_skip ?_)
    refine T_region ?_
    refine L_val _ _ (X_assign) rfl ?_
    refine L_nil ?_
    exact T_ret1 Try.func13 rfl ⟨rfl, hy⟩
  have hlt : i < n := by simpa [cmpB] using ht
  have hip : i < p.length := by omega
  obtain ⟨b1, o1, rfl, hb1, hc1⟩ := h1.cell i [.int .i64 (p[i] : Nat)] (by simp [natc, hip])
  obtain ⟨b2, o2, rfl, hb2, hc2⟩ := h2.cell i [.int .i64 (p[i] : Nat)] (by simp [natc, hip])
  have x1 := hc1 0 _ rfl
  have x2 := hc2 0 _ rfl
  have e1 : cmpB .neq (p[i] : Int) p[i] = false := bne_self_eq_false _
  generalize p[i] = q at *
  repeat (first | refine T_seq ?_ | refine T_block ?_ | refine T_inBlock ?_ | refine T_skip ?_)
  refine T_region ?_
  refine L_val _ _ (X_move) rfl ?_
  refine L_val _ _ (X_assign) rfl ?_
  refine L_nil ?_
  repeat (first | refine T_seq ?_ | refine T_block ?_ | refine T_inBlock ?_ | refine T_skip ?_)
  refine T_quiet (fun z => Sm w z) rfl (by kernel_rfl) (hy.drew) ?_
  refine LQ_val _ (fun w hw => X_move) rfl ?_
  refine LQ_val _ (fun w hw => X_move) rfl ?_
  refine LQ_val _ (fun w hw => X_index U49 S3 rfl rfl hlt) rfl ?_
  refine LQ_val _ (fun w hw => X_load A3 rfl ((hw.cell _).trans x1)) rfl ?_
  refine LQ_val _ (fun w hw => X_move) rfl ?_
  refine LQ_val _ (fun w hw => X_move) rfl ?_
  refine LQ_val _ (fun w hw => X_index U49 S3 rfl rfl hlt) rfl ?_
  refine LQ_val _ (fun w hw => X_load A3 rfl ((hw.cell _).trans x2)) rfl ?_
  refine LQ_val _ (fun w hw => X_cmpR false rfl rfl rfl e1) rfl ?_
  refine LQ_nil fun w6 h6 => ?_
  refine T_false rfl ?_
  repeat (first | refine T_seq ?_ | refine T_block ?_ | refine T_inBlock ?_ | refine T_skip ?_)
  refine T_region ?_
  refine L_val _ _ (X_add rfl rfl (by omega) (by omega)) rfl ?_
  refine L_val _ _ (X_move) rfl ?_
  refine L_nil ?_
  exact ih _ _ _ (by omega) ⟨i + 1, rfl, by omega, rfl, h6⟩

/-- What settle asks of a leg is what Fits asks. -/
theorem canRun_ok {gs : List Leg} (hn : gs.length ≤ 8) (hb : ∀ g ∈ gs, ∀ x ∈ g.needs, (findAt (gs.map (·.id)) x).isSome = true) {order : List Nat} {done i : Nat} (hr : Ran gs.length order done) (hi : i < gs.length) :
    canRun (pad8 (masksOf gs)) done i = (!order.contains i && okN gs order i) := by
  have hget : (pad8 (masksOf gs)).getD i 0 = maskOf (gs.map (·.id)) gs[i].needs := by
    rw [List.getD_eq_getElem?_getD, pad8_at (by simpa [masksOf] using hi)]
    simp [masksOf]
  have hbi := hb gs[i] (by simp)
  have hok : okN gs order i = gs[i].needs.all fun x => order.any fun j => (j : Int) == plc (gs.map (·.id)) x := by simp [okN, hi]
  have hmlt := maskOf_lt (ids := gs.map (·.id)) (needs := gs[i].needs) (by simpa using hn)
  unfold canRun
  rw [hget, hr.bits i (by omega), hok]
  congr 1
  · simp
  · generalize gs[i].needs = needs at *
    generalize hids : gs.map (·.id) = ids at *
    have hil : ids.length ≤ 8 := by rw [← hids]; simpa using hn
    rw [Bool.eq_iff_iff, beq_iff_eq, List.all_eq_true]
    constructor
    · intro h0 x hx
      obtain ⟨k, hk⟩ := Option.isSome_iff_exists.1 (hbi x hx)
      have hkl := findAt_lt hk
      have h1 : (maskOf ids needs).testBit k = true := by
        rw [maskOf_test, List.any_eq_true]
        exact ⟨x, hx, by simp [hk]⟩
      have h2 := test_andn (m := maskOf ids needs) (k := done) (i := k) (by omega)
      rw [h0, h1] at h2
      simp at h2
      rw [hr.bits k (by omega)] at h2
      have h3 : k ∈ order := by simpa using h2
      rw [List.any_eq_true]
      exact ⟨k, h3, by simp [plc, hk]⟩
    · intro hall
      apply Nat.eq_of_testBit_eq
      intro k
      rw [Nat.zero_testBit]
      rcases Nat.lt_or_ge k 8 with hk8 | hk8
      · rw [test_andn hk8]
        cases hmk : (maskOf ids needs).testBit k with
        | false => rfl
        | true =>
          rw [maskOf_test, List.any_eq_true] at hmk
          obtain ⟨x, hx, hfx⟩ := hmk
          have hfx' : findAt ids x = some k := by simpa using hfx
          have := hall x hx
          rw [List.any_eq_true] at this
          obtain ⟨j, hj, hjk⟩ := this
          have hjk' : j = k := by
            simp [plc, hfx'] at hjk
            omega
          subst hjk'
          rw [hr.bits j hk8]
          simp [hj]
      · exact Nat.testBit_lt_two_pow (Nat.lt_of_lt_of_le (andn_lt hmlt) (Nat.pow_le_pow_right (n := 2) (by decide) hk8))
theorem okN_mono (gs : List Leg) : ∀ pre pre' i, (∀ x ∈ pre, x ∈ pre') → okN gs pre i = true → okN gs pre' i = true := by
  intro pre pre' i hs h
  unfold okN at *
  rw [List.all_eq_true] at *
  intro x hx
  have := h x hx
  rw [List.any_eq_true] at *
  obtain ⟨j, hj, hje⟩ := this
  exact ⟨j, hs j hj, hje⟩
/-- wellNamed's legs need none but legs that are there. -/
theorem wn_borne {gs' gs : List Leg} (hd : gs'.map Leg.data = gs.map (wnData (gs.map (·.id)))) : ∀ g ∈ gs', ∀ x ∈ g.needs, (findAt (gs'.map (·.id)) x).isSome = true := by
  have hids : gs'.map (·.id) = gs.map (·.id) := by
    have h1 : gs'.map (·.id) = (gs'.map Leg.data).map (·.1) := by simp [Leg.data]
    have h2 : gs.map (·.id) = (gs.map (wnData (gs.map (·.id)))).map (·.1) := by simp [wnData]
    rw [h1, hd, ← h2]
  intro g hg x hx
  have h1 : g.data ∈ gs.map (wnData (gs.map (·.id))) := by rw [← hd]; exact List.mem_map_of_mem hg
  obtain ⟨g2, hg2, he⟩ := List.mem_map.1 h1
  have h3 : g2.needs.filter (borne (gs.map (·.id))) = g.needs := congrArg (fun d => d.2.2.2) he
  rw [← h3, List.mem_filter] at hx
  rw [hids]
  exact hx.2

set_option maxHeartbeats 8000000 in
set_option maxRecDepth 10000 in
/-- bundlelaw.OrderIsLeast -/
theorem orderLaw_ret (a : Option Addr) (c : Nat) (xs : List OpD) (w : World) (hs : Script w a xs) :
    Ret Try.prog 3 #[.slice a xs.length c] w fun v w' => v = .bool true ∧ Below w.heap.size w w' := by
  refine ret_of_T (vs := [.slice a xs.length c]) Try.func3 Try.ntmps3 rfl (Nat.le_of_ble_eq_true rfl) ?_
  repeat (first | refine T_seq ?_ | refine T_block ?_ | refine T_inBlock ?_ | refine T_skip ?_)
  refine T_region ?_
  refine L_val _ _ (X_assign) rfl ?_
  refine L_nil ?_
  repeat (first | refine T_seq ?_ | refine T_block ?_ | refine T_inBlock ?_ | refine T_skip ?_)
  refine T_region ?_
  refine L_val _ _ (X_move) rfl ?_
  refine L_callF [.slice a xs.length c] E8 rfl rfl (small_ret a c xs w hs.ops hs.len hs.big) ?_
  rintro v w1 ⟨t, rfl, rfl, hsmall⟩
  refine L_val _ _ (X_not rfl) rfl ?_
  refine L_nil ?_
  cases t with
  | false =>
    refine T_true rfl ?_
    repeat (first | refine T_seq ?_ | refine T_block ?_ | refine T_inBlock ?_ | refine T_skip ?_)
    refine T_region ?_
    refine L_val _ _ (X_assign) rfl ?_
    refine L_nil ?_
    exact T_ret1 Try.func3 rfl ⟨rfl, Below.refl _ _⟩
  | true =>
  obtain ⟨hxl, hxs⟩ := hsmall rfl
  refine T_false rfl ?_
  repeat (first | refine T_seq ?_ | refine T_block ?_ | refine T_inBlock ?_ | refine T_skip ?_)
  refine T_region ?_
  refine L_val _ _ (X_move) rfl ?_
  refine L_val _ _ (X_lenS U22 rfl) rfl ?_
  refine L_val _ _ (X_move) rfl ?_
  refine L_nil ?_
  repeat (first | refine T_seq ?_ | refine T_block ?_ | refine T_inBlock ?_ | refine T_skip ?_)
  refine T_loopS [16, 15, 14] (fun m vs x => ∃ i : Nat, vs = [.int .i64 i, .int .i64 xs.length, .slice a xs.length c] ∧ i ≤ xs.length ∧ m = xs.length - i ∧ Below w1.heap.size w1 x) xs.length ⟨0, rfl, by omega, rfl, Below.refl _ _⟩ ?_
  rintro m vs ρ x ⟨i, rfl, hi, rfl, bx⟩ ih
  repeat (first | refine T_seq ?_ | refine T_block ?_ | refine T_inBlock ?_ | refine T_skip ?_)
  refine T_region ?_
  refine L_val _ _ (X_cmp rfl rfl rfl) rfl ?_
  refine L_nil ?_
  repeat (first | refine T_seq ?_ | refine T_block ?_ | refine T_inBlock ?_ | refine T_skip ?_)
  refine T_if rfl (fun ht => ?_) (fun hf => ?_)
  case refine_2 =>
    refine T_exit rfl ?_
    repeat (first | refine T_seq ?_ | refine T_block ?_ | refine T_inBlock ?_ | refine T_skip ?_)
    refine T_region ?_
    refine L_val _ _ (X_assign) rfl ?_
    refine L_nil ?_
    exact T_ret1 Try.func3 rfl ⟨rfl, bx⟩
  have hlt : i < xs.length := by simpa [cmpB] using ht
  have hox := hs.ops.keep (keeps_below bx)
  obtain ⟨p, q, rfl, hp, hc⟩ := hox.at (i := i) (x := xs[i]) (by simp)
  have hlx := hox.ok xs[i] (by simp)
  have hsx := hxs xs[i] (by simp)
  generalize xs[i] = X at *
  have hLl := hsx.legs
  have sx := bx.size
  repeat (first | refine T_seq ?_ | refine T_block ?_ | refine T_inBlock ?_ | refine T_skip ?_)
  refine T_region ?_
  refine L_val _ _ (X_index U22 S43 rfl rfl hlt) rfl ?_
  refine L_val _ _ (X_loadAgg X.cells A43 S43 (OpD.cells_length _) rfl hc) rfl ?_
  refine L_alloc Z43 rfl fun w2 h2 => ?_
  refine L_storeAll X.cells S43 rfl rfl (OpD.cells_length _) (OpD.cells_one _) h2.new rfl fun w3 h3 => ?_
  refine L_nil ?_
  have h23 := h2.trans h3
  have b3 : Below x.heap.size x w3 := h23.below (Below.refl _ _) (Nat.le_refl _)
  have k4 : Blk w3 x.heap.size X.cells.toArray 43 := h23.new
  have s3 := h23.size
  have hl3 := hlx.keep (keeps_below b3)
  clear h2 h3 h23
  repeat (first | refine T_seq ?_ | refine T_block ?_ | refine T_inBlock ?_ | refine T_skip ?_)
  refine T_region ?_
  refine L_val _ _ (X_field F43_2 rfl) rfl ?_
  refine L_val _ _ (X_field F28_0 rfl) rfl ?_
  refine L_val _ _ (X_load A26 rfl (op_blk k4 2 rfl)) rfl ?_
  refine L_val _ _ (X_lenS U26 rfl) rfl ?_
  refine L_val _ _ (X_cmp rfl rfl rfl) rfl ?_
  refine L_nil ?_
  refine T_if rfl (fun ht8 => ?_) (fun hf8 => ?_)
  · refine T_exit rfl ?_
    refine T_region ?_
    refine L_val _ _ (X_add rfl rfl (by omega) (by omega)) rfl ?_
    refine L_val _ _ (X_move) rfl ?_
    refine L_nil ?_
    exact ih _ _ _ (by omega) ⟨i + 1, rfl, by omega, rfl, bx.trans (b3.mono sx)⟩
  have hl8 : X.legs.length ≤ 8 := by simp [cmpB] at hf8; omega
  repeat (first | refine T_seq ?_ | refine T_block ?_ | refine T_inBlock ?_ | refine T_skip ?_)
  refine T_region ?_
  refine L_val _ _ (X_field F43_2 rfl) rfl ?_
  refine L_val _ _ (X_loadAgg [.slice X.la X.legs.length X.lc] A28 S28 rfl rfl (by intro j v hj; exact op_blk k4 (0 + 2 + j) (op_legs X hj))) rfl ?_
  refine L_callF [.agg #[.slice X.la X.legs.length X.lc]] E9 rfl rfl (well_ret X.la X.lc X.legs w3 hl3 hLl hsx.needs) ?_
  rintro v w4 ⟨a', c', gs', rfl, hgd, hgo, b4⟩
  have hgl : gs'.length = X.legs.length := by have := congrArg List.length hgd; simpa using this
  have hgn : ∀ g ∈ gs', g.needs.length < 1000000 := wn_needs hgd hsx.needs
  have hgb := wn_borne hgd
  rw [← hgl]
  refine L_alloc Z28 rfl fun w5 h5 => ?_
  refine L_storeAll [.slice a' gs'.length c'] S28 rfl rfl rfl (by simp [Value.oneCell']) h5.new rfl fun w6 h6 => ?_
  refine L_nil ?_
  have h56 := h5.trans h6
  have hn8 : gs'.length ≤ 8 := by omega
  have s4 := b4.size
  have s6 := h56.size
  have b6 : Below x.heap.size x w6 := h56.below (b3.trans (b4.mono s3)) (by omega)
  have k5 : Blk w6 w4.heap.size #[.slice a' gs'.length c'] 28 := h56.new
  have hgo6 := hgo.below (h56.below (Below.refl _ _) (Nat.le_refl _))
  clear h5 h6 h56 hgo b3 b4 k4 hl3
  generalize w4.heap.size = B5 at *
  generalize w3.heap.size = B3 at *
  have hml := masks_len (gs := gs') hn8
  have hmlt := masks_lt (gs := gs') hn8
  repeat (first | refine T_seq ?_ | refine T_block ?_ | refine T_inBlock ?_ | refine T_skip ?_)
  refine T_region ?_
  refine L_val _ _ (X_loadAgg [.slice a' gs'.length c'] A28 S28 rfl rfl (agg1 k5)) rfl ?_
  refine L_callF [.agg #[.slice a' gs'.length c']] E10 rfl rfl (graphOf_ret a' c' gs' w6 hgo6.legs hn8 hgn) ?_
  rintro v w7 ⟨rfl, b7⟩
  refine L_alloc Z47 rfl fun w8 h8 => ?_
  refine L_storeAll (gcells gs'.length (pad8 (masksOf gs'))) S47 rfl rfl (gcells_length hml) (gcells_one _ _) h8.new rfl fun w9 h9 => ?_
  refine L_nil ?_
  have h89 := h8.trans h9
  have s7 := b7.size
  have s9 := h89.size
  have b79 : Below w6.heap.size w6 w9 := h89.below b7 s7
  have kg : Blk w9 w7.heap.size (gcells gs'.length (pad8 (masksOf gs'))).toArray 47 := h89.new
  have k59 := below_blk b79 k5 k5.lt
  have hgo9 := hgo6.below b79
  have b9 : Below x.heap.size x w9 := b6.trans (b79.mono b6.size)
  clear h8 h9 h89 b7 b79 b6 k5 hgo6
  generalize w7.heap.size = GB at *
  have hsg : (settled gs'.length (pad8 (masksOf gs'))).1 = greedy (okN gs') gs'.length gs'.length [] := settle_greedy hn8 (fun order done i hr hi => canRun_ok hn8 hgb hr hi) _ _ _ (Ran.nil _)
  have hzero := search_zero (R := okN gs') (n := gs'.length) (okN_mono gs')
  have hord := order_ret GB gs'.length (pad8 (masksOf gs')) w9 kg hn8 hml hmlt
  rw [hsg] at hord
  generalize hgr : greedy (okN gs') gs'.length gs'.length [] = G at *
  repeat (first | refine T_seq ?_ | refine T_block ?_ | refine T_inBlock ?_ | refine T_skip ?_)
  refine T_region ?_
  refine L_callF [.pointer (some ⟨GB, 0, none⟩)] E11 rfl rfl hord ?_
  rintro v w10 ⟨b10, hv⟩
  obtain ⟨ov, ok, rfl, hok⟩ := order_ok hv
  refine L_val _ _ (X_move) rfl ?_
  refine L_val _ _ (X_extract rfl rfl) rfl ?_
  refine L_val _ _ (X_extract rfl rfl) rfl ?_
  refine L_val _ _ (X_assign) rfl ?_
  refine L_val _ _ (X_assign) rfl ?_
  refine L_nil ?_
  have k510 := below_blk b10 k59 k59.lt
  have hgo10 := hgo9.below b10
  have b10x : Below x.heap.size x w10 := b9.trans (b10.mono b9.size)
  repeat (first | refine T_seq ?_ | refine T_block ?_ | refine T_inBlock ?_ | refine T_skip ?_)
  refine T_region ?_
  refine L_val _ _ (X_loadAgg [.slice a' gs'.length c'] A28 S28 rfl rfl (agg1 k510)) rfl ?_
  refine L_callF [.agg #[.slice a' gs'.length c']] E12 rfl rfl (orderm_ret a' c' gs' w10 hgo10.legs hn8 hgn) ?_
  rintro v w11 ⟨b11, sv, rfl, hsv⟩
  refine L_val _ _ (X_move) rfl ?_
  refine L_val _ _ (X_extract rfl rfl) rfl ?_
  refine L_val _ _ (X_extract rfl rfl) rfl ?_
  refine L_val _ _ (X_assign) rfl ?_
  refine L_val _ _ (X_assign) rfl ?_
  refine L_nil ?_
  have b11x : Below x.heap.size x w11 := b10x.trans (b11.mono b10x.size)
  have k511 := below_blk b11 k510 k510.lt
  have b11w : Below w1.heap.size w1 w11 := bx.trans (b11x.mono sx)
  repeat (first | refine T_seq ?_ | refine T_block ?_ | refine T_inBlock ?_ | refine T_skip ?_)
  rcases hzero with ⟨hz1, hz2, hz3⟩ | ⟨hz1, hz2⟩
  · rw [hz1]
    rcases hv with ⟨hlt0, _⟩ | ⟨_, ad, oc, hov, hown⟩
    · omega
    have hokt : ok = true := by rw [hok]; simp [hz2]
    subst hokt
    have hov' : ov = .slice (some ad) gs'.length oc := by
      simp only [Value.tuple.injEq, Array.mk.injEq, List.cons.injEq, and_true] at hov
      exact hov
    subst hov'
    obtain ⟨pa, pc, rfl, hpa⟩ := hsv G hz1
    have hAo : Arr w11 (some ad) 1 (natc G) := (natc_arr hown hz2).keep (keeps_below b11)
    obtain ⟨gg, cur, hgg, -, -, -, -, hnc, -, -⟩ : ∃ gg cur, True ∧ True ∧ True ∧ True ∧ True ∧ gs'.length ≤ oc ∧ True ∧ True := by
      rcases hown.2 with ⟨hh, _⟩ | ⟨g0, cap, cur, hv0, h00, h01, hh2, _⟩
      · simp at hh
      · simp only [Value.slice.injEq] at hv0
        exact ⟨g0, cur, trivial, trivial, trivial, trivial, trivial, by rw [hv0.2.2]; exact hh2, trivial, trivial⟩
    have hfit := fun z (hz : Sm w11 z) => fits_ret a' c' gs' (some ad) oc G z (((hgo10.below b11).below hz.below0).legs) (by omega) hgn (hAo.keep hz.keeps) (by omega) (by omega) (by
      intro y hy
      obtain ⟨l2, e2, _, h22, _, _⟩ := greedy_inv (R := okN gs') (n := gs'.length) gs'.length [] (by simp) List.nodup_nil (by simp) rfl
      rw [hgr] at e2
      rw [e2] at hy
      exact h22 y hy)
    rw [hz3, hz2] at hfit
    refine T_region ?_
    refine L_val _ _ (X_move) rfl ?_
    refine L_val _ _ (X_move) rfl ?_
    refine L_val _ _ (X_neqB U4 rfl rfl) rfl ?_
    refine L_val _ _ (X_move) rfl ?_
    refine L_guard rfl rfl rfl ?_
    refine L_val _ _ (X_move) rfl ?_
    refine L_guard rfl rfl rfl ?_
    refine L_val _ _ (X_move) rfl ?_
    refine L_guard rfl rfl rfl ?_
    refine L_val _ _ (X_move) rfl ?_
    refine L_guard rfl rfl rfl ?_
    refine L_val _ _ (X_move) rfl ?_
    refine L_guard rfl rfl rfl ?_
    refine L_callF [.slice (some ad) gs'.length oc, .slice pa gs'.length pc] E13 rfl rfl (sameInts_ret (some ad) pa oc pc gs'.length G w11 hAo hpa hz2 hn8) ?_
    rintro v w12 ⟨rfl, b12⟩
    refine L_guard rfl rfl rfl ?_
    refine L_val _ _ (X_not rfl) rfl ?_
    refine L_guard rfl rfl rfl ?_
    refine L_val _ _ (X_pick rfl) rfl ?_
    refine L_val _ _ (X_pick rfl) rfl ?_
    refine L_val _ _ (X_move) rfl ?_
    refine L_guard rfl rfl rfl ?_
    refine L_val _ _ (X_move) rfl ?_
    refine L_guard rfl rfl rfl ?_
    refine L_val _ _ (X_not rfl) rfl ?_
    refine L_guard rfl rfl rfl ?_
    refine L_val _ _ (X_move) rfl ?_
    refine L_passB rfl rfl rfl ?_
    refine L_passB rfl rfl rfl ?_
    refine L_guard rfl rfl rfl ?_
    refine L_val _ _ (X_pick rfl) rfl ?_
    refine L_val _ _ (X_pick rfl) rfl ?_
    refine L_nil ?_
    refine T_false rfl ?_
    repeat (first | refine T_seq ?_ | refine T_block ?_ | refine T_inBlock ?_ | refine T_skip ?_)
    have e66 : cmpB .neq (gs'.length : Int) gs'.length = false := bne_self_eq_false _
    have k512 := b12.blk k511
    refine T_region ?_
    refine L_val _ _ (X_move) rfl ?_
    refine L_val _ _ (X_move) rfl ?_
    refine L_guard rfl rfl rfl ?_
    refine L_val _ _ (X_move) rfl ?_
    refine L_guard rfl rfl rfl ?_
    refine L_val _ _ (X_lenS U49 rfl) rfl ?_
    refine L_guard rfl rfl rfl ?_
    refine L_val _ _ (X_field F28_0 rfl) rfl ?_
    refine L_guard rfl rfl rfl ?_
    refine L_val _ _ (X_load A26 rfl (k512.cell 0)) rfl ?_
    refine L_guard rfl rfl rfl ?_
    refine L_val _ _ (X_lenS U26 rfl) rfl ?_
    refine L_guard rfl rfl rfl ?_
    refine L_val _ _ (X_cmpR false rfl rfl rfl e66) rfl ?_
    refine L_guard rfl rfl rfl ?_
    refine L_val _ _ (X_move) rfl ?_
    refine L_guard rfl rfl rfl ?_
    refine L_val _ _ (X_loadAgg [.slice a' gs'.length c'] A28 S28 rfl rfl (agg1 k512)) rfl ?_
    refine L_guard rfl rfl rfl ?_
    refine L_val _ _ (X_move) rfl ?_
    refine L_guard rfl rfl rfl ?_
    refine L_callF [.agg #[.slice a' gs'.length c'], .slice (some ad) gs'.length oc] E14 rfl rfl (hfit w12 b12) ?_
    rintro v w13 ⟨rfl, b13⟩
    refine L_guard rfl rfl rfl ?_
    refine L_val _ _ (X_not rfl) rfl ?_
    refine L_guard rfl rfl rfl ?_
    refine L_val _ _ (X_pick rfl) rfl ?_
    refine L_val _ _ (X_pick rfl) rfl ?_
    refine L_nil ?_
    refine T_false rfl ?_
    repeat (first | refine T_seq ?_ | refine T_block ?_ | refine T_inBlock ?_ | refine T_skip ?_)
    refine T_region ?_
    refine L_val _ _ (X_add rfl rfl (by omega) (by omega)) rfl ?_
    refine L_val _ _ (X_move) rfl ?_
    refine L_nil ?_
    have b12w := b11w.trans (b12.below0.mono b11w.size)
    exact ih _ _ _ (by omega) ⟨i + 1, rfl, by omega, rfl, b12w.trans (b13.mono b12w.size)⟩
  · rw [hz1]
    rcases hv with ⟨_, hov⟩ | ⟨heq, _⟩
    case inr => omega
    have hokt : ok = false := by rw [hok]; simp; omega
    subst hokt
    have hov' : ov = .slice none 0 0 := by
      simp only [Value.tuple.injEq, Array.mk.injEq, List.cons.injEq, and_true] at hov
      exact hov
    subst hov'
    refine T_region ?_
    refine L_val _ _ (X_move) rfl ?_
    refine L_val _ _ (X_move) rfl ?_
    refine L_val _ _ (X_neqB U4 rfl rfl) rfl ?_
    refine L_val _ _ (X_move) rfl ?_
    refine L_guard rfl rfl rfl ?_
    refine L_val _ _ (X_move) rfl ?_
    refine L_guard rfl rfl rfl ?_
    refine L_val _ _ (X_move) rfl ?_
    refine L_passB rfl rfl rfl ?_
    refine L_passB rfl rfl rfl ?_
    refine L_passB rfl rfl rfl ?_
    refine L_passB rfl rfl rfl ?_
    refine L_guard rfl rfl rfl ?_
    refine L_val _ _ (X_pick rfl) rfl ?_
    refine L_val _ _ (X_pick rfl) rfl ?_
    refine L_val _ _ (X_move) rfl ?_
    refine L_guard rfl rfl rfl ?_
    refine L_val _ _ (X_move) rfl ?_
    refine L_guard rfl rfl rfl ?_
    refine L_val _ _ (X_not rfl) rfl ?_
    refine L_guard rfl rfl rfl ?_
    refine L_val _ _ (X_move) rfl ?_
    refine L_guard rfl rfl rfl ?_
    refine L_val _ _ (X_move) rfl ?_
    refine L_guard rfl rfl rfl ?_
    refine L_val _ _ (X_neqNil U49 rfl) rfl ?_
    refine L_guard rfl rfl rfl ?_
    refine L_val _ _ (X_pick rfl) rfl ?_
    refine L_val _ _ (X_pick rfl) rfl ?_
    refine L_nil ?_
    refine T_false rfl ?_
    repeat (first | refine T_seq ?_ | refine T_block ?_ | refine T_inBlock ?_ | refine T_skip ?_)
    refine T_region ?_
    refine L_val _ _ (X_move) rfl ?_
    refine L_val _ _ (X_move) rfl ?_
    refine L_passB rfl rfl rfl ?_
    refine L_passB rfl rfl rfl ?_
    refine L_passB rfl rfl rfl ?_
    refine L_passB rfl rfl rfl ?_
    refine L_passB rfl rfl rfl ?_
    refine L_passB rfl rfl rfl ?_
    refine L_passB rfl rfl rfl ?_
    refine L_passU rfl rfl rfl ?_
    refine L_passU rfl rfl rfl ?_
    refine L_passU rfl rfl rfl ?_
    refine L_passU rfl rfl rfl ?_
    refine L_passB rfl rfl rfl ?_
    refine L_val _ _ (X_pick rfl) rfl ?_
    refine L_nil ?_
    refine T_false rfl ?_
    repeat (first | refine T_seq ?_ | refine T_block ?_ | refine T_inBlock ?_ | refine T_skip ?_)
    refine T_region ?_
    refine L_val _ _ (X_add rfl rfl (by omega) (by omega)) rfl ?_
    refine L_val _ _ (X_move) rfl ?_
    refine L_nil ?_
    exact ih _ _ _ (by omega) ⟨i + 1, rfl, by omega, rfl, b11w⟩
end Go.Proofs.Qxb6500865a
