/-
  encodingHolds.
-/
import Derived.Test.Qxb6500864aP9
namespace Go.Proofs.Qxb6500864a
set_option linter.unusedSimpArgs false
set_option linter.unusedVariables false
open Go.RowKit
theorem owns_cap {w : World} {base n c : Nat} {e : TypeId} {sz : Nat} {a : Option Addr} {xs : List Value} (h : w.ownsRow base e sz (.slice a n c) n xs) : n ≤ c := by
  rcases h.2 with ⟨h1, h2⟩ | ⟨g, cap, cur, hv, hb, hgg, hnc, hcm, hcs, htk⟩
  · simp only [Value.slice.injEq] at h1
    omega
  · simp only [Value.slice.injEq] at hv
    omega
theorem ret_args {P : Program} {g : FuncId} {a b : Array Value} {w : World} {Z : Value → World → Prop} (h : a = b) (hr : Ret P g a w Z) : Ret P g b w Z := h ▸ hr
theorem shl_val (j : Nat) (hj : j < 5) : IntKind.wrap .u8 (1 * 2 ^ (min ((3 + j : Nat) : Int).toNat (IntKind.bits .u8))) = ((2 ^ (3 + j) : Nat) : Int) := by
  have : j = 0 ∨ j = 1 ∨ j = 2 ∨ j = 3 ∨ j = 4 := by omega
  rcases this with rfl | rfl | rfl | rfl | rfl <;> decide
theorem X_shlJ {P : Program} {ρ : Env} {w : World} {dst : Option Tmp} {gd : Option (Nat × Bool)} {ty : TypeId} {pos : String} {after : Array Edge} {t t' : TypeId} {x y : Operand} {q : IntKind} (j : Nat) (hj : j < 5) (hx : ev ρ x = .int .u8 1) (hy : ev ρ y = .int q ((3 + j : Nat) : Int)) :
    (execOp (ev ρ) ⟨dst, .binOp .shl t x y t', ty, pos, after, gd⟩).run P w = .ok (.value (.int .u8 ((2 ^ (3 + j) : Nat) : Int))) w := by
  rw [X_shl hx hy (by omega), shl_val j hj]
theorem nz_ne (v : Nat) : nz v ≠ 0 := by unfold nz; split <;> omega
theorem nz_lt {v : Nat} (h : v < 256) : nz v < 256 := by unfold nz; split <;> omega
theorem T_part {P : Program} {f : FuncId} {n : Nat} {R : Value → World → Prop} {ρ : Env} {w : World} {k : List Item} {x : Item} (ss : List Nat) (I : List Value → World → Prop) (rest : ∀ vs ρ w, I vs w → T P f n k R (sets ρ ss vs) w)
    (h : (∀ ρ w, I (ss.map ρ) w → T P f n k R ρ w) → T P f n (x :: k) R ρ w) : T P f n (x :: k) R ρ w := by
  refine h fun ρ w hI => ?_
  have := rest _ ρ w hI
  rw [sets_self] at this
  exact this
structure OpP.ok (w : World) (x : OpP) : Prop where
  hd : x.hd.ok
  dat : Byt w x.da x.dat
  lt : ∀ y ∈ x.dat, y < 256
  cap : x.dat.length ≤ x.dc
  nil : x.da = none → x.dat.length = 0 ∧ x.dc = 0
  len : x.dat.length ≤ 65536
  val : x.val < 256
theorem OpP.ok.below {w w' : World} {x : OpP} (h : x.ok w) (hb : Below w.heap.size w w') : x.ok w' := ⟨h.hd, h.dat.below hb, h.lt, h.cap, h.nil, h.len, h.val⟩
theorem app_form {h : Hd} {v : Value} {w w' : World} (hcase : (chk h ≠ 0 ∧ v = .tuple #[.slice none 0 0, errV (chk h)]) ∨ (chk h = 0 ∧ ∃ a c, v = .tuple #[.slice a 16 c, errV 0] ∧ w'.ownsRow w.heap.size 5 1 (.slice a 16 c) 16 (bv (octN h)))) :
    ∃ a n c e, v = .tuple #[.slice a n c, errV e] ∧ ((chk h ≠ 0 ∧ a = none ∧ n = 0 ∧ c = 0 ∧ e = chk h) ∨ (chk h = 0 ∧ n = 16 ∧ e = 0 ∧ w'.ownsRow w.heap.size 5 1 (.slice a 16 c) 16 (bv (octN h)))) := by
  rcases hcase with ⟨hc, rfl⟩ | ⟨hc, a, c, rfl, own⟩
  · exact ⟨none, 0, 0, chk h, rfl, .inl ⟨hc, rfl, rfl, rfl, rfl⟩⟩
  · exact ⟨a, 16, c, 0, rfl, .inr ⟨hc, rfl, rfl, own⟩⟩
set_option maxHeartbeats 16000000 in
set_option maxRecDepth 10000 in
/-- encodingHolds -/
theorem enc_ret (h : Hd) (hk : h.ok) (X : OpP) (w : World) (hX : X.ok w) : Ret Try.prog 7 #[.agg h.cells.toArray, .agg X.cells.toArray] w fun v w' => v = .bool true ∧ Below w.heap.size w w' := by
  refine ret_of_T (vs := [.agg h.cells.toArray, .agg X.cells.toArray]) Try.func7 Try.ntmps7 rfl (Nat.le_of_ble_eq_true rfl) ?_
  repeat (first | refine T_seq ?_ | refine T_block ?_ | refine T_inBlock ?_ | refine T_skip ?_)
  refine T_region ?_
  refine L_box rfl fun w1 h1 => ?_
  refine L_box rfl fun w2 h2 => ?_
  refine L_val _ _ (X_assign) rfl ?_
  refine L_nil ?_
  have z1 := h1.lt
  have s1 := h1.size
  have z2 := h2.lt
  have s2 := h2.size
  have k2 : Blk w2 w.heap.size h.cells.toArray 32 := h2.blk h1.new (by omega)
  have k3 : Blk w2 w1.heap.size X.cells.toArray 30 := h2.new
  have b2 : Below w.heap.size w w2 := h2.below (h1.below (Below.refl _ _) (Nat.le_refl _)) s1
  clear h1 h2
  generalize w1.heap.size = B3 at *
  repeat (first | refine T_seq ?_ | refine T_block ?_ | refine T_inBlock ?_ | refine T_skip ?_)
  refine T_region ?_
  refine L_val _ _ (X_loadAgg h.cells A32 S32 rfl rfl (gblk0 k2)) rfl ?_
  refine L_callF [.agg h.cells.toArray] E17 rfl rfl (rich_ret h w2) ?_
  rintro v w3 ⟨rfl, b3⟩
  have s3 := b3.size
  refine L_callF [.agg h.cells.toArray, .slice none 0 0] E12 rfl rfl (append_ret h hk w3) ?_
  rintro v w4 ⟨b4, hcase⟩
  have b24 : Below w2.heap.size w2 w4 := b3.trans (b4.mono s3)
  obtain ⟨a, nn, c, ee, rfl, hcase'⟩ := app_form hcase
  refine L_val _ _ (X_move) rfl ?_
  refine L_val _ _ (X_extract rfl rfl) rfl ?_
  refine L_val _ _ (X_extract rfl rfl) rfl ?_
  refine L_val _ _ (X_assign) rfl ?_
  refine L_val _ _ (X_assign) rfl ?_
  refine L_nil ?_
  rcases hcase' with ⟨hc, rfl, rfl, rfl, rfl⟩ | ⟨hc, rfl, rfl, own⟩
  · have k24 := below_blk b24 k2 (by omega)
    have her := chk_er h
    have s4 := b24.size
    have bw4 : Below w.heap.size w w4 := b2.trans (b24.mono (by omega))
    have hne : cmpB .neq (stN (chk h) : Int) 0 = true := by rw [stN, if_neg hc]; simp [cmpB]; omega
    repeat (first | refine T_seq ?_ | refine T_block ?_ | refine T_inBlock ?_ | refine T_skip ?_)
    refine T_region ?_
    refine L_val _ _ (X_loadAgg h.cells A32 S32 rfl rfl (gblk0 k24)) rfl ?_
    refine L_callF [.agg h.cells.toArray] E18 rfl rfl (wf_ret h hk.fl w4) ?_
    rintro v w5 ⟨rfl, b5⟩
    refine L_val _ _ (X_cmpR true rfl rfl rfl hne) rfl ?_
    refine L_nil ?_
    refine T_true rfl ?_
    have k25 := below_blk b5 k24 k24.lt
    have bw5 : Below w.heap.size w w5 := bw4.trans (b5.mono bw4.size)
    have hin : Below w5.heap.size w5 w5.drew := (sm_drew w5).below (Below.refl _ _)
    have ee : cmpB .eql (stN (chk h) : Int) (stN (chk h) : Int) = true := by simp [cmpB]
    repeat (first | refine T_seq ?_ | refine T_block ?_ | refine T_inBlock ?_ | refine T_skip ?_)
    refine T_quiet (fun z => Below w5.heap.size w5 z) rfl (by kernel_rfl) (hin) ?_
    refine LQ_val _ (fun w hw => X_move) rfl ?_
    refine LQ_val _ (fun w hw => X_neq (b := true) (by have := err_nil (chk h) her 33 w; rw [decide_eq_true hc] at this; exact this)) rfl ?_
    refine LQ_val _ (fun w hw => X_move) rfl ?_
    refine LQ_guard rfl rfl rfl ?_
    refine LQ_val _ (fun w hw => X_move) rfl ?_
    refine LQ_guard rfl rfl rfl ?_
    refine LQ_callF [errV (chk h)] (.int .i64 (stN (chk h) : Int)) E10 rfl rfl (fun w hw => (status_ret _ her w).mono fun u w' hu => ⟨hu.1, hu.2 ▸ hw⟩) ?_
    refine LQ_guard rfl rfl rfl ?_
    refine LQ_val _ (fun w hw => X_loadAgg h.cells A32 S32 rfl rfl (gblk0 (below_blk hw k25 k25.lt))) rfl ?_
    refine LQ_guard rfl rfl rfl ?_
    refine LQ_callF [.agg h.cells.toArray] (.int .i64 (stN (chk h) : Int)) E18 rfl rfl (fun w hw => (wf_ret h hk.fl w).mono fun u w' hu => ⟨hu.1, hw.trans (hu.2.mono hw.size)⟩) ?_
    refine LQ_guard rfl rfl rfl ?_
    refine LQ_val _ (fun w hw => X_cmpR true rfl rfl rfl ee) rfl ?_
    refine LQ_val _ (fun w hw => X_pick rfl) rfl ?_
    refine LQ_val _ (fun w hw => X_move) rfl ?_
    refine LQ_guard rfl rfl rfl ?_
    refine LQ_val _ (fun w hw => X_move) rfl ?_
    refine LQ_guard rfl rfl rfl ?_
    refine LQ_val _ (fun w hw => X_lenS U25 rfl) rfl ?_
    refine LQ_guard rfl rfl rfl ?_
    refine LQ_val _ (fun w hw => X_cmpR true rfl rfl rfl rfl) rfl ?_
    refine LQ_val _ (fun w hw => X_pick rfl) rfl ?_
    refine LQ_val _ (fun w hw => X_assign) rfl ?_
    refine LQ_nil fun w6 b6 => ?_
    exact T_ret1 Try.func7 rfl ⟨rfl, bw5.trans (b6.mono bw5.size)⟩
  have k24 := below_blk b24 k2 (by omega)
  have k34 := below_blk b24 k3 z2
  have s4 := b24.size
  have bw4 : Below w.heap.size w w4 := b2.trans (b24.mono (by omega))
  have hX4 := hX.below bw4
  have hocl := octN_len h
  have hby : Byt w4 a (octN h) := byt_of_owns own hocl
  have hcap : 16 ≤ c := owns_cap own
  have hnn : a = none → (octN h).length = 0 ∧ c = 0 := by
    intro ha
    have := hby.some (by omega)
    obtain ⟨b, o, hb, _⟩ := this
    rw [ha] at hb
    cases hb
  have hlt := oct_lt hk
  clear own k2 k3 b3 b4 b2
  repeat (first | refine T_seq ?_ | refine T_block ?_ | refine T_inBlock ?_ | refine T_skip ?_)
  refine T_region ?_
  refine L_val _ _ (X_loadAgg h.cells A32 S32 rfl rfl (gblk0 k24)) rfl ?_
  refine L_callF [.agg h.cells.toArray] E18 rfl rfl (wf_ret h hk.fl w4) ?_
  rintro v w5 ⟨rfl, b5⟩
  rw [hc]
  refine L_val _ _ (X_cmpR false rfl rfl rfl rfl) rfl ?_
  refine L_nil ?_
  refine T_false rfl ?_
  repeat (first | refine T_seq ?_ | refine T_block ?_ | refine T_inBlock ?_ | refine T_skip ?_)
  refine T_region ?_
  refine L_val _ _ (X_move) rfl ?_
  refine L_val _ _ (X_neq (b := false) (by kernel_rfl)) rfl ?_
  refine L_val _ _ (X_move) rfl ?_
  refine L_guard rfl rfl rfl ?_
  refine L_val _ _ (X_move) rfl ?_
  refine L_guard rfl rfl rfl ?_
  refine L_val _ _ (X_lenS U25 rfl) rfl ?_
  refine L_guard rfl rfl rfl ?_
  refine L_val _ _ (X_cmpR false rfl rfl rfl rfl) rfl ?_
  refine L_val _ _ (X_pick rfl) rfl ?_
  refine L_nil ?_
  refine T_false rfl ?_
  have s5 := b5.size
  -- from here on all is above w4
  have hparse : ∀ z, Below w4.heap.size w4 z → Ret Try.prog 8 #[.slice a 16 c] z fun v w' => v = .tuple #[.agg h.cells.toArray, errV 0] ∧ Below z.heap.size z w' := by
    intro z hz
    have := parse_ret a (octN h) c z (hby.below hz) hlt (by omega)
    have hp := par_oct hk hc []
    rw [List.append_nil] at hp
    rw [hp.1, hp.2, hocl] at this
    exact this
  repeat (first | refine T_seq ?_ | refine T_block ?_ | refine T_inBlock ?_ | refine T_skip ?_)
  refine T_region ?_
  refine L_val _ _ (X_move) rfl ?_
  refine L_callF [.slice a 16 c] E8 rfl rfl (hparse w5 b5) ?_
  rintro v w6 ⟨rfl, b6⟩
  refine L_val _ _ (X_move) rfl ?_
  refine L_val _ _ (X_extract rfl rfl) rfl ?_
  refine L_val _ _ (X_extract rfl rfl) rfl ?_
  refine L_alloc Z39 rfl fun w7 h7 => ?_
  refine L_storeAll h.cells S39 rfl rfl rfl (Hd.cells_one _) h7.new rfl fun w8 h8 => ?_
  refine L_val _ _ (X_assign) rfl ?_
  refine L_nil ?_
  have h78 := h7.trans h8
  have k7 : Blk w8 w6.heap.size h.cells.toArray 39 := h78.new
  have s6 := b6.size
  have b46 : Below w4.heap.size w4 w6 := b5.trans (b6.mono s5)
  have b48 : Below w4.heap.size w4 w8 := h78.below b46 b46.size
  have k28 := below_blk b48 k24 k24.lt
  have hin : Below w8.heap.size w8 w8.drew := (sm_drew w8).below (Below.refl _ _)
  clear h7 h8 h78
  repeat (first | refine T_seq ?_ | refine T_block ?_ | refine T_inBlock ?_ | refine T_skip ?_)
  refine T_quiet (fun z => Below w8.heap.size w8 z) rfl (by kernel_rfl) (hin) ?_
  refine LQ_val _ (fun w hw => X_move) rfl ?_
  refine LQ_val _ (fun w hw => X_neq (b := false) (by kernel_rfl)) rfl ?_
  refine LQ_val _ (fun w hw => X_move) rfl ?_
  refine LQ_guard rfl rfl rfl ?_
  refine LQ_val _ (fun w hw => X_loadAgg h.cells A39 S39 rfl rfl (gblk0 (below_blk hw k7 k7.lt))) rfl ?_
  refine LQ_guard rfl rfl rfl ?_
  refine LQ_callF [.agg h.cells.toArray] (.agg h.cells.toArray) E11 rfl rfl (fun w hw => (plain_ret h w).mono fun u w' hu => ⟨hu.1, hw.trans (hu.2.mono hw.size)⟩) ?_
  refine LQ_guard rfl rfl rfl ?_
  refine LQ_val _ (fun w hw => X_loadAgg h.cells A32 S32 rfl rfl (gblk0 (below_blk hw k28 k28.lt))) rfl ?_
  refine LQ_guard rfl rfl rfl ?_
  refine LQ_val _ (fun w hw => X_neq32 h rfl rfl) rfl ?_
  refine LQ_val _ (fun w hw => X_pick rfl) rfl ?_
  refine LQ_nil fun w9 b9 => ?_
  refine T_false rfl ?_
  have b49 : Below w4.heap.size w4 w9 := b48.trans (b9.mono b48.size)
  clear b5 b6 b46 b48 b9 k7 k28 hin s5 s6
  -- Join(octets, op.Data)
  have k39 := below_blk b49 k34 k34.lt
  have hX9 := hX4.below b49
  have s9 := b49.size
  have hXl := hX.len
  let ls : List Sl := [(a, octN h, c), (X.da, X.dat, X.dc)]
  have hcat : cat ls = octN h ++ X.dat := by simp [cat, ls]
  have hjoin : ∀ z z', Below w4.heap.size w4 z → Chg z z' z.heap.size (.cells #[.slice a 16 c, .slice X.da X.dat.length X.dc] 25 (0, 0)) → Ret Try.prog 19 #[.slice (some ⟨z.heap.size, 0, none⟩) 2 2] z' fun v w' => ∃ a' c', v = .slice a' (octN h ++ X.dat).length c' ∧ w'.ownsRow z'.heap.size 5 1 v (octN h ++ X.dat).length (bv (octN h ++ X.dat)) ∧ Below z'.heap.size z' w' := by
    intro z z' hz hch
    have bz' : Below w4.heap.size w4 z' := hch.below hz hz.size
    have hk3 : Blk z' z.heap.size (ls.map Sl.val).toArray 25 := by
      have e : (ls.map Sl.val).toArray = #[.slice a 16 c, .slice X.da X.dat.length X.dc] := by simp [ls, Sl.val, hocl]
      rw [e]; exact hch.new
    have := join_ret z.heap.size 0 2 ls z' hch.lt (by
      intro i x hx
      rw [Nat.zero_add]
      exact gblk hk3 i (by rw [List.getElem?_map, hx]; rfl)) (by
      intro x hx
      simp only [ls, List.mem_cons, List.not_mem_nil, or_false] at hx
      rcases hx with rfl | rfl
      · exact ⟨hby.below bz', hnn⟩
      · exact ⟨(hX4.below bz').dat, hX.nil⟩) (by simp [ls]) (by rw [hcat, List.length_append, hocl]; omega)
    rw [hcat] at this
    exact this
  repeat (first | refine T_seq ?_ | refine T_block ?_ | refine T_inBlock ?_ | refine T_skip ?_)
  refine T_region ?_
  refine L_val _ _ (X_move) rfl ?_
  refine L_val _ _ (X_field F30_10 rfl) rfl ?_
  refine L_val _ _ (X_load A25 rfl (gblk k39 10 rfl)) rfl ?_
  refine L_buildSlice #[.slice a 16 c, .slice X.da X.dat.length X.dc] 25 (by kernel_rfl) rfl fun w10 h10 => ?_
  refine L_callF [.slice (some ⟨w9.heap.size, 0, none⟩) 2 2] E19 rfl rfl (hjoin w9 w10 b49 h10) ?_
  rintro v w11 ⟨a', c', rfl, own', b11⟩
  have hp := par_oct hk hc X.dat
  have hpr := parse_ret a' (octN h ++ X.dat) c' w11 (byt_of_owns own' rfl) (fun x hx => (List.mem_append.1 hx).elim (hlt x) (hX.lt x)) (owns_cap own')
  rw [hp.1, hp.2] at hpr
  refine L_callF [.slice a' (octN h ++ X.dat).length c'] E8 rfl rfl hpr ?_
  rintro v w12 ⟨rfl, b12⟩
  refine L_val _ _ (X_move) rfl ?_
  refine L_val _ _ (X_extract rfl rfl) rfl ?_
  refine L_val _ _ (X_extract rfl rfl) rfl ?_
  refine L_alloc Z39 rfl fun w13 h13 => ?_
  refine L_storeAll h.cells S39 rfl rfl rfl (Hd.cells_one _) h13.new rfl fun w14 h14 => ?_
  refine L_val _ _ (X_assign) rfl ?_
  refine L_nil ?_
  have h134 := h13.trans h14
  have k9 : Blk w14 w12.heap.size h.cells.toArray 39 := h134.new
  have b410 : Below w4.heap.size w4 w10 := h10.below b49 s9
  have b411 : Below w4.heap.size w4 w11 := b410.trans (b11.mono b410.size)
  have b412 : Below w4.heap.size w4 w12 := b411.trans (b12.mono b411.size)
  have b414 : Below w4.heap.size w4 w14 := h134.below b412 b412.size
  have k214 := below_blk b414 k24 k24.lt
  have hin : Below w14.heap.size w14 w14.drew := (sm_drew w14).below (Below.refl _ _)
  clear h13 h14 h134 hpr own' h10 hjoin b410 b411 b412 b49 k39 hX9
  repeat (first | refine T_seq ?_ | refine T_block ?_ | refine T_inBlock ?_ | refine T_skip ?_)
  refine T_quiet (fun z => Below w14.heap.size w14 z) rfl (by kernel_rfl) (hin) ?_
  refine LQ_val _ (fun w hw => X_move) rfl ?_
  refine LQ_val _ (fun w hw => X_neq (b := false) (by kernel_rfl)) rfl ?_
  refine LQ_val _ (fun w hw => X_move) rfl ?_
  refine LQ_guard rfl rfl rfl ?_
  refine LQ_val _ (fun w hw => X_loadAgg h.cells A39 S39 rfl rfl (gblk0 (below_blk hw k9 k9.lt))) rfl ?_
  refine LQ_guard rfl rfl rfl ?_
  refine LQ_callF [.agg h.cells.toArray] (.agg h.cells.toArray) E11 rfl rfl (fun w hw => (plain_ret h w).mono fun u w' hu => ⟨hu.1, hw.trans (hu.2.mono hw.size)⟩) ?_
  refine LQ_guard rfl rfl rfl ?_
  refine LQ_val _ (fun w hw => X_loadAgg h.cells A32 S32 rfl rfl (gblk0 (below_blk hw k214 k214.lt))) rfl ?_
  refine LQ_guard rfl rfl rfl ?_
  refine LQ_val _ (fun w hw => X_neq32 h rfl rfl) rfl ?_
  refine LQ_val _ (fun w hw => X_pick rfl) rfl ?_
  refine LQ_nil fun w15 b15 => ?_
  refine T_false rfl ?_
  have b415 : Below w4.heap.size w4 w15 := b414.trans (b15.mono b414.size)
  clear b414 b15 k9 k214 hin b11 b12 hcat ls
  -- shorter ones
  repeat (first | refine T_seq ?_ | refine T_block ?_ | refine T_inBlock ?_ | refine T_skip ?_)
  refine T_region ?_
  refine L_val _ _ (X_assign) rfl ?_
  refine L_nil ?_
  repeat (first | refine T_seq ?_ | refine T_block ?_ | refine T_inBlock ?_ | refine T_skip ?_)
  refine T_loopS [11, 5, 2, 3] (fun m vs z => ∃ n : Nat, vs = [.int .i64 n, .slice a 16 c, .pointer (some ⟨w.heap.size, 0, none⟩), .pointer (some ⟨B3, 0, none⟩)] ∧ n ≤ 16 ∧ m = 16 - n ∧ Below w4.heap.size w4 z) 16 ⟨0, rfl, by omega, rfl, b415⟩ ?_
  clear b415
  rintro m vs ρ z ⟨n, rfl, hn, rfl, bz⟩ ih
  repeat (first | refine T_seq ?_ | refine T_block ?_ | refine T_inBlock ?_ | refine T_skip ?_)
  rcases Nat.lt_or_ge n 16 with hlt16 | hge
  · have e1 : cmpB .lss (n : Int) 16 = true := by simp [cmpB]; omega
    have hpr := parse_ret a ((octN h).take n) c z (byt_take (hby.below bz) n) (fun x hx => hlt x (List.mem_of_mem_take hx)) (by simp; omega)
    have hp : par ((octN h).take n) = 8 := par_short (by simp; omega)
    have hh : parH ((octN h).take n) = Hd.zero := by rw [parH, hp]; rfl
    rw [hp, hh, show ((octN h).take n).length = n by simp [hocl]; omega] at hpr
    refine T_region ?_
    refine L_val _ _ (X_move) rfl ?_
    refine L_val _ _ (X_cmpR true rfl rfl rfl e1) rfl ?_
    refine L_nil ?_
    refine T_true rfl ?_
    repeat (first | refine T_seq ?_ | refine T_block ?_ | refine T_inBlock ?_ | refine T_skip ?_)
    refine T_region ?_
    refine L_val _ _ (X_move) rfl ?_
    refine L_val _ _ (X_move) rfl ?_
    refine L_val _ _ (X_sliceH (h := n) U25 S5 rfl rfl (by omega)) rfl ?_
    refine L_callF [.slice a n c] E8 rfl rfl hpr ?_
    rintro v y1 ⟨rfl, by1⟩
    refine L_val _ _ (X_move) rfl ?_
    refine L_val _ _ (X_extract rfl rfl) rfl ?_
    refine L_val _ _ (X_extract rfl rfl) rfl ?_
    refine L_alloc Z39 rfl fun y2 h2 => ?_
    refine L_storeAll Hd.zero.cells S39 rfl rfl rfl (Hd.cells_one _) h2.new rfl fun y3 h3 => ?_
    refine L_val _ _ (X_assign) rfl ?_
    refine L_nil ?_
    have h23 := h2.trans h3
    have by1' : Below w4.heap.size w4 y1 := bz.trans (by1.mono bz.size)
    have by3 : Below w4.heap.size w4 y3 := h23.below by1' by1'.size
    repeat (first | refine T_seq ?_ | refine T_block ?_ | refine T_inBlock ?_ | refine T_skip ?_)
    refine T_region ?_
    refine L_val _ _ (X_move) rfl ?_
    refine L_val _ _ (X_mkIface U60 (by simp)) rfl ?_
    refine L_val _ _ (X_neq (b := false) (by kernel_rfl)) rfl ?_
    refine L_nil ?_
    refine T_false rfl ?_
    repeat (first | refine T_seq ?_ | refine T_block ?_ | refine T_inBlock ?_ | refine T_skip ?_)
    refine T_region ?_
    refine L_val _ _ (X_move) rfl ?_
    refine L_val _ _ (X_add rfl rfl (by omega) (by omega)) rfl ?_
    refine L_val _ _ (X_assign) rfl ?_
    refine L_nil ?_
    exact ih _ _ _ (by omega) ⟨n + 1, rfl, by omega, rfl, by3⟩
  obtain rfl : n = 16 := by omega
  refine T_region ?_
  refine L_val _ _ (X_move) rfl ?_
  refine L_val _ _ (X_cmpR false rfl rfl rfl (by decide)) rfl ?_
  refine L_nil ?_
  refine T_false rfl ?_
  refine T_exit rfl ?_
  clear ih
  -- another token ID
  refine T_seq ?_
  refine T_part [2, 3, 5] (fun vs u => vs = [.pointer (some ⟨w.heap.size, 0, none⟩), .pointer (some ⟨B3, 0, none⟩), .slice a 16 c] ∧ Below w4.heap.size w4 u) ?_ (fun join => ?_)
  rotate_left
  · have k3z := below_blk bz k34 k34.lt
    repeat (first | refine T_seq ?_ | refine T_block ?_ | refine T_inBlock ?_ | refine T_skip ?_)
    by_cases hm : X.hd.id = 1028
    · have e1 : cmpB .neq (X.hd.id : Int) 1028 = false := by simp [cmpB]; omega
      refine T_region ?_
      refine L_val _ _ (X_field F30_4 rfl) rfl ?_
      refine L_val _ _ (X_load A27 rfl (gblk k3z 4 rfl)) rfl ?_
      refine L_val _ _ (X_cmpR false rfl rfl rfl e1) rfl ?_
      refine L_val _ _ (X_move) rfl ?_
      refine L_passB rfl rfl rfl ?_
      refine L_passB rfl rfl rfl ?_
      refine L_passB rfl rfl rfl ?_
      refine L_val _ _ (X_pick rfl) rfl ?_
      refine L_nil ?_
      refine T_false rfl ?_
      refine T_skip ?_
      exact join _ _ ⟨rfl, bz⟩
    have e1 : cmpB .neq (X.hd.id : Int) 1028 = true := by simp [cmpB]; omega
    by_cases hw : X.hd.id = 1284
    · have e2 : cmpB .neq (X.hd.id : Int) 1284 = false := by simp [cmpB]; omega
      refine T_region ?_
      refine L_val _ _ (X_field F30_4 rfl) rfl ?_
      refine L_val _ _ (X_load A27 rfl (gblk k3z 4 rfl)) rfl ?_
      refine L_val _ _ (X_cmpR true rfl rfl rfl e1) rfl ?_
      refine L_val _ _ (X_move) rfl ?_
      refine L_guard rfl rfl rfl ?_
      refine L_val _ _ (X_field F30_4 rfl) rfl ?_
      refine L_guard rfl rfl rfl ?_
      refine L_val _ _ (X_load A27 rfl (gblk k3z 4 rfl)) rfl ?_
      refine L_guard rfl rfl rfl ?_
      refine L_val _ _ (X_cmpR false rfl rfl rfl e2) rfl ?_
      refine L_val _ _ (X_pick rfl) rfl ?_
      refine L_nil ?_
      refine T_false rfl ?_
      refine T_skip ?_
      exact join _ _ ⟨rfl, bz⟩
    have e2 : cmpB .neq (X.hd.id : Int) 1284 = true := by simp [cmpB]; omega
    refine T_region ?_
    refine L_val _ _ (X_field F30_4 rfl) rfl ?_
    refine L_val _ _ (X_load A27 rfl (gblk k3z 4 rfl)) rfl ?_
    refine L_val _ _ (X_cmpR true rfl rfl rfl e1) rfl ?_
    refine L_val _ _ (X_move) rfl ?_
    refine L_guard rfl rfl rfl ?_
    refine L_val _ _ (X_field F30_4 rfl) rfl ?_
    refine L_guard rfl rfl rfl ?_
    refine L_val _ _ (X_load A27 rfl (gblk k3z 4 rfl)) rfl ?_
    refine L_guard rfl rfl rfl ?_
    refine L_val _ _ (X_cmpR true rfl rfl rfl e2) rfl ?_
    refine L_val _ _ (X_pick rfl) rfl ?_
    refine L_nil ?_
    refine T_true rfl ?_
    have hcat : cat [((a, octN h, c) : Sl)] = octN h := by simp [cat]
    have hidlt := hX.hd.id
    repeat (first | refine T_seq ?_ | refine T_block ?_ | refine T_inBlock ?_ | refine T_skip ?_)
    refine T_region ?_
    refine L_val _ _ (X_move) rfl ?_
    refine L_buildSlice #[.slice a 16 c] 25 (by kernel_rfl) rfl fun y1 h1 => ?_
    have by1 : Below w4.heap.size w4 y1 := h1.below bz bz.size
    have hj := join_ret z.heap.size 0 1 [((a, octN h, c) : Sl)] y1 h1.lt (fun i x hx => by have hi : i = 0 := (by have := (List.getElem?_eq_some_iff.1 hx).1; simp at this; exact this); subst hi; simp at hx; subst hx; have := h1.new.cell 0; rw [show Sl.val (a, octN h, c) = .slice a 16 c by simp [Sl.val, hocl]]; exact this) (fun x hx => by simp at hx; subst hx; exact ⟨hby.below by1, hnn⟩) (by simp) (by rw [hcat]; omega)
    rw [hcat, hocl] at hj
    refine L_callF [.slice (some ⟨z.heap.size, 0, none⟩) 1 1] E19 rfl rfl hj ?_
    rintro v y2 ⟨a2, c2, rfl, o2, by2⟩
    refine L_val _ _ (X_assign) rfl ?_
    refine L_nil ?_
    have by2' : Below w4.heap.size w4 y2 := by1.trans (by2.mono by1.size)
    obtain ⟨g, cur, rfl, hwg, kg, hsz, -, -, -, htk⟩ := owns_blk o2 (by omega)
    have k3y := below_blk by2' k34 k34.lt
    have hg34 : B3 ≠ g := fun e => by subst e; unfold Blk at k3y kg; rw [k3y] at kg; simp at kg
    have s14 := by1.size
    repeat (first | refine T_seq ?_ | refine T_block ?_ | refine T_inBlock ?_ | refine T_skip ?_)
    refine T_draw (fun z => Blk z B3 X.cells.toArray 30) 11 rfl rfl fun y3 hsm => ?_
    have hS : Blk y3 B3 X.cells.toArray 30 := hsm.blk k3y
    refine D_take 0 _ rfl (by kernel_rfl) hS (fun w hw => X_move) rfl ?_
    refine D_take 1 _ rfl (by kernel_rfl) hS (fun w hw => X_move) rfl ?_
    refine D_take 2 _ rfl (by kernel_rfl) hS (fun w hw => X_field F30_4 rfl) rfl ?_
    refine D_take 3 _ rfl (by kernel_rfl) hS (fun w hw => X_load A27 rfl (gblk hw 4 rfl)) rfl ?_
    refine D_take 4 _ rfl (by kernel_rfl) hS (fun w hw => X_shrN X.hd.id 8 rfl rfl (by decide)) rfl ?_
    refine D_take 5 _ rfl (by kernel_rfl) hS (fun w hw => X_convN (X.hd.id / 2 ^ 8) U27 U5 rfl (show X.hd.id / 2 ^ 8 < 256 by omega)) rfl ?_
    refine D_take 6 _ rfl (by kernel_rfl) hS (fun w hw => X_field F30_4 rfl) rfl ?_
    refine D_take 7 _ rfl (by kernel_rfl) hS (fun w hw => X_load A27 rfl (gblk hw 4 rfl)) rfl ?_
    refine D_take 8 _ rfl (by kernel_rfl) hS (fun w hw => X_convLow X.hd.id U27 U5 rfl) rfl ?_
    skip
    refine D_val 9 _ _ rfl (by kernel_rfl) (X_index (j := 0) U25 S5 rfl rfl (by omega)) rfl (fun _ => hS) ?_
    refine D_store 10 (.int .u8 ((X.hd.id / 2 ^ 8 : Nat) : Int)) rfl (by kernel_rfl) S5 rfl rfl rfl (hsm.blk kg) (by omega) ?_
    intro y4 h4
    have hS4 := h4.blk hS hg34
    refine ⟨fun _ => hS4, ?_⟩
    have o4 := owns_set (hsm.owns o2) (hsm.blk kg) h4
    refine D_val 11 _ _ rfl (by kernel_rfl) (X_index (j := 1) U25 S5 rfl rfl (by omega)) rfl (fun hb => by cases hb) ?_
    have kg4 : Blk y4 g _ 5 := h4.new
    refine D_store 12 (.int .u8 ((X.hd.id % 256 : Nat) : Int)) rfl (by kernel_rfl) S5 rfl rfl rfl kg4 (by simp; omega) ?_
    intro y5 h5
    refine ⟨fun hb => (by cases hb), ?_⟩
    refine D_done (by kernel_rfl) ?_
    have o5 := owns_set o4 kg4 h5
    rw [bv_set, bv_set] at o5
    have by5 : Below w4.heap.size w4 y5 := h5.below (h4.below (hsm.below by2') (by omega)) (by omega)
    have hp := par_id hk hc X.hd.id hm hw
    have hh : parH (((octN h).set 0 (X.hd.id / 256)).set 1 (X.hd.id % 256)) = Hd.zero := by rw [parH, hp]; rfl
    have hpr := parse_ret (some ⟨g, 0, none⟩) (((octN h).set 0 (X.hd.id / 256)).set 1 (X.hd.id % 256)) c2 y5 (byt_of_owns o5 (by simp [hocl])) (fun x hx => by
      rcases List.mem_or_eq_of_mem_set hx with hx | rfl
      · rcases List.mem_or_eq_of_mem_set hx with hx | rfl
        · exact hlt x hx
        · omega
      · omega) (by have := owns_cap o5; simp [hocl]; omega)
    rw [hp, hh, show (((octN h).set 0 (X.hd.id / 256)).set 1 (X.hd.id % 256)).length = 16 by simp [hocl]] at hpr
    repeat (first | refine T_seq ?_ | refine T_block ?_ | refine T_inBlock ?_ | refine T_skip ?_)
    refine T_region ?_
    refine L_val _ _ (X_move) rfl ?_
    refine L_callF [.slice (some ⟨g, 0, none⟩) 16 c2] E8 rfl rfl hpr ?_
    rintro v y6 ⟨rfl, by6⟩
    refine L_val _ _ (X_move) rfl ?_
    refine L_val _ _ (X_extract rfl rfl) rfl ?_
    refine L_val _ _ (X_extract rfl rfl) rfl ?_
    refine L_alloc Z39 rfl fun y7 h7 => ?_
    refine L_storeAll Hd.zero.cells S39 rfl rfl rfl (Hd.cells_one _) h7.new rfl fun y8 h8 => ?_
    refine L_val _ _ (X_assign) rfl ?_
    refine L_nil ?_
    have h78 := h7.trans h8
    have by6' : Below w4.heap.size w4 y6 := by5.trans (by6.mono by5.size)
    have by8 : Below w4.heap.size w4 y8 := h78.below by6' by6'.size
    repeat (first | refine T_seq ?_ | refine T_block ?_ | refine T_inBlock ?_ | refine T_skip ?_)
    refine T_region ?_
    refine L_val _ _ (X_move) rfl ?_
    refine L_val _ _ (X_mkIface U60 (by simp)) rfl ?_
    refine L_val _ _ (X_neq (b := false) (by kernel_rfl)) rfl ?_
    refine L_nil ?_
    refine T_false rfl ?_
    refine T_skip ?_
    exact join _ _ ⟨rfl, by8⟩
  clear bz
  rintro vs ρ2 z1 ⟨rfl, bz⟩
  have hfl8 : h.fl < 8 := by
    rcases oct_cases hk hc with ⟨fl, _, _, _, _, _, _, _, _, hh, _, hf, _⟩ | ⟨fl, _, _, _, _, _, _, _, _, _, _, _, _, hh, _, hf⟩ <;> (rw [hh]; exact hf)
  have hget2 : (octN h)[2]? = some h.fl := by
    unfold octN
    split <;> rfl
  have hsl : ∀ z, Below w4.heap.size w4 z → Sl.ok z (a, octN h, c) := fun z hz => ⟨hby.below hz, hnn⟩
  have hval : Sl.val (a, octN h, c) = .slice a 16 c := by simp [Sl.val, hocl]
  repeat (first | refine T_seq ?_ | refine T_block ?_ | refine T_inBlock ?_ | refine T_skip ?_)
  refine T_region ?_
  refine L_val _ _ (X_assign) rfl ?_
  refine L_nil ?_
  repeat (first | refine T_seq ?_ | refine T_block ?_ | refine T_inBlock ?_ | refine T_skip ?_)
  refine T_loopS [17, 5, 2, 3] (fun m vs z => ∃ j : Nat, vs = [.int .i64 ((3 + j : Nat) : Int), .slice a 16 c, .pointer (some ⟨w.heap.size, 0, none⟩), .pointer (some ⟨B3, 0, none⟩)] ∧ j ≤ 5 ∧ m = 5 - j ∧ Below w4.heap.size w4 z) 5 ⟨0, rfl, by omega, rfl, bz⟩ ?_
  clear bz
  rintro m vs ρ3 z ⟨j, rfl, hj, rfl, bz⟩ ih
  repeat (first | refine T_seq ?_ | refine T_block ?_ | refine T_inBlock ?_ | refine T_skip ?_)
  rcases Nat.lt_or_ge j 5 with hltj | hge
  · have e1 : cmpB .lss ((3 + j : Nat) : Int) 8 = true := by simp [cmpB]; omega
    have hxf := xor_fl ⟨h.fl, hfl8⟩ ⟨j, hltj⟩
    simp only at hxf
    have h2j : 2 ^ (3 + j) < 256 := by
      have : 2 ^ (3 + j) ≤ 2 ^ 7 := Nat.pow_le_pow_right (by decide) (by omega)
      omega
    have hed := ret_args (b := #[.slice a 16 c, .int .i64 2, .int .u8 ((2 ^ (3 + j) : Nat) : Int)]) (by rw [hval]; rfl) (edited_ret (a, octN h, c) hocl 2 (2 ^ (3 + j)) (by decide) h2j h.fl hget2 hk.fl z (hsl z bz))
    refine T_region ?_
    refine L_val _ _ (X_move) rfl ?_
    refine L_val _ _ (X_cmpR true rfl rfl rfl e1) rfl ?_
    refine L_nil ?_
    refine T_true rfl ?_
    repeat (first | refine T_seq ?_ | refine T_block ?_ | refine T_inBlock ?_ | refine T_skip ?_)
    refine T_region ?_
    refine L_val _ _ (X_move) rfl ?_
    refine L_val _ _ (X_move) rfl ?_
    refine L_val _ _ (X_shlJ j hltj rfl rfl) rfl ?_
    refine L_callF [.slice a 16 c, .int .i64 2, .int .u8 ((2 ^ (3 + j) : Nat) : Int)] E20 rfl rfl hed ?_
    rintro v y1 ⟨a1, c1, rfl, o1, by1⟩
    have hp := par_fl hk hc (xorN h.fl (2 ^ (3 + j))) hxf.1
    have hh : parH ((octN h).set 2 (xorN h.fl (2 ^ (3 + j)))) = Hd.zero := (by rw [parH, hp]; rfl)
    have hpr := parse_ret a1 ((octN h).set 2 (xorN h.fl (2 ^ (3 + j)))) c1 y1 (byt_of_owns o1 (by simp [hocl])) (fun x hx => (List.mem_or_eq_of_mem_set hx).elim (hlt x) (fun e => by rw [e]; exact hxf.2)) (by have := owns_cap o1; simp [hocl]; omega)
    rw [hp, hh, show ((octN h).set 2 (xorN h.fl (2 ^ (3 + j)))).length = 16 by simp [hocl]] at hpr
    refine L_callF [.slice a1 16 c1] E8 rfl rfl hpr ?_
    rintro v y2 ⟨rfl, by2⟩
    refine L_val _ _ (X_move) rfl ?_
    refine L_val _ _ (X_extract rfl rfl) rfl ?_
    refine L_val _ _ (X_extract rfl rfl) rfl ?_
    refine L_alloc Z39 rfl fun y3 h3 => ?_
    refine L_storeAll Hd.zero.cells S39 rfl rfl rfl (Hd.cells_one _) h3.new rfl fun y4 h4 => ?_
    refine L_val _ _ (X_assign) rfl ?_
    refine L_nil ?_
    have h34 := h3.trans h4
    have by1' : Below w4.heap.size w4 y1 := bz.trans (by1.mono bz.size)
    have by2' : Below w4.heap.size w4 y2 := by1'.trans (by2.mono by1'.size)
    have by4 : Below w4.heap.size w4 y4 := h34.below by2' by2'.size
    repeat (first | refine T_seq ?_ | refine T_block ?_ | refine T_inBlock ?_ | refine T_skip ?_)
    refine T_region ?_
    refine L_val _ _ (X_move) rfl ?_
    refine L_val _ _ (X_mkIface U60 (by simp)) rfl ?_
    refine L_val _ _ (X_neq (b := false) (by kernel_rfl)) rfl ?_
    refine L_nil ?_
    refine T_false rfl ?_
    repeat (first | refine T_seq ?_ | refine T_block ?_ | refine T_inBlock ?_ | refine T_skip ?_)
    refine T_region ?_
    refine L_val _ _ (X_move) rfl ?_
    refine L_val _ _ (X_add rfl rfl (by omega) (by omega)) rfl ?_
    refine L_val _ _ (X_assign) rfl ?_
    refine L_nil ?_
    exact ih _ _ _ (by omega) ⟨j + 1, rfl, by omega, rfl, by4⟩
  obtain rfl : j = 5 := by omega
  refine T_region ?_
  refine L_val _ _ (X_move) rfl ?_
  refine L_val _ _ (X_cmpR false rfl rfl rfl (by decide)) rfl ?_
  refine L_nil ?_
  refine T_false rfl ?_
  refine T_exit rfl ?_
  clear ih
  repeat (first | refine T_seq ?_ | refine T_block ?_ | refine T_inBlock ?_ | refine T_skip ?_)
  refine T_region ?_
  refine L_val _ _ (X_assign) rfl ?_
  refine L_nil ?_
  refine T_seq ?_
  refine T_part [2, 3, 5, 20] (fun vs u => vs = [.pointer (some ⟨w.heap.size, 0, none⟩), .pointer (some ⟨B3, 0, none⟩), .slice a 16 c, .int .i64 ((if h.id = 1028 then 7 else 3 : Nat) : Int)] ∧ Below w4.heap.size w4 u) ?_ (fun join => ?_)
  rotate_left
  · have k2z := below_blk bz k24 k24.lt
    repeat (first | refine T_seq ?_ | refine T_block ?_ | refine T_inBlock ?_ | refine T_skip ?_)
    by_cases hm : h.id = 1028
    · have e1 : cmpB .eql (h.id : Int) 1028 = true := by simp [cmpB]; omega
      refine T_region ?_
      refine L_val _ _ (X_field F32_0 rfl) rfl ?_
      refine L_val _ _ (X_load A27 rfl (gblk k2z 0 rfl)) rfl ?_
      refine L_val _ _ (X_cmpR true rfl rfl rfl e1) rfl ?_
      refine L_nil ?_
      refine T_true rfl ?_
      refine T_region ?_
      refine L_val _ _ (X_assign) rfl ?_
      refine L_nil ?_
      exact join _ _ ⟨by rw [if_pos hm]; rfl, bz⟩
    · have e1 : cmpB .eql (h.id : Int) 1028 = false := by simp [cmpB]; omega
      refine T_region ?_
      refine L_val _ _ (X_field F32_0 rfl) rfl ?_
      refine L_val _ _ (X_load A27 rfl (gblk k2z 0 rfl)) rfl ?_
      refine L_val _ _ (X_cmpR false rfl rfl rfl e1) rfl ?_
      refine L_nil ?_
      refine T_false rfl ?_
      refine T_skip ?_
      exact join _ _ ⟨by rw [if_neg hm]; rfl, bz⟩
  clear bz
  rintro vs ρ4 z2 ⟨rfl, bz⟩
  have hfill : ∀ at_, 3 ≤ at_ → at_ ≤ (if h.id = 1028 then 7 else 3) → (octN h)[at_]? = some 255 := by
    intro at_ h3 hl
    rcases oct_cases hk hc with ⟨fl, _, _, _, _, _, _, _, _, hh, ho, _, _⟩ | ⟨fl, _, _, _, _, _, _, _, _, _, _, _, _, hh, ho, _⟩
    · have hid : h.id = 1028 := by rw [hh]
      rw [if_pos hid] at hl
      rw [ho]
      have : at_ = 3 ∨ at_ = 4 ∨ at_ = 5 ∨ at_ = 6 ∨ at_ = 7 := by omega
      rcases this with rfl | rfl | rfl | rfl | rfl <;> rfl
    · have hid : h.id = 1284 := by rw [hh]
      rw [if_neg (by omega)] at hl
      rw [ho]
      obtain rfl : at_ = 3 := by omega
      rfl
  have hlast : (if h.id = 1028 then 7 else 3 : Nat) ≤ 7 ∧ 3 ≤ (if h.id = 1028 then 7 else 3 : Nat) := by split <;> omega
  have hpf := fun at_ y => par_fill hk hc at_ y
  generalize (if h.id = 1028 then 7 else 3 : Nat) = last at *
  have hv256 := nz_lt hX.val
  have hxf := xor_ff ⟨nz X.val, hv256⟩ (nz_ne X.val)
  simp only at hxf
  repeat (first | refine T_seq ?_ | refine T_block ?_ | refine T_inBlock ?_ | refine T_skip ?_)
  refine T_region ?_
  refine L_val _ _ (X_assign) rfl ?_
  refine L_nil ?_
  repeat (first | refine T_seq ?_ | refine T_block ?_ | refine T_inBlock ?_ | refine T_skip ?_)
  refine T_loopS [21, 20, 5, 2, 3] (fun m vs z => ∃ at_ : Nat, vs = [.int .i64 (at_ : Int), .int .i64 (last : Int), .slice a 16 c, .pointer (some ⟨w.heap.size, 0, none⟩), .pointer (some ⟨B3, 0, none⟩)] ∧ 3 ≤ at_ ∧ at_ ≤ last + 1 ∧ m = last + 1 - at_ ∧ Below w4.heap.size w4 z) (last + 1 - 3) ⟨3, rfl, by omega, by omega, rfl, bz⟩ ?_
  clear bz
  rintro m vs ρ5 z ⟨at_, rfl, h3, hat, rfl, bz⟩ ih
  repeat (first | refine T_seq ?_ | refine T_block ?_ | refine T_inBlock ?_ | refine T_skip ?_)
  rcases Nat.lt_or_ge last at_ with hgt | hle
  · have e1 : cmpB .leq (at_ : Int) (last : Int) = false := by simp [cmpB]; omega
    refine T_region ?_
    refine L_val _ _ (X_move) rfl ?_
    refine L_val _ _ (X_move) rfl ?_
    refine L_val _ _ (X_cmpR false rfl rfl rfl e1) rfl ?_
    refine L_nil ?_
    refine T_false rfl ?_
    refine T_exit rfl ?_
    repeat (first | refine T_seq ?_ | refine T_block ?_ | refine T_inBlock ?_ | refine T_skip ?_)
    refine T_region ?_
    refine L_val _ _ (X_assign) rfl ?_
    refine L_nil ?_
    exact T_ret1 Try.func7 rfl ⟨rfl, bw4.trans (bz.mono bw4.size)⟩
  have e1 : cmpB .leq (at_ : Int) (last : Int) = true := by simp [cmpB]; omega
  have hed := ret_args (b := #[.slice a 16 c, .int .i64 (at_ : Int), .int .u8 (nz X.val : Int)]) (by rw [hval]) (edited_ret (a, octN h, c) hocl at_ (nz X.val) (by omega) hv256 255 (hfill at_ h3 hle) (by decide) z (hsl z bz))
  have k3z := below_blk bz k34 k34.lt
  refine T_region ?_
  refine L_val _ _ (X_move) rfl ?_
  refine L_val _ _ (X_move) rfl ?_
  refine L_val _ _ (X_cmpR true rfl rfl rfl e1) rfl ?_
  refine L_nil ?_
  refine T_true rfl ?_
  repeat (first | refine T_seq ?_ | refine T_block ?_ | refine T_inBlock ?_ | refine T_skip ?_)
  refine T_region ?_
  refine L_val _ _ (X_move) rfl ?_
  refine L_val _ _ (X_move) rfl ?_
  refine L_val _ _ (X_field F30_12 rfl) rfl ?_
  refine L_val _ _ (X_load A5 rfl (gblk k3z 12 rfl)) rfl ?_
  refine L_callF [.int .u8 (X.val : Int)] E21 rfl rfl (nonzero_ret X.val z) ?_
  rintro v z' ⟨rfl, rfl⟩
  refine L_callF [.slice a 16 c, .int .i64 (at_ : Int), .int .u8 (nz X.val : Int)] E20 rfl rfl hed ?_
  rintro v y1 ⟨a1, c1, rfl, o1, by1⟩
  have hp := hpf at_ (xorN 255 (nz X.val)) hxf.1 h3 hle
  have hh : parH ((octN h).set at_ (xorN 255 (nz X.val))) = Hd.zero := (by rw [parH, hp]; rfl)
  have hpr := parse_ret a1 ((octN h).set at_ (xorN 255 (nz X.val))) c1 y1 (byt_of_owns o1 (by simp [hocl])) (fun x hx => (List.mem_or_eq_of_mem_set hx).elim (hlt x) (fun e => by rw [e]; exact hxf.2)) (by have := owns_cap o1; simp [hocl]; omega)
  rw [hp, hh, show ((octN h).set at_ (xorN 255 (nz X.val))).length = 16 by simp [hocl]] at hpr
  refine L_callF [.slice a1 16 c1] E8 rfl rfl hpr ?_
  rintro v y2 ⟨rfl, by2⟩
  refine L_val _ _ (X_move) rfl ?_
  refine L_val _ _ (X_extract rfl rfl) rfl ?_
  refine L_val _ _ (X_extract rfl rfl) rfl ?_
  refine L_alloc Z39 rfl fun y3 hh3 => ?_
  refine L_storeAll Hd.zero.cells S39 rfl rfl rfl (Hd.cells_one _) hh3.new rfl fun y4 h4 => ?_
  refine L_val _ _ (X_assign) rfl ?_
  refine L_nil ?_
  have h34 := hh3.trans h4
  have by1' : Below w4.heap.size w4 y1 := bz.trans (by1.mono bz.size)
  have by2' : Below w4.heap.size w4 y2 := by1'.trans (by2.mono by1'.size)
  have by4 : Below w4.heap.size w4 y4 := h34.below by2' by2'.size
  repeat (first | refine T_seq ?_ | refine T_block ?_ | refine T_inBlock ?_ | refine T_skip ?_)
  refine T_region ?_
  refine L_val _ _ (X_move) rfl ?_
  refine L_val _ _ (X_mkIface U60 (by simp)) rfl ?_
  refine L_val _ _ (X_neq (b := false) (by kernel_rfl)) rfl ?_
  refine L_nil ?_
  refine T_false rfl ?_
  repeat (first | refine T_seq ?_ | refine T_block ?_ | refine T_inBlock ?_ | refine T_skip ?_)
  refine T_region ?_
  refine L_val _ _ (X_move) rfl ?_
  refine L_val _ _ (X_add rfl rfl (by omega) (by omega)) rfl ?_
  refine L_val _ _ (X_assign) rfl ?_
  refine L_nil ?_
  exact ih _ _ _ (by omega) ⟨at_ + 1, rfl, by omega, by omega, rfl, by4⟩
end Go.Proofs.Qxb6500864a
