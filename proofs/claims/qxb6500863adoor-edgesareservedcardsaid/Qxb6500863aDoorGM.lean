/-
  The law HMACIsRFC2104.
-/
import Derived.Test.Qxb6500863aDoorGL
namespace Go.Proofs.Qxb6500863aDoor
set_option linter.unusedSimpArgs false
set_option linter.unusedVariables false
open Go.RowKit
theorem step_call {P : Program} {ρ : Env} {w : World} {d : Option Tmp} {ty : TypeId} {pos : String} {after : Array Edge} {gd : Option (Nat × Bool)} {g : FuncId} {xs : Array Operand} {ts : Array TypeId} {Z : Value → World → Prop} (args : List Value) (hg : EN P g) (ha : xs.toList.map (ev ρ) = args) (hr : Ret P g args.toArray w Z) :
    Step P ρ w ⟨d, .call { callee := .value (.func g), args := xs, argTypes := ts }, ty, pos, after, gd⟩ Z := by
  have e : xs.map (ev ρ) = args.toArray := by
    rw [← ha]; apply Array.ext'; simp
  have h1 := hg args.toArray w
  refine .inr ⟨g, args.toArray, ?_, hr⟩
  simp [execOp, resolve, e, ev, Deferred.ofValue, invoke, h1]
theorem step_nil {ρ : Env} {w : World} {d : Option Tmp} {ty : TypeId} {pos : String} {after : Array Edge} {gd : Option (Nat × Bool)} : Step Tryd.prog ρ w ⟨d, .buildSlice 25 0 #[], ty, pos, after, gd⟩ (fun v w' => SlE v w' ∧ Below w.heap.size w w') := by
  have hv : (Instr.buildSlice 25 0 ((#[] : Array (Nat × Operand)).map fun (i, x) => (i, ev ρ x))).run Tryd.prog w = .ok (.slice (some ⟨w.heap.size, 0, none⟩) 0 0) (w.alloc (.cells #[] 5)) := by kernel_rfl
  have hc := chg_alloc w (.cells #[] 5 (0, 0))
  refine .inl ⟨_, _, ?_, ⟨some ⟨w.heap.size, 0, none⟩, [], 0, rfl, ⟨⟨fun j x hx => by simp at hx⟩, fun h => by cases h⟩, by simp⟩, hc.below (Below.refl _ _) (Nat.le_refl _)⟩
  simp only [execOp, Sem.run_bind]
  rw [hv]; rfl
theorem OpT.cells_one (x : OpT) : ∀ v ∈ x.cells, v.oneCell' = true := by
  intro v hv
  simp only [OpT.cells, List.mem_cons, List.not_mem_nil, or_false] at hv
  rcases hv with rfl | rfl | rfl | rfl | rfl | rfl | rfl | rfl <;> rfl
set_option maxHeartbeats 8000000 in
set_option maxRecDepth 10000 in
theorem law_ret (sn cr : List Int) (a : Option Addr) (c : Nat) (xs : List OpT) (w : World) (hs : Script w a xs) (hG : Glob sn cr w) : Ret Tryd.prog 3 #[.slice a xs.length c] w fun v w' => v = .bool true ∧ Below w.heap.size w w' := by
  refine ret_of_T (vs := [.slice a xs.length c]) Tryd.func3 Tryd.ntmps3 rfl (Nat.le_of_ble_eq_true rfl) ?_
  have hxl := hs.len
  repeat (first | refine T_seq ?_ | refine T_block ?_ | refine T_inBlock ?_ | refine T_skip ?_)
  refine T_region ?_
  refine L_val _ _ (X_assign) rfl ?_
  refine L_nil ?_
  repeat (first | refine T_seq ?_ | refine T_block ?_ | refine T_inBlock ?_ | refine T_skip ?_)
  refine T_region ?_
  refine L_val _ _ (X_move) rfl ?_
  refine L_callF [.slice a xs.length c] E5 rfl rfl (small_ret a c xs w hs) ?_
  rintro v1 w1 ⟨rfl, bb, rfl, hsmall⟩
  refine L_val _ _ (X_not rfl) rfl ?_
  refine L_nil ?_
  cases bb with
  | false =>
    refine T_true rfl ?_
    repeat (first | refine T_seq ?_ | refine T_block ?_ | refine T_inBlock ?_ | refine T_skip ?_)
    refine T_region ?_
    refine L_val _ _ (X_assign) rfl ?_
    refine L_nil ?_
    exact T_ret1 Tryd.func3 rfl ⟨rfl, Below.refl _ _⟩
  | true =>
  have hsm := hsmall rfl
  clear hsmall
  refine T_false rfl ?_
  refine T_skip ?_
  repeat (first | refine T_seq ?_ | refine T_block ?_ | refine T_inBlock ?_ | refine T_skip ?_)
  refine T_region ?_
  refine L_val _ _ (X_move) rfl ?_
  refine L_val _ _ (X_lenS U22 rfl) rfl ?_
  refine L_val _ _ (X_move) rfl ?_
  refine L_nil ?_
  repeat (first | refine T_seq ?_ | refine T_block ?_ | refine T_inBlock ?_ | refine T_skip ?_)
  refine T_loopS [15, 14, 13] (fun m vs z => ∃ (i : Nat), vs = [.int .i64 i, .int .i64 xs.length, .slice a xs.length c] ∧ i ≤ xs.length ∧ m = xs.length - i ∧ Below w1.heap.size w1 z) xs.length
    ⟨0, rfl, by omega, rfl, Below.refl _ _⟩ ?_
  rintro m vs ρ z ⟨i, rfl, hi, rfl, bz⟩ ih
  repeat (first | refine T_seq ?_ | refine T_block ?_ | refine T_inBlock ?_ | refine T_skip ?_)
  refine T_region ?_
  refine L_val _ _ (X_cmp rfl rfl rfl) rfl ?_
  refine L_nil ?_
  repeat (first | refine T_seq ?_ | refine T_block ?_ | refine T_inBlock ?_ | refine T_skip ?_)
  refine T_if rfl (fun ht => ?_) (fun hf => ?_)
  case refine_2 =>
    refine T_exit rfl ?_
    repeat (first | refine T_seq ?_ | refine T_block ?_ | refine T_inBlock ?_ | refine T_skip ?_)
    refine T_region ?_
    refine L_val _ _ (X_assign) rfl ?_
    refine L_nil ?_
    exact T_ret1 Tryd.func3 rfl ⟨rfl, bz⟩
  have hlt : i < xs.length := by simpa [cmpB] using ht
  obtain ⟨x, hx⟩ : ∃ x, xs[i]? = some x := ⟨xs[i], List.getElem?_eq_getElem hlt⟩
  obtain ⟨b, o, rfl, hb, hc⟩ := hs.cell i x hx
  have hok := hs.ok x (List.mem_of_getElem? hx)
  obtain ⟨m1, m2, m3, m4⟩ := hsm x (List.mem_of_getElem? hx)
  repeat (first | refine T_seq ?_ | refine T_block ?_ | refine T_inBlock ?_ | refine T_skip ?_)
  refine T_region ?_
  refine L_val _ _ (X_index U22 S28 rfl rfl hlt) rfl ?_
  refine L_val _ _ (X_loadAgg x.cells A28 S28 rfl rfl (fun j v hv => (below_cell bz _ hb).trans (hc j v hv))) rfl ?_
  refine L_alloc Z28 rfl fun z1 h1 => ?_
  refine L_storeAll x.cells S28 rfl rfl rfl x.cells_one h1.new rfl fun z2 h2 => ?_
  refine L_nil ?_
  have kq : Blk z2 z.heap.size x.cells.toArray 28 := h2.new
  have bz2 : Below w1.heap.size w1 z2 := h2.below (h1.below bz bz.size) bz.size
  have sz := bz.size
  clear h1 h2
  generalize z.heap.size = q at *
  repeat (first | refine T_seq ?_ | refine T_block ?_ | refine T_inBlock ?_ | refine T_skip ?_)
  refine T_region ?_
  refine L_val _ _ (X_loadAgg x.cells A28 S28 rfl rfl (fun j v hv => by rw [Nat.zero_add]; exact gblk kq j hv)) rfl ?_
  refine L_callF [.agg x.cells.toArray] E6 rfl rfl (digestOf_ret x z2) ?_
  rintro v3 z3 ⟨⟨id, hid, rfl⟩, b3⟩
  refine L_val _ _ (X_assign) rfl ?_
  refine L_nil ?_
  have hbc := blkD_cases hid
  have hb128 : 64 ≤ blkD id ∧ blkD id ≤ 128 := by omega
  repeat (first | refine T_seq ?_ | refine T_block ?_ | refine T_inBlock ?_ | refine T_skip ?_)
  refine T_region ?_
  refine L_val _ _ (X_move) rfl ?_
  refine L_callF [.int .i64 (id : Int)] E7 rfl rfl (bs_ret id hid z3) ?_
  rintro v4 z4 ⟨rfl, b4⟩
  refine L_val _ _ (X_assign) rfl ?_
  refine L_nil ?_
  have bz3 : Below w1.heap.size w1 z3 := bz2.trans (b3.mono bz2.size)
  have bz4 : Below w1.heap.size w1 z4 := bz3.trans (b4.mono bz3.size)
  have kq4 := below_blk b4 (below_blk b3 kq kq.lt) (below_blk b3 kq kq.lt).lt
  clear kq b3 b4 bz3 bz2
  have lq := kq4.lt
  refine T_seq ?_
  refine T_part [5, 4, 7, 15, 14, 13] (fun vs u => ∃ (g : Nat) (ks : List Sl), vs = [.int .i64 (id : Int), .pointer (some ⟨q, 0, none⟩), .slice (some ⟨g, 0, none⟩) 6 6, .int .i64 i, .int .i64 xs.length, .slice (some ⟨b, o, none⟩) xs.length c] ∧ ks.length = 6 ∧ Blk u g (ks.map Sl.val).toArray 25 ∧ (∀ y ∈ ks, Sl.ok u y ∧ y.2.1.length ≤ 65536) ∧ Below z4.heap.size z4 u) ?_ (fun join => ?_)
  rotate_left
  · refine T_draw (fun v => Below z4.heap.size z4 v) 23 rfl rfl fun z5 hsm5 => ?_
    have hS : Below z4.heap.size z4 z5 := hsm5.below (Below.refl _ _)
    refine D_takeT 0 _ rfl (by kernel_rfl) hS (fun w hw => X_field F28_2 rfl) rfl ?_
    refine D_takeT 1 _ rfl (by kernel_rfl) hS (fun w hw => X_load A25 rfl (gblk (below_blk hw kq4 lq) 2 rfl)) rfl ?_
    refine D_takeT 3 _ rfl (by kernel_rfl) hS (fun w hw => X_field F28_2 rfl) rfl ?_
    refine D_takeT 4 _ rfl (by kernel_rfl) hS (fun w hw => X_load A25 rfl (gblk (below_blk hw kq4 lq) 2 rfl)) rfl ?_
    refine D_takeT 5 _ rfl (by kernel_rfl) hS (fun w hw => X_move) rfl ?_
    refine D_takeT 6 _ rfl (by kernel_rfl) hS (fun w hw => X_sub rfl rfl (by omega) (by omega)) rfl ?_
    refine D_takeT 8 _ rfl (by kernel_rfl) hS (fun w hw => X_field F28_2 rfl) rfl ?_
    refine D_takeT 9 _ rfl (by kernel_rfl) hS (fun w hw => X_load A25 rfl (gblk (below_blk hw kq4 lq) 2 rfl)) rfl ?_
    refine D_takeT 10 _ rfl (by kernel_rfl) hS (fun w hw => X_move) rfl ?_
    refine D_takeT 12 _ rfl (by kernel_rfl) hS (fun w hw => X_field F28_2 rfl) rfl ?_
    refine D_takeT 13 _ rfl (by kernel_rfl) hS (fun w hw => X_load A25 rfl (gblk (below_blk hw kq4 lq) 2 rfl)) rfl ?_
    refine D_takeT 14 _ rfl (by kernel_rfl) hS (fun w hw => X_move) rfl ?_
    refine D_takeT 15 _ rfl (by kernel_rfl) hS (fun w hw => X_add rfl rfl (by omega) (by omega)) rfl ?_
    refine D_takeT 17 _ rfl (by kernel_rfl) hS (fun w hw => X_field F28_2 rfl) rfl ?_
    refine D_takeT 18 _ rfl (by kernel_rfl) hS (fun w hw => X_load A25 rfl (gblk (below_blk hw kq4 lq) 2 rfl)) rfl ?_
    refine D_takeT 19 _ rfl (by kernel_rfl) hS (fun w hw => X_move) rfl ?_
    refine D_takeT 20 _ rfl (by kernel_rfl) hS (fun w hw => X_mul rfl rfl (by omega) (by omega)) rfl ?_
    refine D_takeT 21 _ rfl (by kernel_rfl) hS (fun w hw => X_add rfl rfl (by omega) (by omega)) rfl ?_
    skip
    have hKf : ∀ u, Below z4.heap.size z4 u → Sl.ok u x.K := fun u hu => (hok.K.below bz4).below hu
    refine D_phase (fuel := 2) [(2, 25), (7, 30), (11, 34), (16, 39), (22, 45)] (fun _ v w => SlE v w) (by kernel_rfl) hS (fun _ _ _ _ h hb => h.below hb) ?_ ?_
    · intro i' d' o' hid' ho ρ' w' hρ hdep hS' hB'
      simp only [List.mem_cons, Prod.mk.injEq, List.not_mem_nil, or_false] at hid'
      rcases hid' with ⟨rfl, rfl⟩ | ⟨rfl, rfl⟩ | ⟨rfl, rfl⟩ | ⟨rfl, rfl⟩ | ⟨rfl, rfl⟩
      · obtain rfl := Option.some.inj ho
        exact step_nil.mono fun v w'' hh => ⟨hh.1, hS'.trans (hh.2.mono hS'.size), hh.2⟩
      · obtain rfl := Option.some.inj ho
        have e1 : ev ρ' (.tmp 27) = x.K.val := hρ 27 rfl
        have e2 : ev ρ' (.tmp 29) = .int .i64 ((blkD id - 1 : Nat) : Int) := (hρ 29 rfl).trans (congrArg (Value.int .i64) (show (blkD id : Int) - 1 = _ by omega))
        exact (step_call [x.K.val, .int .i64 ((blkD id - 1 : Nat) : Int)] E8 (by simp [e1, e2]) (fit_ret x.K (blkD id - 1) (by omega) w' (hKf w' hS'))).mono fun v w'' hh => ⟨hh.1, hS'.trans (hh.2.mono hS'.size), hh.2⟩
      · obtain rfl := Option.some.inj ho
        have e1 : ev ρ' (.tmp 32) = x.K.val := hρ 32 rfl
        have e2 : ev ρ' (.tmp 33) = .int .i64 (blkD id : Int) := hρ 33 rfl
        exact (step_call [x.K.val, .int .i64 (blkD id : Int)] E8 (by simp [e1, e2]) (fit_ret x.K (blkD id) (by omega) w' (hKf w' hS'))).mono fun v w'' hh => ⟨hh.1, hS'.trans (hh.2.mono hS'.size), hh.2⟩
      · obtain rfl := Option.some.inj ho
        have e1 : ev ρ' (.tmp 36) = x.K.val := hρ 36 rfl
        have e2 : ev ρ' (.tmp 38) = .int .i64 ((blkD id + 1 : Nat) : Int) := hρ 38 rfl
        exact (step_call [x.K.val, .int .i64 ((blkD id + 1 : Nat) : Int)] E8 (by simp only [List.map_cons, List.map_nil, e1, e2]) (fit_ret x.K (blkD id + 1) (by omega) w' (hKf w' hS'))).mono fun v w'' hh => ⟨hh.1, hS'.trans (hh.2.mono hS'.size), hh.2⟩
      · obtain rfl := Option.some.inj ho
        have e1 : ev ρ' (.tmp 41) = x.K.val := hρ 41 rfl
        have e2 : ev ρ' (.tmp 44) = .int .i64 ((2 * blkD id + 3 : Nat) : Int) := (hρ 44 rfl).trans (congrArg (Value.int .i64) (show 2 * (blkD id : Int) + 3 = _ by omega))
        exact (step_call [x.K.val, .int .i64 ((2 * blkD id + 3 : Nat) : Int)] E8 (by simp only [List.map_cons, List.map_nil, e1, e2]) (fit_ret x.K (2 * blkD id + 3) (by omega) w' (hKf w' hS'))).mono fun v w'' hh => ⟨hh.1, hS'.trans (hh.2.mono hS'.size), hh.2⟩
    · intro vals w' hv hS' hB'
      obtain ⟨a2, l2, c2, e2, q2, r2⟩ := hv 2 25 (by simp)
      obtain ⟨a7, l7, c7, e7, q7, r7⟩ := hv 7 30 (by simp)
      obtain ⟨a11, l11, c11, e11, q11, r11⟩ := hv 11 34 (by simp)
      obtain ⟨a16, l16, c16, e16, q16, r16⟩ := hv 16 39 (by simp)
      obtain ⟨a22, l22, c22, e22, q22, r22⟩ := hv 22 45 (by simp)
      simp only [List.foldl_cons, List.foldl_nil]
      generalize vals 2 = v2 at *
      generalize vals 7 = v7 at *
      generalize vals 11 = v11 at *
      generalize vals 16 = v16 at *
      generalize vals 22 = v22 at *
      subst e2 e7 e11 e16 e22
      refine D_buildSlice 23 #[x.K.val, Sl.val (a2, l2, c2), Sl.val (a7, l7, c7), Sl.val (a11, l11, c11), Sl.val (a16, l16, c16), Sl.val (a22, l22, c22)] 25 rfl (by kernel_rfl) (by kernel_rfl) rfl ?_
      intro u h
      have bu : Below w'.heap.size w' u := h.below (Below.refl _ _) (Nat.le_refl _)
      have bu4 : Below z4.heap.size z4 u := hS'.trans (bu.mono hS'.size)
      refine ⟨fun hb => absurd hb (by decide), ?_⟩
      refine D_val 24 _ _ rfl (by kernel_rfl) X_assign rfl (fun hb => absurd hb (by decide)) ?_
      refine D_done (by kernel_rfl) ?_
      refine join _ _ ⟨w'.heap.size, [x.K, (a2, l2, c2), (a7, l7, c7), (a11, l11, c11), (a16, l16, c16), (a22, l22, c22)], rfl, rfl, h.new, ?_, bu4⟩
      intro y hy
      simp only [List.mem_cons, List.not_mem_nil, or_false] at hy
      rcases hy with rfl | rfl | rfl | rfl | rfl | rfl
      · exact ⟨hKf u bu4, m1⟩
      · exact ⟨q2.below bu, by show l2.length ≤ _; omega⟩
      · exact ⟨q7.below bu, by show l7.length ≤ _; omega⟩
      · exact ⟨q11.below bu, by show l11.length ≤ _; omega⟩
      · exact ⟨q16.below bu, by show l16.length ≤ _; omega⟩
      · exact ⟨q22.below bu, by show l22.length ≤ _; omega⟩
  rintro vs ρ1 u ⟨g, ks, rfl, hkl, kg, hks, bu⟩
  have kqu := below_blk bu kq4 lq
  have bzu : Below w1.heap.size w1 u := bz4.trans (bu.mono bz4.size)
  have lg := kg.lt
  have lqu := kqu.lt
  clear kq4 lq bu bz4
  repeat (first | refine T_seq ?_ | refine T_block ?_ | refine T_inBlock ?_ | refine T_skip ?_)
  refine T_region ?_
  refine L_val _ _ (X_move) rfl ?_
  refine L_val _ _ (X_lenS U33 rfl) rfl ?_
  refine L_val _ _ (X_move) rfl ?_
  refine L_nil ?_
  repeat (first | refine T_seq ?_ | refine T_block ?_ | refine T_inBlock ?_ | refine T_skip ?_)
  refine T_loopS [49, 48, 47, 5, 4, 15, 14, 13] (fun m vs y => ∃ (j : Nat), vs = [.int .i64 j, .int .i64 6, .slice (some ⟨g, 0, none⟩) 6 6, .int .i64 (id : Int), .pointer (some ⟨q, 0, none⟩), .int .i64 i, .int .i64 xs.length, .slice (some ⟨b, o, none⟩) xs.length c] ∧ j ≤ 6 ∧ m = 6 - j ∧ Below u.heap.size u y) 6
    ⟨0, rfl, by omega, rfl, Below.refl _ _⟩ ?_
  rintro m' vs ρ2 y ⟨j, rfl, hj, rfl, by_⟩ ih2
  repeat (first | refine T_seq ?_ | refine T_block ?_ | refine T_inBlock ?_ | refine T_skip ?_)
  refine T_region ?_
  refine L_val _ _ (X_cmp rfl rfl rfl) rfl ?_
  refine L_nil ?_
  repeat (first | refine T_seq ?_ | refine T_block ?_ | refine T_inBlock ?_ | refine T_skip ?_)
  refine T_if rfl (fun ht => ?_) (fun hf => ?_)
  case refine_2 =>
    refine T_exit rfl ?_
    repeat (first | refine T_seq ?_ | refine T_block ?_ | refine T_inBlock ?_ | refine T_skip ?_)
    refine T_region ?_
    refine L_val _ _ (X_add rfl rfl (by omega) (by omega)) rfl ?_
    refine L_val _ _ (X_move) rfl ?_
    refine L_nil ?_
    exact ih _ _ _ (by omega) ⟨i + 1, rfl, by omega, rfl, bzu.trans (by_.mono bzu.size)⟩
  have hj6 : j < 6 := by simp [cmpB] at ht; omega
  obtain ⟨ky, hky⟩ : ∃ ky, ks[j]? = some ky := ⟨ks[j], List.getElem?_eq_getElem (by omega)⟩
  obtain ⟨hk1, hk2⟩ := hks ky (List.mem_of_getElem? hky)
  have kqy := below_blk by_ kqu lqu
  have kgy := below_blk by_ kg lg
  have byw : Below w1.heap.size w1 y := bzu.trans (by_.mono bzu.size)
  have hkc : y.cell? ⟨g, 0 + j * 1, none⟩ = some ky.val := by
    rw [Nat.mul_one, Nat.zero_add]
    exact gblk kgy j (by rw [List.getElem?_map, hky]; rfl)
  repeat (first | refine T_seq ?_ | refine T_block ?_ | refine T_inBlock ?_ | refine T_skip ?_)
  refine T_region ?_
  refine L_val _ _ (X_index U33 S25 rfl rfl hj6) rfl ?_
  refine L_val _ _ (X_load A25 rfl (hkc)) rfl ?_
  refine L_val _ _ (X_assign) rfl ?_
  refine L_nil ?_
  repeat (first | refine T_seq ?_ | refine T_block ?_ | refine T_inBlock ?_ | refine T_skip ?_)
  refine T_region ?_
  refine L_val _ _ (X_move) rfl ?_
  refine L_val _ _ (X_move) rfl ?_
  refine L_val _ _ (X_field F28_4 rfl) rfl ?_
  refine L_val _ _ (X_load A25 rfl (gblk kqy 4 rfl)) rfl ?_
  refine L_val _ _ (X_field F28_5 rfl) rfl ?_
  refine L_val _ _ (X_load A25 rfl (gblk kqy 5 rfl)) rfl ?_
  refine L_val _ _ (X_field F28_3 rfl) rfl ?_
  refine L_val _ _ (X_load A25 rfl (gblk kqy 3 rfl)) rfl ?_
  refine L_callF [.int .i64 (id : Int), ky.val, x.D.val, x.A.val, x.V.val] E9 rfl rfl (holds_ret sn cr id hid ky x.D x.A x.V y (hG.below byw) (hk1.below by_) (hok.D.below byw) (hok.A.below byw) (hok.V.below byw) (by omega) (by omega) (by omega) (by omega) hok.Dc hok.Ac hok.Vb) ?_
  rintro v5 y5 ⟨rfl, b5⟩
  refine L_val _ _ (X_not rfl) rfl ?_
  refine L_nil ?_
  refine T_false rfl ?_
  refine T_skip ?_
  repeat (first | refine T_seq ?_ | refine T_block ?_ | refine T_inBlock ?_ | refine T_skip ?_)
  refine T_region ?_
  refine L_val _ _ (X_add rfl rfl (by omega) (by omega)) rfl ?_
  refine L_val _ _ (X_move) rfl ?_
  refine L_nil ?_
  exact ih2 _ _ _ (by omega) ⟨j + 1, rfl, by omega, rfl, by_.trans (b5.mono by_.size)⟩
end Go.Proofs.Qxb6500863aDoor
