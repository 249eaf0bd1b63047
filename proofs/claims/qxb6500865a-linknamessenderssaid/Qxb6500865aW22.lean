import Derived.Test.Qxb6500865aOwn
import Derived.Test.Qxb6500865aEq
namespace Go.Proofs.Qxb6500865a
set_option linter.unusedSimpArgs false
set_option linter.unusedVariables false
open Go.RowKit

theorem X_neq39 {ρ : Env} {w : World} {dst : Option Tmp} {gd : Option (Nat × Bool)} {ty : TypeId} {pos : String} {after : Array Edge} {t' : TypeId} {x y : Operand} (t u : Tx) (hx : ev ρ x = .agg t.cells.toArray) (hy : ev ρ y = .agg u.cells.toArray) :
    (execOp (ev ρ) ⟨dst, .binOp .neq 39 x y t', ty, pos, after, gd⟩).run Try.prog w = .ok (.value (.bool (!t.same u))) w :=
  X_neq (by rw [hx, hy]; exact neq39 t u x y w)
theorem X_neq39R {ρ : Env} {w : World} {dst : Option Tmp} {gd : Option (Nat × Bool)} {ty : TypeId} {pos : String} {after : Array Edge} {t' : TypeId} {x y : Operand} (t u : Tx) (r : Bool) (hx : ev ρ x = .agg t.cells.toArray) (hy : ev ρ y = .agg u.cells.toArray) (hr : (!t.same u) = r) :
    (execOp (ev ρ) ⟨dst, .binOp .neq 39 x y t', ty, pos, after, gd⟩).run Try.prog w = .ok (.value (.bool r)) w := by
  rw [X_neq39 t u hx hy, hr]
theorem X_eql37 {ρ : Env} {w : World} {dst : Option Tmp} {gd : Option (Nat × Bool)} {ty : TypeId} {pos : String} {after : Array Edge} {t' : TypeId} {x y : Operand} (t u : Msg) (hx : ev ρ x = .agg t.cells.toArray) (hy : ev ρ y = .agg u.cells.toArray) :
    (execOp (ev ρ) ⟨dst, .binOp .eql 37 x y t', ty, pos, after, gd⟩).run Try.prog w = .ok (.value (.bool (t.same u))) w :=
  X_eq (by rw [hx, hy]; exact eql37 t u x y w)

/-- A leg loaded into a block of its own. -/
theorem leg_blk {w : World} {b : Nat} {g : Leg} {t : TypeId} (h : Blk w b g.cells.toArray t) (i : Nat) {v : Value} (hv : g.cells[i]? = some v) : w.cell? ⟨b, i, none⟩ = some v := by
  rw [h.cell]; simpa using hv

theorem leg_tx (g : Leg) {j : Nat} {v : Value} (hv : g.tx.cells[j]? = some v) : g.cells[0 + 2 + j]? = some v := by
  have hj := (List.getElem?_eq_some_iff.1 hv).1
  have e : 0 + 2 + j = j + 1 + 1 := by omega
  rw [e]
  simp only [Leg.cells, List.getElem?_cons_succ]
  rw [List.getElem?_append_left hj]
  exact hv

set_option maxRecDepth 10000 in
/-- bundlelaw.sameBundle at bundles of one content. -/
theorem same_ret (a1 a2 : Option Addr) (c1 c2 : Nat) (gs1 gs2 : List Leg) (w : World) (hl1 : Legs w a1 gs1) (hl2 : Legs w a2 gs2) (hd : gs1.map Leg.data = gs2.map Leg.data) (hn : gs1.length < 1000000) (hnn : ∀ g ∈ gs1, g.needs.length < 1000000) :
    Ret Try.prog 22 #[.agg #[.slice a1 gs1.length c1], .agg #[.slice a2 gs2.length c2]] w fun v w' => v = .bool true ∧ Below w.heap.size w w' := by
  have hlen : gs1.length = gs2.length := by have := congrArg List.length hd; simpa using this
  refine ret_of_T (vs := [.agg #[.slice a1 gs1.length c1], .agg #[.slice a2 gs2.length c2]]) Try.func22 Try.ntmps22 rfl (Nat.le_of_ble_eq_true rfl) ?_
  repeat (first | refine T_seq ?_ | refine T_block ?_ | refine T_inBlock ?_ | refine T_skip ?_)
  refine T_region ?_
  refine L_box rfl fun w1 h1 => ?_
  refine L_box rfl fun w2 h2 => ?_
  refine L_val _ _ (X_assign) rfl ?_
  refine L_nil ?_
  have b1 : Below w.heap.size w w1 := h1.below (Below.refl _ _) (Nat.le_refl _)
  have b2 : Below w.heap.size w w2 := h2.below b1 b1.size
  have k1 : Blk w2 w.heap.size #[.slice a1 gs1.length c1] 28 := h2.blk h1.new (by have := h1.lt; omega)
  have k2 : Blk w2 w1.heap.size #[.slice a2 gs2.length c2] 28 := h2.new
  have hB1 : w.heap.size < w2.heap.size := k1.lt
  have hB2 : w1.heap.size < w2.heap.size := k2.lt
  have hB3 := b1.size
  clear h1 h2 b1
  generalize w1.heap.size = B' at *
  repeat (first | refine T_seq ?_ | refine T_block ?_ | refine T_inBlock ?_ | refine T_skip ?_)
  refine T_region ?_
  refine L_val _ _ (X_field F28_0 rfl) rfl ?_
  refine L_val _ _ (X_load A26 rfl (k1.cell 0)) rfl ?_
  refine L_val _ _ (X_lenS U26 rfl) rfl ?_
  refine L_val _ _ (X_field F28_0 rfl) rfl ?_
  refine L_val _ _ (X_load A26 rfl (k2.cell 0)) rfl ?_
  refine L_val _ _ (X_lenS U26 rfl) rfl ?_
  refine L_val _ _ (X_cmp rfl rfl rfl) rfl ?_
  refine L_nil ?_
  refine T_false (by show Value.bool (cmpB .neq _ _) = _; simp [cmpB, hlen]) ?_
  repeat (first | refine T_seq ?_ | refine T_block ?_ | refine T_inBlock ?_ | refine T_skip ?_)
  refine T_region ?_
  refine L_val _ _ (X_field F28_0 rfl) rfl ?_
  refine L_val _ _ (X_load A26 rfl (k1.cell 0)) rfl ?_
  refine L_val _ _ (X_lenS U26 rfl) rfl ?_
  refine L_val _ _ (X_move) rfl ?_
  refine L_nil ?_
  repeat (first | refine T_seq ?_ | refine T_block ?_ | refine T_inBlock ?_ | refine T_skip ?_)
  refine T_loopS [19, 18, 17, 3] (fun m vs w' => ∃ i : Nat, vs = [.int .i64 i, .int .i64 gs1.length, .slice a1 gs1.length c1, .pointer (some ⟨B', 0, none⟩)] ∧ i ≤ gs1.length ∧ m = gs1.length - i ∧ Below w.heap.size w w' ∧ Blk w' B' #[.slice a2 gs2.length c2] 28) gs1.length ⟨0, rfl, by omega, rfl, b2, k2⟩ ?_
  clear k1 k2 hB1 hB2 b2 w2
  rintro m vs ρ w' ⟨i, rfl, hi, rfl, bw, k2⟩ ih
  repeat (first | refine T_seq ?_ | refine T_block ?_ | refine T_inBlock ?_ | refine T_skip ?_)
  refine T_region ?_
  refine L_val _ _ (X_cmp rfl rfl rfl) rfl ?_
  refine L_nil ?_
  repeat (first | refine T_seq ?_ | refine T_block ?_ | refine T_inBlock ?_ | refine T_skip ?_)
  refine T_if rfl (fun ht => ?_) (fun hf => ?_)
  case refine_2 =>
    refine T_exit rfl ?_
    repeat (first | refine T_seq ?_ | refine T_block ?_ | refine T_inBlock ?_ | refine T_skip ?_)
    refine T_region ?_
    refine L_val _ _ (X_assign) rfl ?_
    refine L_nil ?_
    exact T_ret1 Try.func22 rfl ⟨rfl, bw⟩
  have hlt : i < gs1.length := by simpa [cmpB] using ht
  have hlt2 : i < gs2.length := by omega
  obtain ⟨p1, q1, rfl, hp1, hc1⟩ := (hl1.keep (keeps_below bw)).at (i := i) (g := gs1[i]) (by simp)
  obtain ⟨p2, q2, rfl, hp2, hc2⟩ := (hl2.keep (keeps_below bw)).at (i := i) (g := gs2[i]) (by simp)
  have ho1 := (hl1.keep (keeps_below bw)).ok gs1[i] (by simp)
  have ho2 := (hl2.keep (keeps_below bw)).ok gs2[i] (by simp)
  have hnn1 := hnn gs1[i] (by simp)
  have hdd : gs1[i].data = gs2[i].data := by
    have := congrArg (fun l => l[i]?) hd
    simp only [List.getElem?_map, List.getElem?_eq_getElem hlt, List.getElem?_eq_getElem hlt2, Option.map_some, Option.some.injEq] at this
    exact this
  generalize gs1[i] = G1 at *
  generalize gs2[i] = G2 at *
  obtain ⟨id, ch, tx, nd, na1, nc1⟩ := G1
  obtain ⟨id', ch', tx', nd', na2, nc2⟩ := G2
  simp only [Leg.data, Prod.mk.injEq] at hdd
  obtain ⟨rfl, rfl, rfl, rfl⟩ := hdd
  have hnd : nd.length < 1000000 := hnn1
  generalize hG1 : (⟨id, ch, tx, nd, na1, nc1⟩ : Leg) = G1 at hc1
  generalize hG2 : (⟨id, ch, tx, nd, na2, nc2⟩ : Leg) = G2 at hc2
  repeat (first | refine T_seq ?_ | refine T_block ?_ | refine T_inBlock ?_ | refine T_skip ?_)
  refine T_region ?_
  refine L_val _ _ (X_move) rfl ?_
  refine L_val _ _ (X_index U26 S62 rfl rfl hlt) rfl ?_
  refine L_val _ _ (X_loadAgg G1.cells A62 S62 (Leg.cells_length _) rfl hc1) rfl ?_
  refine L_alloc Z62 rfl fun w3 h3 => ?_
  refine L_val _ _ (X_assign) rfl ?_
  refine L_storeAll G1.cells S62 rfl rfl (Leg.cells_length _) (Leg.cells_one _) h3.new rfl fun w4 h4 => ?_
  refine L_nil ?_
  have h34 := h3.trans h4
  have hz2 := k2.lt
  have hz4 := h34.lt
  have bz := bw.size
  have c4 := h34.size
  have bw4 : Below w.heap.size w w4 := h34.below bw bw.size
  have k24 : Blk w4 B' #[.slice (some ⟨p2, q2, none⟩) gs2.length c2] 28 := h34.blk k2 (by omega)
  have k6 : Blk w4 w'.heap.size G1.cells.toArray 62 := h34.new
  have hc2' : ∀ j x, G2.cells[j]? = some x → w4.cell? ⟨p2, q2 + i * 22 + j, none⟩ = some x := fun j x hj => (h34.cell _ (by omega)).trans (hc2 j x hj)
  clear h3 h4 w3
  repeat (first | refine T_seq ?_ | refine T_block ?_ | refine T_inBlock ?_ | refine T_skip ?_)
  refine T_region ?_
  refine L_val _ _ (X_field F28_0 rfl) rfl ?_
  refine L_val _ _ (X_load A26 rfl (k24.cell 0)) rfl ?_
  refine L_val _ _ (X_move) rfl ?_
  refine L_val _ _ (X_index U26 S62 rfl rfl hlt2) rfl ?_
  refine L_val _ _ (X_loadAgg G2.cells A62 S62 (Leg.cells_length _) rfl hc2') rfl ?_
  refine L_alloc Z62 rfl fun w5 h5 => ?_
  refine L_storeAll G2.cells S62 rfl rfl (Leg.cells_length _) (Leg.cells_one _) h5.new rfl fun w6 h6 => ?_
  refine L_nil ?_
  have h56 := h5.trans h6
  have hz6 := h56.lt
  have c6 := h56.size
  have bw6 : Below w.heap.size w w6 := h56.below bw4 (by omega)
  have k26 : Blk w6 B' #[.slice (some ⟨p2, q2, none⟩) gs2.length c2] 28 := h56.blk k24 (by omega)
  have l1 : Blk w6 w'.heap.size G1.cells.toArray 62 := h56.blk k6 (by omega)
  have l2 : Blk w6 w4.heap.size G2.cells.toArray 62 := h56.new
  have kp : Keeps w' w6 := (chg_keeps h34 (Nat.le_refl _)).trans (chg_keeps h56 (Nat.le_refl _))
  clear h5 h6 w5 k24 k6 hc2' bw4
  generalize w'.heap.size = P1 at *
  generalize w4.heap.size = P2 at *
  subst hG1
  subst hG2
  repeat (first | refine T_seq ?_ | refine T_block ?_ | refine T_inBlock ?_ | refine T_skip ?_)
  refine T_region ?_
  refine L_val _ _ (X_field F62_0 rfl) rfl ?_
  refine L_val _ _ (X_load A59 rfl (leg_blk l1 0 rfl)) rfl ?_
  refine L_val _ _ (X_field F62_0 rfl) rfl ?_
  refine L_val _ _ (X_load A59 rfl (leg_blk l2 0 rfl)) rfl ?_
  refine L_val _ _ (X_cmpR false rfl rfl rfl (by simp [cmpB])) rfl ?_
  refine L_val _ _ (X_move) rfl ?_
  refine L_guard rfl rfl rfl ?_
  refine L_val _ _ (X_field F62_1 rfl) rfl ?_
  refine L_guard rfl rfl rfl ?_
  refine L_val _ _ (X_load A25 rfl (leg_blk l1 1 rfl)) rfl ?_
  refine L_guard rfl rfl rfl ?_
  refine L_val _ _ (X_field F62_1 rfl) rfl ?_
  refine L_guard rfl rfl rfl ?_
  refine L_val _ _ (X_load A25 rfl (leg_blk l2 1 rfl)) rfl ?_
  refine L_guard rfl rfl rfl ?_
  refine L_val _ _ (X_cmpR false rfl rfl rfl (by simp [cmpB])) rfl ?_
  refine L_val _ _ (X_pick rfl) rfl ?_
  refine L_val _ _ (X_move) rfl ?_
  refine L_guard rfl rfl rfl ?_
  refine L_val _ _ (X_field F62_2 rfl) rfl ?_
  refine L_guard rfl rfl rfl ?_
  refine L_val _ _ (X_loadAgg tx.cells A39 S39 (Tx.cells_length _) rfl (fun j v hv => leg_blk l1 (0 + 2 + j) (leg_tx _ hv))) rfl ?_
  refine L_guard rfl rfl rfl ?_
  refine L_val _ _ (X_field F62_2 rfl) rfl ?_
  refine L_guard rfl rfl rfl ?_
  refine L_val _ _ (X_loadAgg tx.cells A39 S39 (Tx.cells_length _) rfl (fun j v hv => leg_blk l2 (0 + 2 + j) (leg_tx _ hv))) rfl ?_
  refine L_guard rfl rfl rfl ?_
  refine L_val _ _ (X_neq39R tx tx false rfl rfl (by simp [Tx.same_self])) rfl ?_
  refine L_val _ _ (X_pick rfl) rfl ?_
  refine L_val _ _ (X_move) rfl ?_
  refine L_guard rfl rfl rfl ?_
  refine L_val _ _ (X_field F62_3 rfl) rfl ?_
  refine L_guard rfl rfl rfl ?_
  refine L_val _ _ (X_load A60 rfl (leg_blk l1 21 rfl)) rfl ?_
  refine L_guard rfl rfl rfl ?_
  refine L_val _ _ (X_lenS U60 rfl) rfl ?_
  refine L_guard rfl rfl rfl ?_
  refine L_val _ _ (X_field F62_3 rfl) rfl ?_
  refine L_guard rfl rfl rfl ?_
  refine L_val _ _ (X_load A60 rfl (leg_blk l2 21 rfl)) rfl ?_
  refine L_guard rfl rfl rfl ?_
  refine L_val _ _ (X_lenS U60 rfl) rfl ?_
  refine L_guard rfl rfl rfl ?_
  refine L_val _ _ (X_cmpR false rfl rfl rfl (by simp [cmpB])) rfl ?_
  refine L_val _ _ (X_pick rfl) rfl ?_
  refine L_nil ?_
  refine T_false rfl ?_
  repeat (first | refine T_seq ?_ | refine T_block ?_ | refine T_inBlock ?_ | refine T_skip ?_)
  refine T_region ?_
  refine L_val _ _ (X_field F62_3 rfl) rfl ?_
  refine L_val _ _ (X_load A60 rfl (leg_blk l1 21 rfl)) rfl ?_
  refine L_val _ _ (X_lenS U60 rfl) rfl ?_
  refine L_val _ _ (X_move) rfl ?_
  refine L_nil ?_
  repeat (first | refine T_seq ?_ | refine T_block ?_ | refine T_inBlock ?_ | refine T_skip ?_)
  -- the needs
  refine T_loopS [60, 59, 6, 7, 19, 18, 17, 3] (fun m vs x => ∃ j : Nat, vs = [.int .i64 j, .int .i64 nd.length, .pointer (some ⟨P1, 0, none⟩), .pointer (some ⟨P2, 0, none⟩), .int .i64 i, .int .i64 gs1.length, .slice (some ⟨p1, q1, none⟩) gs1.length c1, .pointer (some ⟨B', 0, none⟩)] ∧ j ≤ nd.length ∧ m = nd.length - j ∧ Sm w6 x) nd.length ⟨0, rfl, by omega, rfl, Sm.refl _⟩ ?_
  rintro m vs ρ2 x ⟨j, rfl, hj, rfl, hsm⟩ ih2
  repeat (first | refine T_seq ?_ | refine T_block ?_ | refine T_inBlock ?_ | refine T_skip ?_)
  refine T_region ?_
  refine L_val _ _ (X_cmp rfl rfl rfl) rfl ?_
  refine L_nil ?_
  repeat (first | refine T_seq ?_ | refine T_block ?_ | refine T_inBlock ?_ | refine T_skip ?_)
  refine T_if rfl (fun ht2 => ?_) (fun hf2 => ?_)
  · have hltj : j < nd.length := by simpa [cmpB] using ht2
    obtain ⟨r1, s1, rfl, hr1, hd1⟩ := (ho1.keep kp).cell j [.int .u8 nd[j]] (by simp [ints, hltj])
    obtain ⟨r2, s2, rfl, hr2, hd2⟩ := (ho2.keep kp).cell j [.int .u8 nd[j]] (by simp [ints, hltj])
    have e1 := hd1 0 _ rfl
    have e2 := hd2 0 _ rfl
    repeat (first | refine T_seq ?_ | refine T_block ?_ | refine T_inBlock ?_ | refine T_skip ?_)
    refine T_region ?_
    refine L_val _ _ (X_move) rfl ?_
    refine L_val _ _ (X_assign) rfl ?_
    refine L_nil ?_
    repeat (first | refine T_seq ?_ | refine T_block ?_ | refine T_inBlock ?_ | refine T_skip ?_)
    refine T_quiet (Sm w6) rfl (by kernel_rfl) (⟨hsm.heap, hsm.os, hsm.tape, hsm.output⟩) ?_
    refine LQ_val _ (fun w hw => X_field F62_3 rfl) rfl ?_
    refine LQ_val _ (fun w hw => X_load A60 rfl ((hw.cell _).trans (leg_blk l1 21 rfl))) rfl ?_
    refine LQ_val _ (fun w hw => X_move) rfl ?_
    refine LQ_val _ (fun w hw => X_index U60 S59 rfl rfl hltj) rfl ?_
    refine LQ_val _ (fun w hw => X_load A59 rfl ((hw.cell _).trans e1)) rfl ?_
    refine LQ_val _ (fun w hw => X_field F62_3 rfl) rfl ?_
    refine LQ_val _ (fun w hw => X_load A60 rfl ((hw.cell _).trans (leg_blk l2 21 rfl))) rfl ?_
    refine LQ_val _ (fun w hw => X_move) rfl ?_
    refine LQ_val _ (fun w hw => X_index U60 S59 rfl rfl hltj) rfl ?_
    refine LQ_val _ (fun w hw => X_load A59 rfl ((hw.cell _).trans e2)) rfl ?_
    refine LQ_val _ (fun w hw => X_cmpR false rfl rfl rfl (by simp [cmpB])) rfl ?_
    refine LQ_nil fun x2 hsm2 => ?_
    refine T_false rfl ?_
    repeat (first | refine T_seq ?_ | refine T_block ?_ | refine T_inBlock ?_ | refine T_skip ?_)
    refine T_region ?_
    refine L_val _ _ (X_add rfl rfl (by omega) (by omega)) rfl ?_
    refine L_val _ _ (X_move) rfl ?_
    refine L_nil ?_
    exact ih2 _ _ _ (by omega) ⟨j + 1, rfl, by omega, rfl, hsm2⟩
  · refine T_exit rfl ?_
    repeat (first | refine T_seq ?_ | refine T_block ?_ | refine T_inBlock ?_ | refine T_skip ?_)
    refine T_region ?_
    refine L_val _ _ (X_add rfl rfl (by omega) (by omega)) rfl ?_
    refine L_val _ _ (X_move) rfl ?_
    refine L_nil ?_
    exact ih _ _ _ (by omega) ⟨i + 1, rfl, by omega, rfl, hsm.below bw6, hsm.blk k26⟩
end Go.Proofs.Qxb6500865a
