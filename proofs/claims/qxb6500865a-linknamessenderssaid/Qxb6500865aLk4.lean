/-
  needsSender.
-/
import Derived.Test.Qxb6500865aLk3
import Derived.Test.Qxb6500865aW25
namespace Go.Proofs.Qxb6500865a
set_option linter.unusedSimpArgs false
set_option linter.unusedVariables false
open Go.RowKit

/-- Whether the leg named x sends it. -/
def namedSends (gs : List Leg) (want : Msg) (x : Int) : Bool := match findAt (gs.map (·.id)) x with
  | some k => (gs[k]?.map (sendsB · want)).getD false
  | none => false
theorem findAt_lt' {ids : List Int} {x : Int} {k : Nat} (h : findAt ids x = some k) : k < ids.length := by
  unfold findAt at h
  rw [List.findIdx?_eq_some_iff_getElem] at h
  exact h.1
set_option maxHeartbeats 8000000 in
set_option maxRecDepth 10000 in
/-- bundle.needsSender -/
theorem ns_ret (a : Option Addr) (c : Nat) (gs : List Leg) (i : Nat) (want : Msg) (w : World) (hl : Legs w a gs) (hi : i < gs.length) (hn : gs.length < 1000000) (hsm : gs[i].needs.length < 1000000) :
    Ret Try.prog 31 #[.agg #[.slice a gs.length c], .int .i64 i, .agg want.cells.toArray] w fun v w' => v = .bool (gs[i].needs.any (namedSends gs want)) ∧ Below w.heap.size w w' := by
  refine ret_of_T (vs := [.agg #[.slice a gs.length c], .int .i64 i, .agg want.cells.toArray]) Try.func31 Try.ntmps31 rfl (Nat.le_of_ble_eq_true rfl) ?_
  repeat (first | refine T_seq ?_ | refine T_block ?_ | refine T_inBlock ?_ | refine T_skip ?_)
  refine T_region ?_
  refine L_box rfl fun w1 h1 => ?_
  refine L_box rfl fun w2 h2 => ?_
  refine L_val _ _ (X_assign) rfl ?_
  refine L_nil ?_
  have sz1 := h1.size
  have z1 := h1.lt
  have sz2 := h2.size
  have z2 := h2.lt
  have k3 : Blk w2 w.heap.size #[.slice a gs.length c] 28 := h2.blk h1.new (by omega)
  have k5 : Blk w2 w1.heap.size want.cells.toArray 37 := h2.new
  have b2 : Below w.heap.size w w2 := h2.below (h1.below (Below.refl _ _) (Nat.le_refl _)) sz1
  have hl2 := hl.keep (keeps_below b2)
  clear h1 h2
  generalize w1.heap.size = B5 at *
  obtain ⟨b, o, rfl, hb, hc⟩ := hl2.at (i := i) (g := gs[i]) (by simp)
  have hna := hl2.ok gs[i] (by simp)
  generalize gs[i] = g at *
  repeat (first | refine T_seq ?_ | refine T_block ?_ | refine T_inBlock ?_ | refine T_skip ?_)
  refine T_region ?_
  refine L_val _ _ (X_field F28_0 rfl) rfl ?_
  refine L_val _ _ (X_load A26 rfl (k3.cell 0)) rfl ?_
  refine L_val _ _ (X_move) rfl ?_
  refine L_val _ _ (X_index U26 S62 rfl rfl hi) rfl ?_
  refine L_val _ _ (X_field F62_3 rfl) rfl ?_
  refine L_val _ _ (X_load A60 rfl (hc 21 _ rfl)) rfl ?_
  refine L_val _ _ (X_lenS U60 rfl) rfl ?_
  refine L_val _ _ (X_move) rfl ?_
  refine L_nil ?_
  repeat (first | refine T_seq ?_ | refine T_block ?_ | refine T_inBlock ?_ | refine T_skip ?_)
  refine T_loopS [18, 17, 16, 3, 5] (fun m vs y => ∃ j : Nat, vs = [.int .i64 j, .int .i64 g.needs.length, .slice g.na g.needs.length g.nc, .pointer (some ⟨w.heap.size, 0, none⟩), .pointer (some ⟨B5, 0, none⟩)] ∧ j ≤ g.needs.length ∧ m = g.needs.length - j ∧ Below w2.heap.size w2 y ∧ (g.needs.take j).any (namedSends gs want) = false) g.needs.length
    ⟨0, rfl, by omega, rfl, Below.refl _ _, rfl⟩ ?_
  rintro m vs ρ y ⟨j, rfl, hj, rfl, by_, hno⟩ ih
  have sy := by_.size
  have byw : Below w.heap.size w y := b2.trans (by_.mono b2.size)
  repeat (first | refine T_seq ?_ | refine T_block ?_ | refine T_inBlock ?_ | refine T_skip ?_)
  refine T_region ?_
  refine L_val _ _ (X_cmp rfl rfl rfl) rfl ?_
  refine L_nil ?_
  repeat (first | refine T_seq ?_ | refine T_block ?_ | refine T_inBlock ?_ | refine T_skip ?_)
  refine T_if rfl (fun ht => ?_) (fun hf => ?_)
  case refine_2 =>
    have hge : ¬ j < g.needs.length := by simpa [cmpB] using hf
    rw [List.take_of_length_le (by omega)] at hno
    refine T_exit rfl ?_
    repeat (first | refine T_seq ?_ | refine T_block ?_ | refine T_inBlock ?_ | refine T_skip ?_)
    refine T_region ?_
    refine L_val _ _ (X_assign) rfl ?_
    refine L_nil ?_
    exact T_ret1 Try.func31 rfl ⟨by rw [hno]; rfl, byw⟩
  have hlt : j < g.needs.length := by simpa [cmpB] using ht
  obtain ⟨p3, q3, hna3, hp3, hc3⟩ := (hna.keep (keeps_below by_)).cell j [.int .u8 g.needs[j]] (by simp [ints, hlt])
  have e16 : (Value.slice g.na g.needs.length g.nc) = .slice (some ⟨p3, q3, none⟩) g.needs.length g.nc := by rw [hna3]
  have htk : (g.needs.take (j + 1)).any (namedSends gs want) = ((g.needs.take j).any (namedSends gs want) || namedSends gs want g.needs[j]) := by
    rw [List.take_succ_eq_append_getElem hlt, List.any_append]
    simp
  have hmem : g.needs[j] ∈ g.needs := by simp
  generalize g.needs[j] = xx at *
  have k3y := below_blk by_ k3 (by omega)
  have k5y := below_blk by_ k5 z2
  have hly := hl2.keep (keeps_below by_)
  have hfind := find_ret (some ⟨b, o, none⟩) c gs xx y hly hn
  repeat (first | refine T_seq ?_ | refine T_block ?_ | refine T_inBlock ?_ | refine T_skip ?_)
  refine T_region ?_
  refine L_val _ _ (X_index U60 S59 e16 rfl hlt) rfl ?_
  refine L_val _ _ (X_load A59 rfl (hc3 0 _ rfl)) rfl ?_
  refine L_val _ _ (X_assign) rfl ?_
  refine L_nil ?_
  repeat (first | refine T_seq ?_ | refine T_block ?_ | refine T_inBlock ?_ | refine T_skip ?_)
  refine T_region ?_
  refine L_val _ _ (X_loadAgg [.slice (some ⟨b, o, none⟩) gs.length c] A28 S28 rfl rfl (agg1 k3y)) rfl ?_
  refine L_val _ _ (X_move) rfl ?_
  refine L_callF [.agg #[.slice (some ⟨b, o, none⟩) gs.length c], .int .u8 xx] E25 rfl rfl hfind ?_
  rintro v y1 ⟨rfl, b1⟩
  refine L_val _ _ (X_move) rfl ?_
  refine L_val _ _ (X_extract rfl rfl) rfl ?_
  refine L_val _ _ (X_extract rfl rfl) rfl ?_
  refine L_val _ _ (X_assign) rfl ?_
  refine L_val _ _ (X_assign) rfl ?_
  refine L_nil ?_
  have by1 : Below w2.heap.size w2 y1 := by_.trans (b1.mono sy)
  have k31 := below_blk by1 k3 (by omega)
  have k51 := below_blk by1 k5 z2
  repeat (first | refine T_seq ?_ | refine T_block ?_ | refine T_inBlock ?_ | refine T_skip ?_)
  cases hfa : findAt (gs.map (·.id)) xx with
  | none =>
    have hns : namedSends gs want xx = false := by simp [namedSends, hfa]
    refine T_region ?_
    refine L_val _ _ (X_move) rfl ?_
    refine L_val _ _ (X_move) rfl ?_
    refine L_passB rfl rfl rfl ?_
    refine L_passB rfl rfl rfl ?_
    refine L_passB rfl rfl rfl ?_
    refine L_passB rfl rfl rfl ?_
    refine L_val _ _ (X_pick rfl) rfl ?_
    refine L_nil ?_
    refine T_false rfl ?_
    repeat (first | refine T_seq ?_ | refine T_block ?_ | refine T_inBlock ?_ | refine T_skip ?_)
    refine T_region ?_
    refine L_val _ _ (X_add rfl rfl (by omega) (by omega)) rfl ?_
    refine L_val _ _ (X_move) rfl ?_
    refine L_nil ?_
    exact ih _ _ _ (by omega) ⟨j + 1, rfl, by omega, rfl, by1, by rw [htk, hno, hns]; rfl⟩
  | some q =>
  have hq : q < gs.length := by have := findAt_lt' hfa; simpa using this
  have hns : namedSends gs want xx = sendsB gs[q] want := by simp [namedSends, hfa, hq]
  have hsend := sends_ret (some ⟨b, o, none⟩) c gs q want y1 (hl2.keep (keeps_below by1)) hq
  generalize sendsB gs[q] want = t at *
  refine T_region ?_
  refine L_val _ _ (X_move) rfl ?_
  refine L_val _ _ (X_move) rfl ?_
  refine L_guard rfl rfl rfl ?_
  refine L_val _ _ (X_loadAgg [.slice (some ⟨b, o, none⟩) gs.length c] A28 S28 rfl rfl (agg1 k31)) rfl ?_
  refine L_guard rfl rfl rfl ?_
  refine L_val _ _ (X_move) rfl ?_
  refine L_guard rfl rfl rfl ?_
  refine L_val _ _ (X_loadAgg want.cells A37 S37 (Msg.cells_length _) rfl (lblk0 k51)) rfl ?_
  refine L_guard rfl rfl rfl ?_
  refine L_callF [.agg #[.slice (some ⟨b, o, none⟩) gs.length c], .int .i64 q, .agg want.cells.toArray] E32 rfl rfl hsend ?_
  rintro v y2 ⟨rfl, b2'⟩
  refine L_val _ _ (X_pick rfl) rfl ?_
  refine L_nil ?_
  have by2 : Below w2.heap.size w2 y2 := by1.trans (b2'.mono by1.size)
  cases t with
  | true =>
    refine T_true rfl ?_
    repeat (first | refine T_seq ?_ | refine T_block ?_ | refine T_inBlock ?_ | refine T_skip ?_)
    refine T_region ?_
    refine L_val _ _ (X_assign) rfl ?_
    refine L_nil ?_
    refine T_ret1 Try.func31 rfl ⟨?_, b2.trans (by2.mono b2.size)⟩
    have : g.needs.any (namedSends gs want) = true := List.any_eq_true.2 ⟨xx, hmem, hns⟩
    rw [this]
    rfl
  | false =>
    refine T_false rfl ?_
    repeat (first | refine T_seq ?_ | refine T_block ?_ | refine T_inBlock ?_ | refine T_skip ?_)
    refine T_region ?_
    refine L_val _ _ (X_add rfl rfl (by omega) (by omega)) rfl ?_
    refine L_val _ _ (X_move) rfl ?_
    refine L_nil ?_
    exact ih _ _ _ (by omega) ⟨j + 1, rfl, by omega, rfl, by2, by rw [htk, hno, hns]; rfl⟩
end Go.Proofs.Qxb6500865a
