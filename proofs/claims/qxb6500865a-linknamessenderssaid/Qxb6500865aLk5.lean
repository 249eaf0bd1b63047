/-
  isRollup, checkNeeds, checkAnswered.
-/
import Derived.Test.Qxb6500865aLk4
namespace Go.Proofs.Qxb6500865a
set_option linter.unusedSimpArgs false
set_option linter.unusedVariables false
open Go.RowKit

/-- A leg that expects a message which none of the legs it needs sends. -/
def unans (gs : List Leg) (g : Leg) : Bool := match expOf g with
  | some m => !(g.needs.any (namedSends gs m))
  | none => false
set_option maxHeartbeats 8000000 in
set_option maxRecDepth 10000 in
/-- bundle.checkAnswered -/
theorem ca_ret (a : Option Addr) (c : Nat) (gs : List Leg) (i : Nat) (w : World) (hl : Legs w a gs) (hi : i < gs.length) (hn : gs.length < 1000000) (hsm : gs[i].needs.length < 1000000) :
    Ret Try.prog 35 #[.agg #[.slice a gs.length c], .int .i64 i] w fun v w' => v = .int .u8 (bif unans gs gs[i] then 38 else 0) ∧ Below w.heap.size w w' := by
  refine ret_of_T (vs := [.agg #[.slice a gs.length c], .int .i64 i]) Try.func35 Try.ntmps35 rfl (Nat.le_of_ble_eq_true rfl) ?_
  repeat (first | refine T_seq ?_ | refine T_block ?_ | refine T_inBlock ?_ | refine T_skip ?_)
  refine T_region ?_
  refine L_box rfl fun w1 h1 => ?_
  refine L_val _ _ (X_assign) rfl ?_
  refine L_nil ?_
  have sz1 := h1.size
  have z1 := h1.lt
  have k2 : Blk w1 w.heap.size #[.slice a gs.length c] 28 := h1.new
  have b1 : Below w.heap.size w w1 := h1.below (Below.refl _ _) (Nat.le_refl _)
  have hl1 := hl.keep (keeps_below b1)
  clear h1
  obtain ⟨b, o, rfl, hb, hc⟩ := hl1.at (i := i) (g := gs[i]) (by simp)
  have hns := fun m (y : World) (by_ : Below w1.heap.size w1 y) => ns_ret (some ⟨b, o, none⟩) c gs i m y (hl1.keep (keeps_below by_)) hi hn hsm
  generalize gs[i] = g at *
  repeat (first | refine T_seq ?_ | refine T_block ?_ | refine T_inBlock ?_ | refine T_skip ?_)
  refine T_region ?_
  refine L_val _ _ (X_field F28_0 rfl) rfl ?_
  refine L_val _ _ (X_load A26 rfl (k2.cell 0)) rfl ?_
  refine L_val _ _ (X_move) rfl ?_
  refine L_val _ _ (X_index U26 S62 rfl rfl hi) rfl ?_
  refine L_callF [.pointer (some ⟨b, o + i * 22, none⟩)] E30 rfl rfl (exp_ret g b (o + i * 22) w1 hb hc) ?_
  rintro v w2 ⟨rfl, b2⟩
  refine L_val _ _ (X_move) rfl ?_
  refine L_val _ _ (X_extract rfl rfl) rfl ?_
  refine L_val _ _ (X_extract rfl rfl) rfl ?_
  refine L_alloc Z37 rfl fun w3 h3 => ?_
  refine L_storeAll ((expOf g).getD noMsg).cells S37 rfl rfl (Msg.cells_length _) (Msg.cells_one' _) h3.new rfl fun w4 h4 => ?_
  refine L_val _ _ (X_assign) rfl ?_
  refine L_nil ?_
  have h34 := h3.trans h4
  have sz2 := b2.size
  have k5 : Blk w4 w2.heap.size ((expOf g).getD noMsg).cells.toArray 37 := h34.new
  have b14 : Below w1.heap.size w1 w4 := h34.below b2 sz2
  have k24 := below_blk b14 k2 z1
  have b4 : Below w.heap.size w w4 := b1.trans (b14.mono sz1)
  clear h3 h4 h34
  repeat (first | refine T_seq ?_ | refine T_block ?_ | refine T_inBlock ?_ | refine T_skip ?_)
  cases he : expOf g with
  | none =>
    have hu : unans gs g = false := by simp [unans, he]
    refine T_region ?_
    refine L_val _ _ (X_move) rfl ?_
    refine L_val _ _ (X_not rfl) rfl ?_
    refine L_val _ _ (X_move) rfl ?_
    refine L_passB rfl rfl rfl ?_
    refine L_passB rfl rfl rfl ?_
    refine L_passB rfl rfl rfl ?_
    refine L_passB rfl rfl rfl ?_
    refine L_val _ _ (X_pick rfl) rfl ?_
    refine L_nil ?_
    refine T_true rfl ?_
    repeat (first | refine T_seq ?_ | refine T_block ?_ | refine T_inBlock ?_ | refine T_skip ?_)
    refine T_region ?_
    refine L_val _ _ (X_assign) rfl ?_
    refine L_nil ?_
    exact T_ret1 Try.func35 rfl ⟨by rw [hu]; rfl, b4⟩
  | some mm =>
  rw [he] at k5
  have k5' : Blk w4 w2.heap.size mm.cells.toArray 37 := k5
  have hcall := hns mm w4 b14
  have hu : unans gs g = !(g.needs.any (namedSends gs mm)) := by simp [unans, he]
  generalize g.needs.any (namedSends gs mm) = t at *
  refine T_region ?_
  refine L_val _ _ (X_move) rfl ?_
  refine L_val _ _ (X_not rfl) rfl ?_
  refine L_val _ _ (X_move) rfl ?_
  refine L_guard rfl rfl rfl ?_
  refine L_val _ _ (X_loadAgg [.slice (some ⟨b, o, none⟩) gs.length c] A28 S28 rfl rfl (agg1 k24)) rfl ?_
  refine L_guard rfl rfl rfl ?_
  refine L_val _ _ (X_move) rfl ?_
  refine L_guard rfl rfl rfl ?_
  refine L_val _ _ (X_loadAgg mm.cells A37 S37 (Msg.cells_length _) rfl (lblk0 k5')) rfl ?_
  refine L_guard rfl rfl rfl ?_
  refine L_callF [.agg #[.slice (some ⟨b, o, none⟩) gs.length c], .int .i64 i, .agg mm.cells.toArray] E31 rfl rfl hcall ?_
  rintro v w5 ⟨rfl, b5⟩
  refine L_val _ _ (X_pick rfl) rfl ?_
  refine L_nil ?_
  have b5w : Below w.heap.size w w5 := b4.trans (b5.mono b4.size)
  cases t with
  | true =>
    refine T_true rfl ?_
    repeat (first | refine T_seq ?_ | refine T_block ?_ | refine T_inBlock ?_ | refine T_skip ?_)
    refine T_region ?_
    refine L_val _ _ (X_assign) rfl ?_
    refine L_nil ?_
    exact T_ret1 Try.func35 rfl ⟨by rw [hu]; rfl, b5w⟩
  | false =>
    refine T_false rfl ?_
    repeat (first | refine T_seq ?_ | refine T_block ?_ | refine T_inBlock ?_ | refine T_skip ?_)
    refine T_region ?_
    refine L_val _ _ (X_assign) rfl ?_
    refine L_nil ?_
    exact T_ret1 Try.func35 rfl ⟨by rw [hu]; rfl, b5w⟩

set_option maxHeartbeats 8000000 in
set_option maxRecDepth 10000 in
/-- bundle.checkNeeds -/
theorem cn_ret (a : Option Addr) (c : Nat) (gs : List Leg) (i : Nat) (w : World) (hl : Legs w a gs) (hi : i < gs.length) (hn : gs.length < 1000000) (hsm : gs[i].needs.length < 1000000) :
    Ret Try.prog 34 #[.agg #[.slice a gs.length c], .int .i64 i] w fun v w' => (v = .int .u8 0 ∨ v = .int .u8 37) ∧ Below w.heap.size w w' := by
  refine ret_of_T (vs := [.agg #[.slice a gs.length c], .int .i64 i]) Try.func34 Try.ntmps34 rfl (Nat.le_of_ble_eq_true rfl) ?_
  repeat (first | refine T_seq ?_ | refine T_block ?_ | refine T_inBlock ?_ | refine T_skip ?_)
  refine T_region ?_
  refine L_box rfl fun w1 h1 => ?_
  refine L_val _ _ (X_assign) rfl ?_
  refine L_nil ?_
  have sz1 := h1.size
  have z1 := h1.lt
  have k2 : Blk w1 w.heap.size #[.slice a gs.length c] 28 := h1.new
  have b1 : Below w.heap.size w w1 := h1.below (Below.refl _ _) (Nat.le_refl _)
  have hl1 := hl.keep (keeps_below b1)
  clear h1
  obtain ⟨b, o, rfl, hb, hc⟩ := hl1.at (i := i) (g := gs[i]) (by simp)
  have hna := hl1.ok gs[i] (by simp)
  generalize gs[i] = g at *
  repeat (first | refine T_seq ?_ | refine T_block ?_ | refine T_inBlock ?_ | refine T_skip ?_)
  refine T_region ?_
  refine L_val _ _ (X_field F28_0 rfl) rfl ?_
  refine L_val _ _ (X_load A26 rfl (k2.cell 0)) rfl ?_
  refine L_val _ _ (X_move) rfl ?_
  refine L_val _ _ (X_index U26 S62 rfl rfl hi) rfl ?_
  refine L_val _ _ (X_field F62_3 rfl) rfl ?_
  refine L_val _ _ (X_load A60 rfl (hc 21 _ rfl)) rfl ?_
  refine L_val _ _ (X_lenS U60 rfl) rfl ?_
  refine L_val _ _ (X_move) rfl ?_
  refine L_nil ?_
  repeat (first | refine T_seq ?_ | refine T_block ?_ | refine T_inBlock ?_ | refine T_skip ?_)
  refine T_loopS [16, 15, 14, 2] (fun m vs y => ∃ j : Nat, vs = [.int .i64 j, .int .i64 g.needs.length, .slice g.na g.needs.length g.nc, .pointer (some ⟨w.heap.size, 0, none⟩)] ∧ j ≤ g.needs.length ∧ m = g.needs.length - j ∧ Below w1.heap.size w1 y) g.needs.length
    ⟨0, rfl, by omega, rfl, Below.refl _ _⟩ ?_
  rintro m vs ρ y ⟨j, rfl, hj, rfl, by_⟩ ih
  have sy := by_.size
  repeat (first | refine T_seq ?_ | refine T_block ?_ | refine T_inBlock ?_ | refine T_skip ?_)
  refine T_region ?_
  refine L_val _ _ (X_cmp rfl rfl rfl) rfl ?_
  refine L_nil ?_
  repeat (first | refine T_seq ?_ | refine T_block ?_ | refine T_inBlock ?_ | refine T_skip ?_)
  refine T_if rfl (fun ht => ?_) (fun hf => ?_)
  case refine_2 =>
    refine T_exit rfl ?_
    repeat (first | refine T_seq ?_ | refine T_block ?_ | refine T_inBlock ?_ | refine T_skip ?_)
    refine T_region ?_
    refine L_val _ _ (X_assign) rfl ?_
    refine L_nil ?_
    exact T_ret1 Try.func34 rfl ⟨.inl rfl, b1.trans (by_.mono sz1)⟩
  have hlt : j < g.needs.length := by simpa [cmpB] using ht
  obtain ⟨p3, q3, hna3, hp3, hc3⟩ := (hna.keep (keeps_below by_)).cell j [.int .u8 g.needs[j]] (by simp [ints, hlt])
  have e14 : (Value.slice g.na g.needs.length g.nc) = .slice (some ⟨p3, q3, none⟩) g.needs.length g.nc := by rw [hna3]
  generalize g.needs[j] = xx at *
  have k2y := below_blk by_ k2 z1
  have hfind := find_ret (some ⟨b, o, none⟩) c gs xx y (hl1.keep (keeps_below by_)) hn
  generalize findAt (gs.map (·.id)) xx = fa at *
  repeat (first | refine T_seq ?_ | refine T_block ?_ | refine T_inBlock ?_ | refine T_skip ?_)
  refine T_region ?_
  refine L_val _ _ (X_index U60 S59 e14 rfl hlt) rfl ?_
  refine L_val _ _ (X_load A59 rfl (hc3 0 _ rfl)) rfl ?_
  refine L_val _ _ (X_assign) rfl ?_
  refine L_nil ?_
  repeat (first | refine T_seq ?_ | refine T_block ?_ | refine T_inBlock ?_ | refine T_skip ?_)
  refine T_region ?_
  refine L_val _ _ (X_loadAgg [.slice (some ⟨b, o, none⟩) gs.length c] A28 S28 rfl rfl (agg1 k2y)) rfl ?_
  refine L_val _ _ (X_move) rfl ?_
  refine L_callF [.agg #[.slice (some ⟨b, o, none⟩) gs.length c], .int .u8 xx] E25 rfl rfl hfind ?_
  rintro v y1 ⟨rfl, b1'⟩
  refine L_val _ _ (X_move) rfl ?_
  refine L_val _ _ (X_extract rfl rfl) rfl ?_
  refine L_val _ _ (X_extract rfl rfl) rfl ?_
  refine L_val _ _ (X_assign) rfl ?_
  refine L_val _ _ (X_assign) rfl ?_
  refine L_nil ?_
  have by1 : Below w1.heap.size w1 y1 := by_.trans (b1'.mono sy)
  repeat (first | refine T_seq ?_ | refine T_block ?_ | refine T_inBlock ?_ | refine T_skip ?_)
  refine T_region ?_
  refine L_val _ _ (X_move) rfl ?_
  refine L_val _ _ (X_not rfl) rfl ?_
  refine L_nil ?_
  refine T_if rfl (fun ht2 => ?_) (fun hf2 => ?_)
  · repeat (first | refine T_seq ?_ | refine T_block ?_ | refine T_inBlock ?_ | refine T_skip ?_)
    refine T_region ?_
    refine L_val _ _ (X_assign) rfl ?_
    refine L_nil ?_
    exact T_ret1 Try.func34 rfl ⟨.inr rfl, b1.trans (by1.mono sz1)⟩
  · repeat (first | refine T_seq ?_ | refine T_block ?_ | refine T_inBlock ?_ | refine T_skip ?_)
    refine T_region ?_
    refine L_val _ _ (X_add rfl rfl (by omega) (by omega)) rfl ?_
    refine L_val _ _ (X_move) rfl ?_
    refine L_nil ?_
    exact ih _ _ _ (by omega) ⟨j + 1, rfl, by omega, rfl, by1⟩
end Go.Proofs.Qxb6500865a
