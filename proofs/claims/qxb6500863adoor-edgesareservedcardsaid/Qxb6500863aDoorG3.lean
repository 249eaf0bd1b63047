/-
  words32, spell32.
-/
import Derived.Test.Qxb6500863aDoorG2
namespace Go.Proofs.Qxb6500863aDoor
set_option linter.unusedSimpArgs false
set_option linter.unusedVariables false
open Go.RowKit
def gI (l : List Int) (i : Nat) : Int := l.getD i 0
theorem gI_at {l : List Int} {i : Nat} (h : i < l.length) : l[i]? = some (gI l i) := by simp [gI, List.getD, h]
def c32 (x : Int) : Int := IntKind.u32.wrap x
def or32 (x y : Int) : Int := bitB .or .u32 x y
def wd : Bool → Int → Int → Int → Int → Int
  | true, a, b, c, d => or32 (or32 (or32 (c32 a) (shlV .u32 (c32 b) 8)) (shlV .u32 (c32 c) 16)) (shlV .u32 (c32 d) 24)
  | false, a, b, c, d => or32 (or32 (or32 (shlV .u32 (c32 a) 24) (shlV .u32 (c32 b) 16)) (shlV .u32 (c32 c) 8)) (c32 d)
def wordsAt (little : Bool) (l : List Int) : Nat → List Int
  | 0 => []
  | k + 1 => wordsAt little l k ++ [wd little (gI l (4 * k)) (gI l (4 * k + 1)) (gI l (4 * k + 2)) (gI l (4 * k + 3))]
theorem wordsAt_len (little : Bool) (l : List Int) : ∀ k, (wordsAt little l k).length = k
  | 0 => rfl
  | k + 1 => by rw [wordsAt, List.length_append, wordsAt_len little l k]; rfl
theorem owns_new' {w w1 : World} {base n : Nat} {e : TypeId} {sz : Nat} {v : Value} {xs : List Value} {o : Obj} (hc : Chg w w1 w.heap.size o) (h : w.ownsRow base e sz v n xs) : w1.ownsRow base e sz v n xs :=
  chg_owns hc h fun hv => by have := (h.lt _ hv).2; omega
set_option maxHeartbeats 8000000 in
set_option maxRecDepth 10000 in
/-- digestm.words32, of a block of sixty-four octets -/
theorem words_ret (b o cap : Nat) (l : List Int) (hl : l.length = 64) (little : Bool) (w : World) (hb : b < w.heap.size) (hc : Ints .u8 w (some ⟨b, o, none⟩) l) :
    Ret Tryd.prog 47 #[.slice (some ⟨b, o, none⟩) 64 cap, .bool little] w fun v w' => ∃ a' c', v = .slice a' 16 c' ∧ w'.ownsRow w.heap.size 26 1 (.slice a' 16 c') 16 (iv .u32 (wordsAt little l 16)) ∧ Below w.heap.size w w' := by
  refine ret_of_T (vs := [.slice (some ⟨b, o, none⟩) 64 cap, .bool little]) Tryd.func47 Tryd.ntmps47 rfl (Nat.le_of_ble_eq_true rfl) ?_
  have hcell : ∀ z, Below w.heap.size w z → ∀ j, j < 64 → z.cell? ⟨b, o + j * 1, none⟩ = some (.int .u8 (gI l j)) := fun z hz j hj => by rw [Nat.mul_one]; exact (below_cell hz _ hb).trans (hc.at j _ (gI_at (by omega)))
  repeat (first | refine T_seq ?_ | refine T_block ?_ | refine T_inBlock ?_ | refine T_skip ?_)
  refine T_region ?_
  refine L_val _ _ (X_assign) rfl ?_
  refine L_nil ?_
  repeat (first | refine T_seq ?_ | refine T_block ?_ | refine T_inBlock ?_ | refine T_skip ?_)
  refine T_region ?_
  refine L_buildSlice #[] 26 (by kernel_rfl) rfl fun w1 h1 => ?_
  refine L_val _ _ (X_assign) rfl ?_
  refine L_nil ?_
  have o1 : w1.ownsRow w.heap.size 26 1 (.slice (some ⟨w.heap.size, 0, none⟩) 0 0) 0 [] := owns_made (c := 0) (z := #[.int .u32 0]) (by rw [made0]; exact h1) (Nat.le_refl _) (by simp [maxLen])
  have b1 : Below w.heap.size w w1 := h1.below (Below.refl _ _) (Nat.le_refl _)
  repeat (first | refine T_seq ?_ | refine T_block ?_ | refine T_inBlock ?_ | refine T_skip ?_)
  refine T_region ?_
  refine L_val _ _ (X_assign) rfl ?_
  refine L_nil ?_
  repeat (first | refine T_seq ?_ | refine T_block ?_ | refine T_inBlock ?_ | refine T_skip ?_)
  refine T_loopS [6, 5, 0, 1] (fun m vs z => ∃ (k : Nat) (a' : Option Addr) (c' : Nat), vs = [.int .i64 ((4 * k : Nat) : Int), .slice a' k c', .slice (some ⟨b, o, none⟩) 64 cap, .bool little] ∧ k ≤ 16 ∧ m = 16 - k ∧ z.ownsRow w.heap.size 26 1 (.slice a' k c') k (iv .u32 (wordsAt little l k)) ∧ Below w.heap.size w z) 16
    ⟨0, some ⟨w.heap.size, 0, none⟩, 0, rfl, by omega, rfl, o1, b1⟩ ?_
  rintro m vs ρ z ⟨k, a', c', rfl, hk, rfl, oz, bz⟩ ih
  have sz := bz.size
  repeat (first | refine T_seq ?_ | refine T_block ?_ | refine T_inBlock ?_ | refine T_skip ?_)
  rcases Nat.lt_or_ge k 16 with hlt | hge
  · have e1 : cmpB .lss ((4 * k : Nat) : Int) 64 = true := by simp [cmpB]; omega
    refine T_region ?_
    refine L_val _ _ (X_move) rfl ?_
    refine L_val _ _ (X_move) rfl ?_
    refine L_val _ _ (X_lenS U25 rfl) rfl ?_
    refine L_val _ _ (X_cmpR true rfl rfl rfl e1) rfl ?_
    refine L_nil ?_
    refine T_true rfl ?_
    repeat (first | refine T_seq ?_ | refine T_block ?_ | refine T_inBlock ?_ | refine T_skip ?_)
    refine T_region ?_
    refine L_val _ _ (X_move) rfl ?_
    refine L_nil ?_
    cases little with
    | true =>
      refine T_true rfl ?_
      refine T_draw (fun z => Below w.heap.size w z) 32 rfl rfl fun z1 hsm => ?_
      have hS : Below w.heap.size w z1 := hsm.below bz
      refine D_take 0 _ rfl (by kernel_rfl) hS (fun w hw => X_move) rfl ?_
      refine D_take 1 _ rfl (by kernel_rfl) hS (fun w hw => X_move) rfl ?_
      refine D_take 2 _ rfl (by kernel_rfl) hS (fun w hw => X_move) rfl ?_
      refine D_take 3 _ rfl (by kernel_rfl) hS (fun w hw => X_index U25 S5 rfl rfl (by omega)) rfl ?_
      refine D_take 4 _ rfl (by kernel_rfl) hS (fun w hw => X_load A5 rfl (hcell _ hw (4 * k) (by omega))) rfl ?_
      refine D_take 5 _ rfl (by kernel_rfl) hS (fun w hw => X_convInt U5 U26 rfl) rfl ?_
      refine D_take 6 _ rfl (by kernel_rfl) hS (fun w hw => X_move) rfl ?_
      refine D_take 7 _ rfl (by kernel_rfl) hS (fun w hw => X_move) rfl ?_
      refine D_take 8 _ rfl (by kernel_rfl) hS (fun w hw => X_add rfl rfl (by omega) (by omega)) rfl ?_
      refine D_take 9 _ rfl (by kernel_rfl) hS (fun w hw => X_index (j := 4 * k + 1) U25 S5 rfl rfl (by omega)) rfl ?_
      refine D_take 10 _ rfl (by kernel_rfl) hS (fun w hw => X_load A5 rfl (hcell _ hw (4 * k + 1) (by omega))) rfl ?_
      refine D_take 11 _ rfl (by kernel_rfl) hS (fun w hw => X_convInt U5 U26 rfl) rfl ?_
      refine D_take 12 _ rfl (by kernel_rfl) hS (fun w hw => X_shl rfl rfl (by decide)) rfl ?_
      refine D_take 13 _ rfl (by kernel_rfl) hS (fun w hw => X_bit rfl rfl rfl) rfl ?_
      refine D_take 14 _ rfl (by kernel_rfl) hS (fun w hw => X_move) rfl ?_
      refine D_take 15 _ rfl (by kernel_rfl) hS (fun w hw => X_move) rfl ?_
      refine D_take 16 _ rfl (by kernel_rfl) hS (fun w hw => X_add rfl rfl (by omega) (by omega)) rfl ?_
      refine D_take 17 _ rfl (by kernel_rfl) hS (fun w hw => X_index (j := 4 * k + 2) U25 S5 rfl rfl (by omega)) rfl ?_
      refine D_take 18 _ rfl (by kernel_rfl) hS (fun w hw => X_load A5 rfl (hcell _ hw (4 * k + 2) (by omega))) rfl ?_
      refine D_take 19 _ rfl (by kernel_rfl) hS (fun w hw => X_convInt U5 U26 rfl) rfl ?_
      refine D_take 20 _ rfl (by kernel_rfl) hS (fun w hw => X_shl rfl rfl (by decide)) rfl ?_
      refine D_take 21 _ rfl (by kernel_rfl) hS (fun w hw => X_bit rfl rfl rfl) rfl ?_
      refine D_take 22 _ rfl (by kernel_rfl) hS (fun w hw => X_move) rfl ?_
      refine D_take 23 _ rfl (by kernel_rfl) hS (fun w hw => X_move) rfl ?_
      refine D_take 24 _ rfl (by kernel_rfl) hS (fun w hw => X_add rfl rfl (by omega) (by omega)) rfl ?_
      refine D_take 25 _ rfl (by kernel_rfl) hS (fun w hw => X_index (j := 4 * k + 3) U25 S5 rfl rfl (by omega)) rfl ?_
      refine D_take 26 _ rfl (by kernel_rfl) hS (fun w hw => X_load A5 rfl (hcell _ hw (4 * k + 3) (by omega))) rfl ?_
      refine D_take 27 _ rfl (by kernel_rfl) hS (fun w hw => X_convInt U5 U26 rfl) rfl ?_
      refine D_take 28 _ rfl (by kernel_rfl) hS (fun w hw => X_shl rfl rfl (by decide)) rfl ?_
      refine D_take 29 _ rfl (by kernel_rfl) hS (fun w hw => X_bit rfl rfl rfl) rfl ?_
      skip
      refine D_buildSlice 30 #[.int .u32 (wd true (gI l (4 * k)) (gI l (4 * k + 1)) (gI l (4 * k + 2)) (gI l (4 * k + 3)))] 26 rfl (by kernel_rfl) (by kernel_rfl) rfl ?_
      intro z2 h2
      have hS2 : Below w.heap.size w z2 := h2.below hS hS.size
      have o2 := owns_new' h2 (hsm.owns oz)
      refine ⟨fun _ => hS2, ?_⟩
      refine D_append1 31 w.heap.size (.slice a' k c') k (iv .u32 (wordsAt true l k)) z1.heap.size [.int .u32 (wd true (gI l (4 * k)) (gI l (4 * k + 1)) (gI l (4 * k + 2)) (gI l (4 * k + 3)))] rfl (by kernel_rfl) Tryd.underlying84 I26 rfl (by decide) rfl o2 rfl rfl h2.new (by simp [Value.oneCell']) (by simp only [maxLen]; omega) (by omega) hS2.size rfl ?_
      intro v3 z3 o3 g3 _
      have hS3 : Below w.heap.size w z3 := grown_below hS2 o2 g3 hS2.size (Nat.le_refl _)
      refine ⟨fun _ => hS3, ?_⟩
      obtain ⟨a3, c3, rfl, -, -⟩ := owns_val o3
      refine D_val 32 _ _ rfl (by kernel_rfl) X_assign rfl (fun hb => by cases hb) ?_
      refine D_done (by kernel_rfl) ?_
      repeat (first | refine T_seq ?_ | refine T_block ?_ | refine T_inBlock ?_ | refine T_skip ?_)
      refine T_region ?_
      refine L_val _ _ (X_move) rfl ?_
      refine L_val _ _ (X_add rfl rfl (by omega) (by omega)) rfl ?_
      refine L_val _ _ (X_assign) rfl ?_
      refine L_nil ?_
      exact ih _ _ _ (by omega) ⟨k + 1, a3, c3, rfl, by omega, rfl, by rw [wordsAt, iv_app]; exact o3, hS3⟩
    | false =>
      refine T_false rfl ?_
      refine T_draw (fun z => Below w.heap.size w z) 32 rfl rfl fun z1 hsm => ?_
      have hS : Below w.heap.size w z1 := hsm.below bz
      refine D_take 0 _ rfl (by kernel_rfl) hS (fun w hw => X_move) rfl ?_
      refine D_take 1 _ rfl (by kernel_rfl) hS (fun w hw => X_move) rfl ?_
      refine D_take 2 _ rfl (by kernel_rfl) hS (fun w hw => X_move) rfl ?_
      refine D_take 3 _ rfl (by kernel_rfl) hS (fun w hw => X_index U25 S5 rfl rfl (by omega)) rfl ?_
      refine D_take 4 _ rfl (by kernel_rfl) hS (fun w hw => X_load A5 rfl (hcell _ hw (4 * k) (by omega))) rfl ?_
      refine D_take 5 _ rfl (by kernel_rfl) hS (fun w hw => X_convInt U5 U26 rfl) rfl ?_
      refine D_take 6 _ rfl (by kernel_rfl) hS (fun w hw => X_shl rfl rfl (by decide)) rfl ?_
      refine D_take 7 _ rfl (by kernel_rfl) hS (fun w hw => X_move) rfl ?_
      refine D_take 8 _ rfl (by kernel_rfl) hS (fun w hw => X_move) rfl ?_
      refine D_take 9 _ rfl (by kernel_rfl) hS (fun w hw => X_add rfl rfl (by omega) (by omega)) rfl ?_
      refine D_take 10 _ rfl (by kernel_rfl) hS (fun w hw => X_index (j := 4 * k + 1) U25 S5 rfl rfl (by omega)) rfl ?_
      refine D_take 11 _ rfl (by kernel_rfl) hS (fun w hw => X_load A5 rfl (hcell _ hw (4 * k + 1) (by omega))) rfl ?_
      refine D_take 12 _ rfl (by kernel_rfl) hS (fun w hw => X_convInt U5 U26 rfl) rfl ?_
      refine D_take 13 _ rfl (by kernel_rfl) hS (fun w hw => X_shl rfl rfl (by decide)) rfl ?_
      refine D_take 14 _ rfl (by kernel_rfl) hS (fun w hw => X_bit rfl rfl rfl) rfl ?_
      refine D_take 15 _ rfl (by kernel_rfl) hS (fun w hw => X_move) rfl ?_
      refine D_take 16 _ rfl (by kernel_rfl) hS (fun w hw => X_move) rfl ?_
      refine D_take 17 _ rfl (by kernel_rfl) hS (fun w hw => X_add rfl rfl (by omega) (by omega)) rfl ?_
      refine D_take 18 _ rfl (by kernel_rfl) hS (fun w hw => X_index (j := 4 * k + 2) U25 S5 rfl rfl (by omega)) rfl ?_
      refine D_take 19 _ rfl (by kernel_rfl) hS (fun w hw => X_load A5 rfl (hcell _ hw (4 * k + 2) (by omega))) rfl ?_
      refine D_take 20 _ rfl (by kernel_rfl) hS (fun w hw => X_convInt U5 U26 rfl) rfl ?_
      refine D_take 21 _ rfl (by kernel_rfl) hS (fun w hw => X_shl rfl rfl (by decide)) rfl ?_
      refine D_take 22 _ rfl (by kernel_rfl) hS (fun w hw => X_bit rfl rfl rfl) rfl ?_
      refine D_take 23 _ rfl (by kernel_rfl) hS (fun w hw => X_move) rfl ?_
      refine D_take 24 _ rfl (by kernel_rfl) hS (fun w hw => X_move) rfl ?_
      refine D_take 25 _ rfl (by kernel_rfl) hS (fun w hw => X_add rfl rfl (by omega) (by omega)) rfl ?_
      refine D_take 26 _ rfl (by kernel_rfl) hS (fun w hw => X_index (j := 4 * k + 3) U25 S5 rfl rfl (by omega)) rfl ?_
      refine D_take 27 _ rfl (by kernel_rfl) hS (fun w hw => X_load A5 rfl (hcell _ hw (4 * k + 3) (by omega))) rfl ?_
      refine D_take 28 _ rfl (by kernel_rfl) hS (fun w hw => X_convInt U5 U26 rfl) rfl ?_
      refine D_take 29 _ rfl (by kernel_rfl) hS (fun w hw => X_bit rfl rfl rfl) rfl ?_
      skip
      refine D_buildSlice 30 #[.int .u32 (wd false (gI l (4 * k)) (gI l (4 * k + 1)) (gI l (4 * k + 2)) (gI l (4 * k + 3)))] 26 rfl (by kernel_rfl) (by kernel_rfl) rfl ?_
      intro z2 h2
      have hS2 : Below w.heap.size w z2 := h2.below hS hS.size
      have o2 := owns_new' h2 (hsm.owns oz)
      refine ⟨fun _ => hS2, ?_⟩
      refine D_append1 31 w.heap.size (.slice a' k c') k (iv .u32 (wordsAt false l k)) z1.heap.size [.int .u32 (wd false (gI l (4 * k)) (gI l (4 * k + 1)) (gI l (4 * k + 2)) (gI l (4 * k + 3)))] rfl (by kernel_rfl) Tryd.underlying84 I26 rfl (by decide) rfl o2 rfl rfl h2.new (by simp [Value.oneCell']) (by simp only [maxLen]; omega) (by omega) hS2.size rfl ?_
      intro v3 z3 o3 g3 _
      have hS3 : Below w.heap.size w z3 := grown_below hS2 o2 g3 hS2.size (Nat.le_refl _)
      refine ⟨fun _ => hS3, ?_⟩
      obtain ⟨a3, c3, rfl, -, -⟩ := owns_val o3
      refine D_val 32 _ _ rfl (by kernel_rfl) X_assign rfl (fun hb => by cases hb) ?_
      refine D_done (by kernel_rfl) ?_
      repeat (first | refine T_seq ?_ | refine T_block ?_ | refine T_inBlock ?_ | refine T_skip ?_)
      refine T_region ?_
      refine L_val _ _ (X_move) rfl ?_
      refine L_val _ _ (X_add rfl rfl (by omega) (by omega)) rfl ?_
      refine L_val _ _ (X_assign) rfl ?_
      refine L_nil ?_
      exact ih _ _ _ (by omega) ⟨k + 1, a3, c3, rfl, by omega, rfl, by rw [wordsAt, iv_app]; exact o3, hS3⟩
  obtain rfl : k = 16 := by omega
  refine T_region ?_
  refine L_val _ _ (X_move) rfl ?_
  refine L_val _ _ (X_move) rfl ?_
  refine L_val _ _ (X_lenS U25 rfl) rfl ?_
  refine L_val _ _ (X_cmpR false rfl rfl rfl (by decide)) rfl ?_
  refine L_nil ?_
  refine T_false rfl ?_
  refine T_exit rfl ?_
  repeat (first | refine T_seq ?_ | refine T_block ?_ | refine T_inBlock ?_ | refine T_skip ?_)
  refine T_region ?_
  refine L_val _ _ (X_move) rfl ?_
  refine L_val _ _ (X_assign) rfl ?_
  refine L_nil ?_
  exact T_ret1 Tryd.func47 rfl ⟨a', c', rfl, oz, bz⟩
def by8 (q : IntKind) (x s : Int) : Int := IntKind.u8.wrap (shrV q x s)
def sp4 : Bool → Int → List Int
  | true, x => [IntKind.u8.wrap x, by8 .u32 x 8, by8 .u32 x 16, by8 .u32 x 24]
  | false, x => [by8 .u32 x 24, by8 .u32 x 16, by8 .u32 x 8, IntKind.u8.wrap x]
theorem sp4_len (little : Bool) (x : Int) : (sp4 little x).length = 4 := by cases little <;> rfl
def spN (little : Bool) (ws : List Int) : List Int := (ws.map (sp4 little)).flatten
theorem spN_len (little : Bool) (ws : List Int) : (spN little ws).length = 4 * ws.length := by
  induction ws with
  | nil => rfl
  | cons x ws ih =>
    have : spN little (x :: ws) = sp4 little x ++ spN little ws := rfl
    rw [this, List.length_append, ih, sp4_len, List.length_cons]
    omega
theorem spN_take {little : Bool} {ws : List Int} {k : Nat} {x : Int} (h : ws[k]? = some x) : spN little (ws.take (k + 1)) = spN little (ws.take k) ++ sp4 little x := by
  obtain ⟨hi, he⟩ := List.getElem?_eq_some_iff.1 h
  rw [List.take_succ_eq_append_getElem hi, he]
  simp [spN]
set_option maxHeartbeats 8000000 in
/-- digestm.spell32 -/
theorem spell_ret (a : Option Addr) (ws : List Int) (c : Nat) (little : Bool) (w : World) (hw : Ints .u32 w a ws) (hn : ws.length ≤ 8) :
    Ret Tryd.prog 49 #[.slice a ws.length c, .bool little] w fun v w' => ∃ a' c', v = .slice a' (4 * ws.length) c' ∧ w'.ownsRow w.heap.size 5 1 (.slice a' (4 * ws.length) c') (4 * ws.length) (iv .u8 (spN little ws)) ∧ Below w.heap.size w w' := by
  refine ret_of_T (vs := [.slice a ws.length c, .bool little]) Tryd.func49 Tryd.ntmps49 rfl (Nat.le_of_ble_eq_true rfl) ?_
  repeat (first | refine T_seq ?_ | refine T_block ?_ | refine T_inBlock ?_ | refine T_skip ?_)
  refine T_region ?_
  refine L_val _ _ (X_assign) rfl ?_
  refine L_nil ?_
  repeat (first | refine T_seq ?_ | refine T_block ?_ | refine T_inBlock ?_ | refine T_skip ?_)
  refine T_region ?_
  refine L_buildSlice #[] 5 (by kernel_rfl) rfl fun w1 h1 => ?_
  refine L_val _ _ (X_assign) rfl ?_
  refine L_nil ?_
  have o1 : w1.ownsRow w.heap.size 5 1 (.slice (some ⟨w.heap.size, 0, none⟩) 0 0) 0 [] := owns_made (c := 0) (z := #[.int .u8 0]) (by rw [made0]; exact h1) (Nat.le_refl _) (by simp [maxLen])
  have b1 : Below w.heap.size w w1 := h1.below (Below.refl _ _) (Nat.le_refl _)
  repeat (first | refine T_seq ?_ | refine T_block ?_ | refine T_inBlock ?_ | refine T_skip ?_)
  refine T_region ?_
  refine L_val _ _ (X_move) rfl ?_
  refine L_val _ _ (X_lenS U84 rfl) rfl ?_
  refine L_val _ _ (X_move) rfl ?_
  refine L_nil ?_
  repeat (first | refine T_seq ?_ | refine T_block ?_ | refine T_inBlock ?_ | refine T_skip ?_)
  refine T_loopS [11, 10, 9, 5, 1] (fun m vs z => ∃ (k : Nat) (a' : Option Addr) (c' : Nat), vs = [.int .i64 k, .int .i64 ws.length, .slice a ws.length c, .slice a' (4 * k) c', .bool little] ∧ k ≤ ws.length ∧ m = ws.length - k ∧ z.ownsRow w.heap.size 5 1 (.slice a' (4 * k) c') (4 * k) (iv .u8 (spN little (ws.take k))) ∧ Below w.heap.size w z) ws.length
    ⟨0, some ⟨w.heap.size, 0, none⟩, 0, rfl, by omega, rfl, o1, b1⟩ ?_
  rintro m vs ρ z ⟨k, a', c', rfl, hk, rfl, oz, bz⟩ ih
  have sz := bz.size
  repeat (first | refine T_seq ?_ | refine T_block ?_ | refine T_inBlock ?_ | refine T_skip ?_)
  refine T_region ?_
  refine L_val _ _ (X_cmp rfl rfl rfl) rfl ?_
  refine L_nil ?_
  repeat (first | refine T_seq ?_ | refine T_block ?_ | refine T_inBlock ?_ | refine T_skip ?_)
  refine T_if rfl (fun ht => ?_) (fun hf => ?_)
  case refine_2 =>
    have hge : ¬ k < ws.length := by simpa [cmpB] using hf
    obtain rfl : k = ws.length := by omega
    refine T_exit rfl ?_
    repeat (first | refine T_seq ?_ | refine T_block ?_ | refine T_inBlock ?_ | refine T_skip ?_)
    refine T_region ?_
    refine L_val _ _ (X_move) rfl ?_
    refine L_val _ _ (X_assign) rfl ?_
    refine L_nil ?_
    rw [List.take_of_length_le (Nat.le_refl _)] at oz
    exact T_ret1 Tryd.func49 rfl ⟨a', c', rfl, oz, bz⟩
  have hlt : k < ws.length := by simpa [cmpB] using ht
  have hx := gI_at hlt
  obtain ⟨b, o, rfl, hb, hcx⟩ := (hw.below bz).cell k _ hx
  have hsp := spN_take (little := little) hx
  generalize gI ws k = x at *
  repeat (first | refine T_seq ?_ | refine T_block ?_ | refine T_inBlock ?_ | refine T_skip ?_)
  refine T_region ?_
  refine L_val _ _ (X_index U84 S26 rfl rfl hlt) rfl ?_
  refine L_val _ _ (X_load A26 rfl ((by rw [Nat.mul_one]; exact hcx))) rfl ?_
  refine L_val _ _ (X_assign) rfl ?_
  refine L_nil ?_
  repeat (first | refine T_seq ?_ | refine T_block ?_ | refine T_inBlock ?_ | refine T_skip ?_)
  refine T_region ?_
  refine L_val _ _ (X_move) rfl ?_
  refine L_nil ?_
  cases little with
  | true =>
    refine T_true rfl ?_
    refine T_region ?_
    refine L_val _ _ (X_move) rfl ?_
    refine L_val _ _ (X_move) rfl ?_
    refine L_val _ _ (X_convInt U26 U5 rfl) rfl ?_
    refine L_val _ _ (X_move) rfl ?_
    refine L_val _ _ (X_shr rfl rfl (by decide)) rfl ?_
    refine L_val _ _ (X_convInt U26 U5 rfl) rfl ?_
    refine L_val _ _ (X_move) rfl ?_
    refine L_val _ _ (X_shr rfl rfl (by decide)) rfl ?_
    refine L_val _ _ (X_convInt U26 U5 rfl) rfl ?_
    refine L_val _ _ (X_move) rfl ?_
    refine L_val _ _ (X_shr rfl rfl (by decide)) rfl ?_
    refine L_val _ _ (X_convInt U26 U5 rfl) rfl ?_
    refine L_buildSlice (iv .u8 (sp4 true x)).toArray 5 (by kernel_rfl) rfl fun w3 h3 => ?_
    have b23 : Below z.heap.size z w3 := h3.below (Below.refl _ _) (Nat.le_refl _)
    have o3 := own_below oz b23
    have b3 := bz.trans (b23.mono sz)
    have s3 := b3.size
    refine L_append w.heap.size (.slice a' (4 * k) c') (4 * k) (iv .u8 (spN true (ws.take k))) (some ⟨z.heap.size, 0, none⟩) 4 4 (iv .u8 (sp4 true x)) Tryd.underlying25 I5 rfl (by decide) rfl o3 rfl (by rw [iv_len, sp4_len]) (by simp) (ints_src (ints_blk h3.new)) (iv_one _ _) (by simp only [maxLen]; omega) (by omega) s3 rfl fun v4 w4 o4 g4 => ?_
    obtain ⟨a4, c4, rfl, -, -⟩ := owns_val o4
    refine L_val _ _ (X_assign) rfl ?_
    refine L_nil ?_
    repeat (first | refine T_seq ?_ | refine T_block ?_ | refine T_inBlock ?_ | refine T_skip ?_)
    refine T_region ?_
    refine L_val _ _ (X_add rfl rfl (by omega) (by omega)) rfl ?_
    refine L_val _ _ (X_move) rfl ?_
    refine L_nil ?_
    exact ih _ _ _ (by omega) ⟨k + 1, a4, c4, rfl, by omega, rfl, by rw [hsp, iv_app]; exact o4, grown_below b3 o3 g4 s3 (Nat.le_refl _)⟩
  | false =>
    refine T_false rfl ?_
    refine T_region ?_
    refine L_val _ _ (X_move) rfl ?_
    refine L_val _ _ (X_move) rfl ?_
    refine L_val _ _ (X_shr rfl rfl (by decide)) rfl ?_
    refine L_val _ _ (X_convInt U26 U5 rfl) rfl ?_
    refine L_val _ _ (X_move) rfl ?_
    refine L_val _ _ (X_shr rfl rfl (by decide)) rfl ?_
    refine L_val _ _ (X_convInt U26 U5 rfl) rfl ?_
    refine L_val _ _ (X_move) rfl ?_
    refine L_val _ _ (X_shr rfl rfl (by decide)) rfl ?_
    refine L_val _ _ (X_convInt U26 U5 rfl) rfl ?_
    refine L_val _ _ (X_move) rfl ?_
    refine L_val _ _ (X_convInt U26 U5 rfl) rfl ?_
    refine L_buildSlice (iv .u8 (sp4 false x)).toArray 5 (by kernel_rfl) rfl fun w3 h3 => ?_
    have b23 : Below z.heap.size z w3 := h3.below (Below.refl _ _) (Nat.le_refl _)
    have o3 := own_below oz b23
    have b3 := bz.trans (b23.mono sz)
    have s3 := b3.size
    refine L_append w.heap.size (.slice a' (4 * k) c') (4 * k) (iv .u8 (spN false (ws.take k))) (some ⟨z.heap.size, 0, none⟩) 4 4 (iv .u8 (sp4 false x)) Tryd.underlying25 I5 rfl (by decide) rfl o3 rfl (by rw [iv_len, sp4_len]) (by simp) (ints_src (ints_blk h3.new)) (iv_one _ _) (by simp only [maxLen]; omega) (by omega) s3 rfl fun v4 w4 o4 g4 => ?_
    obtain ⟨a4, c4, rfl, -, -⟩ := owns_val o4
    refine L_val _ _ (X_assign) rfl ?_
    refine L_nil ?_
    repeat (first | refine T_seq ?_ | refine T_block ?_ | refine T_inBlock ?_ | refine T_skip ?_)
    refine T_region ?_
    refine L_val _ _ (X_add rfl rfl (by omega) (by omega)) rfl ?_
    refine L_val _ _ (X_move) rfl ?_
    refine L_nil ?_
    exact ih _ _ _ (by omega) ⟨k + 1, a4, c4, rfl, by omega, rfl, by rw [hsp, iv_app]; exact o4, grown_below b3 o3 g4 s3 (Nat.le_refl _)⟩
end Go.Proofs.Qxb6500863aDoor
