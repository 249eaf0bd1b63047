/-
  settle and Order.
-/
import Derived.Test.Qxb6500865aGr
namespace Go.Proofs.Qxb6500865a
set_option linter.unusedSimpArgs false
set_option linter.unusedVariables false
open Go.RowKit

def canRun (M : List Nat) (done i : Nat) : Bool := !done.testBit i && (andn (M.getD i 0) done == 0)
def nextOf (n : Nat) (M : List Nat) (done : Nat) : Option Nat := (List.range n).find? (canRun M done)
def settleF (n : Nat) (M : List Nat) : Nat → List Nat → Nat → List Nat × Nat
  | 0, order, done => (order, done)
  | fuel + 1, order, done => match nextOf n M done with
    | none => (order, done)
    | some i => settleF n M fuel (order ++ [i]) (done ||| 2 ^ i)
def settled (n : Nat) (M : List Nat) : List Nat × Nat := settleF n M n [] 0

theorem nextOf_some {n : Nat} {M : List Nat} {done i : Nat} (hi : i < n) (h : canRun M done i = true) (hm : ∀ j, j < i → canRun M done j = false) : nextOf n M done = some i := by
  unfold nextOf
  rw [List.find?_eq_some_iff_getElem]
  refine ⟨h, i, by simpa using hi, by simp, fun j hj => ?_⟩
  simp [hm j hj]
theorem nextOf_none {n : Nat} {M : List Nat} {done : Nat} (hm : ∀ j, j < n → canRun M done j = false) : nextOf n M done = none := by
  unfold nextOf
  rw [List.find?_eq_none]
  intro x hx
  simp [hm x (by simpa using hx)]
theorem nodup_le : ∀ (n : Nat) (l : List Nat), l.Nodup → (∀ x ∈ l, x < n) → l.length ≤ n
  | 0, l, _, h => by
    cases l with
    | nil => simp
    | cons x l => exact absurd (h x (by simp)) (by omega)
  | n + 1, l, hd, h => by
    by_cases hn : n ∈ l
    · have h1 := nodup_le n (l.erase n) (hd.erase n) (fun x hx => by
        have h2 := List.mem_of_mem_erase hx
        have h3 := h x h2
        have h4 : x ≠ n := fun e => by
          subst e
          exact (List.Nodup.not_mem_erase hd) hx
        omega)
      rw [List.length_erase_of_mem hn] at h1
      omega
    · have h1 := nodup_le n l hd (fun x hx => by
        have h3 := h x hx
        have h4 : x ≠ n := fun e => by subst e; exact hn hx
        omega)
      omega
/-- What holds of the legs run so far. -/
structure Ran (n : Nat) (order : List Nat) (done : Nat) : Prop where
  nodup : order.Nodup
  lt : ∀ x ∈ order, x < n
  bits : ∀ i, i < 8 → done.testBit i = decide (i ∈ order)
  small : done < 256
theorem Ran.nil (n : Nat) : Ran n [] 0 := ⟨List.nodup_nil, by simp, by simp, by decide⟩
theorem Ran.le {n : Nat} {order : List Nat} {done : Nat} (h : Ran n order done) : order.length ≤ n := nodup_le n order h.nodup h.lt
theorem Ran.next {n : Nat} {order : List Nat} {done i : Nat} (hn : n ≤ 8) (h : Ran n order done) (hi : i < n) (hb : done.testBit i = false) : Ran n (order ++ [i]) (done ||| 2 ^ i) := by
  have hni : i ∉ order := by
    intro hm
    have := h.bits i (by omega)
    rw [hb] at this
    simp [hm] at this
  refine ⟨?_, ?_, ?_, or_lt h.small (pow_lt (by omega))⟩
  · rw [List.nodup_append]
    refine ⟨h.nodup, by simp, fun a ha b hb' => ?_⟩
    simp at hb'
    subst hb'
    exact fun e => hni (e ▸ ha)
  · intro x hx
    simp only [List.mem_append, List.mem_singleton] at hx
    rcases hx with hx | rfl
    · exact h.lt x hx
    · exact hi
  · intro j hj
    rw [Nat.testBit_or, Nat.testBit_two_pow, h.bits j hj]
    simp only [List.mem_append, List.mem_singleton]
    by_cases e : i = j
    · subst e; simp
    · have e' : ¬ j = i := fun h => e h.symm
      simp [e, e']
theorem settleF_none {n : Nat} {M : List Nat} {fuel : Nat} {order : List Nat} {done : Nat} (h : nextOf n M done = none) : settleF n M fuel order done = (order, done) := by
  cases fuel with
  | zero => rfl
  | succ f => simp [settleF, h]
def natCells (l : List Nat) : List Value := l.map fun i => .int .i64 (i : Nat)
theorem natCells_length (l : List Nat) : (natCells l).length = l.length := by simp [natCells]
theorem Mget {M : List Nat} {i : Nat} (hM : M.length = 8) (hi : i < 8) : M[i]? = some (M.getD i 0) := by
  rw [List.getD_eq_getElem?_getD, List.getElem?_eq_getElem (by omega)]
  rfl
theorem Mlt {M : List Nat} (h : ∀ m ∈ M, m < 256) (i : Nat) : M.getD i 0 < 256 := by
  rw [List.getD_eq_getElem?_getD]
  cases hi : M[i]? with
  | none => simp
  | some m => exact h m (List.mem_of_getElem? hi)

set_option maxHeartbeats 4000000 in
set_option maxRecDepth 10000 in
/-- (*Graph).settle -/
theorem settle_ret (gb n : Nat) (M : List Nat) (w : World) (hg : Blk w gb (gcells n M).toArray 47) (hn : n ≤ 8) (hM : M.length = 8) (hM2 : ∀ m ∈ M, m < 256) :
    Ret Try.prog 26 #[.pointer (some ⟨gb, 0, none⟩)] w fun v w' => ∃ a c, v = .tuple #[.slice (some a) (settled n M).1.length c, .int .u8 ((settled n M).2 : Nat)] ∧ w'.ownsRow w.heap.size 3 1 (.slice (some a) (settled n M).1.length c) (settled n M).1.length (natCells (settled n M).1) ∧
      Ran n (settled n M).1 (settled n M).2 ∧ nextOf n M (settled n M).2 = none ∧ Below w.heap.size w w' := by
  refine ret_of_T (vs := [.pointer (some ⟨gb, 0, none⟩)]) Try.func26 Try.ntmps26 rfl (Nat.le_of_ble_eq_true rfl) ?_
  have hgl := hg.lt
  repeat (first | refine T_seq ?_ | refine T_block ?_ | refine T_inBlock ?_ | refine T_skip ?_)
  refine T_region ?_
  refine L_val _ _ (X_assign) rfl ?_
  refine L_val _ _ (X_assign) rfl ?_
  refine L_nil ?_
  repeat (first | refine T_seq ?_ | refine T_block ?_ | refine T_inBlock ?_ | refine T_skip ?_)
  refine T_region ?_
  refine L_val _ _ (X_move) rfl ?_
  refine L_val _ _ (X_nilCheck rfl) rfl ?_
  refine L_val _ _ (X_field F47_0 rfl) rfl ?_
  refine L_val _ _ (X_load A3 rfl (gblk hg (0 + 0) rfl)) rfl ?_
  refine L_make (l := 0) Try.underlying49 I3 rfl rfl (Nat.zero_le _) (by omega) (by simp only [maxLen]; omega) rfl fun w1 h1 => ?_
  refine L_val _ _ (X_assign) rfl ?_
  refine L_nil ?_
  have b1 : Below w.heap.size w w1 := h1.below (Below.refl _ _) (Nat.le_refl _)
  have o1 : w1.ownsRow w.heap.size 3 1 (.slice (some ⟨w.heap.size, 0, none⟩) 0 n) 0 [] := owns_made h1 (Nat.le_refl _) (by simp only [maxLen]; omega)
  repeat (first | refine T_seq ?_ | refine T_block ?_ | refine T_inBlock ?_ | refine T_skip ?_)
  refine T_region ?_
  refine L_val _ _ (X_assign) rfl ?_
  refine L_nil ?_
  repeat (first | refine T_seq ?_ | refine T_block ?_ | refine T_inBlock ?_ | refine T_skip ?_)
  refine T_loopS [4, 5, 0] (fun m vs y => ∃ (order : List Nat) (done : Nat) (ad : Addr) (c : Nat), vs = [.slice (some ad) order.length c, .int .u8 (done : Nat), .pointer (some ⟨gb, 0, none⟩)] ∧ m = n - order.length ∧ Below w.heap.size w y ∧ y.ownsRow w.heap.size 3 1 (.slice (some ad) order.length c) order.length (natCells order) ∧ Ran n order done ∧ settleF n M (n - order.length) order done = settled n M) n
    ⟨[], 0, _, _, rfl, rfl, b1, o1, Ran.nil n, rfl⟩ ?_
  clear o1 b1 h1
  rintro m vs ρ y ⟨order, done, ad, c, rfl, rfl, by_, own, hran, hset⟩ ih
  have sy := by_.size
  have hgy := below_blk by_ hg hgl
  have hol := hran.le
  repeat (first | refine T_seq ?_ | refine T_block ?_ | refine T_inBlock ?_ | refine T_skip ?_)
  refine T_region ?_
  refine L_val _ _ (X_assign) rfl ?_
  refine L_nil ?_
  repeat (first | refine T_seq ?_ | refine T_block ?_ | refine T_inBlock ?_ | refine T_skip ?_)
  refine T_region ?_
  refine L_val _ _ (X_assign) rfl ?_
  refine L_nil ?_
  repeat (first | refine T_seq ?_ | refine T_block ?_ | refine T_inBlock ?_ | refine T_skip ?_)
  refine T_loopS [6, 7, 4, 5, 0] (fun m vs z => ∃ i : Nat, vs = [.int .i64 (-1), .int .i64 i, .slice (some ad) order.length c, .int .u8 (done : Nat), .pointer (some ⟨gb, 0, none⟩)] ∧ i ≤ n ∧ m = n - i ∧ y = z ∧ ∀ j, j < i → canRun M done j = false) n
    ⟨0, rfl, by omega, rfl, rfl, fun j h => by omega⟩ ?_
  rintro m vs ρ2 z ⟨i, rfl, hi, rfl, rfl, hno⟩ ih2
  repeat (first | refine T_seq ?_ | refine T_block ?_ | refine T_inBlock ?_ | refine T_skip ?_)
  refine T_region ?_
  refine L_val _ _ (X_move) rfl ?_
  refine L_val _ _ (X_move) rfl ?_
  refine L_val _ _ (X_nilCheck rfl) rfl ?_
  refine L_val _ _ (X_field F47_0 rfl) rfl ?_
  refine L_val _ _ (X_load A3 rfl (gblk hgy (0 + 0) rfl)) rfl ?_
  refine L_val _ _ (X_cmp rfl rfl rfl) rfl ?_
  refine L_nil ?_
  refine T_if rfl (fun ht => ?_) (fun hf => ?_)
  case refine_2 =>
    have hge : ¬ i < n := by simpa [cmpB] using hf
    have hnone := nextOf_none (M := M) (done := done) (n := n) (fun j hj => hno j (by omega))
    rw [settleF_none hnone] at hset
    refine T_exit rfl ?_
    repeat (first | refine T_seq ?_ | refine T_block ?_ | refine T_inBlock ?_ | refine T_skip ?_)
    refine T_region ?_
    refine L_val _ _ (X_move) rfl ?_
    refine L_val _ _ (X_cmp rfl rfl rfl) rfl ?_
    refine L_nil ?_
    refine T_true rfl ?_
    repeat (first | refine T_seq ?_ | refine T_block ?_ | refine T_inBlock ?_ | refine T_skip ?_)
    refine T_region ?_
    refine L_val _ _ (X_move) rfl ?_
    refine L_val _ _ (X_move) rfl ?_
    refine L_val _ _ (X_assign) rfl ?_
    refine L_val _ _ (X_assign) rfl ?_
    refine L_nil ?_
    refine T_ret2 Try.func26 rfl ⟨ad, c, ?_, ?_, ?_, ?_, by_⟩
    · rw [← hset]; rfl
    · rw [← hset]; exact own
    · rw [← hset]; exact hran
    · rw [← hset]; exact hnone
  have hlt : i < n := by simpa [cmpB] using ht
  have hi8 : i < 8 := by omega
  have hds := hran.small
  have hmi := Mlt hM2 i
  cases hbit : done.testBit i with
  | true =>
    have hcan : canRun M done i = false := by simp [canRun, hbit]
    repeat (first | refine T_seq ?_ | refine T_block ?_ | refine T_inBlock ?_ | refine T_skip ?_)
    refine T_region ?_
    refine L_val _ _ (X_move) rfl ?_
    refine L_val _ _ (X_move) rfl ?_
    refine L_val _ _ (X_convInt U3 U72 rfl) rfl ?_
    refine L_val _ _ (X_shl1 rfl rfl hi8) rfl ?_
    refine L_val _ _ (X_and8 rfl rfl hds (pow_lt hi8)) rfl ?_
    refine L_val _ _ (X_cmpR false rfl rfl rfl (eq0_no (and_pow_ne hbit))) rfl ?_
    refine L_val _ _ (X_move) rfl ?_
    refine L_passB rfl rfl rfl ?_
    refine L_passB rfl rfl rfl ?_
    refine L_passB rfl rfl rfl ?_
    refine L_passB rfl rfl rfl ?_
    refine L_passB rfl rfl rfl ?_
    refine L_passB rfl rfl rfl ?_
    refine L_passB rfl rfl rfl ?_
    refine L_passB rfl rfl rfl ?_
    refine L_passB rfl rfl rfl ?_
    refine L_val _ _ (X_pick rfl) rfl ?_
    refine L_nil ?_
    refine T_false rfl ?_
    repeat (first | refine T_seq ?_ | refine T_block ?_ | refine T_inBlock ?_ | refine T_skip ?_)
    refine T_region ?_
    refine L_val _ _ (X_move) rfl ?_
    refine L_val _ _ (X_add rfl rfl (by omega) (by omega)) rfl ?_
    refine L_val _ _ (X_assign) rfl ?_
    refine L_nil ?_
    refine ih2 _ _ _ (by omega) ⟨i + 1, rfl, by omega, rfl, rfl, fun j hj => ?_⟩
    rcases Nat.lt_succ_iff_lt_or_eq.1 hj with h | rfl
    · exact hno j h
    · exact hcan
  | false =>
    have hz : done &&& 2 ^ i = 0 := and_pow_zero.2 hbit
    cases han : (andn (M.getD i 0) done == 0) with
    | false =>
      have hcan : canRun M done i = false := by unfold canRun; rw [hbit, han]; rfl
      repeat (first | refine T_seq ?_ | refine T_block ?_ | refine T_inBlock ?_ | refine T_skip ?_)
      refine T_region ?_
      refine L_val _ _ (X_move) rfl ?_
      refine L_val _ _ (X_move) rfl ?_
      refine L_val _ _ (X_convInt U3 U72 rfl) rfl ?_
      refine L_val _ _ (X_shl1 rfl rfl hi8) rfl ?_
      refine L_val _ _ (X_and8 rfl rfl hds (pow_lt hi8)) rfl ?_
      refine L_val _ _ (X_cmpR true rfl rfl rfl (eq0_yes hz)) rfl ?_
      refine L_val _ _ (X_move) rfl ?_
      refine L_guard rfl rfl rfl ?_
      refine L_val _ _ (X_move) rfl ?_
      refine L_guard rfl rfl rfl ?_
      refine L_val _ _ (X_move) rfl ?_
      refine L_guard rfl rfl rfl ?_
      refine L_val _ _ (X_nilCheck rfl) rfl ?_
      refine L_guard rfl rfl rfl ?_
      refine L_val _ _ (X_field F47_1 rfl) rfl ?_
      refine L_guard rfl rfl rfl ?_
      refine L_val _ _ (X_indexA U45 S5 rfl rfl hi8) rfl ?_
      refine L_guard rfl rfl rfl ?_
      refine L_val _ _ (X_load A5 rfl (gblk hgy (0 + 1 + i * 1) (gcells_get (Mget hM hi8)))) rfl ?_
      refine L_guard rfl rfl rfl ?_
      refine L_val _ _ (X_move) rfl ?_
      refine L_guard rfl rfl rfl ?_
      refine L_val _ _ (X_andn8 rfl rfl hmi hds) rfl ?_
      refine L_guard rfl rfl rfl ?_
      refine L_val _ _ (X_cmpR false rfl rfl rfl (eq0_no (beq_eq_false_iff_ne.mp han))) rfl ?_
      refine L_val _ _ (X_pick rfl) rfl ?_
      refine L_nil ?_
      refine T_false rfl ?_
      repeat (first | refine T_seq ?_ | refine T_block ?_ | refine T_inBlock ?_ | refine T_skip ?_)
      refine T_region ?_
      refine L_val _ _ (X_move) rfl ?_
      refine L_val _ _ (X_add rfl rfl (by omega) (by omega)) rfl ?_
      refine L_val _ _ (X_assign) rfl ?_
      refine L_nil ?_
      refine ih2 _ _ _ (by omega) ⟨i + 1, rfl, by omega, rfl, rfl, fun j hj => ?_⟩
      rcases Nat.lt_succ_iff_lt_or_eq.1 hj with h | rfl
      · exact hno j h
      · exact hcan
    | true =>
      have hcan : canRun M done i = true := by unfold canRun; rw [hbit, han]; rfl
      have hnx := nextOf_some hlt hcan hno
      have hran' := hran.next hn hlt hbit
      have hol' := hran'.le
      simp only [List.length_append, List.length_singleton] at hol'
      repeat (first | refine T_seq ?_ | refine T_block ?_ | refine T_inBlock ?_ | refine T_skip ?_)
      refine T_region ?_
      refine L_val _ _ (X_move) rfl ?_
      refine L_val _ _ (X_move) rfl ?_
      refine L_val _ _ (X_convInt U3 U72 rfl) rfl ?_
      refine L_val _ _ (X_shl1 rfl rfl hi8) rfl ?_
      refine L_val _ _ (X_and8 rfl rfl hds (pow_lt hi8)) rfl ?_
      refine L_val _ _ (X_cmpR true rfl rfl rfl (eq0_yes hz)) rfl ?_
      refine L_val _ _ (X_move) rfl ?_
      refine L_guard rfl rfl rfl ?_
      refine L_val _ _ (X_move) rfl ?_
      refine L_guard rfl rfl rfl ?_
      refine L_val _ _ (X_move) rfl ?_
      refine L_guard rfl rfl rfl ?_
      refine L_val _ _ (X_nilCheck rfl) rfl ?_
      refine L_guard rfl rfl rfl ?_
      refine L_val _ _ (X_field F47_1 rfl) rfl ?_
      refine L_guard rfl rfl rfl ?_
      refine L_val _ _ (X_indexA U45 S5 rfl rfl hi8) rfl ?_
      refine L_guard rfl rfl rfl ?_
      refine L_val _ _ (X_load A5 rfl (gblk hgy (0 + 1 + i * 1) (gcells_get (Mget hM hi8)))) rfl ?_
      refine L_guard rfl rfl rfl ?_
      refine L_val _ _ (X_move) rfl ?_
      refine L_guard rfl rfl rfl ?_
      refine L_val _ _ (X_andn8 rfl rfl hmi hds) rfl ?_
      refine L_guard rfl rfl rfl ?_
      refine L_val _ _ (X_cmpR true rfl rfl rfl (eq0_yes (beq_iff_eq.mp han))) rfl ?_
      refine L_val _ _ (X_pick rfl) rfl ?_
      refine L_nil ?_
      refine T_true rfl ?_
      repeat (first | refine T_seq ?_ | refine T_block ?_ | refine T_inBlock ?_ | refine T_skip ?_)
      refine T_region ?_
      refine L_val _ _ (X_move) rfl ?_
      refine L_val _ _ (X_assign) rfl ?_
      refine L_nil ?_
      refine T_exit rfl ?_
      repeat (first | refine T_seq ?_ | refine T_block ?_ | refine T_inBlock ?_ | refine T_skip ?_)
      refine T_region ?_
      refine L_val _ _ (X_move) rfl ?_
      refine L_val _ _ (X_cmpR false rfl rfl rfl (by simp [cmpB])) rfl ?_
      refine L_nil ?_
      refine T_false rfl ?_
      repeat (first | refine T_seq ?_ | refine T_block ?_ | refine T_inBlock ?_ | refine T_skip ?_)
      refine T_region ?_
      refine L_val _ _ (X_move) rfl ?_
      refine L_val _ _ (X_move) rfl ?_
      refine L_val _ _ (X_convInt U3 U72 rfl) rfl ?_
      refine L_val _ _ (X_shl1 rfl rfl hi8) rfl ?_
      refine L_val _ _ (X_or8 rfl rfl hds (pow_lt hi8)) rfl ?_
      refine L_val _ _ (X_assign) rfl ?_
      refine L_nil ?_
      refine T_region ?_
      refine L_val _ _ (X_move) rfl ?_
      refine L_val _ _ (X_move) rfl ?_
      refine L_buildSlice #[.int .i64 (i : Nat)] 3 (by kernel_rfl) rfl fun w3 h3 => ?_
      refine L_append1 w.heap.size (.slice (some ad) order.length c) order.length (natCells order) y.heap.size [.int .i64 (i : Nat)] Try.underlying49 I3 rfl (by decide) rfl (owns_new h3 own) rfl rfl h3.new (by simp [Value.oneCell']) (by simp only [maxLen]; omega) (by omega) (by have := h3.size; omega) rfl fun v4 w4 o4 g4 => ?_
      obtain ⟨a4, c4, rfl, hz4, _⟩ := owns_val o4
      obtain ⟨ad4, rfl⟩ : ∃ ad4, a4 = some ad4 := by cases a4 with | none => exact absurd (hz4 rfl).1 (by omega) | some x => exact ⟨x, rfl⟩
      refine L_val _ _ (X_assign) rfl ?_
      refine L_nil ?_
      have b4 : Below w.heap.size w w4 := grown_below (h3.below by_ sy) (owns_new h3 own) g4 (by have := h3.size; omega) (Nat.le_refl _)
      repeat (first | refine T_seq ?_ | refine T_block ?_ | refine T_inBlock ?_ | refine T_skip ?_)
      refine ih (n - (order.length + 1)) _ _ (by omega) ⟨order ++ [i], done ||| 2 ^ i, ad4, c4, by rw [List.length_append]; rfl, by rw [List.length_append]; rfl, b4, ?_, hran', ?_⟩
      · rw [List.length_append]
        simpa [natCells] using o4
      · rw [List.length_append, List.length_singleton]
        obtain ⟨f, hf⟩ : ∃ f, n - order.length = f + 1 := ⟨n - order.length - 1, by omega⟩
        rw [hf] at hset
        simp only [settleF, hnx] at hset
        rw [show n - (order.length + 1) = f by omega]
        exact hset
end Go.Proofs.Qxb6500865a
