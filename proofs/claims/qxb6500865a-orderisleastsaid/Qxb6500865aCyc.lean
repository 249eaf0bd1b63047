/-
  Order, Needs, FindCycle.
-/
import Derived.Test.Qxb6500865aSet
import Derived.Test.Qxb6500865aWk4
namespace Go.Proofs.Qxb6500865a
set_option linter.unusedSimpArgs false
set_option linter.unusedVariables false
open Go.RowKit

set_option maxHeartbeats 4000000 in
set_option maxRecDepth 10000 in
/-- (*Graph).Order -/
theorem order_ret (gb n : Nat) (M : List Nat) (w : World) (hg : Blk w gb (gcells n M).toArray 47) (hn : n ≤ 8) (hM : M.length = 8) (hM2 : ∀ m ∈ M, m < 256) :
    Ret Try.prog 11 #[.pointer (some ⟨gb, 0, none⟩)] w fun v w' => Below w.heap.size w w' ∧
      (((settled n M).1.length < n ∧ v = .tuple #[.slice none 0 0, .bool false]) ∨
       ((settled n M).1.length = n ∧ ∃ a c, v = .tuple #[.slice (some a) n c, .bool true] ∧ w'.ownsRow w.heap.size 3 1 (.slice (some a) n c) n (natCells (settled n M).1))) := by
  refine ret_of_T (vs := [.pointer (some ⟨gb, 0, none⟩)]) Try.func11 Try.ntmps11 rfl (Nat.le_of_ble_eq_true rfl) ?_
  have hgl := hg.lt
  repeat (first | refine T_seq ?_ | refine T_block ?_ | refine T_inBlock ?_ | refine T_skip ?_)
  refine T_region ?_
  refine L_val _ _ (X_assign) rfl ?_
  refine L_val _ _ (X_assign) rfl ?_
  refine L_nil ?_
  repeat (first | refine T_seq ?_ | refine T_block ?_ | refine T_inBlock ?_ | refine T_skip ?_)
  refine T_region ?_
  refine L_val _ _ (X_move) rfl ?_
  refine L_callF [.pointer (some ⟨gb, 0, none⟩)] E26 rfl rfl (settle_ret gb n M w hg hn hM hM2) ?_
  rintro v w1 ⟨a, c, rfl, own, hran, hnx, b1⟩
  generalize settled n M = sd at *
  refine L_val _ _ (X_move) rfl ?_
  refine L_val _ _ (X_extract rfl rfl) rfl ?_
  refine L_val _ _ (X_extract rfl rfl) rfl ?_
  refine L_val _ _ (X_assign) rfl ?_
  refine L_nil ?_
  obtain ⟨order, done⟩ := sd
  simp only at own hran hnx ⊢
  have hol := hran.le
  have hg1 := below_blk b1 hg hgl
  repeat (first | refine T_seq ?_ | refine T_block ?_ | refine T_inBlock ?_ | refine T_skip ?_)
  refine T_region ?_
  refine L_val _ _ (X_move) rfl ?_
  refine L_val _ _ (X_lenS U49 rfl) rfl ?_
  refine L_val _ _ (X_move) rfl ?_
  refine L_val _ _ (X_nilCheck rfl) rfl ?_
  refine L_val _ _ (X_field F47_0 rfl) rfl ?_
  refine L_val _ _ (X_load A3 rfl (gblk hg1 (0 + 0) rfl)) rfl ?_
  refine L_val _ _ (X_cmp rfl rfl rfl) rfl ?_
  refine L_nil ?_
  refine T_if rfl (fun ht => ?_) (fun hf => ?_)
  · have hlt : order.length < n := by simpa [cmpB] using ht
    repeat (first | refine T_seq ?_ | refine T_block ?_ | refine T_inBlock ?_ | refine T_skip ?_)
    refine T_region ?_
    refine L_val _ _ (X_assign) rfl ?_
    refine L_val _ _ (X_assign) rfl ?_
    refine L_nil ?_
    exact T_ret2 Try.func11 rfl ⟨b1, .inl ⟨hlt, rfl⟩⟩
  · have hge : ¬ order.length < n := by simpa [cmpB] using hf
    have he : order.length = n := by omega
    repeat (first | refine T_seq ?_ | refine T_block ?_ | refine T_inBlock ?_ | refine T_skip ?_)
    refine T_region ?_
    refine L_val _ _ (X_move) rfl ?_
    refine L_val _ _ (X_assign) rfl ?_
    refine L_val _ _ (X_assign) rfl ?_
    refine L_nil ?_
    refine T_ret2 Try.func11 rfl ⟨b1, .inr ⟨he, a, c, ?_, ?_⟩⟩
    · rw [← he]; rfl
    · rw [he] at own; exact own

set_option maxHeartbeats 4000000 in
set_option maxRecDepth 10000 in
/-- (*Graph).Needs at a need that is there. -/
theorem needs_yes (gb n : Nat) (M : List Nat) (w : World) (hg : Blk w gb (gcells n M).toArray 47) (hn : n ≤ 8) (hM : M.length = 8) (hM2 : ∀ m ∈ M, m < 256) (i k : Nat) (hi : i < n) (hk : k < n) (hb : (M.getD i 0).testBit k = true) :
    Ret Try.prog 16 #[.pointer (some ⟨gb, 0, none⟩), .int .i64 i, .int .i64 k] w fun v w' => v = .bool true ∧ w' = w := by
  refine ret_of_T (vs := [.pointer (some ⟨gb, 0, none⟩), .int .i64 i, .int .i64 k]) Try.func16 Try.ntmps16 rfl (Nat.le_of_ble_eq_true rfl) ?_
  have h1 : cmpB .geq (i : Int) 0 = true := by simp [cmpB]
  have h2 : cmpB .lss (i : Int) n = true := by simp [cmpB]; omega
  have h3 : cmpB .geq (k : Int) 0 = true := by simp [cmpB]
  have h4 : cmpB .lss (k : Int) n = true := by simp [cmpB]; omega
  repeat (first | refine T_seq ?_ | refine T_block ?_ | refine T_inBlock ?_ | refine T_skip ?_)
  refine T_region ?_
  refine L_val _ _ (X_assign) rfl ?_
  refine L_nil ?_
  repeat (first | refine T_seq ?_ | refine T_block ?_ | refine T_inBlock ?_ | refine T_skip ?_)
  refine T_region ?_
  refine L_val _ _ (X_move) rfl ?_
  refine L_val _ _ (X_cmpR true rfl rfl rfl h1) rfl ?_
  refine L_val _ _ (X_move) rfl ?_
  refine L_guard rfl rfl rfl ?_
  refine L_val _ _ (X_move) rfl ?_
  refine L_guard rfl rfl rfl ?_
  refine L_val _ _ (X_move) rfl ?_
  refine L_guard rfl rfl rfl ?_
  refine L_val _ _ (X_nilCheck rfl) rfl ?_
  refine L_guard rfl rfl rfl ?_
  refine L_val _ _ (X_field F47_0 rfl) rfl ?_
  refine L_guard rfl rfl rfl ?_
  refine L_val _ _ (X_load A3 rfl (gblk hg (0 + 0) rfl)) rfl ?_
  refine L_guard rfl rfl rfl ?_
  refine L_val _ _ (X_cmpR true rfl rfl rfl h2) rfl ?_
  refine L_val _ _ (X_pick rfl) rfl ?_
  refine L_val _ _ (X_move) rfl ?_
  refine L_guard rfl rfl rfl ?_
  refine L_val _ _ (X_move) rfl ?_
  refine L_guard rfl rfl rfl ?_
  refine L_val _ _ (X_cmpR true rfl rfl rfl h3) rfl ?_
  refine L_val _ _ (X_pick rfl) rfl ?_
  refine L_val _ _ (X_move) rfl ?_
  refine L_guard rfl rfl rfl ?_
  refine L_val _ _ (X_move) rfl ?_
  refine L_guard rfl rfl rfl ?_
  refine L_val _ _ (X_move) rfl ?_
  refine L_guard rfl rfl rfl ?_
  refine L_val _ _ (X_nilCheck rfl) rfl ?_
  refine L_guard rfl rfl rfl ?_
  refine L_val _ _ (X_field F47_0 rfl) rfl ?_
  refine L_guard rfl rfl rfl ?_
  refine L_val _ _ (X_load A3 rfl (gblk hg (0 + 0) rfl)) rfl ?_
  refine L_guard rfl rfl rfl ?_
  refine L_val _ _ (X_cmpR true rfl rfl rfl h4) rfl ?_
  refine L_val _ _ (X_pick rfl) rfl ?_
  refine L_val _ _ (X_move) rfl ?_
  refine L_guard rfl rfl rfl ?_
  refine L_val _ _ (X_move) rfl ?_
  refine L_guard rfl rfl rfl ?_
  refine L_val _ _ (X_move) rfl ?_
  refine L_guard rfl rfl rfl ?_
  refine L_val _ _ (X_nilCheck rfl) rfl ?_
  refine L_guard rfl rfl rfl ?_
  refine L_val _ _ (X_field F47_1 rfl) rfl ?_
  refine L_guard rfl rfl rfl ?_
  refine L_val _ _ (X_indexA U45 S5 rfl rfl (by omega)) rfl ?_
  refine L_guard rfl rfl rfl ?_
  refine L_val _ _ (X_load A5 rfl (gblk hg (0 + 1 + i * 1) (gcells_get (Mget hM (by omega))))) rfl ?_
  refine L_guard rfl rfl rfl ?_
  refine L_val _ _ (X_move) rfl ?_
  refine L_guard rfl rfl rfl ?_
  refine L_val _ _ (X_convInt U3 U72 rfl) rfl ?_
  refine L_guard rfl rfl rfl ?_
  refine L_val _ _ (X_shl1 rfl rfl (by omega)) rfl ?_
  refine L_guard rfl rfl rfl ?_
  refine L_val _ _ (X_and8 rfl rfl (Mlt hM2 i) (pow_lt (by omega))) rfl ?_
  refine L_guard rfl rfl rfl ?_
  refine L_val _ _ (X_cmpR true rfl rfl rfl (ne0_yes (and_pow_ne hb))) rfl ?_
  refine L_val _ _ (X_pick rfl) rfl ?_
  refine L_val _ _ (X_assign) rfl ?_
  refine L_nil ?_
  exact T_ret1 Try.func16 rfl ⟨rfl, rfl⟩

theorem nodup_sub : ∀ (l1 l2 : List Nat), l1.Nodup → (∀ x ∈ l1, x ∈ l2) → l1.length ≤ l2.length
  | [], l2, _, _ => by simp
  | x :: l1, l2, hd, hs => by
    have hx := hs x (by simp)
    rw [List.nodup_cons] at hd
    have h1 := nodup_sub l1 (l2.erase x) hd.2 (fun y hy => by
      have h2 := hs y (by simp [hy])
      exact (List.mem_erase_of_ne (fun (e : y = x) => hd.1 (e ▸ hy))).2 h2)
    rw [List.length_erase_of_mem hx] at h1
    have h2 : 0 < l2.length := List.length_pos_of_mem hx
    simp only [List.length_cons]
    omega
theorem Ran.left {n : Nat} {order : List Nat} {done : Nat} (hn : n ≤ 8) (h : Ran n order done) (hl : order.length < n) : ∃ i, i < n ∧ done.testBit i = false := by
  apply Classical.byContradiction
  intro hc
  have hall : ∀ i, i < n → done.testBit i = true := fun i hi => by
    cases hb : done.testBit i with
    | true => rfl
    | false => exact absurd ⟨i, hi, hb⟩ hc
  have h1 := nodup_sub (List.range n) order List.nodup_range (fun x hx => by
    have hx' : x < n := by simpa using hx
    have h2 := h.bits x (by omega)
    rw [hall x hx'] at h2
    simpa using h2.symm)
  simp at h1
  omega
/-- Where each leg lies in the walk, plus one. -/
def seen (W : List Nat) : List Nat := (List.range 8).map fun x => if x ∈ W then W.idxOf x + 1 else 0
theorem seen_length (W : List Nat) : (seen W).length = 8 := by simp [seen]
theorem seen_get {W : List Nat} {x : Nat} (hx : x < 8) : (seen W)[x]? = some (if x ∈ W then W.idxOf x + 1 else 0) := by simp [seen, hx]
theorem seen_snoc {W : List Nat} {x : Nat} (hx : x < 8) (hn : x ∉ W) : (seen W).set x (W.length + 1) = seen (W ++ [x]) := by
  apply List.ext_getElem?
  intro i
  rw [List.getElem?_set]
  by_cases hi : i < 8
  · rw [seen_get hi, seen_get hi]
    by_cases hxi : x = i
    · subst hxi
      simp [seen_length, hi, List.idxOf_append, hn]
    · have hxi' : ¬ i = x := fun e => hxi e.symm
      simp only [hxi, if_false, List.mem_append, List.mem_singleton, hxi', or_false]
      by_cases hm : i ∈ W
      · simp [hm, List.idxOf_append]
      · simp [hm]
  · have h1 : (seen W)[i]? = none := by simp [seen]; omega
    have h2 : (seen (W ++ [x]))[i]? = none := by simp [seen]; omega
    rw [h1, h2]
    have : ¬ x = i := by omega
    simp [this]
theorem seen_nil : seen [] = [0, 0, 0, 0, 0, 0, 0, 0] := by decide
theorem natCells_get {l : List Nat} {i x : Nat} (h : l[i]? = some x) : (natCells l)[0 + i * 1]? = some (.int .i64 (x : Nat)) := by
  rw [show 0 + i * 1 = i by omega]
  simp [natCells, h]
theorem natCells_set (l : List Nat) (i x : Nat) : (natCells l).toArray.setIfInBounds (0 + i * 1) (.int .i64 (x : Nat)) = (natCells (l.set i x)).toArray := by
  rw [show 0 + i * 1 = i by omega]
  simp [natCells, List.map_set]
theorem flat_nats : ∀ W : List Nat, (W.map fun i => [Value.int .i64 (i : Nat)]).flatten = natCells W
  | [] => rfl
  | x :: W => by
    have h := flat_nats W
    unfold natCells at *
    simp [h]
/-- Each need lies within the graph. -/
def Inside (n : Nat) (M : List Nat) : Prop := ∀ i k, (M.getD i 0).testBit k = true → k < n
/-- A circle of needs. -/
structure Ring (n : Nat) (M : List Nat) (r : List Nat) : Prop where
  pos : 0 < r.length
  nodup : r.Nodup
  lt : ∀ x ∈ r, x < n
  edge : ∀ i x y, r[i]? = some x → r[(i + 1) % r.length]? = some y → (M.getD x 0).testBit y = true
/-- The walk so far: 'at_' is where it stands. -/
structure Walk (n : Nat) (M : List Nat) (done : Nat) (W : List Nat) (at_ : Nat) : Prop where
  nodup : W.Nodup
  lt : ∀ x ∈ W, x < n
  edge : ∀ i x y, W[i]? = some x → (W ++ [at_])[i + 1]? = some y → (M.getD x 0).testBit y = true
  alt : at_ < n
  abit : done.testBit at_ = false
theorem Walk.step {n : Nat} {M : List Nat} {done : Nat} {W : List Nat} {at_ nx : Nat} (h : Walk n M done W at_) (hn : at_ ∉ W) (hx : nx < n) (hb : done.testBit nx = false) (he : (M.getD at_ 0).testBit nx = true) : Walk n M done (W ++ [at_]) nx := by
  refine ⟨?_, ?_, ?_, hx, hb⟩
  · rw [List.nodup_append]
    refine ⟨h.nodup, by simp, fun a ha b hb' => ?_⟩
    simp at hb'
    subst hb'
    exact fun e => hn (e ▸ ha)
  · intro x hx
    simp only [List.mem_append, List.mem_singleton] at hx
    rcases hx with hx | rfl
    · exact h.lt x hx
    · exact h.alt
  · intro i x y hi hy
    have hil := (List.getElem?_eq_some_iff.1 hi).1
    simp only [List.length_append, List.length_singleton] at hil
    rcases Nat.lt_succ_iff_lt_or_eq.1 hil with hlt | rfl
    · rw [List.getElem?_append_left hlt] at hi
      rw [List.getElem?_append_left (by simp; omega)] at hy
      exact h.edge i x y hi hy
    · simp at hi hy
      subst hi
      subst hy
      exact he
theorem Walk.ring {n : Nat} {M : List Nat} {done : Nat} {W : List Nat} {at_ : Nat} (h : Walk n M done W at_) (hm : at_ ∈ W) : Ring n M (W.drop (W.idxOf at_)) := by
  have hs := List.idxOf_lt_length_iff.2 hm
  have hat : W[W.idxOf at_]? = some at_ := by
    rw [List.getElem?_eq_getElem hs, List.getElem_idxOf]
  generalize W.idxOf at_ = s at *
  refine ⟨by simp; omega, h.nodup.sublist (List.drop_sublist _ _), fun x hx => h.lt x (List.mem_of_mem_drop hx), fun i x y hi hy => ?_⟩
  have hil := (List.getElem?_eq_some_iff.1 hi).1
  simp only [List.length_drop] at hil hy
  rw [List.getElem?_drop] at hi hy
  by_cases hlast : i + 1 = W.length - s
  · rw [hlast, Nat.mod_self, Nat.add_zero, hat] at hy
    refine h.edge (s + i) x y hi ?_
    rw [show s + i + 1 = W.length by omega]
    simpa using hy
  · rw [Nat.mod_eq_of_lt (by omega)] at hy
    refine h.edge (s + i) x y hi ?_
    rw [List.getElem?_append_left (by omega), show s + i + 1 = s + (i + 1) by omega]
    exact hy

set_option maxHeartbeats 4000000 in
set_option maxRecDepth 10000 in
/-- (*Graph).FindCycle -/
theorem cycle_ret (gb n : Nat) (M : List Nat) (w : World) (hg : Blk w gb (gcells n M).toArray 47) (hn : n ≤ 8) (hM : M.length = 8) (hM2 : ∀ m ∈ M, m < 256) (hin : Inside n M) :
    Ret Try.prog 15 #[.pointer (some ⟨gb, 0, none⟩)] w fun v w' => Below w.heap.size w w' ∧
      (((settled n M).1.length = n ∧ v = .slice none 0 0) ∨
       ((settled n M).1.length < n ∧ ∃ (b o : Nat) (r : List Nat) (c : Nat), v = .slice (some ⟨b, o, none⟩) r.length c ∧ r.length ≤ c ∧ Ring n M r ∧ b < w'.heap.size ∧ ∀ i x, r[i]? = some x → w'.cell? ⟨b, o + i * 1, none⟩ = some (.int .i64 (x : Nat)))) := by
  refine ret_of_T (vs := [.pointer (some ⟨gb, 0, none⟩)]) Try.func15 Try.ntmps15 rfl (Nat.le_of_ble_eq_true rfl) ?_
  have hgl := hg.lt
  repeat (first | refine T_seq ?_ | refine T_block ?_ | refine T_inBlock ?_ | refine T_skip ?_)
  refine T_region ?_
  refine L_val _ _ (X_assign) rfl ?_
  refine L_nil ?_
  repeat (first | refine T_seq ?_ | refine T_block ?_ | refine T_inBlock ?_ | refine T_skip ?_)
  refine T_region ?_
  refine L_val _ _ (X_move) rfl ?_
  refine L_callF [.pointer (some ⟨gb, 0, none⟩)] E26 rfl rfl (settle_ret gb n M w hg hn hM hM2) ?_
  rintro v w1 ⟨a, c, rfl, own, hran, hnx, b1⟩
  generalize settled n M = sd at *
  refine L_val _ _ (X_move) rfl ?_
  refine L_val _ _ (X_extract rfl rfl) rfl ?_
  refine L_val _ _ (X_extract rfl rfl) rfl ?_
  refine L_val _ _ (X_assign) rfl ?_
  refine L_val _ _ (X_assign) rfl ?_
  refine L_nil ?_
  obtain ⟨order, done⟩ := sd
  simp only at own hran hnx ⊢
  have hol := hran.le
  have hg1 := below_blk b1 hg hgl
  have hds := hran.small
  repeat (first | refine T_seq ?_ | refine T_block ?_ | refine T_inBlock ?_ | refine T_skip ?_)
  refine T_region ?_
  refine L_val _ _ (X_move) rfl ?_
  refine L_val _ _ (X_lenS U49 rfl) rfl ?_
  refine L_val _ _ (X_move) rfl ?_
  refine L_val _ _ (X_nilCheck rfl) rfl ?_
  refine L_val _ _ (X_field F47_0 rfl) rfl ?_
  refine L_val _ _ (X_load A3 rfl (gblk hg1 (0 + 0) rfl)) rfl ?_
  refine L_val _ _ (X_cmp rfl rfl rfl) rfl ?_
  refine L_nil ?_
  refine T_if rfl (fun ht => ?_) (fun hf => ?_)
  · have he : order.length = n := by simp [cmpB] at ht; omega
    repeat (first | refine T_seq ?_ | refine T_block ?_ | refine T_inBlock ?_ | refine T_skip ?_)
    refine T_region ?_
    refine L_val _ _ (X_assign) rfl ?_
    refine L_nil ?_
    exact T_ret1 Try.func15 rfl ⟨b1, .inl ⟨he, rfl⟩⟩
  have hne : ¬ order.length = n := by simp [cmpB] at hf; omega
  have hlt : order.length < n := by omega
  obtain ⟨i0, hi0, hb0⟩ := hran.left hn hlt
  have hcan : ∀ j, j < n → done.testBit j = false → andn (M.getD j 0) done ≠ 0 := fun j hj hb => by
    have h1 : canRun M done j = false := by
      cases hc : canRun M done j with
      | false => rfl
      | true =>
        unfold nextOf at hnx
        rw [List.find?_eq_none] at hnx
        exact absurd hc (hnx j (by simpa using hj))
    unfold canRun at h1
    rw [hb] at h1
    simpa using h1
  have s1 := b1.size
  repeat (first | refine T_seq ?_ | refine T_block ?_ | refine T_inBlock ?_ | refine T_skip ?_)
  refine T_region ?_
  refine L_val _ _ (X_assign) rfl ?_
  refine L_nil ?_
  repeat (first | refine T_seq ?_ | refine T_block ?_ | refine T_inBlock ?_ | refine T_skip ?_)
  refine T_loopS [5, 4, 0] (fun m vs y => ∃ at_ : Nat, vs = [.int .i64 at_, .int .u8 (done : Nat), .pointer (some ⟨gb, 0, none⟩)] ∧ at_ ≤ i0 ∧ m = i0 - at_ ∧ w1 = y) i0
    ⟨0, rfl, by omega, rfl, rfl⟩ ?_
  rintro m vs ρ y ⟨at_, rfl, hat, rfl, rfl⟩ ih
  have ha8 : at_ < 8 := by omega
  cases hba : done.testBit at_ with
  | true =>
    have hne0 : at_ ≠ i0 := fun e => by subst e; rw [hb0] at hba; cases hba
    repeat (first | refine T_seq ?_ | refine T_block ?_ | refine T_inBlock ?_ | refine T_skip ?_)
    refine T_region ?_
    refine L_val _ _ (X_move) rfl ?_
    refine L_val _ _ (X_move) rfl ?_
    refine L_val _ _ (X_convInt U3 U72 rfl) rfl ?_
    refine L_val _ _ (X_shl1 rfl rfl ha8) rfl ?_
    refine L_val _ _ (X_and8 rfl rfl hds (pow_lt ha8)) rfl ?_
    refine L_val _ _ (X_cmpR true rfl rfl rfl (ne0_yes (and_pow_ne hba))) rfl ?_
    refine L_nil ?_
    refine T_true rfl ?_
    repeat (first | refine T_seq ?_ | refine T_block ?_ | refine T_inBlock ?_ | refine T_skip ?_)
    refine T_region ?_
    refine L_val _ _ (X_move) rfl ?_
    refine L_val _ _ (X_add rfl rfl (by omega) (by omega)) rfl ?_
    refine L_val _ _ (X_assign) rfl ?_
    refine L_nil ?_
    repeat (first | refine T_seq ?_ | refine T_block ?_ | refine T_inBlock ?_ | refine T_skip ?_)
    exact ih _ _ _ (by omega) ⟨at_ + 1, rfl, by omega, rfl, rfl⟩
  | false =>
  repeat (first | refine T_seq ?_ | refine T_block ?_ | refine T_inBlock ?_ | refine T_skip ?_)
  refine T_region ?_
  refine L_val _ _ (X_move) rfl ?_
  refine L_val _ _ (X_move) rfl ?_
  refine L_val _ _ (X_convInt U3 U72 rfl) rfl ?_
  refine L_val _ _ (X_shl1 rfl rfl ha8) rfl ?_
  refine L_val _ _ (X_and8 rfl rfl hds (pow_lt ha8)) rfl ?_
  refine L_val _ _ (X_cmpR false rfl rfl rfl (ne0_no (and_pow_zero.2 hba))) rfl ?_
  refine L_nil ?_
  refine T_false rfl ?_
  refine T_exit rfl ?_
  clear ih
  repeat (first | refine T_seq ?_ | refine T_block ?_ | refine T_inBlock ?_ | refine T_skip ?_)
  refine T_region ?_
  refine L_alloc Z79 rfl fun w2 h2 => ?_
  refine L_nil ?_
  have b2 : Below w.heap.size w w2 := h2.below b1 s1
  have k6 : Blk w2 w1.heap.size (natCells (seen [])).toArray 79 := by rw [seen_nil]; exact h2.new
  have hB6 : w.heap.size ≤ w1.heap.size := s1
  clear h2
  generalize w1.heap.size = B6 at *
  repeat (first | refine T_seq ?_ | refine T_block ?_ | refine T_inBlock ?_ | refine T_skip ?_)
  refine T_region ?_
  refine L_val _ _ (X_assign) rfl ?_
  refine L_nil ?_
  repeat (first | refine T_seq ?_ | refine T_block ?_ | refine T_inBlock ?_ | refine T_skip ?_)
  refine T_loopS [5, 7, 6, 4, 0] (fun m vs y => ∃ (at_ : Nat) (W : List Nat) (a : Option Addr) (c : Nat), vs = [.int .i64 at_, .slice a W.length c, .pointer (some ⟨B6, 0, none⟩), .int .u8 (done : Nat), .pointer (some ⟨gb, 0, none⟩)] ∧ m = 8 - W.length ∧ Below w.heap.size w y ∧ Blk y B6 (natCells (seen W)).toArray 79 ∧ y.ownsRow w.heap.size 3 1 (.slice a W.length c) W.length (natCells W) ∧ Walk n M done W at_) 8
    ⟨at_, [], none, 0, rfl, rfl, b2, k6, World.ownsRow_nil _ _ _ _, ⟨List.nodup_nil, by simp, by simp, by omega, hba⟩⟩ ?_
  clear k6 b2 hat hba ha8
  rintro m vs ρ2 y ⟨at_, W, a, c, rfl, rfl, by_, k6, own, hw⟩ ih
  have ha8 : at_ < 8 := by have := hw.alt; omega
  have hWl : W.length ≤ n := nodup_le n W hw.nodup hw.lt
  have sy := by_.size
  have hgy := below_blk by_ hg hgl
  have hsg := seen_get (W := W) ha8
  by_cases hm : at_ ∈ W
  · have hidx := List.idxOf_lt_length_iff.2 hm
    have hring := hw.ring hm
    rw [if_pos hm] at hsg
    generalize hs : W.idxOf at_ = s at *
    repeat (first | refine T_seq ?_ | refine T_block ?_ | refine T_inBlock ?_ | refine T_skip ?_)
    refine T_region ?_
    refine L_val _ _ (X_move) rfl ?_
    refine L_val _ _ (X_indexA U79 S3 rfl rfl ha8) rfl ?_
    refine L_val _ _ (X_load A3 rfl (gblk k6 (0 + at_ * 1) (natCells_get hsg))) rfl ?_
    refine L_val _ _ (X_cmpR false rfl rfl rfl (eq0_no (by omega))) rfl ?_
    refine L_nil ?_
    refine T_false rfl ?_
    refine T_exit rfl ?_
    obtain ⟨g', cur, rfl, hg0, kW, hcs, hcs2, hnc, hcm, htk⟩ := owns_blk own (by omega)
    have hsl : s ≤ W.length := by omega
    have hsc : s < c := by omega
    repeat (first | refine T_seq ?_ | refine T_block ?_ | refine T_inBlock ?_ | refine T_skip ?_)
    refine T_region ?_
    refine L_val _ _ (X_move) rfl ?_
    refine L_val _ _ (X_move) rfl ?_
    refine L_val _ _ (X_indexA U79 S3 rfl rfl ha8) rfl ?_
    refine L_val _ _ (X_load A3 rfl (gblk k6 (0 + at_ * 1) (natCells_get hsg))) rfl ?_
    refine L_val (.int .i64 (s : Nat)) y ((X_sub rfl rfl (by omega) (by omega)).trans (by rw [show ((s + 1 : Nat) : Int) - 1 = (s : Nat) by omega])) rfl ?_
    refine L_val _ _ (X_sliceL U49 S3 rfl rfl hsl hsc) rfl ?_
    refine L_val _ _ (X_assign) rfl ?_
    refine L_nil ?_
    refine T_ret1 Try.func15 rfl ⟨by_, .inr ⟨hlt, g', 0 + s * 1, W.drop s, c - s, ?_, by simp; omega, hring, kW.lt, fun i x hx => ?_⟩⟩
    · rw [List.length_drop]; rfl
    · rw [List.getElem?_drop] at hx
      have e := (owns_arr (css := W.map fun i => [Value.int .i64 (i : Nat)]) (a := some ⟨g', 0, none⟩) (w := y) (base := w.heap.size) (e := 3) (sz := 1) (n := W.length) (c := c) (by rw [flat_nats]; exact own) (by simp) (by simp)).cell (s + i) [.int .i64 (x : Nat)] (by simp [hx])
      obtain ⟨b', o', hbo, _, hcc⟩ := e
      simp only [Option.some.injEq, Addr.mk.injEq, and_true] at hbo
      obtain ⟨rfl, rfl⟩ := hbo
      have := hcc 0 _ rfl
      rw [show 0 + s * 1 + i * 1 = 0 + (s + i) * 1 + 0 by omega]
      exact this
  · rw [if_neg hm] at hsg
    have hopn := hcan at_ hw.alt hw.abit
    have hopl := andn_lt (m := M.getD at_ 0) (k := done) (Mlt hM2 at_)
    obtain ⟨k0, hk0, hkb⟩ := bit_of_pos hopl hopn
    generalize hopen : andn (M.getD at_ 0) done = opn at *
    have hWl1 : W.length + 1 ≤ n := by
      have h1 := nodup_le n (W ++ [at_]) (by
        rw [List.nodup_append]
        refine ⟨hw.nodup, by simp, fun a ha b hb' => ?_⟩
        simp at hb'
        subst hb'
        exact fun e => hm (e ▸ ha)) (fun x hx => by
        simp only [List.mem_append, List.mem_singleton] at hx
        rcases hx with hx | rfl
        · exact hw.lt x hx
        · exact hw.alt)
      simpa using h1
    repeat (first | refine T_seq ?_ | refine T_block ?_ | refine T_inBlock ?_ | refine T_skip ?_)
    refine T_region ?_
    refine L_val _ _ (X_move) rfl ?_
    refine L_val _ _ (X_indexA U79 S3 rfl rfl ha8) rfl ?_
    refine L_val _ _ (X_load A3 rfl (gblk k6 (0 + at_ * 1) (natCells_get hsg))) rfl ?_
    refine L_val _ _ (X_cmpR true rfl rfl rfl (eq0_yes rfl)) rfl ?_
    refine L_nil ?_
    refine T_true rfl ?_
    repeat (first | refine T_seq ?_ | refine T_block ?_ | refine T_inBlock ?_ | refine T_skip ?_)
    refine T_region ?_
    refine L_val _ _ (X_move) rfl ?_
    refine L_val _ _ (X_move) rfl ?_
    refine L_buildSlice #[.int .i64 (at_ : Nat)] 3 (by kernel_rfl) rfl fun w3 h3 => ?_
    refine L_append1 w.heap.size (.slice a W.length c) W.length (natCells W) y.heap.size [.int .i64 (at_ : Nat)] Try.underlying49 I3 rfl (by decide) rfl (owns_new h3 own) rfl rfl h3.new (by simp [Value.oneCell']) (by simp only [maxLen]; omega) (by omega) (by have := h3.size; omega) rfl fun v4 w4 o4 g4 => ?_
    obtain ⟨a4, c4, rfl, _, _⟩ := owns_val o4
    refine L_val _ _ (X_assign) rfl ?_
    refine L_nil ?_
    have o3 := owns_new h3 own
    have b4 : Below w.heap.size w w4 := grown_below (h3.below by_ sy) o3 g4 (by have := h3.size; omega) (Nat.le_refl _)
    have k64 := grown_blk_ty o3 g4 (h3.blk k6 (by have := k6.lt; omega)) (by decide)
    have hg4 := below_blk b4 hg hgl
    repeat (first | refine T_seq ?_ | refine T_block ?_ | refine T_inBlock ?_ | refine T_skip ?_)
    refine T_region ?_
    refine L_val _ _ (X_move) rfl ?_
    refine L_val _ _ (X_move) rfl ?_
    refine L_val _ _ (X_lenS U49 rfl) rfl ?_
    refine L_val _ _ (X_indexA U79 S3 rfl rfl ha8) rfl ?_
    refine L_store (.int .i64 ((W.length + 1 : Nat) : Int)) S3 rfl rfl rfl k64 (by simp [natCells, seen_length]; omega) fun w5 h5 => ?_
    refine L_nil ?_
    have b5 : Below w.heap.size w w5 := h5.below b4 hB6
    have k65 : Blk w5 B6 (natCells (seen (W ++ [at_]))).toArray 79 := by
      have e := h5.new
      rw [natCells_set, seen_snoc ha8 hm] at e
      exact e
    have o5 := owns_chg h5 (.inl k64) (by decide) o4
    have hg5 := below_blk b5 hg hgl
    clear h3 h5 g4 o3 o4 b4 k64 hg4
    repeat (first | refine T_seq ?_ | refine T_block ?_ | refine T_inBlock ?_ | refine T_skip ?_)
    refine T_region ?_
    refine L_val _ _ (X_move) rfl ?_
    refine L_val _ _ (X_move) rfl ?_
    refine L_val _ _ (X_nilCheck rfl) rfl ?_
    refine L_val _ _ (X_field F47_1 rfl) rfl ?_
    refine L_val _ _ (X_indexA U45 S5 rfl rfl ha8) rfl ?_
    refine L_val _ _ (X_load A5 rfl (gblk hg5 (0 + 1 + at_ * 1) (gcells_get (Mget hM ha8)))) rfl ?_
    refine L_val _ _ (X_move) rfl ?_
    refine L_val _ _ (X_andn8 rfl rfl (Mlt hM2 at_) hds) rfl ?_
    refine L_val _ _ (X_assign) rfl ?_
    refine L_nil ?_
    rw [hopen]
    repeat (first | refine T_seq ?_ | refine T_block ?_ | refine T_inBlock ?_ | refine T_skip ?_)
    refine T_region ?_
    refine L_val _ _ (X_assign) rfl ?_
    refine L_nil ?_
    repeat (first | refine T_seq ?_ | refine T_block ?_ | refine T_inBlock ?_ | refine T_skip ?_)
    refine T_loopS [9, 8, 5, 7, 6, 4, 0] (fun m vs z => ∃ nx : Nat, vs = [.int .i64 nx, .int .u8 (opn : Nat), .int .i64 at_, .slice a4 (W.length + 1) c4, .pointer (some ⟨B6, 0, none⟩), .int .u8 (done : Nat), .pointer (some ⟨gb, 0, none⟩)] ∧ nx ≤ k0 ∧ m = k0 - nx ∧ w5 = z) k0
      ⟨0, rfl, by omega, rfl, rfl⟩ ?_
    rintro m vs ρ3 z ⟨nx, rfl, hnk, rfl, rfl⟩ ih3
    have hn8 : nx < 8 := by omega
    cases hbn : opn.testBit nx with
    | false =>
      have hne0 : nx ≠ k0 := fun e => by subst e; rw [hkb] at hbn; cases hbn
      repeat (first | refine T_seq ?_ | refine T_block ?_ | refine T_inBlock ?_ | refine T_skip ?_)
      refine T_region ?_
      refine L_val _ _ (X_move) rfl ?_
      refine L_val _ _ (X_move) rfl ?_
      refine L_val _ _ (X_convInt U3 U72 rfl) rfl ?_
      refine L_val _ _ (X_shl1 rfl rfl hn8) rfl ?_
      refine L_val _ _ (X_and8 rfl rfl hopl (pow_lt hn8)) rfl ?_
      refine L_val _ _ (X_cmpR true rfl rfl rfl (eq0_yes (and_pow_zero.2 hbn))) rfl ?_
      refine L_nil ?_
      refine T_true rfl ?_
      repeat (first | refine T_seq ?_ | refine T_block ?_ | refine T_inBlock ?_ | refine T_skip ?_)
      refine T_region ?_
      refine L_val _ _ (X_move) rfl ?_
      refine L_val _ _ (X_add rfl rfl (by omega) (by omega)) rfl ?_
      refine L_val _ _ (X_assign) rfl ?_
      refine L_nil ?_
      repeat (first | refine T_seq ?_ | refine T_block ?_ | refine T_inBlock ?_ | refine T_skip ?_)
      exact ih3 _ _ _ (by omega) ⟨nx + 1, rfl, by omega, rfl, rfl⟩
    | true =>
      have hb2 := hbn
      rw [← hopen, test_andn hn8] at hb2
      simp only [Bool.and_eq_true, Bool.not_eq_true'] at hb2
      have hstep := hw.step hm (hin _ _ hb2.1) hb2.2 hb2.1
      repeat (first | refine T_seq ?_ | refine T_block ?_ | refine T_inBlock ?_ | refine T_skip ?_)
      refine T_region ?_
      refine L_val _ _ (X_move) rfl ?_
      refine L_val _ _ (X_move) rfl ?_
      refine L_val _ _ (X_convInt U3 U72 rfl) rfl ?_
      refine L_val _ _ (X_shl1 rfl rfl hn8) rfl ?_
      refine L_val _ _ (X_and8 rfl rfl hopl (pow_lt hn8)) rfl ?_
      refine L_val _ _ (X_cmpR false rfl rfl rfl (eq0_no (and_pow_ne hbn))) rfl ?_
      refine L_nil ?_
      refine T_false rfl ?_
      refine T_exit rfl ?_
      refine T_region ?_
      refine L_val _ _ (X_move) rfl ?_
      refine L_val _ _ (X_assign) rfl ?_
      refine L_nil ?_
      repeat (first | refine T_seq ?_ | refine T_block ?_ | refine T_inBlock ?_ | refine T_skip ?_)
      have hl1 : (W ++ [at_]).length = W.length + 1 := by simp
      refine ih (8 - (W.length + 1)) _ _ (by omega) ⟨nx, W ++ [at_], a4, c4, ?_, by rw [hl1], b5, k65, ?_, hstep⟩
      · rw [hl1]; rfl
      · rw [hl1]; simpa [natCells] using o5
end Go.Proofs.Qxb6500865a
