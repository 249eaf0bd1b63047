/-
  The plain law behind OrderIsLeast: the search through all permutations, in the dictionary's order, finds first what the greedy order finds.
-/
import Derived.Test.Qxb6500865aCyc
namespace Go.Proofs.Qxb6500865a
set_option linter.unusedSimpArgs false
set_option linter.unusedVariables false

section
variable (R : List Nat → Nat → Bool) (n : Nat)
def fitsF : List Nat → List Nat → Bool
  | _, [] => true
  | pre, i :: l => R pre i && fitsF (pre ++ [i]) l
def search : Nat → List Nat → Option (List Nat)
  | 0, pre => if fitsF R [] pre then some pre else none
  | k + 1, pre => (List.range n).findSome? fun i => if pre.contains i then none else search k (pre ++ [i])
def greedy : Nat → List Nat → List Nat
  | 0, pre => pre
  | k + 1, pre => match (List.range n).find? (fun i => !pre.contains i && R pre i) with
    | none => pre
    | some i => greedy k (pre ++ [i])
structure Comp (pre l : List Nat) : Prop where
  nodup : (pre ++ l).Nodup
  lt : ∀ x ∈ pre ++ l, x < n
  len : (pre ++ l).length = n
  fits : fitsF R [] (pre ++ l) = true
end
variable {R : List Nat → Nat → Bool} {n : Nat}

theorem fitsF_append : ∀ (a b pre : List Nat), fitsF R pre (a ++ b) = (fitsF R pre a && fitsF R (pre ++ a) b)
  | [], b, pre => by simp [fitsF]
  | x :: a, b, pre => by
    simp only [List.cons_append, fitsF]
    rw [fitsF_append a b (pre ++ [x]), Bool.and_assoc, List.append_assoc]
    rfl
theorem fitsF_mono (hm : ∀ pre pre' i, (∀ x ∈ pre, x ∈ pre') → R pre i = true → R pre' i = true) : ∀ (l pre pre' : List Nat), (∀ x ∈ pre, x ∈ pre') → fitsF R pre l = true → fitsF R pre' l = true
  | [], _, _, _, _ => rfl
  | i :: l, pre, pre', hs, h => by
    simp only [fitsF, Bool.and_eq_true] at h ⊢
    refine ⟨hm _ _ _ hs h.1, fitsF_mono hm l _ _ ?_ h.2⟩
    intro x hx
    rcases List.mem_append.1 hx with h' | h'
    · exact List.mem_append_left _ (hs x h')
    · exact List.mem_append_right _ h'
theorem full_mem {l : List Nat} (hd : l.Nodup) (hlt : ∀ x ∈ l, x < n) (hl : l.length = n) {i : Nat} (hi : i < n) : i ∈ l := by
  rcases Decidable.em (i ∈ l) with h | h
  · exact h
  · have := nodup_le n (i :: l) (List.nodup_cons.2 ⟨h, hd⟩) (by
      intro x hx
      rcases List.mem_cons.1 hx with rfl | hx
      · exact hi
      · exact hlt x hx)
    simp at this
    omega

theorem search_sound : ∀ (k : Nat) (pre p : List Nat), search R n k pre = some p → pre.length + k = n → pre.Nodup → (∀ x ∈ pre, x < n) → ∃ l, p = pre ++ l ∧ Comp R n pre l
  | 0, pre, p, h, hk, hd, hlt => by
    simp only [search] at h
    split at h
    · rename_i hf
      cases h
      exact ⟨[], by simp, by simpa using hd, by simpa using hlt, by simp; omega, by simpa using hf⟩
    · cases h
  | k + 1, pre, p, h, hk, hd, hlt => by
    simp only [search] at h
    obtain ⟨i, hi, hs⟩ := List.exists_of_findSome?_eq_some h
    have hin : i < n := by simpa using hi
    split at hs
    · cases hs
    · rename_i hc
      have hni : i ∉ pre := by simpa using hc
      obtain ⟨l, rfl, hC⟩ := search_sound k (pre ++ [i]) p hs (by simp; omega) (by
        rw [List.nodup_append]
        exact ⟨hd, by simp, by simp; intro a ha he; exact hni (he ▸ ha)⟩) (by
        intro x hx
        rcases List.mem_append.1 hx with h' | h'
        · exact hlt x h'
        · simp at h'; omega)
      refine ⟨i :: l, by simp, ?_⟩
      have e : pre ++ i :: l = pre ++ [i] ++ l := by simp
      exact ⟨by rw [e]; exact hC.nodup, by rw [e]; exact hC.lt, by rw [e]; exact hC.len, by rw [e]; exact hC.fits⟩
theorem search_complete : ∀ (l pre : List Nat), Comp R n pre l → (search R n l.length pre).isSome = true
  | [], pre, h => by
    have := h.fits
    simp only [List.append_nil] at this
    simp [search, this]
  | x :: l, pre, h => by
    simp only [List.length_cons, search]
    have hx : x < n := h.lt x (by simp)
    have e : pre ++ x :: l = pre ++ [x] ++ l := by simp
    have hC : Comp R n (pre ++ [x]) l := ⟨by rw [← e]; exact h.nodup, by rw [← e]; exact h.lt, by rw [← e]; exact h.len, by rw [← e]; exact h.fits⟩
    have hs := search_complete l (pre ++ [x]) hC
    have hni : x ∉ pre := by
      have := h.nodup
      rw [List.nodup_append] at this
      intro hm
      exact this.2.2 x hm x (by simp) rfl
    rw [List.findSome?_isSome_iff]
    exact ⟨x, by simpa using hx, by simpa [hni] using hs⟩
theorem exchange (hm : ∀ pre pre' i, (∀ x ∈ pre, x ∈ pre') → R pre i = true → R pre' i = true) {pre l : List Nat} (h : Comp R n pre l) {i : Nat} (hi : i < n) (hni : i ∉ pre) (hR : R pre i = true) : ∃ l', Comp R n (pre ++ [i]) l' := by
  have hmem := full_mem h.nodup h.lt h.len hi
  have hil : i ∈ l := by
    rcases List.mem_append.1 hmem with h' | h'
    · exact absurd h' hni
    · exact h'
  obtain ⟨a, b, rfl⟩ := List.append_of_mem hil
  refine ⟨a ++ b, ?_⟩
  have hp : (pre ++ (a ++ i :: b)).Perm (pre ++ [i] ++ (a ++ b)) := by
    rw [List.append_assoc]
    refine List.Perm.append_left _ ?_
    simp
  refine ⟨hp.nodup_iff.1 h.nodup, fun x hx => h.lt x (hp.mem_iff.2 hx), hp.length_eq ▸ h.len, ?_⟩
  have hf := h.fits
  rw [fitsF_append, fitsF_append] at hf
  simp only [List.nil_append, fitsF, Bool.and_eq_true] at hf
  obtain ⟨h1, h2, h3, h4⟩ := hf
  rw [List.append_assoc, fitsF_append]
  simp only [List.nil_append, List.singleton_append, fitsF, Bool.and_eq_true]
  refine ⟨h1, hR, ?_⟩
  rw [fitsF_append]
  simp only [Bool.and_eq_true]
  refine ⟨fitsF_mono hm a _ _ (fun x hx => List.mem_append_left _ hx) h2, fitsF_mono hm b _ _ ?_ h4⟩
  intro x hx
  simp only [List.mem_append, List.mem_singleton] at hx ⊢
  rcases hx with (h' | h') | h'
  · exact .inl (.inl h')
  · exact .inr h'
  · exact .inl (.inr h')
theorem greedy_inv : ∀ (k : Nat) (pre : List Nat), pre.length + k = n → pre.Nodup → (∀ x ∈ pre, x < n) → fitsF R [] pre = true → ∃ l, greedy R n k pre = pre ++ l ∧ (pre ++ l).Nodup ∧ (∀ x ∈ pre ++ l, x < n) ∧ fitsF R [] (pre ++ l) = true ∧ (pre ++ l).length ≤ n
  | 0, pre, hk, hd, hlt, hf => ⟨[], by simp [greedy], by simpa using hd, by simpa using hlt, by simpa using hf, by simp; omega⟩
  | k + 1, pre, hk, hd, hlt, hf => by
    simp only [greedy]
    cases hfd : (List.range n).find? (fun i => !pre.contains i && R pre i) with
    | none => exact ⟨[], by simp, by simpa using hd, by simpa using hlt, by simpa using hf, by simp; omega⟩
    | some i =>
      have hs := List.find?_some hfd
      have hi : i < n := by simpa using List.mem_of_find?_eq_some hfd
      simp only [Bool.and_eq_true, Bool.not_eq_true'] at hs
      have hni : i ∉ pre := by simpa using hs.1
      obtain ⟨l, e, h1, h2, h3, h4⟩ := greedy_inv k (pre ++ [i]) (by simp; omega) (by
        rw [List.nodup_append]
        exact ⟨hd, by simp, by simp; intro a ha he; exact hni (he ▸ ha)⟩) (by
        intro x hx
        rcases List.mem_append.1 hx with h' | h'
        · exact hlt x h'
        · simp at h'; omega) (by rw [fitsF_append]; simp [fitsF, hf, hs.2])
      have e2 : pre ++ i :: l = pre ++ [i] ++ l := by simp
      exact ⟨i :: l, by rw [e2]; exact e, by rw [e2]; exact h1, by rw [e2]; exact h2, by rw [e2]; exact h3, by rw [e2]; exact h4⟩
/-- The search finds what the greedy order finds. -/
theorem search_greedy (hm : ∀ pre pre' i, (∀ x ∈ pre, x ∈ pre') → R pre i = true → R pre' i = true) : ∀ (k : Nat) (pre l : List Nat), pre.length + k = n → pre.Nodup → (∀ x ∈ pre, x < n) → fitsF R [] pre = true → Comp R n pre l → search R n k pre = some (greedy R n k pre) ∧ (greedy R n k pre).length = n
  | 0, pre, l, hk, hd, hlt, hf, hC => by
    simp [search, greedy, hf]
    omega
  | k + 1, pre, l, hk, hd, hlt, hf, hC => by
    obtain ⟨x, l', rfl⟩ : ∃ x l', l = x :: l' := by
      cases l with
      | nil => have := hC.len; simp at this; omega
      | cons x l' => exact ⟨x, l', rfl⟩
    have hfx := hC.fits
    rw [fitsF_append] at hfx
    simp only [List.nil_append, fitsF, Bool.and_eq_true] at hfx
    have hxn : x < n := hC.lt x (by simp)
    have hxni : x ∉ pre := by
      have := hC.nodup
      rw [List.nodup_append] at this
      intro hmm
      exact this.2.2 x hmm x (by simp) rfl
    have hsome : ((List.range n).find? (fun i => !pre.contains i && R pre i)).isSome = true := by
      rw [List.find?_isSome]
      exact ⟨x, by simpa using hxn, by simp [hxni, hfx.2.1]⟩
    obtain ⟨i, hfd⟩ := Option.isSome_iff_exists.1 hsome
    have hs := List.find?_some hfd
    have hi : i < n := by simpa using List.mem_of_find?_eq_some hfd
    simp only [Bool.and_eq_true, Bool.not_eq_true'] at hs
    have hni : i ∉ pre := by simpa using hs.1
    have hd' : (pre ++ [i]).Nodup := by
      rw [List.nodup_append]
      exact ⟨hd, by simp, by simp; intro a ha he; exact hni (he ▸ ha)⟩
    have hlt' : ∀ x ∈ pre ++ [i], x < n := by
      intro x hx
      rcases List.mem_append.1 hx with h' | h'
      · exact hlt x h'
      · simp at h'; omega
    obtain ⟨l2, hC2⟩ := exchange hm hC hi hni hs.2
    obtain ⟨h1, h2⟩ := search_greedy hm k (pre ++ [i]) l2 (by simp; omega) hd' hlt' (by rw [fitsF_append]; simp [fitsF, hf, hs.2]) hC2
    have hg : greedy R n (k + 1) pre = greedy R n k (pre ++ [i]) := by simp only [greedy]; rw [hfd]
    rw [hg]
    refine ⟨?_, h2⟩
    rw [List.find?_eq_some_iff_getElem] at hfd
    obtain ⟨_, j, hj, hji, hbef⟩ := hfd
    have hj' : j = i := by simpa using hji
    subst hj'
    simp only [search]
    rw [List.findSome?_eq_some_iff]
    refine ⟨(List.range n).take j, j, (List.range n).drop (j + 1), ?_, by simpa [hni] using h1, ?_⟩
    · have h9 : (List.range n)[j]'hj = j := by simp
      calc List.range n = (List.range n).take j ++ (List.range n).drop j := (List.take_append_drop _ _).symm
        _ = _ := by rw [List.drop_eq_getElem_cons hj, h9]
    · intro t ht
      obtain ⟨u, hu, hut⟩ := List.mem_iff_getElem.1 ht
      have hu' : u < j := by simp at hu; omega
      have ht' : t = u := by rw [← hut]; simp
      subst ht'
      have hb := hbef t hu'
      simp only [List.getElem_range, Bool.not_eq_true', Bool.and_eq_false_iff, Bool.not_eq_false'] at hb
      rcases Decidable.em (t ∈ pre) with hin | hin
      · simp [hin]
      · have hR : R pre t = false := by
          rcases hb with h' | h'
          · simp [hin] at h'
          · exact h'
        have hc : pre.contains t = false := by simpa using hin
        rw [hc]
        simp only [Bool.false_eq_true, if_false]
        cases hsr : search R n k (pre ++ [t]) with
        | none => rfl
        | some p =>
          obtain ⟨l3, _, hC3⟩ := search_sound k (pre ++ [t]) p hsr (by simp; omega) (by
            rw [List.nodup_append]
            exact ⟨hd, by simp, by simp; intro a ha he; exact hin (he ▸ ha)⟩) (by
            intro y hy
            rcases List.mem_append.1 hy with h' | h'
            · exact hlt y h'
            · simp at h'; omega)
          have := hC3.fits
          rw [List.append_assoc, fitsF_append] at this
          simp [fitsF, hR] at this
/-- What the search finds, and what the greedy order comes to. -/
theorem search_zero (hm : ∀ pre pre' i, (∀ x ∈ pre, x ∈ pre') → R pre i = true → R pre' i = true) :
    (search R n n [] = some (greedy R n n []) ∧ (greedy R n n []).length = n ∧ fitsF R [] (greedy R n n []) = true) ∨ (search R n n [] = none ∧ (greedy R n n []).length < n) := by
  by_cases h : ∃ l, Comp R n [] l
  · obtain ⟨l, hC⟩ := h
    obtain ⟨h1, h2⟩ := search_greedy hm n [] l (by simp) List.nodup_nil (by simp) rfl hC
    obtain ⟨l2, e, _, _, hf, _⟩ := greedy_inv (R := R) (n := n) n [] (by simp) List.nodup_nil (by simp) rfl
    exact .inl ⟨h1, h2, by rw [e]; exact hf⟩
  · refine .inr ⟨?_, ?_⟩
    · cases hs : search R n n [] with
      | none => rfl
      | some p =>
        obtain ⟨l, _, hC⟩ := search_sound n [] p hs (by simp) List.nodup_nil (by simp)
        exact absurd ⟨l, hC⟩ h
    · obtain ⟨l2, e, h1, h2, hf, hl⟩ := greedy_inv (R := R) (n := n) n [] (by simp) List.nodup_nil (by simp) rfl
      rw [e]
      rcases Nat.lt_or_ge ([] ++ l2).length n with h' | h'
      · exact h'
      · exact absurd ⟨l2, ⟨h1, h2, by omega, hf⟩⟩ h

theorem find_congr {p q : Nat → Bool} : ∀ (l : List Nat), (∀ x ∈ l, p x = q x) → l.find? p = l.find? q
  | [], _ => rfl
  | x :: l, h => by
    rw [List.find?_cons, List.find?_cons, h x (by simp), find_congr l fun y hy => h y (by simp [hy])]
/-- The greedy order is what settle computes. -/
theorem settle_greedy {M : List Nat} (hn : n ≤ 8) (hR : ∀ order done i, Ran n order done → i < n → canRun M done i = (!order.contains i && R order i)) :
    ∀ (k : Nat) (order : List Nat) (done : Nat), Ran n order done → (settleF n M k order done).1 = greedy R n k order
  | 0, order, done, _ => rfl
  | k + 1, order, done, hr => by
    have e : nextOf n M done = (List.range n).find? (fun i => !order.contains i && R order i) := by
      unfold nextOf
      exact find_congr _ fun i hi => hR order done i hr (by simpa using hi)
    simp only [settleF, greedy]
    rw [← e]
    cases hx : nextOf n M done with
    | none => rfl
    | some i =>
      have hs := List.find?_some hx
      have hi : i < n := by simpa using List.mem_of_find?_eq_some hx
      have hb : done.testBit i = false := by
        simp only [canRun, Bool.and_eq_true, Bool.not_eq_true'] at hs
        exact hs.1
      exact settle_greedy hn hR k _ _ (hr.next hn hi hb)
end Go.Proofs.Qxb6500865a
