/-
  What a reading of an argument says of its cells, with the form's reach: a plain predicate.
-/
import Derived.WalkKit
import Derived.ProofKit
import Derived.SizedLaws
import Derived.Deep.Slices
import Derived.OpenShut
namespace Go.Proofs.Qxb6500863aDoor
set_option linter.unusedSimpArgs false
set_option linter.unusedVariables false
open Go.RowKit Go.ChangeShapes

def Rd (P : Program) (w : World) : Nat → TypeId → List Value → Prop
  | 0, _, _ => False
  | fuel + 1, t, cs =>
    match P.underlying t with
    | some .bool => ∃ b, cs = [.bool b]
    | some (.int k) => ∃ n, cs = [.int k n] ∧ (Lit.int k n).wf = true
    | some .string => ∃ s : ByteArray, cs = [.string s] ∧ s.size ≤ reachBytes
    | some (.slice e) => cs = [.slice none 0 0] ∨ ∃ (a : Addr) (len cap : Nat), cs = [.slice (some a) len cap] ∧ len ≤ cap ∧ cap ≤ maxLen ∧ cap * P.bytesOf e ≤ reachBytes ∧
        ∀ i, i < len → ∃ ecs, w.cells? 0 (a.add (i * P.cellsOf e)) (P.cellsOf e) = some ecs ∧ Rd P w fuel e ecs
    | some (.struct fs) => cs.length = P.cellsOf t ∧ ∀ f ∈ fs.toList, Rd P w fuel f.type ((cs.drop f.offset).take (P.cellsOf f.type))
    | some (.array n e) => cs.length = P.cellsOf t ∧ ∀ i, i < n → Rd P w fuel e ((cs.drop (i * P.cellsOf e)).take (P.cellsOf e))
    | _ => True

theorem weightsAll_mem {H : Type} {P : Program} {e : TypeId} : ∀ {l : List (DataW H)} {d : DataW H}, d ∈ l → ∀ n ∈ d.weights P e, n ∈ DataW.weightsAll P e l
  | x :: l, d, hd, n, hn => by
    simp only [DataW.weightsAll, List.mem_append]
    rcases List.mem_cons.1 hd with rfl | hd
    · exact .inl hn
    · exact .inr (weightsAll_mem hd n hn)
theorem weightsEach_mem {H : Type} {P : Program} : ∀ {ts : List TypeId} {ds : List (DataW H)} {i : Nat} {t : TypeId} {d : DataW H}, ts[i]? = some t → ds[i]? = some d → ∀ n ∈ d.weights P t, n ∈ DataW.weightsEach P ts ds :=
  fun ht hd n hn => DataW.weights_mem_each ht hd n hn

theorem rd_of_trod {H : Type} {enc : TypeId × Value → H} {P : Program} {w : World} : ∀ (fuel : Nat) (t : TypeId) (cs : List Value) (x : DataW H × List MemPlace),
    DataW.trod enc P w 0 (fun _ => true) true fuel t cs = some x → (∀ n ∈ x.1.weights P t, n ≤ reachBytes) → Rd P w fuel t cs := by
  intro fuel
  induction fuel with
  | zero => intro t cs x h; simp [DataW.trod] at h
  | succ fuel ih =>
    intro t cs x h hw
    unfold Rd
    cases hu : P.underlying t with
    | none => trivial
    | some d =>
      cases d with
      | bool =>
        obtain ⟨b, hb, _⟩ := DataW.trod_bool hu h
        exact ⟨b, hb⟩
      | int k =>
        obtain ⟨n, hn, _, hwf⟩ := DataW.trod_int hu h
        exact ⟨n, hn, hwf⟩
      | string =>
        obtain ⟨s, hs, rfl, _⟩ := DataW.trod_string hu h
        refine ⟨s, hs, ?_⟩
        have := hw s.data.toList.length (by simp [DataW.weights])
        simpa using this
      | slice e =>
        rcases DataW.trod_slice hu h with ⟨h0, _⟩ | ⟨a, len, cap, elems, rest, n, hf, rfl, rfl, hb, hl, hm, hlen, hel, hsp, hns⟩
        · exact .inl h0
        · have hn : n = fuel := by omega
          subst hn
          have hrl := (hsp rfl).1
          refine .inr ⟨a, len, cap, rfl, hl, hm, ?_, fun i hi => ?_⟩
          · have := hw ((elems.length + rest.length) * P.bytesOf e) (by simp [DataW.weights, hu])
            rw [hlen, hrl, show len + (cap - len) = cap by omega] at this
            exact this
          · have he := hel i hi
            rw [List.getElem?_eq_getElem (by omega)] at he
            obtain ⟨ecs, h1, h2⟩ := Option.bind_eq_some_iff.1 he
            refine ⟨ecs, h1, ih e ecs _ h2 fun m hm' => hw m ?_⟩
            have hmem : elems[i].1 ∈ elems.map (·.1) := List.mem_map_of_mem (List.getElem_mem _)
            simp only [DataW.weights, hu, List.mem_cons, List.mem_append]
            exact .inr (.inl (weightsAll_mem hmem m hm'))
      | struct fs =>
        obtain ⟨xs, n, hf, rfl, hl, hxl, hx⟩ := DataW.trod_struct hu h
        have hn : n = fuel := by omega
        subst hn
        refine ⟨hl, fun f hf' => ?_⟩
        obtain ⟨i, hi⟩ := List.getElem?_of_mem hf'
        have hi' : fs[i]? = some f := by simpa using hi
        have h1 := hx i f hi'
        have hlt : i < xs.length := by rw [hxl]; exact (Array.getElem?_eq_some_iff.1 hi').1
        rw [List.getElem?_eq_getElem hlt] at h1
        refine ih f.type _ _ h1 fun m hm => hw m ?_
        simp only [DataW.weights, hu]
        exact weightsEach_mem (i := i) (t := f.type) (d := xs[i].1) (by simp [hi']) (by simp [hlt]) m hm
      | array n e =>
        obtain ⟨xs, m, hf, rfl, hl, hxl, hx⟩ := DataW.trod_array hu h
        have hn : m = fuel := by omega
        subst hn
        refine ⟨hl, fun i hi => ?_⟩
        have h1 := hx i hi
        rw [List.getElem?_eq_getElem (by omega)] at h1
        refine ih e _ _ h1 fun m hm => hw m ?_
        have hmem : xs[i].1 ∈ xs.map (·.1) := List.mem_map_of_mem (List.getElem_mem _)
        simp only [DataW.weights, hu]
        exact weightsAll_mem hmem m hm
      | _ => trivial

theorem list_of {α : Type} {p : Nat → α → Prop} : ∀ (n : Nat), (∀ i, i < n → ∃ x, p i x) → ∃ l : List α, l.length = n ∧ ∀ i x, l[i]? = some x → p i x
  | 0, _ => ⟨[], rfl, fun i x h => by simp at h⟩
  | n + 1, h => by
    obtain ⟨l, hl, hp⟩ := list_of n fun i hi => h i (by omega)
    obtain ⟨x, hx⟩ := h n (by omega)
    refine ⟨l ++ [x], by simp [hl], fun i y hy => ?_⟩
    rcases Nat.lt_or_ge i n with hi | hi
    · rw [List.getElem?_append_left (by omega)] at hy
      exact hp i y hy
    · rw [List.getElem?_append_right (by omega), hl] at hy
      have h0 := (List.getElem?_eq_some_iff.1 hy).1
      simp at h0
      have hin : i = n := by omega
      subst hin
      simp at hy
      subst hy
      exact hx
theorem drop_step {α : Type} (cs : List α) (n k : Nat) : cs.drop n = (cs.drop n).take k ++ cs.drop (n + k) := by
  rw [← List.drop_drop, List.take_append_drop]
theorem cells_at {w : World} {a : Addr} {n : Nat} {ecs : List Value} (h : w.cells? 0 a n = some ecs) : ecs.length = n ∧ ∀ j x, ecs[j]? = some x → w.cell? (a.add j) = some x := by
  unfold World.cells? at h
  simp only [Nat.zero_le, if_true] at h
  have hl : ecs.length = n := by simpa using mapM_some_length h
  refine ⟨hl, fun j x hx => ?_⟩
  have hj := (List.getElem?_eq_some_iff.1 hx).1
  have hj2 : j < n := by omega
  have := mapM_some_get h j j (by simp [hj2])
  rw [this, hx]
/-- An element of a slice, at its plain address. -/
theorem elem_at {w : World} {a : Addr} {i sz : Nat} {ecs : List Value} (hsz : 0 < sz) (h : w.cells? 0 (a.add (i * sz)) sz = some ecs) (h0 : a.spot = none ∨ 0 < i) :
    a.block < w.heap.size ∧ ecs.length = sz ∧ ∀ j x, ecs[j]? = some x → w.cell? ⟨a.block, a.off + i * sz + j, none⟩ = some x := by
  obtain ⟨h1, h2⟩ := cells_at h
  have ha : a.add (i * sz) = ⟨a.block, a.off + i * sz, none⟩ := by
    unfold Addr.add
    split
    · rename_i h3
      rcases h0 with h0 | h0
      · obtain ⟨b, o, s⟩ := a
        simp only at h0
        subst h0
        simp [h3]
      · have : 0 < i * sz := Nat.mul_pos h0 hsz
        omega
    · rfl
  rw [ha] at h2
  have h3 : ∀ j x, ecs[j]? = some x → w.cell? ⟨a.block, a.off + i * sz + j, none⟩ = some x := fun j x hx => by
    have := h2 j x hx
    rwa [Addr.add_lit] at this
  refine ⟨?_, h1, h3⟩
  have h4 := h3 0 ecs[0] (by simp)
  exact World.block_lt_of_cell? w ⟨a.block, a.off + i * sz + 0, none⟩ h4
theorem spot_none {w : World} {a : Addr} {sz : Nat} {ecs : List Value} (hsz : 0 < sz) (h : w.cells? 0 (a.add (0 * sz)) sz = some ecs) : a.spot = none := by
  obtain ⟨h1, h2⟩ := cells_at h
  have h3 := h2 0 ecs[0] (by simp)
  have e : (a.add (0 * sz)).add 0 = a := by simp [Addr.add]
  rw [e] at h3
  unfold World.cell? at h3
  cases hs : a.spot with
  | none => rfl
  | some s =>
    rw [hs] at h3
    split at h3 <;> simp at h3
end Go.Proofs.Qxb6500863aDoor
