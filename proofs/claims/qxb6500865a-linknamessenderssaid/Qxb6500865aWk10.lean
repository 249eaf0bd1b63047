/-
  The walking kit: building and appending where the order is drawn; where the new slice lies.
-/
import Derived.Test.Qxb6500865aWk9
import Derived.Maps.AppendAt
namespace Go.Proofs.Qxb6500865a
set_option linter.unusedSimpArgs false
set_option linter.unusedVariables false
open Go.RowKit
section
variable {P : Program} {f : FuncId} {n : Nat} {R : Value → World → Prop} {ρ : Env} {w : World} {k : List Item} {ops : Array Oper} {S : World → Prop} {N fuel : Nat} {listed : Array Bool}
variable {d d' : Nat} {ty ty' : TypeId} {pos pos' : String} {after after' : Array Edge}
theorem D_buildSlice (i : Nat) {t : TypeId} {m : Nat} {ps : Array (Nat × Operand)} (c : Array Value) (e : TypeId) (hi : ops[i]? = some ⟨some d, .buildSlice t m ps, ty, pos, after, none⟩) (hc : only ops listed i = true)
    (hv : (Instr.buildSlice t m (ps.map fun (i, x) => (i, ev ρ x))).run P w = .ok (.slice (some ⟨w.heap.size, 0, none⟩) m m) (w.alloc (.cells c e))) (hd : Nat.blt d n = true)
    (h : ∀ w1, Chg w w1 w.heap.size (.cells c e (0, 0)) → (Nat.blt i N = true → S w1) ∧ D P f n ops S N fuel (listed.setIfInBounds i true) k R (upd ρ d (.slice (some ⟨w.heap.size, 0, none⟩) m m)) w1) : D P f n ops S N (fuel + 1) listed k R ρ w := by
  refine D_val i _ _ hi hc ?_ hd (h _ (chg_alloc _ _)).1 (h _ (chg_alloc _ _)).2
  simp only [execOp, Sem.run_bind]
  rw [hv]; rfl
theorem D_append1 (i : Nat) {t e : TypeId} {s x : Operand} {sz by_ : Nat} {z : Value} (base : Nat) (v : Value) (m0 : Nat) (xs : List Value) (g : Nat) (news : List Value)
    (hop : ops[i]? = some ⟨some d, .call { callee := .builtin .append, args := #[s, x], argTypes := #[t, t] }, ty, pos, after, none⟩) (hcc : only ops listed i = true)
    (ht : P.underlying t = some (.slice e)) (hi : (P.info? e).map (fun i => (i.zero, i.size, i.bytes)) = some (some z, sz, by_)) (hzs : z.cells.size = sz) (hsz : 0 < sz)
    (hs : ev ρ s = v) (hown : w.ownsRow base e sz v m0 xs) (hx : ev ρ x = .slice (some ⟨g, 0, none⟩) 1 1) (hl : news.length = sz) {t' : TypeId} (hblk : Blk w g news.toArray t') (h1 : ∀ u ∈ news, u.oneCell' = true)
    (h63 : m0 + 1 ≤ maxLen) (hb : (m0 + 1) * by_ ≤ 140737488355328) (hbase : base ≤ w.heap.size) (hd : Nat.blt d n = true)
    (h : ∀ v' w1, w1.ownsRow base e sz v' (m0 + 1) (xs ++ news) → w.grownBy w1 v.ownBlock → (v'.ownBlock = v.ownBlock ∨ v'.ownBlock = some w.heap.size) → (Nat.blt i N = true → S w1) ∧ D P f n ops S N fuel (listed.setIfInBounds i true) k R (upd ρ d v') w1) :
    D P f n ops S N (fuel + 1) listed k R ρ w := by
  obtain ⟨ii, hi1, hi2, hi3, hi4⟩ := info_parts hi
  have hc : ∀ j u, news[j]? = some u → w.cell? ((⟨g, 0, none⟩ : Addr).add j) = some u := by
    intro j u hu
    rw [Addr.add_lit]
    simp only [Nat.zero_add]
    rw [hblk.cell]
    simpa using hu
  obtain ⟨v', w', hr, o1, o2, _, o3⟩ := run_append_own_at (P := P) w base t ty e ii z sz by_ ht hi1 hi2 hi3 hi4 hzs hsz v m0 xs hown ⟨g, 0, none⟩ 1 1 news (by omega) hc h1 h63 hb hbase
  obtain ⟨q1, q2⟩ := h v' w' o1 o2 o3
  refine D_val i v' w' hop hcc ?_ hd q1 q2
  simp [execOp, resolve, invoke, builtin, hs, hx, hr]
end
end Go.Proofs.Qxb6500865a
