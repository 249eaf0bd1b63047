/-
  The walking kit: slices of arrays, copy into a part of a block.
-/
import Derived.Test.Qxb6500863aDoorWk6
namespace Go.Proofs.Qxb6500863aDoor
set_option linter.unusedSimpArgs false
set_option linter.unusedVariables false
open Go.RowKit
section
variable {P : Program} {f : Cx} {n : Nat} {R : Value → World → Prop} {ρ : Env} {w : World} {k : List Item} {ops : Array Oper} {rest : List Oper} {C : World → Prop}
variable {d : Nat} {dst : Option Tmp} {gd : Option (Nat × Bool)} {ty : TypeId} {pos : String} {after : Array Edge} {S : World → Prop} {N fuel : Nat} {listed : Array Bool}
theorem X_sliceA {t e : TypeId} {x : Operand} {m b o : Nat} {sz : Nat} (ht : UN P t (.array m e)) (hs : SZ P e sz) (hx : ev ρ x = .pointer (some ⟨b, o, none⟩)) (hm : 0 < m) :
    (execOp (ev ρ) ⟨dst, .slice t x none none none, ty, pos, after, gd⟩).run P w = .ok (.value (.slice (some ⟨b, o, none⟩) m m)) w := by
  have h1 := ht w
  have h2 := hs w
  simp [execOp, Instr.sliceAt, Instr.slice, Instr.sliceBounds, Instr.sureAddr, hx, h1, h2, show ¬ m = 0 by omega, Addr.add_lit]
theorem X_sliceAH {t e : TypeId} {x y : Operand} {m b o h : Nat} {sz : Nat} {q : IntKind} (ht : UN P t (.array m e)) (hs : SZ P e sz) (hx : ev ρ x = .pointer (some ⟨b, o, none⟩)) (hy : ev ρ y = .int q h) (hm : 0 < m) (hl : h ≤ m) :
    (execOp (ev ρ) ⟨dst, .slice t x none (some y) none, ty, pos, after, gd⟩).run P w = .ok (.value (.slice (some ⟨b, o, none⟩) h m)) w := by
  have h1 := ht w
  have h2 := hs w
  have hb := fun code => run_bound (P := P) (w := w) (k := q) (code := code) hl
  simp [execOp, Instr.sliceAt, Instr.slice, Instr.sliceBounds, Instr.sureAddr, hx, hy, h1, h2, hb, show ¬ m = 0 by omega, Addr.add_lit]
theorem X_sliceALH {t e : TypeId} {x y z : Operand} {m b o l h : Nat} {sz : Nat} {q q' : IntKind} (ht : UN P t (.array m e)) (hs : SZ P e sz) (hx : ev ρ x = .pointer (some ⟨b, o, none⟩)) (hy : ev ρ y = .int q l) (hz : ev ρ z = .int q' h) (hl : l ≤ h) (hh : h ≤ m) (hlm : l < m) :
    (execOp (ev ρ) ⟨dst, .slice t x (some y) (some z) none, ty, pos, after, gd⟩).run P w = .ok (.value (.slice (some ⟨b, o + l * sz, none⟩) (h - l) (m - l))) w := by
  have h1 := ht w
  have h2 := hs w
  have hb := fun code => run_bound (P := P) (w := w) (k := q) (code := code) hl
  have hb2 := fun code => run_bound (P := P) (w := w) (k := q') (code := code) hh
  simp [execOp, Instr.sliceAt, Instr.slice, Instr.sliceBounds, Instr.sureAddr, hx, hy, hz, h1, h2, hb, hb2, show ¬ m = l by omega, Addr.add_lit]
theorem run_copyG {t u e : TypeId} {s x : Operand} {b o dl dc sl sc : Nat} {ap : Option Addr} {cur : Array Value} {tt : TypeId} (news : List Value) (ht : UN P t (.slice e)) (hs : SZ P e 1) (hd : ev ρ s = .slice (some ⟨b, o, none⟩) dl dc) (hx : ev ρ x = .slice ap sl sc)
    (hb : Blk w b cur tt) (hl : news.length = min sl dl) (ho : o + news.length ≤ cur.size) (hn : ∀ a, ap = some a → ∀ j v, news[j]? = some v → w.cell? (a.add j) = some v) (hnone : ap = none → news = []) (h1c : ∀ v ∈ news, v.oneCell' = true) :
    (execOp (ev ρ) ⟨dst, .call { callee := .builtin .copy, args := #[s, x], argTypes := #[t, u] }, ty, pos, after, gd⟩).run P w = .ok (.value (.int .i64 news.length)) (w.setRow b (cur.toList.take o ++ news ++ cur.toList.drop (o + news.length)).toArray) := by
  have h1 := ht w
  have h2 := hs w
  have h4 := run_storeCells_at P b o tt news 0 cur w hb (by omega) h1c
  simp only [Nat.add_zero] at h4
  have hmin : min sl dl = news.length := hl.symm
  have hmin' : sl.min dl = news.length := hl.symm
  cases ap with
  | none =>
    obtain rfl := hnone rfl
    simp [execOp, resolve, invoke, builtin, Builtin.copy_, hd, hx, h1, h2, Builtin.lenOf, Builtin.firstCells, goInt, hmin, hmin'] at h4 ⊢
    rw [h4]
    rfl
  | some a =>
    have h3 := run_loadCells_list (P := P) w a news (fun j v hv => hn a rfl j v hv)
    simp [execOp, resolve, invoke, builtin, Builtin.copy_, hd, hx, h1, h2, Builtin.lenOf, Builtin.firstCells, goInt, hmin, hmin', h3, h4]
theorem L_copyG {t u e : TypeId} {s x : Operand} {b o dl dc sl sc : Nat} {ap : Option Addr} {cur : Array Value} {tt : TypeId} (news : List Value) (ht : UN P t (.slice e)) (hs : SZ P e 1) (hd : ev ρ s = .slice (some ⟨b, o, none⟩) dl dc) (hx : ev ρ x = .slice ap sl sc)
    (hb : Blk w b cur tt) (hl : news.length = min sl dl) (ho : o + news.length ≤ cur.size) (hn : ∀ a, ap = some a → ∀ j v, news[j]? = some v → w.cell? (a.add j) = some v) (hnone : ap = none → news = []) (h1c : ∀ v ∈ news, v.oneCell' = true) (hdd : Nat.blt d n = true)
    (h : ∀ w1, Chg w w1 b (.cells (cur.toList.take o ++ news ++ cur.toList.drop (o + news.length)).toArray tt (0, 0)) → L P f n ops rest k R (upd ρ d (.int .i64 news.length)) w1) :
    L P f n ops (⟨some d, .call { callee := .builtin .copy, args := #[s, x], argTypes := #[t, u] }, ty, pos, after, none⟩ :: rest) k R ρ w :=
  L_val _ _ (run_copyG news ht hs hd hx hb hl ho hn hnone h1c) hdd (h _ (chg_setRow hb _))
theorem D_copyG (i : Nat) {t u e : TypeId} {s x : Operand} {b o dl dc sl sc : Nat} {ap : Option Addr} {cur : Array Value} {tt : TypeId} (news : List Value) (hi : ops[i]? = some ⟨some d, .call { callee := .builtin .copy, args := #[s, x], argTypes := #[t, u] }, ty, pos, after, none⟩) (hc : only ops listed i = true) (ht : UN P t (.slice e)) (hs : SZ P e 1) (hd : ev ρ s = .slice (some ⟨b, o, none⟩) dl dc) (hx : ev ρ x = .slice ap sl sc)
    (hb : Blk w b cur tt) (hl : news.length = min sl dl) (ho : o + news.length ≤ cur.size) (hn : ∀ a, ap = some a → ∀ j v, news[j]? = some v → w.cell? (a.add j) = some v) (hnone : ap = none → news = []) (h1c : ∀ v ∈ news, v.oneCell' = true) (hdd : Nat.blt d n = true)
    (h : ∀ w1, Chg w w1 b (.cells (cur.toList.take o ++ news ++ cur.toList.drop (o + news.length)).toArray tt (0, 0)) → (Nat.blt i N = true → S w1) ∧ D P f n ops S N fuel (listed.setIfInBounds i true) k R (upd ρ d (.int .i64 news.length)) w1) : D P f n ops S N (fuel + 1) listed k R ρ w :=
  D_val i _ _ hi hc (run_copyG news ht hs hd hx hb hl ho hn hnone h1c) hdd (h _ (chg_setRow hb _)).1 (h _ (chg_setRow hb _)).2
end
end Go.Proofs.Qxb6500863aDoor
