/-
  The script as it comes in, off the form's reading.
-/
import Derived.Test.Qxb6500865aW7
import Derived.Test.Qxb6500865aRd
namespace Go.Proofs.Qxb6500865a
set_option linter.unusedSimpArgs false
set_option linter.unusedVariables false
open Go.RowKit

theorem c43 : Try.prog.cellsOf 43 = 36 := by kernel_rfl
theorem c62 : Try.prog.cellsOf 62 = 22 := by kernel_rfl
theorem c59 : Try.prog.cellsOf 59 = 1 := by kernel_rfl
theorem c39 : Try.prog.cellsOf 39 = 19 := by kernel_rfl
theorem c37 : Try.prog.cellsOf 37 = 9 := by kernel_rfl
theorem c28 : Try.prog.cellsOf 28 = 1 := by kernel_rfl
theorem c31 : Try.prog.cellsOf 31 = 2 := by kernel_rfl
theorem c41 : Try.prog.cellsOf 41 = 3 := by kernel_rfl
theorem c24 : Try.prog.cellsOf 24 = 1 := by kernel_rfl
theorem c25 : Try.prog.cellsOf 25 = 1 := by kernel_rfl
theorem c26 : Try.prog.cellsOf 26 = 1 := by kernel_rfl
theorem c29 : Try.prog.cellsOf 29 = 1 := by kernel_rfl
theorem c32 : Try.prog.cellsOf 32 = 1 := by kernel_rfl
theorem c33 : Try.prog.cellsOf 33 = 1 := by kernel_rfl
theorem c34 : Try.prog.cellsOf 34 = 1 := by kernel_rfl
theorem c35 : Try.prog.cellsOf 35 = 1 := by kernel_rfl
theorem c9 : Try.prog.cellsOf 9 = 1 := by kernel_rfl
theorem c60 : Try.prog.cellsOf 60 = 1 := by kernel_rfl
theorem y43 : Try.prog.bytesOf 43 = 216 := by kernel_rfl
theorem y62 : Try.prog.bytesOf 62 = 136 := by kernel_rfl
theorem y59 : Try.prog.bytesOf 59 = 1 := by kernel_rfl

theorem rd_int {w : World} {fuel : Nat} {t : TypeId} {k : IntKind} {cs : List Value} (hu : Try.prog.underlying t = some (.int k)) (h : Rd Try.prog w fuel t cs) : ∃ n, cs = [.int k n] := by
  cases fuel with
  | zero => exact h.elim
  | succ fuel => unfold Rd at h; rw [hu] at h; obtain ⟨n, hn, _⟩ := h; exact ⟨n, hn⟩
theorem rd_str {w : World} {fuel : Nat} {t : TypeId} {cs : List Value} (hu : Try.prog.underlying t = some .string) (h : Rd Try.prog w fuel t cs) : ∃ s : ByteArray, cs = [.string s] ∧ s.size ≤ reachBytes := by
  cases fuel with
  | zero => exact h.elim
  | succ fuel => unfold Rd at h; rw [hu] at h; exact h
theorem rd_msg {w : World} {fuel : Nat} {cs : List Value} (h : Rd Try.prog w fuel 37 cs) : ∃ m : Msg, cs = m.cells ∧ m.payload.size ≤ reachBytes := by
  cases fuel with
  | zero => exact h.elim
  | succ fuel =>
    unfold Rd at h
    rw [Try.underlying37] at h
    simp only [List.mem_cons, forall_eq_or_imp, List.not_mem_nil, false_implies, implies_true, and_true, c37, c35, c25, c33, c29, c34, c9] at h
    obtain ⟨hl, h0, h1, h2, h3, h4, h5, h6, h7, h8⟩ := h
    obtain ⟨x0, e0⟩ := rd_int Try.underlying35 h0
    obtain ⟨x1, e1⟩ := rd_int Try.underlying25 h1
    obtain ⟨x2, e2⟩ := rd_int Try.underlying25 h2
    obtain ⟨x3, e3⟩ := rd_int Try.underlying33 h3
    obtain ⟨x4, e4⟩ := rd_int Try.underlying33 h4
    obtain ⟨x5, e5⟩ := rd_int Try.underlying29 h5
    obtain ⟨x6, e6⟩ := rd_int Try.underlying34 h6
    obtain ⟨x7, e7⟩ := rd_int Try.underlying29 h7
    obtain ⟨x8, e8, hs⟩ := rd_str Try.underlying9 h8
    refine ⟨⟨x0, x1, x2, x3, x4, x5, x6, x7, x8⟩, ?_, hs⟩
    have : cs = cs.drop 0 := rfl
    rw [this, drop_step cs 0 1, e0, drop_step cs (0 + 1) 1, e1, drop_step cs (0 + 1 + 1) 1, e2, drop_step cs (0 + 1 + 1 + 1) 1, e3, drop_step cs (0 + 1 + 1 + 1 + 1) 1, e4, drop_step cs (0 + 1 + 1 + 1 + 1 + 1) 1, e5, drop_step cs (0 + 1 + 1 + 1 + 1 + 1 + 1) 1, e6, drop_step cs (0 + 1 + 1 + 1 + 1 + 1 + 1 + 1) 1, e7, drop_step cs (0 + 1 + 1 + 1 + 1 + 1 + 1 + 1 + 1) 1, e8, List.drop_of_length_le (by omega)]
    rfl
theorem rd_tx {w : World} {fuel : Nat} {cs : List Value} (h : Rd Try.prog w fuel 39 cs) : ∃ m : Tx, cs = m.cells ∧ m.payload.size ≤ reachBytes ∧ m.msg.payload.size ≤ reachBytes := by
  cases fuel with
  | zero => exact h.elim
  | succ fuel =>
    unfold Rd at h
    rw [Try.underlying39] at h
    simp only [List.mem_cons, forall_eq_or_imp, List.not_mem_nil, false_implies, implies_true, and_true, c39, c32, c37, c35, c25, c33, c29, c34, c9] at h
    obtain ⟨hl, h0, h1, h2, h3, h4, h5, h6, h7, h8, h9, h10⟩ := h
    obtain ⟨x0, e0⟩ := rd_int Try.underlying32 h0
    obtain ⟨x1, e1⟩ := rd_int Try.underlying25 h1
    obtain ⟨x2, e2⟩ := rd_int Try.underlying33 h2
    obtain ⟨x3, e3⟩ := rd_int Try.underlying29 h3
    obtain ⟨x4, e4⟩ := rd_int Try.underlying29 h4
    obtain ⟨x5, e5⟩ := rd_int Try.underlying33 h5
    obtain ⟨x6, e6⟩ := rd_int Try.underlying25 h6
    obtain ⟨x7, e7⟩ := rd_int Try.underlying34 h7
    obtain ⟨x8, e8⟩ := rd_int Try.underlying29 h8
    obtain ⟨x9, e9, hs⟩ := rd_str Try.underlying9 h9
    obtain ⟨x10, e10, hs2⟩ := rd_msg h10
    refine ⟨⟨x0, x1, x2, x3, x4, x5, x6, x7, x8, x9, x10⟩, ?_, hs, hs2⟩
    have : cs = cs.drop 0 := rfl
    rw [this, drop_step cs 0 1, e0, drop_step cs (0 + 1) 1, e1, drop_step cs (0 + 1 + 1) 1, e2, drop_step cs (0 + 1 + 1 + 1) 1, e3, drop_step cs (0 + 1 + 1 + 1 + 1) 1, e4, drop_step cs (0 + 1 + 1 + 1 + 1 + 1) 1, e5, drop_step cs (0 + 1 + 1 + 1 + 1 + 1 + 1) 1, e6, drop_step cs (0 + 1 + 1 + 1 + 1 + 1 + 1 + 1) 1, e7, drop_step cs (0 + 1 + 1 + 1 + 1 + 1 + 1 + 1 + 1) 1, e8, drop_step cs (0 + 1 + 1 + 1 + 1 + 1 + 1 + 1 + 1 + 1) 1, e9, drop_step cs (0 + 1 + 1 + 1 + 1 + 1 + 1 + 1 + 1 + 1 + 1) 9, e10, List.drop_of_length_le (by omega)]
    simp [Tx.cells]
theorem addr_eta {a : Addr} (h : a.spot = none) : a = ⟨a.block, a.off, none⟩ := by
  obtain ⟨b, o, s⟩ := a
  simp only at h
  subst h
  rfl
theorem reach_le {n : Nat} (h : n ≤ reachBytes) : n ≤ 140737488355328 := by
  have : reachBytes < 2 ^ 47 := reachBytes_lt
  omega
theorem rd_needs {w : World} {fuel : Nat} {cs : List Value} (h : Rd Try.prog w fuel 60 cs) : ∃ (na : Option Addr) (l : List Int) (nc : Nat), cs = [.slice na l.length nc] ∧ Arr w na 1 (ints .u8 l) ∧ (na = none → l.length = 0 ∧ nc = 0) ∧ l.length ≤ 140737488355328 := by
  cases fuel with
  | zero => exact h.elim
  | succ fuel =>
    unfold Rd at h
    rw [Try.underlying60] at h
    simp only [c59, y59] at h
    rcases h with rfl | ⟨a, len, cap, rfl, hl, hm, hb, hel⟩
    · exact ⟨none, [], 0, rfl, ⟨fun i cs h => by simp [ints] at h⟩, fun _ => ⟨rfl, rfl⟩, by simp⟩
    · obtain ⟨l, hll, hp⟩ := list_of (p := fun i (x : Int) => w.cells? 0 (a.add (i * 1)) 1 = some [.int .u8 x]) len fun i hi => by
        obtain ⟨ecs, h1, h2⟩ := hel i hi
        obtain ⟨n, hn⟩ := rd_int Try.underlying59 h2
        exact ⟨n, by rw [h1, hn]⟩
      refine ⟨some a, l, cap, by rw [hll], ⟨fun i cs hi => ?_⟩, (fun h => by cases h), by have := reach_le hb; omega⟩
      have hi' := (List.getElem?_eq_some_iff.1 hi).1
      simp only [ints, List.length_map] at hi'
      simp only [ints, List.getElem?_map, List.getElem?_eq_getElem hi', Option.map_some, Option.some.injEq] at hi
      subst hi
      have hs : a.spot = none := spot_none (by decide) (hp 0 l[0] (by simp))
      obtain ⟨h1, h2, h3⟩ := elem_at (by decide) (hp i l[i] (by simp)) (.inl hs)
      exact ⟨a.block, a.off, by rw [← addr_eta hs], h1, h3⟩
theorem rd_leg {w : World} {fuel : Nat} {cs : List Value} (h : Rd Try.prog w fuel 62 cs) : ∃ g : Leg, cs = g.cells ∧ Arr w g.na 1 (ints .u8 g.needs) ∧ (g.na = none → g.needs.length = 0 ∧ g.nc = 0) ∧ g.big := by
  cases fuel with
  | zero => exact h.elim
  | succ fuel =>
    unfold Rd at h
    rw [Try.underlying62] at h
    simp only [List.mem_cons, forall_eq_or_imp, List.not_mem_nil, false_implies, implies_true, and_true, c62, c59, c25, c39, c60] at h
    obtain ⟨hl, h0, h1, h2, h3⟩ := h
    obtain ⟨x0, e0⟩ := rd_int Try.underlying59 h0
    obtain ⟨x1, e1⟩ := rd_int Try.underlying25 h1
    obtain ⟨x2, e2, b1, b2⟩ := rd_tx h2
    obtain ⟨na, l, nc, e3, ha, hn, hb⟩ := rd_needs h3
    refine ⟨⟨x0, x1, x2, l, na, nc⟩, ?_, ha, hn, ⟨reach_le b1, reach_le b2, hb⟩⟩
    have : cs = cs.drop 0 := rfl
    rw [this, drop_step cs 0 1, e0, drop_step cs (0 + 1) 1, e1, drop_step cs (0 + 1 + 1) 19, e2, drop_step cs (0 + 1 + 1 + 19) 1, e3, List.drop_of_length_le (by omega)]
    simp [Leg.cells]
theorem rd_legs {w : World} {fuel : Nat} {cs : List Value} (h : Rd Try.prog w fuel 26 cs) : ∃ (la : Option Addr) (gs : List Leg) (lc : Nat), cs = [.slice la gs.length lc] ∧ Legs w la gs ∧ (la = none → gs.length = 0) ∧ (∀ g ∈ gs, g.na = none → g.needs.length = 0 ∧ g.nc = 0) ∧ gs.length ≤ 140737488355328 ∧ ∀ g ∈ gs, g.big := by
  cases fuel with
  | zero => exact h.elim
  | succ fuel =>
    unfold Rd at h
    rw [Try.underlying26] at h
    simp only [c62, y62] at h
    rcases h with rfl | ⟨a, len, cap, rfl, hl, hm, hb, hel⟩
    · exact ⟨none, [], 0, rfl, ⟨⟨fun i cs h => by simp at h⟩, by simp⟩, fun _ => rfl, by simp, by simp, by simp⟩
    · obtain ⟨l, hll, hp⟩ := list_of (p := fun i (g : Leg) => w.cells? 0 (a.add (i * 22)) 22 = some g.cells ∧ Arr w g.na 1 (ints .u8 g.needs) ∧ (g.na = none → g.needs.length = 0 ∧ g.nc = 0) ∧ g.big) len fun i hi => by
        obtain ⟨ecs, h1, h2⟩ := hel i hi
        obtain ⟨g, hg, h3⟩ := rd_leg h2
        exact ⟨g, by rw [h1, hg], h3⟩
      have hmem : ∀ g ∈ l, ∃ i, l[i]? = some g := fun g hg => List.getElem?_of_mem hg
      refine ⟨some a, l, cap, by rw [hll], ⟨⟨fun i cs hi => ?_⟩, ?_⟩, (fun h => by cases h), ?_, ?_, ?_⟩
      · have hi' := (List.getElem?_eq_some_iff.1 hi).1
        simp only [List.length_map] at hi'
        simp only [List.getElem?_map, List.getElem?_eq_getElem hi', Option.map_some, Option.some.injEq] at hi
        subst hi
        have hs : a.spot = none := spot_none (sz := 22) (by decide) (hp 0 l[0] (by simp)).1
        obtain ⟨h1, h2, h3⟩ := elem_at (by decide) (hp i l[i] (by simp)).1 (.inl hs)
        exact ⟨a.block, a.off, by rw [← addr_eta hs], h1, h3⟩
      · intro g hg
        obtain ⟨i, hi⟩ := hmem g hg
        exact (hp i g hi).2.1
      · intro g hg
        obtain ⟨i, hi⟩ := hmem g hg
        exact (hp i g hi).2.2.1
      · have := reach_le hb; omega
      · intro g hg
        obtain ⟨i, hi⟩ := hmem g hg
        exact (hp i g hi).2.2.2
theorem rd_op {w : World} {fuel : Nat} {cs : List Value} (h : Rd Try.prog w fuel 43 cs) : ∃ x : OpD, cs = x.cells ∧ Legs w x.la x.legs ∧ (x.la = none → x.legs.length = 0) ∧ (∀ g ∈ x.legs, g.na = none → g.needs.length = 0 ∧ g.nc = 0) ∧ x.big := by
  cases fuel with
  | zero => exact h.elim
  | succ fuel =>
    unfold Rd at h
    rw [Try.underlying43] at h
    simp only [List.mem_cons, forall_eq_or_imp, List.not_mem_nil, false_implies, implies_true, and_true, c43, c24, c25, c28, c31, c39, c37, c41] at h
    obtain ⟨hl, h0, h1, h2, h3, h4, h5, h6⟩ := h
    obtain ⟨x0, e0⟩ := rd_int Try.underlying24 h0
    obtain ⟨x1, e1⟩ := rd_int Try.underlying25 h1
    obtain ⟨tx, e4, bt, btm⟩ := rd_tx h4
    obtain ⟨ms, e5, bm⟩ := rd_msg h5
    cases fuel with
    | zero => exact h2.elim
    | succ fuel =>
      unfold Rd at h2 h3 h6
      rw [Try.underlying28] at h2
      rw [Try.underlying31] at h3
      rw [Try.underlying41] at h6
      simp only [List.mem_cons, forall_eq_or_imp, List.not_mem_nil, false_implies, implies_true, and_true, c26, c29, c33, c34, List.drop_drop, List.take_take, List.drop_take, Nat.add_zero] at h2 h3 h6
      obtain ⟨-, h2⟩ := h2
      obtain ⟨-, h30, h31⟩ := h3
      obtain ⟨-, h60, h61, h62⟩ := h6
      obtain ⟨la, gs, lc, e2, hlegs, hn1, hn2, hb1, hb2⟩ := rd_legs h2
      obtain ⟨y0, f0⟩ := rd_int Try.underlying29 h30
      obtain ⟨y1, f1⟩ := rd_int Try.underlying29 h31
      obtain ⟨u0, i0⟩ := rd_int Try.underlying33 h60
      obtain ⟨u1, i1⟩ := rd_int Try.underlying34 h61
      obtain ⟨u2, i2⟩ := rd_int Try.underlying29 h62
      simp at e2 f0 f1 i0 i1 i2
      refine ⟨⟨x0, x1, la, lc, gs, y0, y1, tx, ms, u0, u1, u2⟩, ?_, hlegs, hn1, hn2, ⟨hb1, hb2, reach_le bt, reach_le btm, reach_le bm⟩⟩
      have : cs = cs.drop 0 := rfl
      rw [this, drop_step cs 0 1, e0, drop_step cs (0 + 1) 1, e1, drop_step cs (0 + 1 + 1) 1, e2, drop_step cs (0 + 1 + 1 + 1) 1, f0, drop_step cs (0 + 1 + 1 + 1 + 1) 1, f1, drop_step cs (0 + 1 + 1 + 1 + 1 + 1) 19, e4, drop_step cs (0 + 1 + 1 + 1 + 1 + 1 + 19) 9, e5, drop_step cs (0 + 1 + 1 + 1 + 1 + 1 + 19 + 9) 1, i0, drop_step cs (0 + 1 + 1 + 1 + 1 + 1 + 19 + 9 + 1) 1, i1, drop_step cs (0 + 1 + 1 + 1 + 1 + 1 + 19 + 9 + 1 + 1) 1, i2, List.drop_of_length_le (by omega)]
      simp [OpD.cells]
theorem rd_script {w : World} {fuel : Nat} {cs : List Value} (h : Rd Try.prog w fuel 22 cs) : ∃ (a : Option Addr) (xs : List OpD) (c : Nat), cs = [.slice a xs.length c] ∧ Script w a xs := by
  cases fuel with
  | zero => exact h.elim
  | succ fuel =>
    unfold Rd at h
    rw [Try.underlying22] at h
    simp only [c43, y43] at h
    rcases h with rfl | ⟨a, len, cap, rfl, hl, hm, hb, hel⟩
    · exact ⟨none, [], 0, rfl, ⟨⟨⟨fun i cs h => by simp at h⟩, by simp⟩, by simp, by simp, by simp, by simp⟩⟩
    · obtain ⟨l, hll, hp⟩ := list_of (p := fun i (x : OpD) => w.cells? 0 (a.add (i * 36)) 36 = some x.cells ∧ Legs w x.la x.legs ∧ (x.la = none → x.legs.length = 0) ∧ (∀ g ∈ x.legs, g.na = none → g.needs.length = 0 ∧ g.nc = 0) ∧ x.big) len fun i hi => by
        obtain ⟨ecs, h1, h2⟩ := hel i hi
        obtain ⟨g, hg, h3⟩ := rd_op h2
        exact ⟨g, by rw [h1, hg], h3⟩
      have hmem : ∀ g ∈ l, ∃ i, l[i]? = some g := fun g hg => List.getElem?_of_mem hg
      refine ⟨some a, l, cap, by rw [hll], ⟨⟨⟨fun i cs hi => ?_⟩, ?_⟩, ?_, ?_, ?_, ?_⟩⟩
      · have hi' := (List.getElem?_eq_some_iff.1 hi).1
        simp only [List.length_map] at hi'
        simp only [List.getElem?_map, List.getElem?_eq_getElem hi', Option.map_some, Option.some.injEq] at hi
        subst hi
        have hs : a.spot = none := spot_none (sz := 36) (by decide) (hp 0 l[0] (by simp)).1
        obtain ⟨h1, h2, h3⟩ := elem_at (by decide) (hp i l[i] (by simp)).1 (.inl hs)
        exact ⟨a.block, a.off, by rw [← addr_eta hs], h1, h3⟩
      · intro g hg
        obtain ⟨i, hi⟩ := hmem g hg
        exact (hp i g hi).2.1
      · have := reach_le hb; omega
      · intro g hg
        obtain ⟨i, hi⟩ := hmem g hg
        exact (hp i g hi).2.2.2.2
      · intro g hg
        obtain ⟨i, hi⟩ := hmem g hg
        exact (hp i g hi).2.2.1
      · intro g hg
        obtain ⟨i, hi⟩ := hmem g hg
        exact (hp i g hi).2.2.2.1
end Go.Proofs.Qxb6500865a
