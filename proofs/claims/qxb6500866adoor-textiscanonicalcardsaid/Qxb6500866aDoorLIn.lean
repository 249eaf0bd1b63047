/-
  The script as it comes in, off the form's reading; the two variables off what is laid.
-/
import Derived.Test.Qxb6500866aDoorL4
import Derived.Test.Qxb6500866aDoorRd
import Derived.Lib.LaidTab
import Derived.Stop.LaidErr
import Derived.Test.Qxb6500866aDoorCards
import Derived.Test.Qxb6500866aDoorTie
namespace Go.Proofs.Qxb6500866aDoor
set_option linter.unusedSimpArgs false
set_option linter.unusedVariables false
open Go.RowKit

theorem c29 : Tryd.prog.cellsOf 29 = 5 := by kernel_rfl
theorem c24 : Tryd.prog.cellsOf 24 = 1 := by kernel_rfl
theorem c25 : Tryd.prog.cellsOf 25 = 1 := by kernel_rfl
theorem c26 : Tryd.prog.cellsOf 26 = 1 := by kernel_rfl
theorem c27 : Tryd.prog.cellsOf 27 = 1 := by kernel_rfl
theorem y5 : Tryd.prog.bytesOf 5 = 1 := by kernel_rfl
theorem y25 : Tryd.prog.bytesOf 25 = 24 := by kernel_rfl
theorem y29 : Tryd.prog.bytesOf 29 = 72 := by kernel_rfl
theorem addr_eta {a : Addr} (h : a.spot = none) : a = ⟨a.block, a.off, none⟩ := by
  obtain ⟨b, o, s⟩ := a
  simp only at h
  subst h
  rfl
theorem reach_le {n : Nat} (h : n ≤ reachBytes) : n ≤ 140737488355328 := by
  have : reachBytes < 2 ^ 47 := reachBytes_lt
  omega
theorem rd_int {w : World} {fuel : Nat} {t : TypeId} {k : IntKind} {cs : List Value} (hu : Tryd.prog.underlying t = some (.int k)) (h : Rd Tryd.prog w fuel t cs) : ∃ n, cs = [.int k n] ∧ (Lit.int k n).wf = true := by
  cases fuel with
  | zero => exact h.elim
  | succ fuel => unfold Rd at h; rw [hu] at h; exact h
theorem wf_byte {n : Int} (h : (Lit.int .u8 n).wf = true) : 0 ≤ n ∧ n < 256 := by
  have h1 : IntKind.u8.min = 0 := by decide
  have h2 : IntKind.u8.max = 255 := by decide
  simp only [Lit.wf, h1, h2, Bool.and_eq_true, decide_eq_true_eq] at h
  omega
theorem rd_bytes {w : World} {fuel : Nat} {cs : List Value} (h : Rd Tryd.prog w fuel 25 cs) : ∃ (na : Option Addr) (l : List Int) (nc : Nat), cs = [.slice na l.length nc] ∧ Arr w na 1 (ints .u8 l) ∧ Byt l ∧ (na = none → l = []) ∧ l.length ≤ nc ∧ l.length ≤ 140737488355328 := by
  cases fuel with
  | zero => exact h.elim
  | succ fuel =>
    unfold Rd at h
    rw [Tryd.underlying25] at h
    simp only [c5, y5] at h
    rcases h with rfl | ⟨a, len, cap, rfl, hl, hm, hb, hel⟩
    · exact ⟨none, [], 0, rfl, ⟨fun i cs h => by simp [ints] at h⟩, (fun b hb => by cases hb), fun _ => rfl, by simp, by simp⟩
    · obtain ⟨l, hll, hp⟩ := list_of (p := fun i (x : Int) => w.cells? 0 (a.add (i * 1)) 1 = some [.int .u8 x] ∧ 0 ≤ x ∧ x < 256) len fun i hi => by
        obtain ⟨ecs, h1, h2⟩ := hel i hi
        obtain ⟨n, hn, hwf⟩ := rd_int Tryd.underlying5 h2
        exact ⟨n, by rw [h1, hn], wf_byte hwf⟩
      refine ⟨some a, l, cap, by rw [hll], ⟨fun i cs hi => ?_⟩, ?_, (fun h => by cases h), by omega, by have := reach_le hb; omega⟩
      · have hi' := (List.getElem?_eq_some_iff.1 hi).1
        simp only [ints, List.length_map] at hi'
        simp only [ints, List.getElem?_map, List.getElem?_eq_getElem hi', Option.map_some, Option.some.injEq] at hi
        subst hi
        have hs : a.spot = none := spot_none (by decide) (hp 0 l[0] (by simp)).1
        obtain ⟨h1, h2, h3⟩ := elem_at (by decide) (hp i l[i] (by simp)).1 (.inl hs)
        exact ⟨a.block, a.off, by rw [← addr_eta hs], h1, h3⟩
      · intro b hb
        obtain ⟨i, hi⟩ := List.getElem?_of_mem hb
        exact (hp i b hi).2
theorem rd_parts {w : World} {fuel : Nat} {cs : List Value} (h : Rd Tryd.prog w fuel 26 cs) : ∃ (pa : Option Addr) (l : List (Option Addr × Nat × Nat)) (pc : Nat), cs = [.slice pa l.length pc] ∧ Arr w pa 1 (pcells l) ∧ l.length ≤ 140737488355328 ∧ ∀ p ∈ l, p.2.1 ≤ 140737488355328 := by
  cases fuel with
  | zero => exact h.elim
  | succ fuel =>
    unfold Rd at h
    rw [Tryd.underlying26] at h
    simp only [c25, y25] at h
    rcases h with rfl | ⟨a, len, cap, rfl, hl, hm, hb, hel⟩
    · exact ⟨none, [], 0, rfl, ⟨fun i cs h => by simp [pcells] at h⟩, by simp, by simp⟩
    · obtain ⟨l, hll, hp⟩ := list_of (p := fun i (x : Option Addr × Nat × Nat) => w.cells? 0 (a.add (i * 1)) 1 = some [.slice x.1 x.2.1 x.2.2] ∧ x.2.1 ≤ 140737488355328) len fun i hi => by
        obtain ⟨ecs, h1, h2⟩ := hel i hi
        obtain ⟨na, q, nc, hq, _, _, _, _, hq2⟩ := rd_bytes h2
        exact ⟨(na, q.length, nc), by rw [h1, hq], hq2⟩
      refine ⟨some a, l, cap, by rw [hll], ⟨fun i cs hi => ?_⟩, by have := reach_le hb; omega, ?_⟩
      · have hi' := (List.getElem?_eq_some_iff.1 hi).1
        simp only [pcells, List.length_map] at hi'
        simp only [pcells, List.getElem?_map, List.getElem?_eq_getElem hi', Option.map_some, Option.some.injEq] at hi
        subst hi
        have hs : a.spot = none := spot_none (by decide) (hp 0 l[0] (by simp)).1
        obtain ⟨h1, h2, h3⟩ := elem_at (by decide) (hp i l[i] (by simp)).1 (.inl hs)
        exact ⟨a.block, a.off, by rw [← addr_eta hs], h1, h3⟩
      · intro b hb
        obtain ⟨i, hi⟩ := List.getElem?_of_mem hb
        exact (hp i b hi).2
theorem rd_op {w : World} {fuel : Nat} {cs : List Value} (h : Rd Tryd.prog w fuel 29 cs) : ∃ x : OpT, cs = x.cells ∧ OpOk w x := by
  cases fuel with
  | zero => exact h.elim
  | succ fuel =>
    unfold Rd at h
    rw [Tryd.underlying29] at h
    simp only [List.mem_cons, forall_eq_or_imp, List.not_mem_nil, false_implies, implies_true, and_true, c29, c24, c25, c26, c27, c5] at h
    obtain ⟨hl, h0, h1, h2, h3, h4⟩ := h
    obtain ⟨x0, e0, _⟩ := rd_int Tryd.underlying24 h0
    obtain ⟨da, dl, dc, e1, q1, q2, q3, q4, q5⟩ := rd_bytes h1
    obtain ⟨pa, pl, pc, e2, r1, r2, r3⟩ := rd_parts h2
    obtain ⟨x3, e3, _⟩ := rd_int Tryd.underlying5 h3
    obtain ⟨x4, e4, _⟩ := rd_int Tryd.underlying27 h4
    refine ⟨⟨x0, da, dc, dl, pa, pc, pl, x3, x4⟩, ?_, ⟨q1, q2, q3, q4, r1, q5, r2, r3⟩⟩
    have : cs = cs.drop 0 := rfl
    rw [this, drop_step cs 0 1, e0, drop_step cs (0 + 1) 1, e1, drop_step cs (0 + 1 + 1) 1, e2, drop_step cs (0 + 1 + 1 + 1) 1, e3, drop_step cs (0 + 1 + 1 + 1 + 1) 1, e4, List.drop_of_length_le (by omega)]
    rfl
theorem rd_script {w : World} {fuel : Nat} {cs : List Value} (h : Rd Tryd.prog w fuel 22 cs) : ∃ (a : Option Addr) (xs : List OpT) (c : Nat), cs = [.slice a xs.length c] ∧ Script w a xs := by
  cases fuel with
  | zero => exact h.elim
  | succ fuel =>
    unfold Rd at h
    rw [Tryd.underlying22] at h
    simp only [c29, y29] at h
    rcases h with rfl | ⟨a, len, cap, rfl, hl, hm, hb, hel⟩
    · exact ⟨none, [], 0, rfl, ⟨⟨fun i cs h => by simp at h⟩, by simp, by simp⟩⟩
    · obtain ⟨l, hll, hp⟩ := list_of (p := fun i (x : OpT) => w.cells? 0 (a.add (i * 5)) 5 = some x.cells ∧ OpOk w x) len fun i hi => by
        obtain ⟨ecs, h1, h2⟩ := hel i hi
        obtain ⟨g, hg, h3⟩ := rd_op h2
        exact ⟨g, by rw [h1, hg], h3⟩
      refine ⟨some a, l, cap, by rw [hll], ⟨⟨fun i cs hi => ?_⟩, ?_, ?_⟩⟩
      · have hi' := (List.getElem?_eq_some_iff.1 hi).1
        simp only [List.length_map] at hi'
        simp only [List.getElem?_map, List.getElem?_eq_getElem hi', Option.map_some, Option.some.injEq] at hi
        subst hi
        have hs : a.spot = none := spot_none (sz := 5) (by decide) (hp 0 l[0] (by simp)).1
        obtain ⟨h1, h2, h3⟩ := elem_at (by decide) (hp i l[i] (by simp)).1 (.inl hs)
        exact ⟨a.block, a.off, by rw [← addr_eta hs], h1, h3⟩
      · intro g hg
        obtain ⟨i, hi⟩ := List.getElem?_of_mem hg
        exact (hp i g hi).2
      · have := reach_le hb; omega

def i8 : List Int := [1779033703, 3144134277, 1013904242, 2773480762, 1359893119, 2600822924, 528734635, 1541459225]
def r64 : List Int := [1116352408, 1899447441, 3049323471, 3921009573, 961987163, 1508970993, 2453635748, 2870763221, 3624381080, 310598401, 607225278, 1426881987, 1925078388, 2162078206, 2614888103, 3248222580, 3835390401, 4022224774, 264347078, 604807628, 770255983, 1249150122, 1555081692, 1996064986, 2554220882, 2821834349, 2952996808, 3210313671, 3336571891, 3584528711, 113926993, 338241895, 666307205, 773529912, 1294757372, 1396182291, 1695183700, 1986661051, 2177026350, 2456956037, 2730485921, 2820302411, 3259730800, 3345764771, 3516065817, 3600352804, 4094571909, 275423344, 430227734, 506948616, 659060556, 883997877, 958139571, 1322822218, 1537002063, 1747873779, 1955562222, 2024104815, 2227730452, 2361852424, 2428436474, 2756734187, 3204031479, 3329325298]
theorem g_i : Tryd.prog.globalNamed "e2e/digest.initial" = some 0 := by kernel_rfl
theorem g_r : Tryd.prog.globalNamed "e2e/digest.round" = some 1 := by kernel_rfl
theorem t_i : (Tryd.prog.globals[0]?).map (·.type) = some 40 := by kernel_rfl
theorem t_r : (Tryd.prog.globals[1]?).map (·.type) = some 59 := by kernel_rfl
theorem c39 : Tryd.prog.cellsOf 39 = 1 := by kernel_rfl
theorem c40 : Tryd.prog.cellsOf 40 = 8 := by kernel_rfl
theorem c59 : Tryd.prog.cellsOf 59 = 64 := by kernel_rfl
theorem glob_of_laid {W : World} (h : laidMetH Tryd.prog Rows.textIsCanonicalRow.laid W) : Glob W := by
  have h' : laidMet Tryd.prog [("e2e/digest.initial", Lib.tabData .u32 i8), ("e2e/digest.round", Lib.tabData .u32 r64)] W := h
  have h0 := Lib.tabIs_of_head g_i t_i Tryd.underlying40 Tryd.underlying39 c39 c40 h'
  have h1 := Lib.tabIs_of_head g_r t_r Tryd.underlying59 Tryd.underlying39 c39 c59 h'.tail
  have hT1 : W.var? Tryd.prog "e2e/digest.round" = some (r64.map fun z => Value.int .u32 z).toArray := h1
  have hsz : 1 < W.heap.size := by
    rcases Nat.lt_or_ge 1 W.heap.size with h1 | h1
    · exact h1
    · simp [World.var?, g_r, Array.getElem?_eq_none h1] at hT1
  refine ⟨⟨1779033703, 3144134277, 1013904242, 2773480762, 1359893119, 2600822924, 528734635, 1541459225, fun j v hv => ?_⟩, fun i hi => ?_, hsz⟩
  · have hv' : (i8.map (Value.int .u32))[j]? = some v := hv
    simp only [List.getElem?_map, Option.map_eq_some_iff] at hv'
    obtain ⟨x, hx, rfl⟩ := hv'
    have hj := (List.getElem?_eq_some_iff.1 hx).1
    have := h0.cell g_i j hj
    rw [List.getD_eq_getElem?_getD, hx] at this
    rw [Nat.zero_add]
    exact this
  · have := h1.cell g_r i (by simpa [r64] using hi)
    rw [show 0 + i * 1 = i by omega]
    exact ⟨_, this⟩
end Go.Proofs.Qxb6500866aDoor
