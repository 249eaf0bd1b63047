/-
  The script as it comes in, off the form's reading; the two variables off what is laid.
-/
import Derived.Test.Qxb6500864aDoorK3
import Derived.Test.Qxb6500864aDoorRd
import Derived.Lib.LaidTab
import Derived.Stop.LaidErr
import Derived.Test.Qxb6500864aDoorCards
import Derived.Test.Qxb6500864aDoorTie
namespace Go.Proofs.Qxb6500864aDoor
set_option linter.unusedSimpArgs false
set_option linter.unusedVariables false
open Go.RowKit

theorem c22 : Tryd.prog.cellsOf 22 = 1 := by kernel_rfl
theorem c30 : Tryd.prog.cellsOf 30 = 14 := by kernel_rfl
theorem c24 : Tryd.prog.cellsOf 24 = 1 := by kernel_rfl
theorem c3 : Tryd.prog.cellsOf 3 = 1 := by kernel_rfl
theorem c25 : Tryd.prog.cellsOf 25 = 1 := by kernel_rfl
theorem c26 : Tryd.prog.cellsOf 26 = 1 := by kernel_rfl
theorem c27 : Tryd.prog.cellsOf 27 = 1 := by kernel_rfl
theorem c5 : Tryd.prog.cellsOf 5 = 1 := by kernel_rfl
theorem c28 : Tryd.prog.cellsOf 28 = 1 := by kernel_rfl
theorem c4 : Tryd.prog.cellsOf 4 = 1 := by kernel_rfl
theorem y5 : Tryd.prog.bytesOf 5 = 1 := by kernel_rfl
theorem addr_eta {a : Addr} (h : a.spot = none) : a = ⟨a.block, a.off, none⟩ := by
  obtain ⟨b, o, s⟩ := a
  simp only at h
  subst h
  rfl
theorem reach_le {n : Nat} (h : n ≤ reachBytes) : n ≤ 140737488355328 := by
  have : reachBytes < 2 ^ 47 := reachBytes_lt
  omega
theorem rd_int {w : World} {fuel : Nat} {t : TypeId} {k : IntKind} {cs : List Value} (hu : Tryd.prog.underlying t = some (.int k)) (h : Rd Tryd.prog w fuel t cs) : ∃ n, cs = [.int k n] := by
  cases fuel with
  | zero => exact h.elim
  | succ fuel => unfold Rd at h; rw [hu] at h; obtain ⟨n, hn, _⟩ := h; exact ⟨n, hn⟩
theorem rd_bool {w : World} {fuel : Nat} {t : TypeId} {cs : List Value} (hu : Tryd.prog.underlying t = some .bool) (h : Rd Tryd.prog w fuel t cs) : ∃ b, cs = [.bool b] := by
  cases fuel with
  | zero => exact h.elim
  | succ fuel => unfold Rd at h; rw [hu] at h; exact h
theorem rd_bytes {w : World} {fuel : Nat} {cs : List Value} (h : Rd Tryd.prog w fuel 25 cs) : ∃ (na : Option Addr) (l : List Int) (nc : Nat), cs = [.slice na l.length nc] ∧ Arr w na 1 (ints .u8 l) ∧ l.length ≤ 140737488355328 := by
  cases fuel with
  | zero => exact h.elim
  | succ fuel =>
    unfold Rd at h
    rw [Tryd.underlying25] at h
    simp only [c5, y5] at h
    rcases h with rfl | ⟨a, len, cap, rfl, hl, hm, hb, hel⟩
    · exact ⟨none, [], 0, rfl, ⟨fun i cs h => by simp [ints] at h⟩, by simp⟩
    · obtain ⟨l, hll, hp⟩ := list_of (p := fun i (x : Int) => w.cells? 0 (a.add (i * 1)) 1 = some [.int .u8 x]) len fun i hi => by
        obtain ⟨ecs, h1, h2⟩ := hel i hi
        obtain ⟨n, hn⟩ := rd_int Tryd.underlying5 h2
        exact ⟨n, by rw [h1, hn]⟩
      refine ⟨some a, l, cap, by rw [hll], ⟨fun i cs hi => ?_⟩, by have := reach_le hb; omega⟩
      have hi' := (List.getElem?_eq_some_iff.1 hi).1
      simp only [ints, List.length_map] at hi'
      simp only [ints, List.getElem?_map, List.getElem?_eq_getElem hi', Option.map_some, Option.some.injEq] at hi
      subst hi
      have hs : a.spot = none := spot_none (by decide) (hp 0 l[0] (by simp))
      obtain ⟨h1, h2, h3⟩ := elem_at (by decide) (hp i l[i] (by simp)) (.inl hs)
      exact ⟨a.block, a.off, by rw [← addr_eta hs], h1, h3⟩
theorem rd_op {w : World} {fuel : Nat} {cs : List Value} (h : Rd Tryd.prog w fuel 30 cs) : ∃ x : OpT, cs = x.cells ∧ Arr w x.ka 1 (ints .u8 x.key) ∧ x.key.length ≤ 140737488355328 ∧ x.cl ≤ 140737488355328 ∧ x.dl ≤ 140737488355328 := by
  cases fuel with
  | zero => exact h.elim
  | succ fuel =>
    unfold Rd at h
    rw [Tryd.underlying30] at h
    simp only [List.mem_cons, forall_eq_or_imp, List.not_mem_nil, false_implies, implies_true, and_true, c30, c24, c3, c25, c26, c27, c5, c28, c4] at h
    obtain ⟨hl, h0, h1, h2, h3, h4, h5, h6, h7, h8, h9, h10, h11, h12, h13⟩ := h
    obtain ⟨x0, e0⟩ := rd_int Tryd.underlying24 h0
    obtain ⟨x1, e1⟩ := rd_int Tryd.underlying3 h1
    obtain ⟨ka, kl, kc, e2, hA, hk⟩ := rd_bytes h2
    obtain ⟨x3, e3⟩ := rd_int Tryd.underlying26 h3
    obtain ⟨x4, e4⟩ := rd_int Tryd.underlying27 h4
    obtain ⟨x5, e5⟩ := rd_int Tryd.underlying5 h5
    obtain ⟨x6, e6⟩ := rd_int Tryd.underlying27 h6
    obtain ⟨x7, e7⟩ := rd_int Tryd.underlying27 h7
    obtain ⟨x8, e8⟩ := rd_int Tryd.underlying28 h8
    obtain ⟨ca, cl, cc, e9, _, hc⟩ := rd_bytes h9
    obtain ⟨da, dl, dc, e10, _, hd⟩ := rd_bytes h10
    obtain ⟨x11, e11⟩ := rd_int Tryd.underlying3 h11
    obtain ⟨x12, e12⟩ := rd_int Tryd.underlying5 h12
    obtain ⟨x13, e13⟩ := rd_bool Tryd.underlying4 h13
    refine ⟨⟨x0, x1, ka, kc, kl, x3, x4, x5, x6, x7, x8, ca, cl.length, cc, da, dl.length, dc, x11, x12, x13⟩, ?_, hA, hk, hc, hd⟩
    have : cs = cs.drop 0 := rfl
    rw [this, drop_step cs 0 1, e0, drop_step cs (0 + 1) 1, e1, drop_step cs (0 + 1 + 1) 1, e2, drop_step cs (0 + 1 + 1 + 1) 1, e3, drop_step cs (0 + 1 + 1 + 1 + 1) 1, e4, drop_step cs (0 + 1 + 1 + 1 + 1 + 1) 1, e5, drop_step cs (0 + 1 + 1 + 1 + 1 + 1 + 1) 1, e6, drop_step cs (0 + 1 + 1 + 1 + 1 + 1 + 1 + 1) 1, e7, drop_step cs (0 + 1 + 1 + 1 + 1 + 1 + 1 + 1 + 1) 1, e8,
      drop_step cs (0 + 1 + 1 + 1 + 1 + 1 + 1 + 1 + 1 + 1) 1, e9, drop_step cs (0 + 1 + 1 + 1 + 1 + 1 + 1 + 1 + 1 + 1 + 1) 1, e10, drop_step cs (0 + 1 + 1 + 1 + 1 + 1 + 1 + 1 + 1 + 1 + 1 + 1) 1, e11, drop_step cs (0 + 1 + 1 + 1 + 1 + 1 + 1 + 1 + 1 + 1 + 1 + 1 + 1) 1, e12, drop_step cs (0 + 1 + 1 + 1 + 1 + 1 + 1 + 1 + 1 + 1 + 1 + 1 + 1 + 1) 1, e13, List.drop_of_length_le (by omega)]
    rfl
theorem y30 : Tryd.prog.bytesOf 30 = 128 := by kernel_rfl
theorem rd_script {w : World} {fuel : Nat} {cs : List Value} (h : Rd Tryd.prog w fuel 22 cs) : ∃ (a : Option Addr) (xs : List OpT) (c : Nat), cs = [.slice a xs.length c] ∧ Script w a xs := by
  cases fuel with
  | zero => exact h.elim
  | succ fuel =>
    unfold Rd at h
    rw [Tryd.underlying22] at h
    simp only [c30, y30] at h
    rcases h with rfl | ⟨a, len, cap, rfl, hl, hm, hb, hel⟩
    · exact ⟨none, [], 0, rfl, ⟨⟨fun i cs h => by simp at h⟩, by simp, by simp, by simp⟩⟩
    · obtain ⟨l, hll, hp⟩ := list_of (p := fun i (x : OpT) => w.cells? 0 (a.add (i * 14)) 14 = some x.cells ∧ Arr w x.ka 1 (ints .u8 x.key) ∧ x.key.length ≤ 140737488355328 ∧ x.cl ≤ 140737488355328 ∧ x.dl ≤ 140737488355328) len fun i hi => by
        obtain ⟨ecs, h1, h2⟩ := hel i hi
        obtain ⟨g, hg, h3⟩ := rd_op h2
        exact ⟨g, by rw [h1, hg], h3⟩
      refine ⟨some a, l, cap, by rw [hll], ⟨⟨fun i cs hi => ?_⟩, ?_, ?_, ?_⟩⟩
      · have hi' := (List.getElem?_eq_some_iff.1 hi).1
        simp only [List.length_map] at hi'
        simp only [List.getElem?_map, List.getElem?_eq_getElem hi', Option.map_some, Option.some.injEq] at hi
        subst hi
        have hs : a.spot = none := spot_none (sz := 14) (by decide) (hp 0 l[0] (by simp)).1
        obtain ⟨h1, h2, h3⟩ := elem_at (by decide) (hp i l[i] (by simp)).1 (.inl hs)
        exact ⟨a.block, a.off, by rw [← addr_eta hs], h1, h3⟩
      · intro g hg
        obtain ⟨i, hi⟩ := List.getElem?_of_mem hg
        exact (hp i g hi).2.1
      · have := reach_le hb; omega
      · intro g hg
        obtain ⟨i, hi⟩ := List.getElem?_of_mem hg
        exact (hp i g hi).2.2

theorem g_sup : Tryd.prog.globalNamed "e2e/token.servedEnctypes" = some 1 := by kernel_rfl
theorem g_srv : Tryd.prog.globalNamed "e2e/tokenlaw.served" = some 0 := by kernel_rfl
theorem t_sup : (Tryd.prog.globals[1]?).map (·.type) = some 53 := by kernel_rfl
theorem t_srv : (Tryd.prog.globals[0]?).map (·.type) = some 39 := by kernel_rfl
theorem c53 : Tryd.prog.cellsOf 53 = 6 := by kernel_rfl

theorem glob_of_laid {W : World} (h : laidMetH Tryd.prog Rows.keysAreExaminedRow.laid W) : ∃ sb so sc, Glob W sb so sc := by
  have h' : laidMet Tryd.prog [("e2e/token.servedEnctypes", Lib.tabData .i64 svl), ("e2e/tokenlaw.served", Rows.laid_e2e_tokenlaw_served)] W := h
  have hT := Lib.tabIs_of_head g_sup t_sup Tryd.underlying53 Tryd.underlying3 c3 c53 h'
  obtain ⟨ps, ⟨g, t, cs, fuel, p, q, hg, ht, hv, htr, -, -⟩, -⟩ := h'.tail
  obtain rfl := Option.some.inj (g_srv.symm.trans hg)
  obtain rfl := Option.some.inj (t_srv.symm.trans ht)
  have hT1 : W.var? Tryd.prog "e2e/token.servedEnctypes" = some (svl.map fun z => Value.int .i64 z).toArray := hT
  have hsz : 1 < W.heap.size := by
    rcases Nat.lt_or_ge 1 W.heap.size with h1 | h1
    · exact h1
    · simp [World.var?, g_sup, Array.getElem?_eq_none h1] at hT1
  rcases DataW.trod_slice Tryd.underlying39 htr with ⟨_, hx⟩ | ⟨a, len, cap, elems, rest, n, hf, hcs, hx, hb, hl, hm, hlen, hel, hsp, hns⟩
  · simp [Rows.laid_e2e_tokenlaw_served] at hx
  have hx1 : elems.map (·.1) = svl.map fun z => (DataW.lit (.int .i64 z) : DataW Unit) := by
    have := congrArg Prod.fst hx
    simp only [Rows.laid_e2e_tokenlaw_served, DataW.slice.injEq] at this
    rw [← this.1]
    rfl
  have hel6 : elems.length = 6 := by
    have := congrArg List.length hx1
    simpa [svl] using this
  have hl6 : len = 6 := by omega
  subst hl6
  have hcell : ∀ i x, svl[i]? = some x → W.cells? 0 (a.add (i * 1)) 1 = some [.int .i64 x] := by
    intro i x hx
    have hi : i < 6 := by have := (List.getElem?_eq_some_iff.1 hx).1; simpa [svl] using this
    have he := hel i hi
    rw [List.getElem?_eq_getElem (by omega), c3] at he
    obtain ⟨ecs, h1, h2⟩ := Option.bind_eq_some_iff.1 he
    obtain ⟨m, hm1, hm2, _⟩ := DataW.trod_int Tryd.underlying3 h2
    have h3 : (elems.map (·.1))[i]? = some (DataW.lit (.int .i64 x)) := by rw [hx1]; simp [hx]
    rw [List.getElem?_map, List.getElem?_eq_getElem (by omega), hm2] at h3
    simp at h3
    rw [h1, hm1, h3]
  have hs : a.spot = none := spot_none (by decide) (hcell 0 17 rfl)
  obtain ⟨e1, e2, e3⟩ := elem_at (by decide) (hcell 0 17 rfl) (.inl hs)
  refine ⟨a.block, a.off, cap, ⟨fun j v hv => ?_, hsz, ?_, e1, fun i x hx => ?_⟩⟩
  · simp only [svals, List.getElem?_map, Option.map_eq_some_iff] at hv
    obtain ⟨x, hx, rfl⟩ := hv
    have hj := (List.getElem?_eq_some_iff.1 hx).1
    have := hT.cell g_sup j hj
    rw [List.getD_eq_getElem?_getD, hx] at this
    rw [Nat.zero_add]
    exact this
  · have := World.var?_cell g_srv hv 0
    rw [this]
    have : cs[0]? = some (.slice (some a) 6 cap) := by
      have h0 : cs.toList[0]? = some (.slice (some a) 6 cap) := by rw [hcs]; rfl
      simpa using h0
    rw [this, ← addr_eta hs]
  · obtain ⟨_, _, e⟩ := elem_at (by decide) (hcell i x hx) (.inl hs)
    have := e 0 _ rfl
    simpa using this
end Go.Proofs.Qxb6500864aDoor
