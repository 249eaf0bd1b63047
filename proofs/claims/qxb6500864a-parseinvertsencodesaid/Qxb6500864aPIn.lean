/-
  The script as it comes in, off the form's reading.
-/
import Derived.Test.Qxb6500864aPB
import Derived.Test.Qxb6500864aRd
namespace Go.Proofs.Qxb6500864a
set_option linter.unusedSimpArgs false
set_option linter.unusedVariables false
open Go.RowKit

theorem c22 : Try.prog.cellsOf 22 = 1 := by kernel_rfl
theorem c30 : Try.prog.cellsOf 30 = 14 := by kernel_rfl
theorem c24 : Try.prog.cellsOf 24 = 1 := by kernel_rfl
theorem c3 : Try.prog.cellsOf 3 = 1 := by kernel_rfl
theorem c25 : Try.prog.cellsOf 25 = 1 := by kernel_rfl
theorem c26 : Try.prog.cellsOf 26 = 1 := by kernel_rfl
theorem c27 : Try.prog.cellsOf 27 = 1 := by kernel_rfl
theorem c5 : Try.prog.cellsOf 5 = 1 := by kernel_rfl
theorem c28 : Try.prog.cellsOf 28 = 1 := by kernel_rfl
theorem c4 : Try.prog.cellsOf 4 = 1 := by kernel_rfl
theorem y5 : Try.prog.bytesOf 5 = 1 := by kernel_rfl
theorem y30 : Try.prog.bytesOf 30 = 128 := by kernel_rfl
theorem addr_eta {a : Addr} (h : a.spot = none) : a = ⟨a.block, a.off, none⟩ := by
  obtain ⟨b, o, s⟩ := a
  simp only at h
  subst h
  rfl
theorem reach_le {n : Nat} (h : n ≤ reachBytes) : n ≤ 140737488355328 := by
  have : reachBytes < 2 ^ 47 := reachBytes_lt
  omega
theorem rd_int {w : World} {fuel : Nat} {t : TypeId} {k : IntKind} {cs : List Value} (hu : Try.prog.underlying t = some (.int k)) (h : Rd Try.prog w fuel t cs) : ∃ n, cs = [.int k n] ∧ (Lit.int k n).wf = true := by
  cases fuel with
  | zero => exact h.elim
  | succ fuel => unfold Rd at h; rw [hu] at h; exact h
theorem rd_nat {w : World} {fuel : Nat} {t : TypeId} {k : IntKind} {cs : List Value} (hk : k = .u8 ∨ k = .u16 ∨ k = .u64) (hu : Try.prog.underlying t = some (.int k)) (h : Rd Try.prog w fuel t cs) : ∃ n : Nat, cs = [.int k (n : Int)] ∧ n < lim k := by
  obtain ⟨n, hn, hwf⟩ := rd_int hu h
  have h0 : 0 ≤ n ∧ n < (lim k : Int) := by
    rcases hk with rfl | rfl | rfl
    · have h1 : IntKind.u8.min = 0 := by decide
      have h2 : IntKind.u8.max = 255 := by decide
      simp only [Lit.wf, h1, h2, Bool.and_eq_true, decide_eq_true_eq] at hwf
      show 0 ≤ n ∧ n < 256
      omega
    · have h1 : IntKind.u16.min = 0 := by decide
      have h2 : IntKind.u16.max = 65535 := by decide
      simp only [Lit.wf, h1, h2, Bool.and_eq_true, decide_eq_true_eq] at hwf
      show 0 ≤ n ∧ n < 65536
      omega
    · have h1 : IntKind.u64.min = 0 := by decide
      have h2 : IntKind.u64.max = 18446744073709551615 := by decide
      simp only [Lit.wf, h1, h2, Bool.and_eq_true, decide_eq_true_eq] at hwf
      show 0 ≤ n ∧ n < 18446744073709551616
      omega
  exact ⟨n.toNat, by rw [hn, Int.toNat_of_nonneg h0.1], by omega⟩
theorem rd_bool {w : World} {fuel : Nat} {t : TypeId} {cs : List Value} (hu : Try.prog.underlying t = some .bool) (h : Rd Try.prog w fuel t cs) : ∃ b, cs = [.bool b] := by
  cases fuel with
  | zero => exact h.elim
  | succ fuel => unfold Rd at h; rw [hu] at h; exact h
theorem rd_bytes {w : World} {fuel : Nat} {cs : List Value} (h : Rd Try.prog w fuel 25 cs) : ∃ (na : Option Addr) (l : List Nat) (nc : Nat), cs = [.slice na l.length nc] ∧ Byt w na l ∧ (∀ y ∈ l, y < 256) ∧ l.length ≤ nc ∧ (na = none → l.length = 0 ∧ nc = 0) ∧ l.length ≤ 140737488355328 := by
  cases fuel with
  | zero => exact h.elim
  | succ fuel =>
    unfold Rd at h
    rw [Try.underlying25] at h
    simp only [c5, y5] at h
    rcases h with rfl | ⟨a, len, cap, rfl, hl, hm, hb, hel⟩
    · exact ⟨none, [], 0, rfl, ⟨fun i cs h => by simp at h⟩, by simp, by simp, fun _ => ⟨rfl, rfl⟩, by simp⟩
    · obtain ⟨l, hll, hp⟩ := list_of (p := fun i (x : Nat) => w.cells? 0 (a.add (i * 1)) 1 = some [.int .u8 (x : Int)] ∧ x < 256) len fun i hi => by
        obtain ⟨ecs, h1, h2⟩ := hel i hi
        obtain ⟨n, hn, hlt⟩ := rd_nat (.inl rfl) Try.underlying5 h2
        exact ⟨n, by rw [h1, hn], hlt⟩
      refine ⟨some a, l, cap, by rw [hll], ⟨fun i x hi => ?_⟩, ?_, by omega, (fun h => by cases h), by have := reach_le hb; omega⟩
      · have hi' := (List.getElem?_eq_some_iff.1 hi).1
        have h0 : 0 < l.length := by omega
        have hs : a.spot = none := spot_none (by decide) (hp 0 l[0] (by simp)).1
        obtain ⟨h1, h2, h3⟩ := elem_at (by decide) (hp i x hi).1 (.inl hs)
        have := h3 0 _ rfl
        rw [Nat.mul_one, Nat.add_zero] at this
        exact ⟨a.block, a.off, by rw [← addr_eta hs], h1, this⟩
      · intro y hy
        obtain ⟨i, hi⟩ := List.getElem?_of_mem hy
        exact (hp i y hi).2
theorem rd_op {w : World} {fuel : Nat} {cs : List Value} (h : Rd Try.prog w fuel 30 cs) : ∃ x : OpP, cs = x.cells ∧ x.okI w := by
  cases fuel with
  | zero => exact h.elim
  | succ fuel =>
    unfold Rd at h
    rw [Try.underlying30] at h
    simp only [List.mem_cons, forall_eq_or_imp, List.not_mem_nil, false_implies, implies_true, and_true, c30, c24, c3, c25, c26, c27, c5, c28, c4] at h
    obtain ⟨hl, h0, h1, h2, h3, h4, h5, h6, h7, h8, h9, h10, h11, h12, h13⟩ := h
    obtain ⟨x0, e0, _⟩ := rd_int Try.underlying24 h0
    obtain ⟨x1, e1, _⟩ := rd_int Try.underlying3 h1
    obtain ⟨ka, kl, kc, e2, _, _, _, _, hk⟩ := rd_bytes h2
    obtain ⟨x3, e3, _⟩ := rd_int Try.underlying26 h3
    obtain ⟨x4, e4, q4⟩ := rd_nat (.inr (.inl rfl)) Try.underlying27 h4
    obtain ⟨x5, e5, q5⟩ := rd_nat (.inl rfl) Try.underlying5 h5
    obtain ⟨x6, e6, q6⟩ := rd_nat (.inr (.inl rfl)) Try.underlying27 h6
    obtain ⟨x7, e7, q7⟩ := rd_nat (.inr (.inl rfl)) Try.underlying27 h7
    obtain ⟨x8, e8, q8⟩ := rd_nat (.inr (.inr rfl)) Try.underlying28 h8
    obtain ⟨ca, cl, cc, e9, _, _, _, _, hc⟩ := rd_bytes h9
    obtain ⟨da, dl, dc, e10, hD, hDl, hDc, hDn, hd⟩ := rd_bytes h10
    obtain ⟨x11, e11, _⟩ := rd_int Try.underlying3 h11
    obtain ⟨x12, e12, q12⟩ := rd_nat (.inl rfl) Try.underlying5 h12
    obtain ⟨x13, e13⟩ := rd_bool Try.underlying4 h13
    refine ⟨⟨x0, x1, ka, kl.length, kc, x3, ⟨x4, x5, x6, x7, x8⟩, ca, cl.length, cc, da, dl, dc, x11, x12, x13⟩, ?_, ⟨⟨q4, q5, q6, q7, q8⟩, hD, hDl, hDc, hDn, q12, ⟨hk, hc, hd⟩⟩⟩
    have : cs = cs.drop 0 := rfl
    rw [this, drop_step cs 0 1, e0, drop_step cs (0 + 1) 1, e1, drop_step cs (0 + 1 + 1) 1, e2, drop_step cs (0 + 1 + 1 + 1) 1, e3, drop_step cs (0 + 1 + 1 + 1 + 1) 1, e4, drop_step cs (0 + 1 + 1 + 1 + 1 + 1) 1, e5, drop_step cs (0 + 1 + 1 + 1 + 1 + 1 + 1) 1, e6, drop_step cs (0 + 1 + 1 + 1 + 1 + 1 + 1 + 1) 1, e7, drop_step cs (0 + 1 + 1 + 1 + 1 + 1 + 1 + 1 + 1) 1, e8,
      drop_step cs (0 + 1 + 1 + 1 + 1 + 1 + 1 + 1 + 1 + 1) 1, e9, drop_step cs (0 + 1 + 1 + 1 + 1 + 1 + 1 + 1 + 1 + 1 + 1) 1, e10, drop_step cs (0 + 1 + 1 + 1 + 1 + 1 + 1 + 1 + 1 + 1 + 1 + 1) 1, e11, drop_step cs (0 + 1 + 1 + 1 + 1 + 1 + 1 + 1 + 1 + 1 + 1 + 1 + 1) 1, e12, drop_step cs (0 + 1 + 1 + 1 + 1 + 1 + 1 + 1 + 1 + 1 + 1 + 1 + 1 + 1) 1, e13, List.drop_of_length_le (by omega)]
    rfl
theorem rd_script {w : World} {fuel : Nat} {cs : List Value} (h : Rd Try.prog w fuel 22 cs) : ∃ (a : Option Addr) (xs : List OpP) (c : Nat), cs = [.slice a xs.length c] ∧ Script w a xs := by
  cases fuel with
  | zero => exact h.elim
  | succ fuel =>
    unfold Rd at h
    rw [Try.underlying22] at h
    simp only [c30, y30] at h
    rcases h with rfl | ⟨a, len, cap, rfl, hl, hm, hb, hel⟩
    · exact ⟨none, [], 0, rfl, ⟨fun i x h => by simp at h, by simp, by simp⟩⟩
    · obtain ⟨l, hll, hp⟩ := list_of (p := fun i (x : OpP) => w.cells? 0 (a.add (i * 14)) 14 = some x.cells ∧ x.okI w) len fun i hi => by
        obtain ⟨ecs, h1, h2⟩ := hel i hi
        obtain ⟨g, hg, h3⟩ := rd_op h2
        exact ⟨g, by rw [h1, hg], h3⟩
      refine ⟨some a, l, cap, by rw [hll], ⟨fun i x hi => ?_, ?_, ?_⟩⟩
      · have hi' := (List.getElem?_eq_some_iff.1 hi).1
        have h0 : 0 < l.length := by omega
        have hs : a.spot = none := spot_none (sz := 14) (by decide) (hp 0 l[0] (by simp)).1
        obtain ⟨h1, h2, h3⟩ := elem_at (by decide) (hp i x hi).1 (.inl hs)
        exact ⟨a.block, a.off, by rw [← addr_eta hs], h1, h3⟩
      · intro g hg
        obtain ⟨i, hi⟩ := List.getElem?_of_mem hg
        exact (hp i g hi).2
      · have := reach_le hb; omega
end Go.Proofs.Qxb6500864a
