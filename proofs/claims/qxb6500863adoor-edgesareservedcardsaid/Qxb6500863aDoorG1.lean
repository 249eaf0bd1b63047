/-
  HMAC: bytes and words in memory; rotations, pad, words32, spell32.
-/
import Derived.Test.Qxb6500863aDoorFa
import Derived.Test.Qxb6500863aDoorWk7
import Derived.Test.Qxb6500863aDoorWk8
import Derived.Maps.AppendAt
import Derived.Deep.Onto
namespace Go.Proofs.Qxb6500863aDoor
set_option linter.unusedSimpArgs false
set_option linter.unusedVariables false
open Go.RowKit
def cplV (q : IntKind) (a : Int) : Int := bitB .xor q (if q.signed then -1 else q.max) a
section
variable {P : Program} {f : Cx} {n : Nat} {R : Value → World → Prop} {ρ : Env} {w : World} {k : List Item} {ops : Array Oper} {S : World → Prop} {N fuel : Nat} {listed : Array Bool}
variable {d : Nat} {dst : Option Tmp} {gd : Option (Nat × Bool)} {ty : TypeId} {pos : String} {after : Array Edge}
theorem X_xor {t : TypeId} {x : Operand} {q : IntKind} {a : Int} (hx : ev ρ x = .int q a) : (execOp (ev ρ) ⟨dst, .unOp .xor t x, ty, pos, after, gd⟩).run P w = .ok (.value (.int q (cplV q a))) w := by
  simp only [execOp, hx]
  rfl
theorem D_append1 (i : Nat) {t e : TypeId} {s x : Operand} {sz by_ : Nat} {z : Value} (base : Nat) (v : Value) (m0 : Nat) (xs : List Value) (g : Nat) (news : List Value)
    (hop : ops[i]? = some ⟨some d, .call { callee := .builtin .append, args := #[s, x], argTypes := #[t, t] }, ty, pos, after, none⟩) (hcc : only ops listed i = true)
    (ht : P.underlying t = some (.slice e)) (hi : (P.info? e).map (fun i => (i.zero, i.size, i.bytes)) = some (some z, sz, by_)) (hzs : z.cells.size = sz) (hsz : 0 < sz)
    (hs : ev ρ s = v) (hown : w.ownsRow base e sz v m0 xs) (hx : ev ρ x = .slice (some ⟨g, 0, none⟩) 1 1) (hl : news.length = sz) {t' : TypeId} (hblk : Blk w g news.toArray t') (h1 : ∀ u ∈ news, u.oneCell' = true)
    (h63 : m0 + 1 ≤ maxLen) (hb : (m0 + 1) * by_ ≤ 140737488355328) (hbase : base ≤ w.heap.size) (hd : Nat.blt d n = true)
    (h : ∀ v' w1, w1.ownsRow base e sz v' (m0 + 1) (xs ++ news) → w.grownBy w1 v.ownBlock → (v'.ownBlock = v.ownBlock ∨ v'.ownBlock = some w.heap.size) → (Nat.blt i N = true → S w1) ∧ D P f n ops S N fuel (listed.setIfInBounds i true) k R (upd ρ d v') w1) :
    D P f n ops S N (fuel + 1) listed k R ρ w := by
  obtain ⟨ii, hi1, hi2, hi3, hi4⟩ := info_parts hi
  have hc : ∀ j u, news[j]? = some u → w.cell? ((⟨g, 0, none⟩ : Addr).add j) = some u := by
    intro j u hu
    rw [Addr.add_lit]
    simp only [Nat.zero_add]
    rw [hblk.cell]
    simpa using hu
  obtain ⟨v', w', hr, o1, o2, _, o3⟩ := run_append_own_at (P := P) w base t ty e ii z sz by_ ht hi1 hi2 hi3 hi4 hzs hsz v m0 xs hown ⟨g, 0, none⟩ 1 1 news (by omega) hc h1 h63 hb hbase
  obtain ⟨q1, q2⟩ := h v' w' o1 o2 o3
  refine D_val i v' w' hop hcc ?_ hd q1 q2
  simp [execOp, resolve, invoke, builtin, hs, hx, hr]
end
theorem below_blk {B : Nat} {w w' : World} {k : Nat} {c : Array Value} {t : TypeId} (h : Below B w w') (hb : Blk w k c t) (hk : k < B) : Blk w' k c t := (h.block k hk).trans hb
theorem gblk {w : World} {b : Nat} {cs : List Value} {t : TypeId} (h : Blk w b cs.toArray t) (i : Nat) {v : Value} (hv : cs[i]? = some v) : w.cell? ⟨b, i, none⟩ = some v := by
  rw [h.cell]; simpa using hv
theorem gblk0 {w : World} {b : Nat} {cs : List Value} {t : TypeId} (h : Blk w b cs.toArray t) : ∀ j v, cs[j]? = some v → w.cell? ⟨b, 0 + j, none⟩ = some v := by
  intro j v hv
  rw [Nat.zero_add]
  exact gblk h j hv
/-- Numbers of one kind. -/
def iv (q : IntKind) (l : List Int) : List Value := l.map fun (x : Int) => .int q x
theorem iv_len (q : IntKind) (l : List Int) : (iv q l).length = l.length := by simp [iv]
theorem iv_one (q : IntKind) (l : List Int) : ∀ v ∈ iv q l, v.oneCell' = true := by
  intro v hv
  obtain ⟨x, _, rfl⟩ := List.mem_map.1 hv
  rfl
theorem iv_app (q : IntKind) (l m : List Int) : iv q (l ++ m) = iv q l ++ iv q m := by simp [iv]
theorem iv_set (q : IntKind) (l : List Int) (i : Nat) (x : Int) : (iv q l).set i (.int q x) = iv q (l.set i x) := by simp [iv, List.map_set]
theorem iv_get {q : IntKind} {l : List Int} {i : Nat} {x : Int} (h : l[i]? = some x) : (iv q l)[i]? = some (.int q x) := by simp [iv, h]
theorem iset {w w1 : World} {b i : Nat} {l : List Int} {q : IntKind} {t : TypeId} {x : Int} (h : Chg w w1 b (.cells ((iv q l).toArray.setIfInBounds i (.int q x)) t (0, 0))) : Blk w1 b (iv q (l.set i x)).toArray t := by
  have := h.new
  rw [← iv_set]
  simpa using this
/-- The numbers that a slice holds. -/
structure Ints (q : IntKind) (w : World) (a : Option Addr) (l : List Int) : Prop where
  cell : ∀ (j : Nat) (x : Int), l[j]? = some x → ∃ b o, a = some ⟨b, o, none⟩ ∧ b < w.heap.size ∧ w.cell? ⟨b, o + j, none⟩ = some (.int q x)
theorem Ints.below {q : IntKind} {w w' : World} {a : Option Addr} {l : List Int} (h : Ints q w a l) (hb : Below w.heap.size w w') : Ints q w' a l :=
  ⟨fun j x hx => let ⟨b, o, h1, h2, h3⟩ := h.cell j x hx; ⟨b, o, h1, Nat.lt_of_lt_of_le h2 hb.size, (below_cell hb _ h2).trans h3⟩⟩
theorem Ints.at {q : IntKind} {w : World} {b o : Nat} {l : List Int} (h : Ints q w (some ⟨b, o, none⟩) l) : ∀ (j : Nat) (x : Int), l[j]? = some x → w.cell? ⟨b, o + j, none⟩ = some (.int q x) := by
  intro j x hx
  obtain ⟨b', o', h1, _, h3⟩ := h.cell j x hx
  simp only [Option.some.injEq, Addr.mk.injEq, and_true] at h1
  obtain ⟨rfl, rfl⟩ := h1
  exact h3
theorem Ints.some {q : IntKind} {w : World} {a : Option Addr} {l : List Int} (h : Ints q w a l) (hl : 0 < l.length) : ∃ b o, a = Option.some ⟨b, o, none⟩ ∧ b < w.heap.size := by
  obtain ⟨b, o, h1, h2, _⟩ := h.cell 0 l[0] (by simp)
  exact ⟨b, o, h1, h2⟩
theorem ints_blk {q : IntKind} {w : World} {b : Nat} {l : List Int} {t : TypeId} (h : Blk w b (iv q l).toArray t) : Ints q w (some ⟨b, 0, none⟩) l :=
  ⟨fun j x hx => ⟨b, 0, rfl, h.lt, by rw [Nat.zero_add]; exact gblk h j (iv_get hx)⟩⟩
theorem ints_owns {q : IntKind} {w : World} {base n c : Nat} {e : TypeId} {a : Option Addr} {l : List Int} (h : w.ownsRow base e 1 (.slice a n c) n (iv q l)) (hn : l.length = n) : Ints q w a l := by
  refine ⟨fun j x hx => ?_⟩
  have hj := (List.getElem?_eq_some_iff.1 hx).1
  rcases h.2 with ⟨e1, e2⟩ | ⟨g, cap, cur, hv, hb, hg, hrest⟩
  · omega
  · simp only [Value.slice.injEq] at hv
    obtain ⟨rfl, -, rfl⟩ := hv
    refine ⟨g, 0, rfl, (Array.getElem?_eq_some_iff.1 hg).1, ?_⟩
    rw [Nat.zero_add, h.cellAt _ (by omega)]
    simp [iv, hx]
theorem ints_drop {q : IntKind} {w : World} {b o n : Nat} {l : List Int} (h : Ints q w (some ⟨b, o, none⟩) l) : Ints q w (some ⟨b, o + n, none⟩) (l.drop n) := by
  refine ⟨fun j x hx => ?_⟩
  rw [List.getElem?_drop] at hx
  obtain ⟨b', o', h1, h2, h3⟩ := h.cell (n + j) x hx
  simp only [Option.some.injEq, Addr.mk.injEq, and_true] at h1
  obtain ⟨rfl, rfl⟩ := h1
  exact ⟨b, o + n, rfl, h2, by rw [Nat.add_assoc]; exact h3⟩
theorem ints_take {q : IntKind} {w : World} {a : Option Addr} {l : List Int} (h : Ints q w a l) (n : Nat) : Ints q w a (l.take n) := by
  refine ⟨fun j x hx => h.cell j x ?_⟩
  rw [List.getElem?_take] at hx
  split at hx
  · exact hx
  · simp at hx
theorem own_below {w w' : World} {B e size n : Nat} {v : Value} {xs : List Value} (h : w.ownsRow B e size v n xs) (hb : Below w.heap.size w w') : w'.ownsRow B e size v n xs := by
  refine ⟨h.1, ?_⟩
  rcases h.2 with hn | ⟨g, cap, cur, rfl, hg, hgg, rest⟩
  · exact .inl hn
  · exact .inr ⟨g, cap, cur, rfl, hg, by rw [hb.block g (Array.getElem?_eq_some_iff.1 hgg).1]; exact hgg, rest⟩
theorem ints_src {q : IntKind} {w : World} {a : Option Addr} {l : List Int} (h : Ints q w a l) : ∀ ad, a = some ad → ∀ j u, (iv q l)[j]? = some u → w.cell? (ad.add j) = some u := by
  intro ad ha j u hu
  simp only [iv, List.getElem?_map, Option.map_eq_some_iff] at hu
  obtain ⟨x, hx, rfl⟩ := hu
  obtain ⟨b, o, ha', _, hc⟩ := h.cell j x hx
  rw [ha] at ha'
  obtain rfl := Option.some.inj ha'
  rw [Addr.add_lit]
  exact hc
theorem owns_cap {w : World} {base n c : Nat} {e : TypeId} {sz : Nat} {a : Option Addr} {xs : List Value} (h : w.ownsRow base e sz (.slice a n c) n xs) : n ≤ c := by
  rcases h.2 with ⟨h1, h2⟩ | ⟨g, cap, cur, hv, hb, hgg, hnc, hcm, hcs, htk⟩
  · simp only [Value.slice.injEq] at h1
    omega
  · simp only [Value.slice.injEq] at hv
    omega
/-! the rotations -/
def shlV (q : IntKind) (x s : Int) : Int := q.wrap (x * 2 ^ (min s.toNat q.bits))
def shrV (q : IntKind) (x s : Int) : Int := x.fdiv (2 ^ (min s.toNat q.bits))
def rotlV (x s : Int) : Int := bitB .or .u32 (shlV .u32 x s) (shrV .u32 x (32 - s))
def rotrV (x s : Int) : Int := bitB .or .u32 (shrV .u32 x s) (shlV .u32 x (32 - s))
def rotr64V (x s : Int) : Int := bitB .or .u64 (shrV .u64 x s) (shlV .u64 x (64 - s))
theorem rotl_ret (x s : Int) (h0 : 0 ≤ s) (h1 : s ≤ 32) (w : World) : Ret Tryd.prog 48 #[.int .u32 x, .int .i64 s] w fun v w' => v = .int .u32 (rotlV x s) ∧ Sm w w' := by
  refine ret_of_T (vs := [.int .u32 x, .int .i64 s]) Tryd.func48 Tryd.ntmps48 rfl (Nat.le_of_ble_eq_true rfl) ?_
  repeat (first | refine T_seq ?_ | refine T_block ?_ | refine T_inBlock ?_ | refine T_skip ?_)
  refine T_region ?_
  refine L_val _ _ (X_assign) rfl ?_
  refine L_nil ?_
  repeat (first | refine T_seq ?_ | refine T_block ?_ | refine T_inBlock ?_ | refine T_skip ?_)
  refine T_quiet (fun z => Sm w z) rfl (by kernel_rfl) (sm_drew w) ?_
  refine LQ_val _ (fun w hw => X_move) rfl ?_
  refine LQ_val _ (fun w hw => X_move) rfl ?_
  refine LQ_val _ (fun w hw => X_shl rfl rfl h0) rfl ?_
  refine LQ_val _ (fun w hw => X_move) rfl ?_
  refine LQ_val _ (fun w hw => X_move) rfl ?_
  refine LQ_val _ (fun w hw => X_sub rfl rfl (by omega) (by omega)) rfl ?_
  refine LQ_val _ (fun w hw => X_shr rfl rfl (by omega)) rfl ?_
  refine LQ_val _ (fun w hw => X_bit rfl rfl rfl) rfl ?_
  refine LQ_val _ (fun w hw => X_assign) rfl ?_
  refine LQ_nil fun w1 h1 => ?_
  exact T_ret1 Tryd.func48 rfl ⟨rfl, h1⟩
theorem rotr_ret (x s : Int) (h0 : 0 ≤ s) (h1 : s ≤ 32) (w : World) : Ret Tryd.prog 50 #[.int .u32 x, .int .i64 s] w fun v w' => v = .int .u32 (rotrV x s) ∧ Sm w w' := by
  refine ret_of_T (vs := [.int .u32 x, .int .i64 s]) Tryd.func50 Tryd.ntmps50 rfl (Nat.le_of_ble_eq_true rfl) ?_
  repeat (first | refine T_seq ?_ | refine T_block ?_ | refine T_inBlock ?_ | refine T_skip ?_)
  refine T_region ?_
  refine L_val _ _ (X_assign) rfl ?_
  refine L_nil ?_
  repeat (first | refine T_seq ?_ | refine T_block ?_ | refine T_inBlock ?_ | refine T_skip ?_)
  refine T_quiet (fun z => Sm w z) rfl (by kernel_rfl) (sm_drew w) ?_
  refine LQ_val _ (fun w hw => X_move) rfl ?_
  refine LQ_val _ (fun w hw => X_move) rfl ?_
  refine LQ_val _ (fun w hw => X_shr rfl rfl h0) rfl ?_
  refine LQ_val _ (fun w hw => X_move) rfl ?_
  refine LQ_val _ (fun w hw => X_move) rfl ?_
  refine LQ_val _ (fun w hw => X_sub rfl rfl (by omega) (by omega)) rfl ?_
  refine LQ_val _ (fun w hw => X_shl rfl rfl (by omega)) rfl ?_
  refine LQ_val _ (fun w hw => X_bit rfl rfl rfl) rfl ?_
  refine LQ_val _ (fun w hw => X_assign) rfl ?_
  refine LQ_nil fun w1 h1 => ?_
  exact T_ret1 Tryd.func50 rfl ⟨rfl, h1⟩
theorem rotr64_ret (x s : Int) (h0 : 0 ≤ s) (h1 : s ≤ 64) (w : World) : Ret Tryd.prog 51 #[.int .u64 x, .int .i64 s] w fun v w' => v = .int .u64 (rotr64V x s) ∧ Sm w w' := by
  refine ret_of_T (vs := [.int .u64 x, .int .i64 s]) Tryd.func51 Tryd.ntmps51 rfl (Nat.le_of_ble_eq_true rfl) ?_
  repeat (first | refine T_seq ?_ | refine T_block ?_ | refine T_inBlock ?_ | refine T_skip ?_)
  refine T_region ?_
  refine L_val _ _ (X_assign) rfl ?_
  refine L_nil ?_
  repeat (first | refine T_seq ?_ | refine T_block ?_ | refine T_inBlock ?_ | refine T_skip ?_)
  refine T_quiet (fun z => Sm w z) rfl (by kernel_rfl) (sm_drew w) ?_
  refine LQ_val _ (fun w hw => X_move) rfl ?_
  refine LQ_val _ (fun w hw => X_move) rfl ?_
  refine LQ_val _ (fun w hw => X_shr rfl rfl h0) rfl ?_
  refine LQ_val _ (fun w hw => X_move) rfl ?_
  refine LQ_val _ (fun w hw => X_move) rfl ?_
  refine LQ_val _ (fun w hw => X_sub rfl rfl (by omega) (by omega)) rfl ?_
  refine LQ_val _ (fun w hw => X_shl rfl rfl (by omega)) rfl ?_
  refine LQ_val _ (fun w hw => X_bit rfl rfl rfl) rfl ?_
  refine LQ_val _ (fun w hw => X_assign) rfl ?_
  refine LQ_nil fun w1 h1 => ?_
  exact T_ret1 Tryd.func51 rfl ⟨rfl, h1⟩
end Go.Proofs.Qxb6500863aDoor
