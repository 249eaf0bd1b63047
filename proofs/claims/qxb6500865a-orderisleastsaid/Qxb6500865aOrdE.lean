/-
  Order$1, each, bundlem.Order.
-/
import Derived.Test.Qxb6500865aOrdW
namespace Go.Proofs.Qxb6500865a
set_option linter.unusedSimpArgs false
set_option linter.unusedVariables false
open Go.RowKit

/-- Nothing that stood has turned, but block b. -/
structure But (b : Nat) (w w' : World) : Prop where
  os : w'.os = w.os
  tape : w'.tape = w.tape
  output : w'.output = w.output
  size : w.heap.size ≤ w'.heap.size
  oth : ∀ k, k < w.heap.size → k ≠ b → w'.heap[k]? = w.heap[k]?
theorem Below.but {w w1 w2 : World} {b : Nat} (h : Below w.heap.size w w1) (h2 : But b w1 w2) : But b w w2 :=
  ⟨h2.os.trans h.os, h2.tape.trans h.tape, h2.output.trans h.output, Nat.le_trans h.size h2.size, fun k hk hne => (h2.oth k (Nat.lt_of_lt_of_le hk h.size) hne).trans (h.block k hk)⟩
theorem Chg.but {w w1 : World} {b : Nat} {o : Obj} (h : Chg w w1 b o) : But b w w1 := ⟨h.os, h.tape, h.output, h.size, fun k _ hne => h.oth k hne⟩
theorem But.below {w w1 : World} {b B : Nat} (h : But b w w1) (hb : B ≤ b) (hB : B ≤ w.heap.size) : Below B w w1 := ⟨h.os, h.tape, h.output, h.size, fun k hk => h.oth k (by omega) (by omega)⟩
theorem But.arr {w w1 : World} {b : Nat} {a : Option Addr} {sz : Nat} {css : List (List Value)} (h : But b w w1) (ha : Arr w a sz css) (hne : ∀ ad, a = some ad → ad.block ≠ b) : Arr w1 a sz css :=
  ⟨fun i cs hi => let ⟨b1, o, he, hb, hc⟩ := ha.cell i cs hi; ⟨b1, o, he, Nat.lt_of_lt_of_le hb h.size, fun j x hx => (World.cell?_of_block (h.oth b1 hb (hne _ he))).trans (hc j x hx)⟩⟩
theorem natc_src {w : World} {a : Option Addr} {l : List Nat} (h : Arr w a 1 (natc l)) : ∀ ad, a = some ad → ∀ j u, (natCells l)[j]? = some u → w.cell? (ad.add j) = some u := by
  intro ad ha j u hu
  have hj := (List.getElem?_eq_some_iff.1 hu).1
  simp [natCells] at hj
  obtain ⟨b, o, ha', _, hc⟩ := h.cell j [.int .i64 (l[j] : Nat)] (by simp [natc, hj])
  rw [ha] at ha'
  obtain rfl := Option.some.inj ha'
  have := hc 0 _ rfl
  rw [Addr.add_lit]
  simp only [Nat.mul_one, Nat.add_zero] at this
  rw [this]
  simpa [natCells, hj] using hu
theorem natCells_one (l : List Nat) : ∀ v ∈ natCells l, v.oneCell' = true := by simp [natCells, Value.oneCell']
theorem natCells_snoc (l : List Nat) (i : Nat) : natCells l ++ [.int .i64 (i : Nat)] = natCells (l ++ [i]) := by simp [natCells]

theorem made0 : madeCells #[Value.int .i64 0] (0 * 1) = #[] := by simp [madeCells]
theorem E28 : EN Try.prog 28 := fun _ _ => by kernel_rfl
set_option maxHeartbeats 4000000 in
/-- the closure of bundlem.Order -/
theorem visit_ret (a : Option Addr) (c : Nat) (gs : List Leg) (pa : Option Addr) (pc : Nat) (perm : List Nat) (B1 best : Nat) (bv : Value) (w : World) (hl : Legs w a gs) (hn : gs.length < 1000000) (hsm : ∀ g ∈ gs, g.needs.length < 1000000) (hp : Arr w pa 1 (natc perm)) (hpl : perm.length ≤ 8) (hpc : perm.length ≤ pc) (hpi : ∀ i ∈ perm, i < gs.length)
    (k1 : Blk w B1 #[.slice a gs.length c] 28) (k2 : Blk w best #[bv] 49) :
    Ret Try.prog 28 #[.slice pa perm.length pc, .pointer (some ⟨B1, 0, none⟩), .pointer (some ⟨best, 0, none⟩)] w fun v w' => v = .bool (fitsF (okN gs) [] perm) ∧ (fitsF (okN gs) [] perm = false → Below w.heap.size w w') ∧ (fitsF (okN gs) [] perm = true → But best w w' ∧ Blk w' best #[.slice pa perm.length pc] 49) := by
  refine ret_of_T (vs := [.slice pa perm.length pc, .pointer (some ⟨B1, 0, none⟩), .pointer (some ⟨best, 0, none⟩)]) Try.func28 Try.ntmps28 rfl (Nat.le_of_ble_eq_true rfl) ?_
  have hfit := fits_ret a c gs pa pc perm w hl hn hsm hp hpl hpc hpi
  generalize fitsF (okN gs) [] perm = q at *
  repeat (first | refine T_seq ?_ | refine T_block ?_ | refine T_inBlock ?_ | refine T_skip ?_)
  refine T_region ?_
  refine L_val _ _ (X_assign) rfl ?_
  refine L_nil ?_
  repeat (first | refine T_seq ?_ | refine T_block ?_ | refine T_inBlock ?_ | refine T_skip ?_)
  refine T_region ?_
  refine L_val _ _ (X_loadAgg [.slice a gs.length c] A28 S28 rfl rfl (agg1 k1)) rfl ?_
  refine L_val _ _ (X_move) rfl ?_
  refine L_callF [.agg #[.slice a gs.length c], .slice pa perm.length pc] E14 rfl rfl hfit ?_
  rintro v w1 ⟨rfl, b1⟩
  refine L_nil ?_
  cases q with
  | true =>
    refine T_true rfl ?_
    repeat (first | refine T_seq ?_ | refine T_block ?_ | refine T_inBlock ?_ | refine T_skip ?_)
    refine T_region ?_
    refine L_val _ _ (X_move) rfl ?_
    refine L_store (.slice pa perm.length pc) S49 rfl rfl rfl (below_blk b1 k2 k2.lt) (by simp) fun w2 h2 => ?_
    refine L_nil ?_
    repeat (first | refine T_seq ?_ | refine T_block ?_ | refine T_inBlock ?_ | refine T_skip ?_)
    refine T_region ?_
    refine L_val _ _ (X_assign) rfl ?_
    refine L_nil ?_
    exact T_ret1 Try.func28 rfl ⟨rfl, (fun h => by cases h), fun _ => ⟨Below.but b1 h2.but, h2.new⟩⟩
  | false =>
    refine T_false rfl ?_
    repeat (first | refine T_seq ?_ | refine T_block ?_ | refine T_inBlock ?_ | refine T_skip ?_)
    refine T_region ?_
    refine L_val _ _ (X_assign) rfl ?_
    refine L_nil ?_
    exact T_ret1 Try.func28 rfl ⟨rfl, fun _ => b1, (fun h => by cases h)⟩

theorem search_first {R : List Nat → Nat → Bool} {n k i : Nat} {pre p : List Nat} (hi : i < n) (hb : ∀ j, j < i → (if pre.contains j then none else search R n k (pre ++ [j])) = none) (hc : pre.contains i = false) (hs : search R n k (pre ++ [i]) = some p) : search R n (k + 1) pre = some p := by
  simp only [search]
  rw [List.findSome?_eq_some_iff]
  have hj : i < (List.range n).length := by simpa using hi
  refine ⟨(List.range n).take i, i, (List.range n).drop (i + 1), ?_, by rw [hc]; simpa using hs, ?_⟩
  · have h9 : (List.range n)[i]'hj = i := by simp
    calc List.range n = (List.range n).take i ++ (List.range n).drop i := (List.take_append_drop _ _).symm
      _ = _ := by rw [List.drop_eq_getElem_cons hj, h9]
  · intro t ht
    obtain ⟨u, hu, hut⟩ := List.mem_iff_getElem.1 ht
    have hu' : u < i := by simp at hu; omega
    have ht' : t = u := by rw [← hut]; simp
    subst ht'
    exact hb t hu'
theorem search_none {R : List Nat → Nat → Bool} {n k : Nat} {pre : List Nat} (hb : ∀ j, j < n → (if pre.contains j then none else search R n k (pre ++ [j])) = none) : search R n (k + 1) pre = none := by
  simp only [search]
  rw [List.findSome?_eq_none_iff]
  intro x hx
  exact hb x (by simpa using hx)
theorem any_contains (pre : List Nat) (i : Nat) : (pre.any fun j => (j : Int) == (i : Int)) = pre.contains i := by
  rw [List.contains_eq_any_beq]
  congr 1
  funext j
  rw [Bool.eq_iff_iff]
  simp
  omega

set_option maxHeartbeats 8000000 in
set_option maxRecDepth 10000 in
/-- bundlem.each -/
theorem each_ret (a : Option Addr) (c : Nat) (gs : List Leg) (B1 best : Nat) (bv : Value) (hn : gs.length ≤ 8) (hsm : ∀ g ∈ gs, g.needs.length < 1000000) : ∀ (k : Nat) (pre : List Nat) (pa : Option Addr) (pc : Nat) (w : World), pre.length + k = gs.length → pre.Nodup → (∀ x ∈ pre, x < gs.length) → Legs w a gs → Blk w B1 #[.slice a gs.length c] 28 → Blk w best #[bv] 49 →
    Arr w pa 1 (natc pre) → pre.length ≤ pc → (pa = none → pre.length = 0 ∧ pc = 0) → (∀ ad, pa = some ad → ad.block ≠ best) →
    Ret Try.prog 27 #[.int .i64 gs.length, .slice pa pre.length pc, .func (.func 28) #[] #[.pointer (some ⟨B1, 0, none⟩), .pointer (some ⟨best, 0, none⟩)]] w fun v w' =>
      (search (okN gs) gs.length k pre = none → v = .bool false ∧ Below w.heap.size w w') ∧
      (∀ p, search (okN gs) gs.length k pre = some p → v = .bool true ∧ But best w w' ∧ ∃ pa' pc', Blk w' best #[.slice pa' gs.length pc'] 49 ∧ Arr w' pa' 1 (natc p) ∧ gs.length ≤ pc') := by
  intro k
  induction k with
  | zero =>
    intro pre pa pc w hk hd hlt hl k1 k2 hp hpc hno hne
    refine ret_of_T (vs := [.int .i64 gs.length, .slice pa pre.length pc, .func (.func 28) #[] #[.pointer (some ⟨B1, 0, none⟩), .pointer (some ⟨best, 0, none⟩)]]) Try.func27 Try.ntmps27 rfl (Nat.le_of_ble_eq_true rfl) ?_
    have hv := visit_ret a c gs pa pc pre B1 best bv w hl (by omega) hsm hp (by omega) hpc hlt k1 k2
    have hlen : pre.length = gs.length := by omega
    have e14 : cmpB .eql (pre.length : Int) gs.length = true := by rw [hlen]; simp [cmpB]
    repeat (first | refine T_seq ?_ | refine T_block ?_ | refine T_inBlock ?_ | refine T_skip ?_)
    refine T_region ?_
    refine L_val _ _ (X_assign) rfl ?_
    refine L_nil ?_
    repeat (first | refine T_seq ?_ | refine T_block ?_ | refine T_inBlock ?_ | refine T_skip ?_)
    refine T_region ?_
    refine L_val _ _ (X_move) rfl ?_
    refine L_val _ _ (X_lenS U49 rfl) rfl ?_
    refine L_val _ _ (X_move) rfl ?_
    refine L_val _ _ (X_cmpR true rfl rfl rfl e14) rfl ?_
    refine L_nil ?_
    refine T_true rfl ?_
    repeat (first | refine T_seq ?_ | refine T_block ?_ | refine T_inBlock ?_ | refine T_skip ?_)
    refine T_region ?_
    refine L_val _ _ (X_move) rfl ?_
    refine L_val _ _ (X_move) rfl ?_
    refine L_callV [.slice pa pre.length pc] [.pointer (some ⟨B1, 0, none⟩), .pointer (some ⟨best, 0, none⟩)] E28 rfl rfl rfl hv ?_
    rintro v w1 ⟨rfl, hv0, hv1⟩
    refine L_val _ _ (X_assign) rfl ?_
    refine L_nil ?_
    refine T_ret1 Try.func27 rfl ⟨fun hs => ?_, fun p hs => ?_⟩
    · simp only [search] at hs
      split at hs
      · cases hs
      · rename_i hf
        have hf' : fitsF (okN gs) [] pre = false := by simpa using hf
        exact ⟨by rw [hf']; rfl, hv0 hf'⟩
    · simp only [search] at hs
      split at hs
      · rename_i hf
        cases hs
        obtain ⟨g1, g2⟩ := hv1 hf
        exact ⟨by rw [hf]; rfl, g1, pa, pc, by rw [← hlen]; exact g2, g1.arr hp hne, by omega⟩
      · cases hs
  | succ k ihk =>
    intro pre pa pc w hk hd hlt hl k1 k2 hp hpc hno hne
    refine ret_of_T (vs := [.int .i64 gs.length, .slice pa pre.length pc, .func (.func 28) #[] #[.pointer (some ⟨B1, 0, none⟩), .pointer (some ⟨best, 0, none⟩)]]) Try.func27 Try.ntmps27 rfl (Nat.le_of_ble_eq_true rfl) ?_
    have e14 : cmpB .eql (pre.length : Int) gs.length = false := by simp [cmpB]; omega
    have z1 := k1.lt
    have z2 := k2.lt
    repeat (first | refine T_seq ?_ | refine T_block ?_ | refine T_inBlock ?_ | refine T_skip ?_)
    refine T_region ?_
    refine L_val _ _ (X_assign) rfl ?_
    refine L_nil ?_
    repeat (first | refine T_seq ?_ | refine T_block ?_ | refine T_inBlock ?_ | refine T_skip ?_)
    refine T_region ?_
    refine L_val _ _ (X_move) rfl ?_
    refine L_val _ _ (X_lenS U49 rfl) rfl ?_
    refine L_val _ _ (X_move) rfl ?_
    refine L_val _ _ (X_cmpR false rfl rfl rfl e14) rfl ?_
    refine L_nil ?_
    refine T_false rfl ?_
    repeat (first | refine T_seq ?_ | refine T_block ?_ | refine T_inBlock ?_ | refine T_skip ?_)
    refine T_region ?_
    refine L_val _ _ (X_assign) rfl ?_
    refine L_nil ?_
    repeat (first | refine T_seq ?_ | refine T_block ?_ | refine T_inBlock ?_ | refine T_skip ?_)
    refine T_loopS [7, 0, 1, 2] (fun m vs y => ∃ i : Nat, vs = [.int .i64 i, .int .i64 gs.length, .slice pa pre.length pc, .func (.func 28) #[] #[.pointer (some ⟨B1, 0, none⟩), .pointer (some ⟨best, 0, none⟩)]] ∧ i ≤ gs.length ∧ m = gs.length - i ∧ Below w.heap.size w y ∧ ∀ j, j < i → (if pre.contains j then none else search (okN gs) gs.length k (pre ++ [j])) = none) gs.length
      ⟨0, rfl, by omega, rfl, Below.refl _ _, fun j h => by omega⟩ ?_
    rintro m vs ρ y ⟨i, rfl, hi, rfl, by_, hbef⟩ ih
    have sy := by_.size
    repeat (first | refine T_seq ?_ | refine T_block ?_ | refine T_inBlock ?_ | refine T_skip ?_)
    refine T_region ?_
    refine L_val _ _ (X_move) rfl ?_
    refine L_val _ _ (X_move) rfl ?_
    refine L_val _ _ (X_cmp rfl rfl rfl) rfl ?_
    refine L_nil ?_
    repeat (first | refine T_seq ?_ | refine T_block ?_ | refine T_inBlock ?_ | refine T_skip ?_)
    refine T_if rfl (fun ht => ?_) (fun hf => ?_)
    case refine_2 =>
      have hge : ¬ i < gs.length := by simpa [cmpB] using hf
      have hsn : search (okN gs) gs.length (k + 1) pre = none := search_none fun j hj => hbef j (by omega)
      refine T_exit rfl ?_
      repeat (first | refine T_seq ?_ | refine T_block ?_ | refine T_inBlock ?_ | refine T_skip ?_)
      refine T_region ?_
      refine L_val _ _ (X_assign) rfl ?_
      refine L_nil ?_
      refine T_ret1 Try.func27 rfl ⟨fun _ => ⟨rfl, by_⟩, fun p hp' => ?_⟩
      rw [hsn] at hp'
      cases hp'
    have hlti : i < gs.length := by simpa [cmpB] using ht
    have hpy := hp.keep (keeps_below by_)
    repeat (first | refine T_seq ?_ | refine T_block ?_ | refine T_inBlock ?_ | refine T_skip ?_)
    refine T_region ?_
    refine L_val _ _ (X_assign) rfl ?_
    refine L_nil ?_
    repeat (first | refine T_seq ?_ | refine T_block ?_ | refine T_inBlock ?_ | refine T_skip ?_)
    refine T_region ?_
    refine L_val _ _ (X_move) rfl ?_
    refine L_val _ _ (X_lenS U49 rfl) rfl ?_
    refine L_val _ _ (X_move) rfl ?_
    refine L_nil ?_
    repeat (first | refine T_seq ?_ | refine T_block ?_ | refine T_inBlock ?_ | refine T_skip ?_)
    refine T_loopS [25, 24, 23, 8, 7, 0, 1, 2] (fun m vs z => ∃ s : Nat, vs = [.int .i64 s, .int .i64 pre.length, .slice pa pre.length pc, .bool ((pre.take s).any fun j => (j : Int) == (i : Int)), .int .i64 i, .int .i64 gs.length, .slice pa pre.length pc, .func (.func 28) #[] #[.pointer (some ⟨B1, 0, none⟩), .pointer (some ⟨best, 0, none⟩)]] ∧ s ≤ pre.length ∧ m = pre.length - s ∧ y = z) pre.length
      ⟨0, rfl, by omega, rfl, rfl⟩ ?_
    rintro m vs ρ2 z ⟨s, rfl, hsl, rfl, rfl⟩ ih2
    repeat (first | refine T_seq ?_ | refine T_block ?_ | refine T_inBlock ?_ | refine T_skip ?_)
    refine T_region ?_
    refine L_val _ _ (X_cmp rfl rfl rfl) rfl ?_
    refine L_nil ?_
    repeat (first | refine T_seq ?_ | refine T_block ?_ | refine T_inBlock ?_ | refine T_skip ?_)
    refine T_if rfl (fun ht2 => ?_) (fun hf2 => ?_)
    case refine_1 =>
      have hlt2 : s < pre.length := by simpa [cmpB] using ht2
      obtain ⟨pb, po, rfl, hpb, hpcell⟩ := hpy.cell s [.int .i64 (pre[s] : Nat)] (by simp [natc, hlt2])
      have hx0 := hpcell 0 _ rfl
      have hany := any_take_succ (p := fun j => (j : Int) == (i : Int)) hlt2
      generalize pre[s] = jj at *
      repeat (first | refine T_seq ?_ | refine T_block ?_ | refine T_inBlock ?_ | refine T_skip ?_)
      refine T_region ?_
      refine L_val _ _ (X_index U49 S3 rfl rfl hlt2) rfl ?_
      refine L_val _ _ (X_load A3 rfl (hx0)) rfl ?_
      refine L_val _ _ (X_assign) rfl ?_
      refine L_nil ?_
      repeat (first | refine T_seq ?_ | refine T_block ?_ | refine T_inBlock ?_ | refine T_skip ?_)
      refine T_region ?_
      refine L_val _ _ (X_move) rfl ?_
      refine L_val _ _ (X_move) rfl ?_
      refine L_val _ _ (X_cmp rfl rfl rfl) rfl ?_
      refine L_nil ?_
      refine T_if rfl (fun ht4 => ?_) (fun hf4 => ?_)
      · have he : ((jj : Int) == (i : Int)) = true := ht4
        refine T_region ?_
        refine L_val _ _ (X_assign) rfl ?_
        refine L_nil ?_
        repeat (first | refine T_seq ?_ | refine T_block ?_ | refine T_inBlock ?_ | refine T_skip ?_)
        refine T_region ?_
        refine L_val _ _ (X_add rfl rfl (by omega) (by omega)) rfl ?_
        refine L_val _ _ (X_move) rfl ?_
        refine L_nil ?_
        exact ih2 _ _ _ (by omega) ⟨s + 1, by rw [hany, he, Bool.or_true]; rfl, by omega, rfl, rfl⟩
      · have he : ((jj : Int) == (i : Int)) = false := hf4
        repeat (first | refine T_seq ?_ | refine T_block ?_ | refine T_inBlock ?_ | refine T_skip ?_)
        refine T_region ?_
        refine L_val _ _ (X_add rfl rfl (by omega) (by omega)) rfl ?_
        refine L_val _ _ (X_move) rfl ?_
        refine L_nil ?_
        exact ih2 _ _ _ (by omega) ⟨s + 1, by rw [hany, he, Bool.or_false]; rfl, by omega, rfl, rfl⟩
    have hge : ¬ s < pre.length := by simpa [cmpB] using hf2
    obtain rfl : s = pre.length := by omega
    rw [List.take_of_length_le (Nat.le_refl _), any_contains]
    refine T_exit rfl ?_
    repeat (first | refine T_seq ?_ | refine T_block ?_ | refine T_inBlock ?_ | refine T_skip ?_)
    cases hu : pre.contains i with
    | true =>
      refine T_region ?_
      refine L_val _ _ (X_move) rfl ?_
      refine L_val _ _ (X_not rfl) rfl ?_
      refine L_val _ _ (X_move) rfl ?_
      refine L_passB rfl rfl rfl ?_
      refine L_passB rfl rfl rfl ?_
      refine L_passB rfl rfl rfl ?_
      refine L_passB rfl rfl rfl ?_
      refine L_passB rfl rfl rfl ?_
      refine L_passB rfl rfl rfl ?_
      refine L_passB rfl rfl rfl ?_
      refine L_passB rfl rfl rfl ?_
      refine L_passB rfl rfl rfl ?_
      refine L_val _ _ (X_pick rfl) rfl ?_
      refine L_nil ?_
      refine T_false rfl ?_
      repeat (first | refine T_seq ?_ | refine T_block ?_ | refine T_inBlock ?_ | refine T_skip ?_)
      refine T_region ?_
      refine L_val _ _ (X_move) rfl ?_
      refine L_val _ _ (X_add rfl rfl (by omega) (by omega)) rfl ?_
      refine L_val _ _ (X_assign) rfl ?_
      refine L_nil ?_
      refine ih _ _ _ (by omega) ⟨i + 1, rfl, by omega, rfl, by_, fun j hj => ?_⟩
      rcases Nat.lt_succ_iff_lt_or_eq.1 hj with h | rfl
      · exact hbef j h
      · rw [if_pos hu]
    | false =>
    have hni : i ∉ pre := by simpa using hu
    refine T_region ?_
    refine L_val _ _ (X_move) rfl ?_
    refine L_val _ _ (X_not rfl) rfl ?_
    refine L_val _ _ (X_move) rfl ?_
    refine L_guard rfl rfl rfl ?_
    refine L_val _ _ (X_move) rfl ?_
    refine L_guard rfl rfl rfl ?_
    refine L_buildSlice #[] 3 (by kernel_rfl) rfl fun u1 h1 => ?_
    have o1 : u1.ownsRow y.heap.size 3 1 (.slice (some ⟨y.heap.size, 0, none⟩) 0 0) 0 [] := owns_made (c := 0) (z := #[.int .i64 0]) (by rw [made0]; exact h1) (Nat.le_refl _) (by simp [maxLen])
    have b1 : Below w.heap.size w u1 := h1.below by_ sy
    have s1 := h1.size
    refine L_guard rfl rfl rfl ?_
    refine L_val _ _ (X_move) rfl ?_
    refine L_guard rfl rfl rfl ?_
    refine L_append y.heap.size (.slice (some ⟨y.heap.size, 0, none⟩) 0 0) 0 [] pa pre.length pc (natCells pre) Try.underlying49 I3 rfl (by decide) rfl o1 rfl (by simp [natCells]) hno (natc_src (hp.keep (keeps_below b1))) (natCells_one _) (by simp only [maxLen]; omega) (by omega) s1 rfl fun v2 u2 o2 g2 => ?_
    have b2 : Below w.heap.size w u2 := grown_below b1 o1 g2 b1.size sy
    have s2 := b2.size
    have s12 := g2.size
    refine L_guard rfl rfl rfl ?_
    refine L_val _ _ (X_move) rfl ?_
    refine L_guard rfl rfl rfl ?_
    refine L_buildSlice #[.int .i64 i] 3 (by kernel_rfl) rfl fun u3 h3 => ?_
    have o3 := owns_new h3 o2
    have b3 : Below w.heap.size w u3 := h3.below b2 b2.size
    have s3 := h3.size
    refine L_guard rfl rfl rfl ?_
    refine L_append1 y.heap.size v2 (0 + pre.length) ([] ++ natCells pre) u2.heap.size [.int .i64 (i : Nat)] Try.underlying49 I3 rfl (by decide) rfl o3 rfl rfl h3.new (by simp [Value.oneCell']) (by simp only [maxLen]; omega) (by omega) (by omega) rfl fun v4 u4 o4 g4 => ?_
    have b4 : Below w.heap.size w u4 := grown_below b3 o3 g4 b3.size sy
    rw [Nat.zero_add, List.nil_append, natCells_snoc] at o4
    obtain ⟨na, nc, rfl, hn4, ha4⟩ := owns_val o4
    obtain ⟨gg, cur, hgg, hbg, -, -, -, hnc, -, -⟩ := owns_blk o4 (by omega)
    have hlen4 : (pre ++ [i]).length = pre.length + 1 := by simp
    have hrec := ihk (pre ++ [i]) na nc u4 (by simp; omega) (by rw [List.nodup_append]; exact ⟨hd, by simp, by simp; intro x hx he; exact hni (he ▸ hx)⟩) (by intro x hx; rcases List.mem_append.1 hx with h' | h'; exact hlt x h'; simp at h'; omega) (hl.keep (keeps_below b4)) (below_blk b4 k1 z1) (below_blk b4 k2 z2) (natc_arr o4 hlen4) (by rw [hlen4]; exact hnc) (fun h => by rw [hgg] at h; cases h) (fun ad had => by rw [hgg] at had; obtain rfl := Option.some.inj had; show gg ≠ best; omega)
    rw [hlen4] at hrec
    refine L_guard rfl rfl rfl ?_
    refine L_val _ _ (X_move) rfl ?_
    refine L_guard rfl rfl rfl ?_
    refine L_callF [.int .i64 gs.length, .slice na (pre.length + 1) nc, .func (.func 28) #[] #[.pointer (some ⟨B1, 0, none⟩), .pointer (some ⟨best, 0, none⟩)]] E27 rfl rfl hrec ?_
    rintro v u5 ⟨hr0, hr1⟩
    obtain ⟨t, rfl, htt⟩ : ∃ t, v = .bool t ∧ t = (search (okN gs) gs.length k (pre ++ [i])).isSome := (by cases hs : search (okN gs) gs.length k (pre ++ [i]) with | none => exact ⟨false, (hr0 hs).1, rfl⟩ | some p => exact ⟨true, (hr1 p hs).1, rfl⟩)
    refine L_val _ _ (X_pick rfl) rfl ?_
    refine L_nil ?_
    cases hs : search (okN gs) gs.length k (pre ++ [i]) with
    | none =>
      rw [hs] at htt
      subst htt
      refine T_false rfl ?_
      repeat (first | refine T_seq ?_ | refine T_block ?_ | refine T_inBlock ?_ | refine T_skip ?_)
      refine T_region ?_
      refine L_val _ _ (X_move) rfl ?_
      refine L_val _ _ (X_add rfl rfl (by omega) (by omega)) rfl ?_
      refine L_val _ _ (X_assign) rfl ?_
      refine L_nil ?_
      refine ih _ _ _ (by omega) ⟨i + 1, rfl, by omega, rfl, b4.trans ((hr0 hs).2.mono b4.size), fun j hj => ?_⟩
      rcases Nat.lt_succ_iff_lt_or_eq.1 hj with h | rfl
      · exact hbef j h
      · rw [if_neg (by rw [hu]; simp)]
        exact hs
    | some p =>
      rw [hs] at htt
      subst htt
      have hsf := search_first hlti hbef hu hs
      obtain ⟨-, hbt, pa', pc', q1, q2, q3⟩ := hr1 p hs
      refine T_true rfl ?_
      repeat (first | refine T_seq ?_ | refine T_block ?_ | refine T_inBlock ?_ | refine T_skip ?_)
      refine T_region ?_
      refine L_val _ _ (X_assign) rfl ?_
      refine L_nil ?_
      refine T_ret1 Try.func27 rfl ⟨fun h => (by rw [hsf] at h; cases h), fun p' hp' => ?_⟩
      rw [hsf] at hp'
      cases hp'
      exact ⟨rfl, Below.but b4 hbt, pa', pc', q1, q2, q3⟩

set_option maxHeartbeats 4000000 in
theorem orderm_ret (a : Option Addr) (c : Nat) (gs : List Leg) (w : World) (hl : Legs w a gs) (hn : gs.length ≤ 8) (hsm : ∀ g ∈ gs, g.needs.length < 1000000) :
    Ret Try.prog 12 #[.agg #[.slice a gs.length c]] w fun v w' => Below w.heap.size w w' ∧ ∃ sv, v = .tuple #[sv, .bool (search (okN gs) gs.length gs.length []).isSome] ∧ ∀ p, search (okN gs) gs.length gs.length [] = some p → ∃ pa pc, sv = .slice pa gs.length pc ∧ Arr w' pa 1 (natc p) := by
  refine ret_of_T (vs := [.agg #[.slice a gs.length c]]) Try.func12 Try.ntmps12 rfl (Nat.le_of_ble_eq_true rfl) ?_
  repeat (first | refine T_seq ?_ | refine T_block ?_ | refine T_inBlock ?_ | refine T_skip ?_)
  refine T_region ?_
  refine L_box rfl fun w1 h1 => ?_
  refine L_val _ _ (X_assign) rfl ?_
  refine L_val _ _ (X_assign) rfl ?_
  refine L_nil ?_
  have b1 : Below w.heap.size w w1 := h1.below (Below.refl _ _) (Nat.le_refl _)
  have k1 : Blk w1 w.heap.size #[.slice a gs.length c] 28 := h1.new
  have s1 := b1.size
  have z1 := h1.lt
  repeat (first | refine T_seq ?_ | refine T_block ?_ | refine T_inBlock ?_ | refine T_skip ?_)
  refine T_region ?_
  refine L_alloc Z49 rfl fun w2 h2 => ?_
  refine L_nil ?_
  have b2 : Below w.heap.size w w2 := h2.below b1 s1
  have k12 := h2.blk k1 (by omega)
  have k2 : Blk w2 w1.heap.size #[.slice none 0 0] 49 := h2.new
  have hE := each_ret a c gs w.heap.size w1.heap.size (.slice none 0 0) hn hsm gs.length [] none 0 w2 (by simp) List.nodup_nil (by simp) (hl.keep (keeps_below b2)) k12 k2 ⟨fun i cs h => by simp [natc] at h⟩ (by simp) (fun _ => ⟨rfl, rfl⟩) (fun ad h => by cases h)
  repeat (first | refine T_seq ?_ | refine T_block ?_ | refine T_inBlock ?_ | refine T_skip ?_)
  refine T_region ?_
  refine L_val _ _ (X_field F28_0 rfl) rfl ?_
  refine L_val _ _ (X_load A26 rfl (k12.cell 0)) rfl ?_
  refine L_val _ _ (X_lenS U26 rfl) rfl ?_
  refine L_val _ _ (X_makeFunc) rfl ?_
  refine L_callF [.int .i64 gs.length, .slice none 0 0, .func (.func 28) #[] #[.pointer (some ⟨w.heap.size, 0, none⟩), .pointer (some ⟨w1.heap.size, 0, none⟩)]] E27 rfl rfl hE ?_
  rintro v w3 ⟨hr0, hr1⟩
  obtain ⟨t, rfl, htt⟩ : ∃ t, v = .bool t ∧ t = (search (okN gs) gs.length gs.length []).isSome := (by cases hs : search (okN gs) gs.length gs.length [] with | none => exact ⟨false, (hr0 hs).1, rfl⟩ | some p => exact ⟨true, (hr1 p hs).1, rfl⟩)
  refine L_val _ _ (X_assign) rfl ?_
  refine L_nil ?_
  repeat (first | refine T_seq ?_ | refine T_block ?_ | refine T_inBlock ?_ | refine T_skip ?_)
  have s2 := b2.size
  have z2 := k2.lt
  cases hs : search (okN gs) gs.length gs.length [] with
  | none =>
    rw [hs] at htt
    subst htt
    obtain ⟨-, b3⟩ := hr0 hs
    refine T_region ?_
    refine L_val _ _ (X_load A49 rfl ((below_blk b3 k2 z2).cell 0)) rfl ?_
    refine L_val _ _ (X_move) rfl ?_
    refine L_val _ _ (X_assign) rfl ?_
    refine L_val _ _ (X_assign) rfl ?_
    refine L_nil ?_
    exact T_ret2 Try.func12 rfl ⟨b2.trans (b3.mono s2), _, rfl, fun p hp => by cases hp⟩
  | some p =>
    rw [hs] at htt
    subst htt
    obtain ⟨-, hbt, pa, pc, q1, q2, q3⟩ := hr1 p hs
    refine T_region ?_
    refine L_val _ _ (X_load A49 rfl (q1.cell 0)) rfl ?_
    refine L_val _ _ (X_move) rfl ?_
    refine L_val _ _ (X_assign) rfl ?_
    refine L_val _ _ (X_assign) rfl ?_
    refine L_nil ?_
    exact T_ret2 Try.func12 rfl ⟨b2.trans (hbt.below s1 s2), _, rfl, fun p' hp => by cases hp; exact ⟨pa, pc, rfl, q2⟩⟩
end Go.Proofs.Qxb6500865a
