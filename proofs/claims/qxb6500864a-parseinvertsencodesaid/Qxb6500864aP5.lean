/-
  Join, edited, Same.
-/
import Derived.Test.Qxb6500864aP4
import Derived.Deep.Onto
namespace Go.Proofs.Qxb6500864a
set_option linter.unusedSimpArgs false
set_option linter.unusedVariables false
open Go.RowKit
/-- A list of octets as a slice: where, the octets, the capacity. -/
abbrev Sl := Option Addr × List Nat × Nat
def Sl.val (x : Sl) : Value := .slice x.1 x.2.1.length x.2.2
def Sl.ok (w : World) (x : Sl) : Prop := Byt w x.1 x.2.1 ∧ (x.1 = none → x.2.1.length = 0 ∧ x.2.2 = 0)
def cat (ls : List Sl) : List Nat := (ls.map (·.2.1)).flatten
theorem cat_take {ls : List Sl} {i : Nat} {x : Sl} (h : ls[i]? = some x) : cat (ls.take (i + 1)) = cat (ls.take i) ++ x.2.1 := by
  obtain ⟨hi, he⟩ := List.getElem?_eq_some_iff.1 h
  rw [List.take_succ_eq_append_getElem hi, he]
  simp [cat]
theorem cat_take_le (ls : List Sl) (i : Nat) : (cat (ls.take i)).length ≤ (cat ls).length := by
  have : cat ls = cat (ls.take i) ++ cat (ls.drop i) := by
    conv => lhs; rw [← List.take_append_drop i ls]
    simp only [cat, List.map_append, List.flatten_append]
  rw [this, List.length_append]
  omega
theorem byt_src {w : World} {a : Option Addr} {l : List Nat} (h : Byt w a l) : ∀ ad, a = some ad → ∀ j u, (bv l)[j]? = some u → w.cell? (ad.add j) = some u := by
  intro ad ha j u hu
  simp only [bv, List.getElem?_map, Option.map_eq_some_iff] at hu
  obtain ⟨x, hx, rfl⟩ := hu
  obtain ⟨b, o, ha', _, hc⟩ := h.cell j x hx
  rw [ha] at ha'
  obtain rfl := Option.some.inj ha'
  rw [Addr.add_lit]
  exact hc
theorem made0 : madeCells #[Value.int .u8 0] (0 * 1) = #[] := by simp [madeCells]
theorem bv_app (l m : List Nat) : bv (l ++ m) = bv l ++ bv m := by simp [bv]
set_option maxHeartbeats 4000000 in
/-- tokenm.Join -/
theorem join_ret (b o cap : Nat) (ls : List Sl) (w : World) (hb : b < w.heap.size) (hcell : ∀ (i : Nat) (x : Sl), ls[i]? = some x → w.cell? ⟨b, o + i, none⟩ = some x.val) (hok : ∀ x ∈ ls, Sl.ok w x) (hls : ls.length ≤ 6) (htot : (cat ls).length ≤ 1000000) :
    Ret Try.prog 19 #[.slice (some ⟨b, o, none⟩) ls.length cap] w fun v w' => ∃ a c, v = .slice a (cat ls).length c ∧ w'.ownsRow w.heap.size 5 1 v (cat ls).length (bv (cat ls)) ∧ Below w.heap.size w w' := by
  refine ret_of_T (vs := [.slice (some ⟨b, o, none⟩) ls.length cap]) Try.func19 Try.ntmps19 rfl (Nat.le_of_ble_eq_true rfl) ?_
  repeat (first | refine T_seq ?_ | refine T_block ?_ | refine T_inBlock ?_ | refine T_skip ?_)
  refine T_region ?_
  refine L_val _ _ (X_assign) rfl ?_
  refine L_nil ?_
  repeat (first | refine T_seq ?_ | refine T_block ?_ | refine T_inBlock ?_ | refine T_skip ?_)
  refine T_region ?_
  refine L_buildSlice #[] 5 (by kernel_rfl) rfl fun w1 h1 => ?_
  refine L_val _ _ (X_assign) rfl ?_
  refine L_nil ?_
  have o1 : w1.ownsRow w.heap.size 5 1 (.slice (some ⟨w.heap.size, 0, none⟩) 0 0) 0 [] := owns_made (c := 0) (z := #[.int .u8 0]) (by rw [made0]; exact h1) (Nat.le_refl _) (by simp [maxLen])
  have b1 : Below w.heap.size w w1 := h1.below (Below.refl _ _) (Nat.le_refl _)
  repeat (first | refine T_seq ?_ | refine T_block ?_ | refine T_inBlock ?_ | refine T_skip ?_)
  refine T_region ?_
  refine L_val _ _ (X_move) rfl ?_
  refine L_val _ _ (X_lenS U53 rfl) rfl ?_
  refine L_val _ _ (X_move) rfl ?_
  refine L_nil ?_
  repeat (first | refine T_seq ?_ | refine T_block ?_ | refine T_inBlock ?_ | refine T_skip ?_)
  refine T_loopS [9, 8, 7, 3] (fun m vs z => ∃ (i : Nat) (a : Option Addr) (c : Nat), vs = [.int .i64 i, .int .i64 ls.length, .slice (some ⟨b, o, none⟩) ls.length cap, .slice a (cat (ls.take i)).length c] ∧ i ≤ ls.length ∧ m = ls.length - i ∧ z.ownsRow w.heap.size 5 1 (.slice a (cat (ls.take i)).length c) (cat (ls.take i)).length (bv (cat (ls.take i))) ∧ Below w.heap.size w z) ls.length
    ⟨0, some ⟨w.heap.size, 0, none⟩, 0, rfl, by omega, rfl, o1, b1⟩ ?_
  rintro m vs ρ z ⟨i, a, c, rfl, hi, rfl, oz, bz⟩ ih
  repeat (first | refine T_seq ?_ | refine T_block ?_ | refine T_inBlock ?_ | refine T_skip ?_)
  refine T_region ?_
  refine L_val _ _ (X_cmp rfl rfl rfl) rfl ?_
  refine L_nil ?_
  repeat (first | refine T_seq ?_ | refine T_block ?_ | refine T_inBlock ?_ | refine T_skip ?_)
  refine T_if rfl (fun ht => ?_) (fun hf => ?_)
  case refine_2 =>
    have hge : ¬ i < ls.length := by simpa [cmpB] using hf
    refine T_exit rfl ?_
    repeat (first | refine T_seq ?_ | refine T_block ?_ | refine T_inBlock ?_ | refine T_skip ?_)
    refine T_region ?_
    refine L_val _ _ (X_move) rfl ?_
    refine L_val _ _ (X_assign) rfl ?_
    refine L_nil ?_
    rw [List.take_of_length_le (by omega)] at oz ⊢
    exact T_ret1 Try.func19 rfl ⟨a, c, rfl, oz, bz⟩
  have hlt : i < ls.length := by simpa [cmpB] using ht
  have hx : ls[i]? = some ls[i] := by simp
  have hox := hok ls[i] (by simp)
  have hct := cat_take hx
  have hle := cat_take_le ls (i + 1)
  have hc0 := hcell i _ hx
  generalize ls[i] = x at *
  have hcz : z.cell? ⟨b, o + i * 1, none⟩ = some (.slice x.1 x.2.1.length x.2.2) := by rw [Nat.mul_one]; exact (below_cell bz _ hb).trans hc0
  have hbx : Byt z x.1 x.2.1 := hox.1.below bz
  have sz := bz.size
  repeat (first | refine T_seq ?_ | refine T_block ?_ | refine T_inBlock ?_ | refine T_skip ?_)
  refine T_region ?_
  refine L_val _ _ (X_index U53 S25 rfl rfl hlt) rfl ?_
  refine L_val _ _ (X_load A25 rfl (hcz)) rfl ?_
  refine L_val _ _ (X_assign) rfl ?_
  refine L_nil ?_
  rw [hct, List.length_append] at hle
  repeat (first | refine T_seq ?_ | refine T_block ?_ | refine T_inBlock ?_ | refine T_skip ?_)
  refine T_region ?_
  refine L_val _ _ (X_move) rfl ?_
  refine L_val _ _ (X_move) rfl ?_
  refine L_append w.heap.size (.slice a (cat (ls.take i)).length c) (cat (ls.take i)).length (bv (cat (ls.take i))) x.1 x.2.1.length x.2.2 (bv x.2.1) Try.underlying25 I5 rfl (by decide) rfl oz rfl (by rw [bv_len, Nat.mul_one]) hox.2 (byt_src hbx) (bv_one _) (by simp only [maxLen]; omega) (by omega) sz rfl fun v6 w6 o6 g6 => ?_
  obtain ⟨na, nc, rfl, -, -⟩ := owns_val o6
  refine L_val _ _ (X_assign) rfl ?_
  refine L_nil ?_
  repeat (first | refine T_seq ?_ | refine T_block ?_ | refine T_inBlock ?_ | refine T_skip ?_)
  refine T_region ?_
  refine L_val _ _ (X_add rfl rfl (by omega) (by omega)) rfl ?_
  refine L_val _ _ (X_move) rfl ?_
  refine L_nil ?_
  refine ih _ _ _ (by omega) ⟨i + 1, na, nc, ?_, by omega, rfl, ?_, grown_below bz oz g6 sz (Nat.le_refl _)⟩
  · rw [hct, List.length_append]; rfl
  · rw [hct, List.length_append, bv_app]; exact o6
theorem owns_blk {w : World} {base n c : Nat} {e : TypeId} {sz : Nat} {a : Option Addr} {xs : List Value} (h : w.ownsRow base e sz (.slice a n c) n xs) (hn : 0 < n) : ∃ g cur, a = some ⟨g, 0, none⟩ ∧ base ≤ g ∧ Blk w g cur e ∧ n * sz ≤ cur.size ∧ cur.size = c * sz ∧ n ≤ c ∧ c ≤ maxLen ∧ cur.toList.take (n * sz) = xs := by
  rcases h.2 with ⟨h1, rfl⟩ | ⟨g, cap, cur, hv, hb, hgg, hnc, hcm, hcs, htk⟩
  · omega
  · simp only [Value.slice.injEq] at hv
    obtain ⟨rfl, -, rfl⟩ := hv
    exact ⟨g, cur, rfl, hb, hgg, by rw [hcs]; exact Nat.mul_le_mul_right _ hnc, hcs, hnc, hcm, htk⟩
theorem owns_set {w w1 : World} {base n c g o : Nat} {e : TypeId} {sz : Nat} {xs : List Value} {cur : Array Value} {v : Value} (h : w.ownsRow base e sz (.slice (some ⟨g, 0, none⟩) n c) n xs) (hb : Blk w g cur e) (hc : Chg w w1 g (.cells (cur.setIfInBounds o v) e (0, 0))) :
    w1.ownsRow base e sz (.slice (some ⟨g, 0, none⟩) n c) n (xs.set o v) := by
  refine ⟨by simpa using h.1, ?_⟩
  rcases h.2 with ⟨h1, _⟩ | ⟨g', cap, cur', hv, hbg, hgg, hnc, hcm, hcs, htk⟩
  · simp at h1
  · simp only [Value.slice.injEq, Option.some.injEq, Addr.mk.injEq] at hv
    obtain ⟨⟨rfl, -, -⟩, -, rfl⟩ := hv
    unfold Blk at hb
    rw [hgg] at hb
    simp only [Option.some.injEq, Obj.cells.injEq, and_true] at hb
    subst hb
    refine .inr ⟨g, c, _, rfl, hbg, hc.here, hnc, hcm, by simpa using hcs, ?_⟩
    rw [Array.toList_setIfInBounds, List.take_set, htk]
def xorN (a b : Nat) : Nat := (bitB .xor .u8 (a : Int) (b : Int)).toNat
theorem xor_nn : ∀ a b : Fin 256, bitB .xor .u8 ((a.val : Nat) : Int) ((b.val : Nat) : Int) = ((xorN a.val b.val : Nat) : Int) := by
  intro a b
  unfold xorN
  rw [Int.toNat_of_nonneg]
  show 0 ≤ IntKind.wrap .u8 _
  simp only [IntKind.wrap, IntKind.bits, IntKind.signed]
  simp
  omega
set_option maxHeartbeats 4000000 in
/-- edited, of sixteen octets -/
theorem edited_ret (x : Sl) (hx16 : x.2.1.length = 16) (at_ v : Nat) (hat : at_ < 16) (hv : v < 256) (y : Nat) (hy : x.2.1[at_]? = some y) (hyb : y < 256) (w : World) (hok : Sl.ok w x) :
    Ret Try.prog 20 #[x.val, .int .i64 (at_ : Int), .int .u8 (v : Int)] w fun u w' => ∃ a c, u = .slice a 16 c ∧ w'.ownsRow w.heap.size 5 1 (.slice a 16 c) 16 (bv (x.2.1.set at_ (xorN y v))) ∧ Below w.heap.size w w' := by
  refine ret_of_T (vs := [x.val, .int .i64 (at_ : Int), .int .u8 (v : Int)]) Try.func20 Try.ntmps20 rfl (Nat.le_of_ble_eq_true rfl) ?_
  repeat (first | refine T_seq ?_ | refine T_block ?_ | refine T_inBlock ?_ | refine T_skip ?_)
  refine T_region ?_
  refine L_val _ _ (X_assign) rfl ?_
  refine L_nil ?_
  repeat (first | refine T_seq ?_ | refine T_block ?_ | refine T_inBlock ?_ | refine T_skip ?_)
  have hcat : cat [x] = x.2.1 := by simp [cat]
  refine T_region ?_
  refine L_val _ _ (X_move) rfl ?_
  refine L_buildSlice #[x.val] 25 (by kernel_rfl) rfl fun w1 h1 => ?_
  have b1 : Below w.heap.size w w1 := h1.below (Below.refl _ _) (Nat.le_refl _)
  have hj := join_ret w.heap.size 0 1 [x] w1 h1.lt (fun i z hz => by have hi : i = 0 := (by have := (List.getElem?_eq_some_iff.1 hz).1; simp at this; exact this); subst hi; simp at hz; subst hz; exact h1.new.cell 0) (fun z hz => by simp at hz; subst hz; exact ⟨hok.1.below b1, hok.2⟩) (by simp) (by rw [hcat]; omega)
  rw [hcat, hx16] at hj
  refine L_callF [.slice (some ⟨w.heap.size, 0, none⟩) 1 1] E19 rfl rfl hj ?_
  rintro v0 w2 ⟨a, c, rfl, o2, b2⟩
  refine L_val _ _ (X_assign) rfl ?_
  refine L_nil ?_
  have s1 := b1.size
  have b2' : Below w.heap.size w w2 := b1.trans (b2.mono s1)
  obtain ⟨g, cur, rfl, hwg, kg, hsz, -, -, -, htk⟩ := owns_blk o2 (by omega)
  have hcur : cur[at_]? = some (.int .u8 (y : Int)) := by
    have e1 : (cur.toList.take (16 * 1))[at_]? = (bv x.2.1)[at_]? := by rw [htk]
    rw [List.getElem?_take_of_lt (by omega)] at e1
    simp only [bv, List.getElem?_map, hy, Option.map_some, Array.getElem?_toList] at e1
    exact e1
  have hcell : w2.cell? ⟨g, 0 + at_ * 1, none⟩ = some (.int .u8 (y : Int)) := by
    rw [show 0 + at_ * 1 = at_ by omega, kg.cell]; exact hcur
  have hxo := xor_nn ⟨y, hyb⟩ ⟨v, hv⟩
  repeat (first | refine T_seq ?_ | refine T_block ?_ | refine T_inBlock ?_ | refine T_skip ?_)
  refine T_region ?_
  refine L_val _ _ (X_move) rfl ?_
  refine L_val _ _ (X_move) rfl ?_
  refine L_val _ _ (X_index U25 S5 rfl rfl hat) rfl ?_
  refine L_val _ _ (X_load A5 rfl (hcell)) rfl ?_
  refine L_val _ _ (X_move) rfl ?_
  refine L_val _ _ (X_bit rfl rfl rfl) rfl ?_
  refine L_val _ _ (X_index U25 S5 rfl rfl hat) rfl ?_
  refine L_store (.int .u8 ((xorN y v : Nat) : Int)) S5 rfl (congrArg (Value.int .u8) hxo) rfl kg (by omega) fun w3 h3 => ?_
  refine L_nil ?_
  have o3 := owns_set o2 kg h3
  rw [show 0 + at_ * 1 = at_ by omega, bv_set] at o3
  repeat (first | refine T_seq ?_ | refine T_block ?_ | refine T_inBlock ?_ | refine T_skip ?_)
  refine T_region ?_
  refine L_val _ _ (X_move) rfl ?_
  refine L_val _ _ (X_assign) rfl ?_
  refine L_nil ?_
  exact T_ret1 Try.func20 rfl ⟨some ⟨g, 0, none⟩, c, rfl, World.ownsRow.mono o3 s1, h3.below b2' (by omega)⟩
set_option maxHeartbeats 4000000 in
/-- tokenm.Same -/
theorem same_ret (a1 a2 : Option Addr) (l1 l2 : List Nat) (c1 c2 : Nat) (w : World) (h1 : Byt w a1 l1) (h2 : Byt w a2 l2) (hn : l1.length ≤ 1000000) : Ret Try.prog 13 #[.slice a1 l1.length c1, .slice a2 l2.length c2] w fun v w' => v = .bool (decide (l1 = l2)) ∧ Below w.heap.size w w' := by
  refine ret_of_T (vs := [.slice a1 l1.length c1, .slice a2 l2.length c2]) Try.func13 Try.ntmps13 rfl (Nat.le_of_ble_eq_true rfl) ?_
  repeat (first | refine T_seq ?_ | refine T_block ?_ | refine T_inBlock ?_ | refine T_skip ?_)
  refine T_region ?_
  refine L_val _ _ (X_assign) rfl ?_
  refine L_nil ?_
  repeat (first | refine T_seq ?_ | refine T_block ?_ | refine T_inBlock ?_ | refine T_skip ?_)
  by_cases hlen : l1.length = l2.length
  case neg =>
    have e1 : cmpB .neq (l1.length : Int) (l2.length : Int) = true := by simp [cmpB]; omega
    refine T_region ?_
    refine L_val _ _ (X_move) rfl ?_
    refine L_val _ _ (X_lenS U25 rfl) rfl ?_
    refine L_val _ _ (X_move) rfl ?_
    refine L_val _ _ (X_lenS U25 rfl) rfl ?_
    refine L_val _ _ (X_cmpR true rfl rfl rfl e1) rfl ?_
    refine L_nil ?_
    refine T_true rfl ?_
    repeat (first | refine T_seq ?_ | refine T_block ?_ | refine T_inBlock ?_ | refine T_skip ?_)
    refine T_region ?_
    refine L_val _ _ (X_assign) rfl ?_
    refine L_nil ?_
    exact T_ret1 Try.func13 rfl ⟨by rw [decide_eq_false (fun h => hlen (by rw [h]))]; rfl, Below.refl _ _⟩
  have e1 : cmpB .neq (l1.length : Int) (l2.length : Int) = false := by simp [cmpB]; omega
  refine T_region ?_
  refine L_val _ _ (X_move) rfl ?_
  refine L_val _ _ (X_lenS U25 rfl) rfl ?_
  refine L_val _ _ (X_move) rfl ?_
  refine L_val _ _ (X_lenS U25 rfl) rfl ?_
  refine L_val _ _ (X_cmpR false rfl rfl rfl e1) rfl ?_
  refine L_nil ?_
  refine T_false rfl ?_
  repeat (first | refine T_seq ?_ | refine T_block ?_ | refine T_inBlock ?_ | refine T_skip ?_)
  refine T_region ?_
  refine L_val _ _ (X_move) rfl ?_
  refine L_val _ _ (X_lenS U25 rfl) rfl ?_
  refine L_val _ _ (X_move) rfl ?_
  refine L_nil ?_
  repeat (first | refine T_seq ?_ | refine T_block ?_ | refine T_inBlock ?_ | refine T_skip ?_)
  refine T_loopS [13, 12, 0, 1] (fun m vs z => ∃ i : Nat, vs = [.int .i64 i, .int .i64 l1.length, .slice a1 l1.length c1, .slice a2 l2.length c2] ∧ i ≤ l1.length ∧ m = l1.length - i ∧ Below w.heap.size w z ∧ l1.take i = l2.take i) l1.length ⟨0, rfl, by omega, rfl, Below.refl _ _, by simp⟩ ?_
  rintro m vs ρ z ⟨i, rfl, hi, rfl, bz, hpre⟩ ih
  repeat (first | refine T_seq ?_ | refine T_block ?_ | refine T_inBlock ?_ | refine T_skip ?_)
  refine T_region ?_
  refine L_val _ _ (X_cmp rfl rfl rfl) rfl ?_
  refine L_nil ?_
  repeat (first | refine T_seq ?_ | refine T_block ?_ | refine T_inBlock ?_ | refine T_skip ?_)
  refine T_if rfl (fun ht => ?_) (fun hf => ?_)
  case refine_2 =>
    have hge : ¬ i < l1.length := by simpa [cmpB] using hf
    refine T_exit rfl ?_
    repeat (first | refine T_seq ?_ | refine T_block ?_ | refine T_inBlock ?_ | refine T_skip ?_)
    refine T_region ?_
    refine L_val _ _ (X_assign) rfl ?_
    refine L_nil ?_
    refine T_ret1 Try.func13 rfl ⟨?_, bz⟩
    rw [List.take_of_length_le (by omega), List.take_of_length_le (by omega)] at hpre
    rw [decide_eq_true hpre]
    rfl
  have hlt : i < l1.length := by simpa [cmpB] using ht
  have hlt2 : i < l2.length := by omega
  have q1 : l1[i]? = some l1[i] := by simp
  have q2 : l2[i]? = some l2[i] := by simp
  have t1 : l1.take (i + 1) = l1.take i ++ [l1[i]] := List.take_succ_eq_append_getElem hlt
  have t2 : l2.take (i + 1) = l2.take i ++ [l2[i]] := List.take_succ_eq_append_getElem hlt2
  generalize l1[i] = x at *
  generalize l2[i] = y at *
  obtain ⟨p1, r1, rfl, hp1, hc1⟩ := (h1.below bz).cell i x q1
  obtain ⟨p2, r2, rfl, hp2, hc2⟩ := (h2.below bz).cell i y q2
  repeat (first | refine T_seq ?_ | refine T_block ?_ | refine T_inBlock ?_ | refine T_skip ?_)
  refine T_region ?_
  refine L_val _ _ (X_move) rfl ?_
  refine L_val _ _ (X_assign) rfl ?_
  refine L_nil ?_
  repeat (first | refine T_seq ?_ | refine T_block ?_ | refine T_inBlock ?_ | refine T_skip ?_)
  by_cases hxy : x = y
  · have e2 : cmpB .neq (x : Int) (y : Int) = false := by simp [cmpB]; omega
    refine T_quiet (fun u => Sm z u) rfl (by kernel_rfl) (sm_drew z) ?_
    refine LQ_val _ (fun w hw => X_move) rfl ?_
    refine LQ_val _ (fun w hw => X_move) rfl ?_
    refine LQ_val _ (fun w hw => X_index U25 S5 rfl rfl hlt) rfl ?_
    refine LQ_val _ (fun w hw => X_load A5 rfl ((by rw [Nat.mul_one]; exact (hw.cell _).trans hc1))) rfl ?_
    refine LQ_val _ (fun w hw => X_move) rfl ?_
    refine LQ_val _ (fun w hw => X_move) rfl ?_
    refine LQ_val _ (fun w hw => X_index U25 S5 rfl rfl hlt2) rfl ?_
    refine LQ_val _ (fun w hw => X_load A5 rfl ((by rw [Nat.mul_one]; exact (hw.cell _).trans hc2))) rfl ?_
    refine LQ_val _ (fun w hw => X_cmpR false rfl rfl rfl e2) rfl ?_
    refine LQ_nil fun z1 hz1 => ?_
    refine T_false rfl ?_
    repeat (first | refine T_seq ?_ | refine T_block ?_ | refine T_inBlock ?_ | refine T_skip ?_)
    refine T_region ?_
    refine L_val _ _ (X_add rfl rfl (by omega) (by omega)) rfl ?_
    refine L_val _ _ (X_move) rfl ?_
    refine L_nil ?_
    exact ih _ _ _ (by omega) ⟨i + 1, rfl, by omega, rfl, hz1.below bz, by rw [t1, t2, hpre, hxy]⟩
  · have e2 : cmpB .neq (x : Int) (y : Int) = true := by simp [cmpB]; omega
    refine T_quiet (fun u => Sm z u) rfl (by kernel_rfl) (sm_drew z) ?_
    refine LQ_val _ (fun w hw => X_move) rfl ?_
    refine LQ_val _ (fun w hw => X_move) rfl ?_
    refine LQ_val _ (fun w hw => X_index U25 S5 rfl rfl hlt) rfl ?_
    refine LQ_val _ (fun w hw => X_load A5 rfl ((by rw [Nat.mul_one]; exact (hw.cell _).trans hc1))) rfl ?_
    refine LQ_val _ (fun w hw => X_move) rfl ?_
    refine LQ_val _ (fun w hw => X_move) rfl ?_
    refine LQ_val _ (fun w hw => X_index U25 S5 rfl rfl hlt2) rfl ?_
    refine LQ_val _ (fun w hw => X_load A5 rfl ((by rw [Nat.mul_one]; exact (hw.cell _).trans hc2))) rfl ?_
    refine LQ_val _ (fun w hw => X_cmpR true rfl rfl rfl e2) rfl ?_
    refine LQ_nil fun z1 hz1 => ?_
    refine T_true rfl ?_
    repeat (first | refine T_seq ?_ | refine T_block ?_ | refine T_inBlock ?_ | refine T_skip ?_)
    refine T_region ?_
    refine L_val _ _ (X_assign) rfl ?_
    refine L_nil ?_
    refine T_ret1 Try.func13 rfl ⟨?_, hz1.below bz⟩
    rw [decide_eq_false (fun h => hxy ?_)]
    · rfl
    · subst h
      rw [q1] at q2
      exact Option.some.inj q2
end Go.Proofs.Qxb6500864a
