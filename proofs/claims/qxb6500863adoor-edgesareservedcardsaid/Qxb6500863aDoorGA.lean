/-
  formula.
-/
import Derived.Test.Qxb6500863aDoorG9
namespace Go.Proofs.Qxb6500863aDoor
set_option linter.unusedSimpArgs false
set_option linter.unusedVariables false
open Go.RowKit
def xI (x y : Int) : Int := bitB .xor .u8 x y
/-- The key before it is filled up. -/
def k0N (sn cr : List Int) (id : Nat) (key : List Int) : List Int := if blkD id < key.length then dg sn cr id key else key
/-- The key filled up to a block. -/
def hkN (sn cr : List Int) (id : Nat) (key : List Int) : List Int := k0N sn cr id key ++ List.replicate (blkD id - (k0N sn cr id key).length) 0
theorem k0N_len (sn cr : List Int) {id : Nat} (h : id < 5) (key : List Int) : (k0N sn cr id key).length ≤ blkD id := by
  unfold k0N
  split
  · rw [dg_len sn cr h]; exact (szD_le h).2.2
  · omega
theorem hkN_len (sn cr : List Int) {id : Nat} (h : id < 5) (key : List Int) : (hkN sn cr id key).length = blkD id := by
  have := k0N_len sn cr h key
  simp only [hkN, List.length_append, List.length_replicate]; omega
def ipN (sn cr : List Int) (id : Nat) (key : List Int) : List Int := (hkN sn cr id key).map (xI · 54)
def opN (sn cr : List Int) (id : Nat) (key : List Int) : List Int := (hkN sn cr id key).map (xI · 92)
def hmN (sn cr : List Int) (id : Nat) (key text : List Int) : List Int := dg sn cr id (opN sn cr id key ++ dg sn cr id (ipN sn cr id key ++ text))
theorem ipN_len (sn cr : List Int) {id : Nat} (h : id < 5) (key : List Int) : (ipN sn cr id key).length = blkD id := by rw [ipN, List.length_map, hkN_len sn cr h]
theorem opN_len (sn cr : List Int) {id : Nat} (h : id < 5) (key : List Int) : (opN sn cr id key).length = blkD id := by rw [opN, List.length_map, hkN_len sn cr h]
theorem map_take_succ {g : Int → Int} {l : List Int} {i : Nat} (h : i < l.length) : (l.take (i + 1)).map g = (l.take i).map g ++ [g (gI l i)] := by
  have h1 := gI_at h
  obtain ⟨hi, he⟩ := List.getElem?_eq_some_iff.1 h1
  rw [List.take_succ_eq_append_getElem hi, List.map_append, he]
  rfl
theorem copy_fill {q : IntKind} {B : Nat} {l : List Int} (h : l.length ≤ B) : ((iv q (List.replicate B 0)).toArray.toList.take 0 ++ iv q l ++ (iv q (List.replicate B 0)).toArray.toList.drop (0 + (iv q l).length)) = iv q (l ++ List.replicate (B - l.length) 0) := by
  simp [iv]
set_option maxHeartbeats 8000000 in
set_option maxRecDepth 10000 in
/-- modeslaw.formula -/
theorem formula_ret (sn cr : List Int) (id : Nat) (hid : id < 5) (K X : Sl) (w : World) (hG : Glob sn cr w) (hK : Sl.ok w K) (hX : Sl.ok w X) (hKl : K.2.1.length ≤ 1000000) (hXl : X.2.1.length ≤ 1000000) :
    Ret Tryd.prog 21 #[.int .i64 (id : Int), K.val, X.val] w (Made w (hmN sn cr id K.2.1 X.2.1)) := by
  refine ret_of_T (vs := [.int .i64 (id : Int), K.val, X.val]) Tryd.func21 Tryd.ntmps21 rfl (Nat.le_of_ble_eq_true rfl) ?_
  have hbc := blkD_cases hid
  have hb128 : 64 ≤ blkD id ∧ blkD id ≤ 128 := by omega
  repeat (first | refine T_seq ?_ | refine T_block ?_ | refine T_inBlock ?_ | refine T_skip ?_)
  refine T_region ?_
  refine L_val _ _ (X_assign) rfl ?_
  refine L_nil ?_
  repeat (first | refine T_seq ?_ | refine T_block ?_ | refine T_inBlock ?_ | refine T_skip ?_)
  refine T_region ?_
  refine L_val _ _ (X_move) rfl ?_
  refine L_callF [.int .i64 (id : Int)] E7 rfl rfl (bs_ret id hid w) ?_
  rintro v w1 ⟨rfl, b1⟩
  refine L_make (l := blkD id) (c := blkD id) Tryd.underlying25 I5 rfl rfl (Nat.le_refl _) (by omega) (by simp only [maxLen]; omega) rfl fun w2 h2 => ?_
  refine L_val _ _ (X_assign) rfl ?_
  refine L_nil ?_
  have s1 := b1.size
  have b2 : Below w.heap.size w w2 := h2.below b1 s1
  have k7 : Blk w2 w1.heap.size (iv .u8 (List.replicate (blkD id) 0)).toArray 5 := by
    have e : (iv .u8 (List.replicate (blkD id) 0)).toArray = madeCells (Value.cells (.int .u8 0)) (blkD id * 1) := by
      rcases hbc with e | e <;> rw [e] <;> kernel_rfl
    rw [e]; exact h2.new
  have z2 := h2.lt
  clear h2
  have hB7 : w.heap.size ≤ w1.heap.size := s1
  generalize w1.heap.size = B7 at *
  refine T_seq ?_
  refine T_part [7, 0, 2] (fun vs u => vs = [.slice (some ⟨B7, 0, none⟩) (blkD id) (blkD id), .int .i64 (id : Int), X.val] ∧ Below w.heap.size w u ∧ Blk u B7 (iv .u8 (hkN sn cr id K.2.1)).toArray 5) ?_ (fun join => ?_)
  rotate_left
  · repeat (first | refine T_seq ?_ | refine T_block ?_ | refine T_inBlock ?_ | refine T_skip ?_)
    rcases Nat.lt_or_ge (blkD id) K.2.1.length with hgt | hle
    · have e1 : cmpB .gtr (K.2.1.length : Int) (blkD id : Int) = true := by simp [cmpB]; omega
      have hk0 : k0N sn cr id K.2.1 = dg sn cr id K.2.1 := by rw [k0N, if_pos hgt]
      have hlk := k0N_len sn cr hid K.2.1
      rw [hk0] at hlk
      refine T_region ?_
      refine L_val _ _ (X_move) rfl ?_
      refine L_val _ _ (X_lenS U25 rfl) rfl ?_
      refine L_val _ _ (X_move) rfl ?_
      refine L_val _ _ (X_lenS U25 rfl) rfl ?_
      refine L_val _ _ (X_cmpR true rfl rfl rfl e1) rfl ?_
      refine L_nil ?_
      refine T_true rfl ?_
      refine T_region ?_
      refine L_val _ _ (X_move) rfl ?_
      refine L_val _ _ (X_move) rfl ?_
      refine L_val _ _ (X_move) rfl ?_
      refine L_callF [.int .i64 (id : Int), K.val] E38 rfl rfl (sum_ret sn cr id hid K.1 K.2.1 K.2.2 w2 (hG.below b2) (hK.below b2).1 hK.2 (by omega)) ?_
      rintro v w3 ⟨a3, c3, rfl, o3, b3⟩
      have k73 := below_blk b3 k7 z2
      refine L_copyG (iv .u8 (dg sn cr id K.2.1)) U25 S5 rfl rfl k73 (by rw [iv_len]; omega) (by simp [iv_len]; omega) (ints_src (ints_owns o3 rfl)) (fun ha => by rw [ha] at o3; obtain ⟨a', c', hv, hz, _⟩ := owns_val o3; simp only [Value.slice.injEq] at hv; have := hz hv.1.symm; exact List.eq_nil_of_length_eq_zero (by rw [iv_len]; omega)) (iv_one _ _) rfl fun w4 h4 => ?_
      refine L_nil ?_
      have s2 := b2.size
      have b24 : Below w.heap.size w w4 := h4.below (b2.trans (b3.mono s2)) hB7
      have k4 : Blk w4 B7 (iv .u8 (hkN sn cr id K.2.1)).toArray 5 := by
        have e := copy_fill (q := .u8) hlk
        have := h4.new
        rw [e] at this
        rw [hkN, hk0]; exact this
      exact join _ _ ⟨rfl, b24, k4⟩
    · have e1 : cmpB .gtr (K.2.1.length : Int) (blkD id : Int) = false := by simp [cmpB]; omega
      have hk0 : k0N sn cr id K.2.1 = K.2.1 := by rw [k0N, if_neg (by omega)]
      refine T_region ?_
      refine L_val _ _ (X_move) rfl ?_
      refine L_val _ _ (X_lenS U25 rfl) rfl ?_
      refine L_val _ _ (X_move) rfl ?_
      refine L_val _ _ (X_lenS U25 rfl) rfl ?_
      refine L_val _ _ (X_cmpR false rfl rfl rfl e1) rfl ?_
      refine L_nil ?_
      refine T_false rfl ?_
      refine T_region ?_
      refine L_val _ _ (X_move) rfl ?_
      refine L_val _ _ (X_move) rfl ?_
      refine L_copyG (iv .u8 K.2.1) U25 S5 rfl rfl k7 (by rw [iv_len]; omega) (by simp [iv_len]; omega) (ints_src (hK.below b2).1) (fun ha => by have := (hK.2 ha).1; exact List.eq_nil_of_length_eq_zero (by rw [iv_len]; omega)) (iv_one _ _) rfl fun w4 h4 => ?_
      refine L_nil ?_
      have b24 : Below w.heap.size w w4 := h4.below b2 hB7
      have k4 : Blk w4 B7 (iv .u8 (hkN sn cr id K.2.1)).toArray 5 := by
        have e := copy_fill (q := .u8) (l := K.2.1) hle
        have := h4.new
        rw [e] at this
        rw [hkN, hk0]; exact this
      exact join _ _ ⟨rfl, b24, k4⟩
  clear k7 b2 b1 z2
  rintro vs ρ1 u ⟨rfl, bu, k7⟩
  have hkl := hkN_len sn cr hid K.2.1
  have su := bu.size
  unfold hmN
  have hip := ipN_len sn cr hid K.2.1
  have hop := opN_len sn cr hid K.2.1
  have hipe : ipN sn cr id K.2.1 = (hkN sn cr id K.2.1).map (xI · 54) := rfl
  have hope : opN sn cr id K.2.1 = (hkN sn cr id K.2.1).map (xI · 92) := rfl
  generalize ipN sn cr id K.2.1 = ip at *
  generalize opN sn cr id K.2.1 = op at *
  generalize hkN sn cr id K.2.1 = kk at *
  repeat (first | refine T_seq ?_ | refine T_block ?_ | refine T_inBlock ?_ | refine T_skip ?_)
  refine T_region ?_
  refine L_buildSlice #[] 5 (by kernel_rfl) rfl fun u1 h1 => ?_
  refine L_buildSlice #[] 5 (by kernel_rfl) rfl fun u2 h2 => ?_
  refine L_val _ _ (X_assign) rfl ?_
  refine L_val _ _ (X_assign) rfl ?_
  refine L_nil ?_
  have o1 : u1.ownsRow u.heap.size 5 1 (.slice (some ⟨u.heap.size, 0, none⟩) 0 0) 0 [] := owns_made (c := 0) (z := #[.int .u8 0]) (by rw [made0]; exact h1) (Nat.le_refl _) (by simp [maxLen])
  have bu1 : Below u.heap.size u u1 := h1.below (Below.refl _ _) (Nat.le_refl _)
  have o1' := owns_new' h2 o1
  have o2 : u2.ownsRow u.heap.size 5 1 (.slice (some ⟨u1.heap.size, 0, none⟩) 0 0) 0 [] := owns_made (c := 0) (z := #[.int .u8 0]) (by rw [made0]; exact h2) bu1.size (by simp [maxLen])
  have bu2 : Below u.heap.size u u2 := h2.below bu1 bu1.size
  have zu := h1.lt
  have hap0 : Ap (.slice (some ⟨u.heap.size, 0, none⟩) 0 0) (.slice (some ⟨u1.heap.size, 0, none⟩) 0 0) := by
    intro b hb hb2
    simp [Value.ownBlock] at hb hb2
    omega
  have k7lt := k7.lt
  repeat (first | refine T_seq ?_ | refine T_block ?_ | refine T_inBlock ?_ | refine T_skip ?_)
  refine T_region ?_
  refine L_val _ _ (X_move) rfl ?_
  refine L_val _ _ (X_lenS U25 rfl) rfl ?_
  refine L_val _ _ (X_move) rfl ?_
  refine L_nil ?_
  repeat (first | refine T_seq ?_ | refine T_block ?_ | refine T_inBlock ?_ | refine T_skip ?_)
  refine T_loopS [32, 31, 30, 8, 9, 0, 2] (fun m vs y => ∃ (i : Nat) (a8 : Option Addr) (c8 : Nat) (a9 : Option Addr) (c9 : Nat), vs = [.int .i64 i, .int .i64 (blkD id : Int), .slice (some ⟨B7, 0, none⟩) (blkD id) (blkD id), .slice a8 i c8, .slice a9 i c9, .int .i64 (id : Int), X.val] ∧ i ≤ blkD id ∧ m = blkD id - i ∧ y.ownsRow u.heap.size 5 1 (.slice a8 i c8) i (iv .u8 ((kk.take i).map (xI · 54))) ∧ y.ownsRow u.heap.size 5 1 (.slice a9 i c9) i (iv .u8 ((kk.take i).map (xI · 92))) ∧ Ap (.slice a8 i c8) (.slice a9 i c9) ∧ Below u.heap.size u y) (blkD id)
    ⟨0, some ⟨u.heap.size, 0, none⟩, 0, some ⟨u1.heap.size, 0, none⟩, 0, rfl, by omega, rfl, o1', o2, hap0, bu2⟩ ?_
  clear o1 o1' o2 hap0 bu1 bu2 h1 h2 zu
  rintro m vs ρ2 y ⟨i, a8, c8, a9, c9, rfl, hi, rfl, o8, o9, hap, by_⟩ ih
  have sy := by_.size
  repeat (first | refine T_seq ?_ | refine T_block ?_ | refine T_inBlock ?_ | refine T_skip ?_)
  refine T_region ?_
  refine L_val _ _ (X_cmp rfl rfl rfl) rfl ?_
  refine L_nil ?_
  repeat (first | refine T_seq ?_ | refine T_block ?_ | refine T_inBlock ?_ | refine T_skip ?_)
  refine T_if rfl (fun ht => ?_) (fun hf => ?_)
  · have hlt : i < blkD id := by simpa [cmpB] using ht
    have hci : y.cell? ⟨B7, 0 + i * 1, none⟩ = some (.int .u8 (gI kk i)) := by
      rw [Nat.mul_one, Nat.zero_add]; exact gblk (below_blk by_ k7 k7lt) i (iv_get (gI_at (by omega)))
    have e54 := map_take_succ (g := (xI · 54)) (l := kk) (i := i) (by omega)
    have e92 := map_take_succ (g := (xI · 92)) (l := kk) (i := i) (by omega)
    generalize gI kk i = x at *
    repeat (first | refine T_seq ?_ | refine T_block ?_ | refine T_inBlock ?_ | refine T_skip ?_)
    refine T_region ?_
    refine L_val _ _ (X_index U25 S5 rfl rfl hlt) rfl ?_
    refine L_val _ _ (X_load A5 rfl (hci)) rfl ?_
    refine L_val _ _ (X_assign) rfl ?_
    refine L_nil ?_
    repeat (first | refine T_seq ?_ | refine T_block ?_ | refine T_inBlock ?_ | refine T_skip ?_)
    refine T_region ?_
    refine L_val _ _ (X_move) rfl ?_
    refine L_val _ _ (X_move) rfl ?_
    refine L_val _ _ (X_bit rfl rfl rfl) rfl ?_
    refine L_buildSlice #[.int .u8 (xI x 54)] 5 (by kernel_rfl) rfl fun y1 h1 => ?_
    have b1 : Below u.heap.size u y1 := h1.below by_ sy
    have o81 := owns_new' h1 o8
    have o91 := owns_new' h1 o9
    refine L_appendA u.heap.size (.slice a8 i c8) i (iv .u8 ((kk.take i).map (xI · 54))) (some ⟨y.heap.size, 0, none⟩) 1 1 (iv .u8 [xI x 54]) Tryd.underlying25 I5 rfl (by decide) rfl o81 rfl rfl (by simp) (ints_src (ints_blk h1.new)) (iv_one _ _) (by simp only [maxLen]; omega) (by omega) b1.size rfl fun v2 y2 o82 g2 p2 => ?_
    obtain ⟨a8', c8', rfl, -, -⟩ := owns_val o82
    refine L_val _ _ (X_assign) rfl ?_
    refine L_nil ?_
    have o92 := hap.kept o91 g2
    have hap2 := hap.grow o91 p2
    have b2 : Below u.heap.size u y2 := grown_below b1 o81 g2 b1.size (Nat.le_refl _)
    repeat (first | refine T_seq ?_ | refine T_block ?_ | refine T_inBlock ?_ | refine T_skip ?_)
    refine T_region ?_
    refine L_val _ _ (X_move) rfl ?_
    refine L_val _ _ (X_move) rfl ?_
    refine L_val _ _ (X_bit rfl rfl rfl) rfl ?_
    refine L_buildSlice #[.int .u8 (xI x 92)] 5 (by kernel_rfl) rfl fun y3 h3 => ?_
    have b3 : Below u.heap.size u y3 := h3.below b2 b2.size
    have o83 := owns_new' h3 o82
    have o93 := owns_new' h3 o92
    refine L_appendA u.heap.size (.slice a9 i c9) i (iv .u8 ((kk.take i).map (xI · 92))) (some ⟨y2.heap.size, 0, none⟩) 1 1 (iv .u8 [xI x 92]) Tryd.underlying25 I5 rfl (by decide) rfl o93 rfl rfl (by simp) (ints_src (ints_blk h3.new)) (iv_one _ _) (by simp only [maxLen]; omega) (by omega) b3.size rfl fun v4 y4 o94 g4 p4 => ?_
    obtain ⟨a9', c9', rfl, -, -⟩ := owns_val o94
    refine L_val _ _ (X_assign) rfl ?_
    refine L_nil ?_
    have o84 := hap2.symm.kept o83 g4
    have hap4 := (hap2.symm.grow o83 p4).symm
    have b4 : Below u.heap.size u y4 := grown_below b3 o93 g4 b3.size (Nat.le_refl _)
    repeat (first | refine T_seq ?_ | refine T_block ?_ | refine T_inBlock ?_ | refine T_skip ?_)
    refine T_region ?_
    refine L_val _ _ (X_add rfl rfl (by omega) (by omega)) rfl ?_
    refine L_val _ _ (X_move) rfl ?_
    refine L_nil ?_
    exact ih _ _ _ (by omega) ⟨i + 1, a8', c8', a9', c9', rfl, by omega, rfl, by rw [e54, iv_app]; exact o84, by rw [e92, iv_app]; exact o94, hap4, b4⟩
  have hge : ¬ i < blkD id := by simpa [cmpB] using hf
  obtain rfl : i = blkD id := by omega
  refine T_exit rfl ?_
  rw [List.take_of_length_le (by omega), ← hipe] at o8
  rw [List.take_of_length_le (by omega), ← hope] at o9
  have hXy := (hX.below bu).below by_
  have bwy : Below w.heap.size w y := bu.trans (by_.mono su)
  repeat (first | refine T_seq ?_ | refine T_block ?_ | refine T_inBlock ?_ | refine T_skip ?_)
  refine T_region ?_
  refine L_val _ _ (X_move) rfl ?_
  refine L_val _ _ (X_move) rfl ?_
  refine L_val _ _ (X_move) rfl ?_
  refine L_val _ _ (X_move) rfl ?_
  refine L_val _ _ (X_move) rfl ?_
  refine L_appendA u.heap.size (.slice a8 (blkD id) c8) (blkD id) (iv .u8 ip) X.1 X.2.1.length X.2.2 (iv .u8 X.2.1) Tryd.underlying25 I5 rfl (by decide) rfl o8 rfl (by rw [iv_len, Nat.mul_one]) hX.2 (ints_src hXy.1) (iv_one _ _) (by simp only [maxLen]; omega) (by omega) sy rfl fun v1 y1 o81 g1 p1 => ?_
  obtain ⟨ai, ci, rfl, hin, -⟩ := owns_val o81
  have o91 := hap.kept o9 g1
  have b1 : Below u.heap.size u y1 := grown_below by_ o8 g1 sy (Nat.le_refl _)
  have bw1 : Below w.heap.size w y1 := bu.trans (b1.mono su)
  have hil : (ip ++ X.2.1).length = blkD id + X.2.1.length := (by rw [List.length_append, hip])
  rw [← iv_app, ← hil] at o81
  have hsum := sum_ret sn cr id hid ai (ip ++ X.2.1) ci y1 (hG.below bw1) (ints_owns o81 rfl) (by rw [hil]; exact hin) (by rw [hil]; omega)
  rw [hil] at hsum
  refine L_callF [.int .i64 (id : Int), .slice ai (blkD id + X.2.1.length) ci] E38 rfl rfl hsum ?_
  rintro v2 y2 ⟨ad, cd, rfl, od, b2⟩
  have o92 := own_below o91 b2
  have bw2 : Below w.heap.size w y2 := bw1.trans (b2.mono bw1.size)
  have su2 : u.heap.size ≤ y2.heap.size := Nat.le_trans b1.size b2.size
  have hdl := dg_len sn cr hid (ip ++ X.2.1)
  have hsz := szD_le hid
  have hdn : ad = none → (dg sn cr id (ip ++ X.2.1)).length = 0 ∧ cd = 0 := (fun ha => by obtain ⟨a', c', hv, hz, _⟩ := owns_val od; simp only [Value.slice.injEq] at hv; have := hz (hv.1 ▸ ha); omega)
  refine L_appendA u.heap.size (.slice a9 (blkD id) c9) (blkD id) (iv .u8 op) ad (dg sn cr id (ip ++ X.2.1)).length cd (iv .u8 (dg sn cr id (ip ++ X.2.1))) Tryd.underlying25 I5 rfl (by decide) rfl o92 rfl (by rw [iv_len, Nat.mul_one]) hdn (ints_src (ints_owns od rfl)) (iv_one _ _) (by simp only [maxLen]; omega) (by omega) su2 rfl fun v3 y3 o93 g3 p3 => ?_
  obtain ⟨ao, co, rfl, hon, -⟩ := owns_val o93
  have b3 : Below u.heap.size u y3 := grown_below (b1.trans (b2.mono b1.size)) o92 g3 su2 (Nat.le_refl _)
  have bw3 : Below w.heap.size w y3 := bu.trans (b3.mono su)
  have hol : (op ++ dg sn cr id (ip ++ X.2.1)).length = blkD id + (dg sn cr id (ip ++ X.2.1)).length := (by rw [List.length_append, hop])
  rw [← iv_app, ← hol] at o93
  have hsum2 := sum_ret sn cr id hid ao (op ++ dg sn cr id (ip ++ X.2.1)) co y3 (hG.below bw3) (ints_owns o93 rfl) (by rw [hol]; exact hon) (by rw [hol]; omega)
  rw [hol] at hsum2
  refine L_callF [.int .i64 (id : Int), .slice ao (blkD id + (dg sn cr id (ip ++ X.2.1)).length) co] E38 rfl rfl hsum2 ?_
  rintro v4 y4 ⟨af, cf, rfl, of, b4⟩
  refine L_val _ _ (X_assign) rfl ?_
  refine L_nil ?_
  exact T_ret1 Tryd.func21 rfl ⟨af, cf, rfl, World.ownsRow.mono of bw3.size, bw3.trans (b4.mono bw3.size)⟩
end Go.Proofs.Qxb6500863aDoor
