/-
  Zeros, Xor, modesm.HMAC.
-/
import Derived.Test.Qxb6500863aDoorGA
namespace Go.Proofs.Qxb6500863aDoor
set_option linter.unusedSimpArgs false
set_option linter.unusedVariables false
open Go.RowKit
/-- modesm.Zeros -/
theorem zeros_ret (n : Nat) (hn : n ≤ 128) (w : World) : Ret Tryd.prog 39 #[.int .i64 (n : Int)] w fun v w' => v = .slice (some ⟨w.heap.size, 0, none⟩) n n ∧ Blk w' w.heap.size (iv .u8 (List.replicate n 0)).toArray 5 ∧ Below w.heap.size w w' := by
  refine ret_of_T (vs := [.int .i64 (n : Int)]) Tryd.func39 Tryd.ntmps39 rfl (Nat.le_of_ble_eq_true rfl) ?_
  repeat (first | refine T_seq ?_ | refine T_block ?_ | refine T_inBlock ?_ | refine T_skip ?_)
  refine T_region ?_
  refine L_val _ _ (X_assign) rfl ?_
  refine L_nil ?_
  repeat (first | refine T_seq ?_ | refine T_block ?_ | refine T_inBlock ?_ | refine T_skip ?_)
  refine T_region ?_
  refine L_val _ _ (X_move) rfl ?_
  refine L_make (l := n) (c := n) Tryd.underlying25 I5 rfl rfl (Nat.le_refl _) (by omega) (by simp only [maxLen]; omega) rfl fun w1 h1 => ?_
  refine L_val _ _ (X_assign) rfl ?_
  refine L_nil ?_
  refine T_ret1 Tryd.func39 rfl ⟨rfl, ?_, h1.below (Below.refl _ _) (Nat.le_refl _)⟩
  have e : (iv .u8 (List.replicate n 0)).toArray = madeCells (Value.cells (.int .u8 0)) (n * 1) := by
    rw [Nat.mul_one]
    apply Array.ext'
    apply List.ext_getElem?
    intro i
    simp only [iv, madeCells, Value.cells]
    by_cases hi : i < n <;> simp [hi, List.getElem?_replicate, Nat.mod_one]
  rw [e]; exact h1.new
def zx (l m : List Int) : Nat → List Int
  | 0 => []
  | i + 1 => zx l m i ++ [xI (gI l i) (gI m i)]
theorem zx_len (l m : List Int) : ∀ i, (zx l m i).length = i
  | 0 => rfl
  | i + 1 => by rw [zx, List.length_append, zx_len l m i]; rfl
theorem zx_map {l : List Int} {n : Nat} {x : Int} : ∀ {i : Nat}, i ≤ l.length → i ≤ n → zx l (List.replicate n x) i = (l.take i).map (xI · x)
  | 0, _, _ => by simp [zx]
  | i + 1, hi, hn => by
    rw [zx, zx_map (Nat.le_of_succ_le hi) (Nat.le_of_succ_le hn), map_take_succ (by omega)]
    have : gI (List.replicate n x) i = x := by simp [gI, List.getD, show i < n by omega]
    rw [this]
set_option maxHeartbeats 4000000 in
/-- modesm.Xor -/
theorem xor_ret (a1 a2 : Option Addr) (l1 l2 : List Int) (c1 c2 : Nat) (w : World) (h1 : Ints .u8 w a1 l1) (h2 : Ints .u8 w a2 l2) (hlen : l1.length = l2.length) (hn : l1.length ≤ 1000) :
    Ret Tryd.prog 37 #[.slice a1 l1.length c1, .slice a2 l2.length c2] w (Made w (zx l1 l2 l1.length)) := by
  refine ret_of_T (vs := [.slice a1 l1.length c1, .slice a2 l2.length c2]) Tryd.func37 Tryd.ntmps37 rfl (Nat.le_of_ble_eq_true rfl) ?_
  repeat (first | refine T_seq ?_ | refine T_block ?_ | refine T_inBlock ?_ | refine T_skip ?_)
  refine T_region ?_
  refine L_val _ _ (X_assign) rfl ?_
  refine L_nil ?_
  repeat (first | refine T_seq ?_ | refine T_block ?_ | refine T_inBlock ?_ | refine T_skip ?_)
  refine T_region ?_
  refine L_buildSlice #[] 5 (by kernel_rfl) rfl fun w1 h1 => ?_
  refine L_val _ _ (X_assign) rfl ?_
  refine L_nil ?_
  rename_i hh1
  have o1 : w1.ownsRow w.heap.size 5 1 (.slice (some ⟨w.heap.size, 0, none⟩) 0 0) 0 [] := owns_made (c := 0) (z := #[.int .u8 0]) (by rw [made0]; exact h1) (Nat.le_refl _) (by simp [maxLen])
  have b1 : Below w.heap.size w w1 := h1.below (Below.refl _ _) (Nat.le_refl _)
  repeat (first | refine T_seq ?_ | refine T_block ?_ | refine T_inBlock ?_ | refine T_skip ?_)
  refine T_region ?_
  refine L_val _ _ (X_move) rfl ?_
  refine L_val _ _ (X_lenS U25 rfl) rfl ?_
  refine L_val _ _ (X_move) rfl ?_
  refine L_nil ?_
  repeat (first | refine T_seq ?_ | refine T_block ?_ | refine T_inBlock ?_ | refine T_skip ?_)
  refine T_loopS [10, 9, 5, 0, 1] (fun m vs z => ∃ (i : Nat) (a : Option Addr) (c : Nat), vs = [.int .i64 i, .int .i64 l1.length, .slice a i c, .slice a1 l1.length c1, .slice a2 l2.length c2] ∧ i ≤ l1.length ∧ m = l1.length - i ∧ z.ownsRow w.heap.size 5 1 (.slice a i c) i (iv .u8 (zx l1 l2 i)) ∧ Below w.heap.size w z) l1.length
    ⟨0, some ⟨w.heap.size, 0, none⟩, 0, rfl, by omega, rfl, o1, b1⟩ ?_
  rintro m vs ρ z ⟨i, a, c, rfl, hi, rfl, oz, bz⟩ ih
  have sz := bz.size
  repeat (first | refine T_seq ?_ | refine T_block ?_ | refine T_inBlock ?_ | refine T_skip ?_)
  refine T_region ?_
  refine L_val _ _ (X_cmp rfl rfl rfl) rfl ?_
  refine L_nil ?_
  repeat (first | refine T_seq ?_ | refine T_block ?_ | refine T_inBlock ?_ | refine T_skip ?_)
  refine T_if rfl (fun ht => ?_) (fun hf => ?_)
  case refine_2 =>
    have hge : ¬ i < l1.length := by simpa [cmpB] using hf
    obtain rfl : i = l1.length := by omega
    refine T_exit rfl ?_
    repeat (first | refine T_seq ?_ | refine T_block ?_ | refine T_inBlock ?_ | refine T_skip ?_)
    refine T_region ?_
    refine L_val _ _ (X_move) rfl ?_
    refine L_val _ _ (X_assign) rfl ?_
    refine L_nil ?_
    exact T_ret1 Tryd.func37 rfl ⟨a, c, by rw [zx_len]; rfl, by rw [zx_len]; exact oz, bz⟩
  have hlt : i < l1.length := by simpa [cmpB] using ht
  obtain ⟨p1, r1, rfl, hp1, hc1⟩ := hh1.cell i _ (gI_at hlt)
  obtain ⟨p2, r2, rfl, hp2, hc2⟩ := h2.cell i _ (gI_at (by omega))
  have hsn : zx l1 l2 (i + 1) = zx l1 l2 i ++ [xI (gI l1 i) (gI l2 i)] := rfl
  generalize gI l1 i = x at *
  generalize gI l2 i = y at *
  repeat (first | refine T_seq ?_ | refine T_block ?_ | refine T_inBlock ?_ | refine T_skip ?_)
  refine T_region ?_
  refine L_val _ _ (X_move) rfl ?_
  refine L_val _ _ (X_assign) rfl ?_
  refine L_nil ?_
  repeat (first | refine T_seq ?_ | refine T_block ?_ | refine T_inBlock ?_ | refine T_skip ?_)
  refine T_draw (fun v => Below w.heap.size w v) 12 rfl rfl fun z1 hsm => ?_
  have hS : Below w.heap.size w z1 := hsm.below bz
  refine D_take 0 _ rfl (by kernel_rfl) hS (fun w hw => X_move) rfl ?_
  refine D_take 1 _ rfl (by kernel_rfl) hS (fun w hw => X_move) rfl ?_
  refine D_take 2 _ rfl (by kernel_rfl) hS (fun w hw => X_move) rfl ?_
  refine D_take 3 _ rfl (by kernel_rfl) hS (fun w hw => X_index U25 S5 rfl rfl hlt) rfl ?_
  refine D_take 4 _ rfl (by kernel_rfl) hS (fun w hw => X_load A5 rfl ((by rw [Nat.mul_one]; exact (below_cell hw _ hp1).trans hc1))) rfl ?_
  refine D_take 5 _ rfl (by kernel_rfl) hS (fun w hw => X_move) rfl ?_
  refine D_take 6 _ rfl (by kernel_rfl) hS (fun w hw => X_move) rfl ?_
  refine D_take 7 _ rfl (by kernel_rfl) hS (fun w hw => X_index U25 S5 rfl rfl (by omega)) rfl ?_
  refine D_take 8 _ rfl (by kernel_rfl) hS (fun w hw => X_load A5 rfl ((by rw [Nat.mul_one]; exact (below_cell hw _ hp2).trans hc2))) rfl ?_
  refine D_take 9 _ rfl (by kernel_rfl) hS (fun w hw => X_bit rfl rfl rfl) rfl ?_
  skip
  refine D_buildSlice 10 #[.int .u8 (xI x y)] 5 rfl (by kernel_rfl) (by kernel_rfl) rfl ?_
  intro z2 h2'
  have hS2 : Below w.heap.size w z2 := h2'.below hS hS.size
  have o2 := owns_new' h2' (hsm.owns oz)
  refine ⟨fun _ => hS2, ?_⟩
  refine D_append1 11 w.heap.size (.slice a i c) i (iv .u8 (zx l1 l2 i)) z1.heap.size [.int .u8 (xI x y)] rfl (by kernel_rfl) Tryd.underlying25 I5 rfl (by decide) rfl o2 rfl rfl h2'.new (by simp [Value.oneCell']) (by simp only [maxLen]; omega) (by omega) hS2.size rfl ?_
  intro v3 z3 o3 g3 _
  have hS3 : Below w.heap.size w z3 := grown_below hS2 o2 g3 hS2.size (Nat.le_refl _)
  refine ⟨fun _ => hS3, ?_⟩
  obtain ⟨a3, c3, rfl, -, -⟩ := owns_val o3
  refine D_val 12 _ _ rfl (by kernel_rfl) X_assign rfl (fun hb => by cases hb) ?_
  refine D_done (by kernel_rfl) ?_
  repeat (first | refine T_seq ?_ | refine T_block ?_ | refine T_inBlock ?_ | refine T_skip ?_)
  refine T_region ?_
  refine L_val _ _ (X_add rfl rfl (by omega) (by omega)) rfl ?_
  refine L_val _ _ (X_move) rfl ?_
  refine L_nil ?_
  exact ih _ _ _ (by omega) ⟨i + 1, a3, c3, rfl, by omega, rfl, by rw [hsn, iv_app]; exact o3, hS3⟩
theorem made_ok {w w' : World} {l : List Int} {v : Value} (h : Made w l v w') : ∃ a c, v = Sl.val (a, l, c) ∧ Sl.ok w' (a, l, c) := by
  obtain ⟨a, c, rfl, o, _⟩ := h
  refine ⟨a, c, rfl, ints_owns o rfl, fun ha => ?_⟩
  obtain ⟨a', c', hv, hz, _⟩ := owns_val o
  simp only [Value.slice.injEq] at hv
  obtain ⟨rfl, -, rfl⟩ := hv
  exact hz ha
/-- Join of two lists, just laid in a slice. -/
theorem join2 (X Y : Sl) (z z' : World) (hX : Sl.ok z X) (hY : Sl.ok z Y) (hl : X.2.1.length + Y.2.1.length ≤ 10000000) (hch : Chg z z' z.heap.size (.cells #[X.val, Y.val] 25 (0, 0))) : Ret Tryd.prog 26 #[.slice (some ⟨z.heap.size, 0, none⟩) 2 2] z' (Made z' (X.2.1 ++ Y.2.1)) := by
  have bz : Below z.heap.size z z' := hch.below (Below.refl _ _) (Nat.le_refl _)
  have hcat : cat [X, Y] = X.2.1 ++ Y.2.1 := by simp [cat]
  have hk : Blk z' z.heap.size ([X, Y].map Sl.val).toArray 25 := hch.new
  have := join_ret z.heap.size 0 2 [X, Y] z' hch.lt (by
    intro i x hx
    rw [Nat.zero_add]
    exact gblk hk i (by rw [List.getElem?_map, hx]; rfl)) (by
    intro x hx
    simp only [List.mem_cons, List.not_mem_nil, or_false] at hx
    rcases hx with rfl | rfl
    · exact hX.below bz
    · exact hY.below bz) (by simp) (by rw [hcat, List.length_append]; omega)
  rw [hcat] at this
  exact this
set_option maxHeartbeats 8000000 in
set_option maxRecDepth 10000 in
/-- modesm.HMAC -/
theorem hmac_ret (sn cr : List Int) (id : Nat) (hid : id < 5) (K X : Sl) (w : World) (hG : Glob sn cr w) (hK : Sl.ok w K) (hX : Sl.ok w X) (hKl : K.2.1.length ≤ 1000000) (hXl : X.2.1.length ≤ 1000000) :
    Ret Tryd.prog 16 #[.int .i64 (id : Int), K.val, X.val] w (Made w (hmN sn cr id K.2.1 X.2.1)) := by
  refine ret_of_T (vs := [.int .i64 (id : Int), K.val, X.val]) Tryd.func16 Tryd.ntmps16 rfl (Nat.le_of_ble_eq_true rfl) ?_
  have hbc := blkD_cases hid
  have hb128 : 64 ≤ blkD id ∧ blkD id ≤ 128 := by omega
  repeat (first | refine T_seq ?_ | refine T_block ?_ | refine T_inBlock ?_ | refine T_skip ?_)
  refine T_region ?_
  refine L_val _ _ (X_assign) rfl ?_
  refine L_nil ?_
  repeat (first | refine T_seq ?_ | refine T_block ?_ | refine T_inBlock ?_ | refine T_skip ?_)
  refine T_region ?_
  refine L_val _ _ (X_move) rfl ?_
  refine L_callF [.int .i64 (id : Int)] E7 rfl rfl (bs_ret id hid w) ?_
  rintro v w1 ⟨rfl, b1⟩
  refine L_val _ _ (X_assign) rfl ?_
  refine L_nil ?_
  refine T_seq ?_
  refine T_part [7, 0, 1, 2] (fun vs u => ∃ (a0 : Option Addr) (c0 : Nat), vs = [.int .i64 (blkD id : Int), .int .i64 (id : Int), Sl.val (a0, k0N sn cr id K.2.1, c0), X.val] ∧ Below w.heap.size w u ∧ Sl.ok u (a0, k0N sn cr id K.2.1, c0)) ?_ (fun join => ?_)
  rotate_left
  · repeat (first | refine T_seq ?_ | refine T_block ?_ | refine T_inBlock ?_ | refine T_skip ?_)
    rcases Nat.lt_or_ge (blkD id) K.2.1.length with hgt | hle
    · have e1 : cmpB .gtr (K.2.1.length : Int) (blkD id : Int) = true := by simp [cmpB]; omega
      have hk0 : k0N sn cr id K.2.1 = dg sn cr id K.2.1 := by rw [k0N, if_pos hgt]
      refine T_region ?_
      refine L_val _ _ (X_move) rfl ?_
      refine L_val _ _ (X_lenS U25 rfl) rfl ?_
      refine L_val _ _ (X_move) rfl ?_
      refine L_val _ _ (X_cmpR true rfl rfl rfl e1) rfl ?_
      refine L_nil ?_
      refine T_true rfl ?_
      refine T_region ?_
      refine L_val _ _ (X_move) rfl ?_
      refine L_val _ _ (X_move) rfl ?_
      refine L_callF [.int .i64 (id : Int), K.val] E38 rfl rfl (sum_ret sn cr id hid K.1 K.2.1 K.2.2 w1 (hG.below b1) (hK.below b1).1 hK.2 (by omega)) ?_
      rintro v w3 hm3
      have b3 := hm3.choose_spec.choose_spec.2.2
      obtain ⟨a3, c3, rfl, ok3⟩ := made_ok hm3
      refine L_val _ _ (X_assign) rfl ?_
      refine L_nil ?_
      exact join _ _ ⟨a3, c3, by rw [hk0]; rfl, b1.trans (b3.mono b1.size), by rw [hk0]; exact ok3⟩
    · have e1 : cmpB .gtr (K.2.1.length : Int) (blkD id : Int) = false := by simp [cmpB]; omega
      have hk0 : k0N sn cr id K.2.1 = K.2.1 := by rw [k0N, if_neg (by omega)]
      refine T_region ?_
      refine L_val _ _ (X_move) rfl ?_
      refine L_val _ _ (X_lenS U25 rfl) rfl ?_
      refine L_val _ _ (X_move) rfl ?_
      refine L_val _ _ (X_cmpR false rfl rfl rfl e1) rfl ?_
      refine L_nil ?_
      refine T_false rfl ?_
      refine T_skip ?_
      exact join _ _ ⟨K.1, K.2.2, by rw [hk0]; rfl, b1, by rw [hk0]; exact hK.below b1⟩
  rintro vs ρ1 u ⟨a0, c0, rfl, bu, ok0⟩
  have hk0l := k0N_len sn cr hid K.2.1
  have hkk : hkN sn cr id K.2.1 = k0N sn cr id K.2.1 ++ List.replicate (blkD id - (k0N sn cr id K.2.1).length) 0 := rfl
  have hkl := hkN_len sn cr hid K.2.1
  have su := bu.size
  unfold hmN
  have hip := ipN_len sn cr hid K.2.1
  have hop := opN_len sn cr hid K.2.1
  have hipe : ipN sn cr id K.2.1 = (hkN sn cr id K.2.1).map (xI · 54) := rfl
  have hope : opN sn cr id K.2.1 = (hkN sn cr id K.2.1).map (xI · 92) := rfl
  generalize ipN sn cr id K.2.1 = ip at *
  generalize opN sn cr id K.2.1 = op at *
  generalize k0N sn cr id K.2.1 = k0 at *
  generalize hkN sn cr id K.2.1 = kk at *
  have e25 : (blkD id : Int) - (k0.length : Int) = ((blkD id - k0.length : Nat) : Int) := by omega
  have hzr := fun z => ret_args (b := #[.int .i64 ((blkD id : Int) - (k0.length : Int))]) (by rw [e25]) (zeros_ret (blkD id - k0.length) (by omega) z)
  repeat (first | refine T_seq ?_ | refine T_block ?_ | refine T_inBlock ?_ | refine T_skip ?_)
  refine T_region ?_
  refine L_val _ _ (X_move) rfl ?_
  refine L_val _ _ (X_move) rfl ?_
  refine L_val _ _ (X_move) rfl ?_
  refine L_val _ _ (X_lenS U25 rfl) rfl ?_
  refine L_val _ _ (X_sub rfl rfl (show -9223372036854775808 ≤ (blkD id : Int) - (k0.length : Int) by omega) (show (blkD id : Int) - (k0.length : Int) < 9223372036854775808 by omega)) rfl ?_
  refine L_callF [.int .i64 ((blkD id : Int) - (k0.length : Int))] E39 rfl rfl (hzr u) ?_
  rintro v u1 ⟨rfl, kz, bu1⟩
  have okz : Sl.ok u1 (some ⟨u.heap.size, 0, none⟩, List.replicate (blkD id - k0.length) 0, blkD id - k0.length) := ⟨ints_blk kz, fun h => by cases h⟩
  refine L_buildSlice #[Sl.val (a0, k0, c0), .slice (some ⟨u.heap.size, 0, none⟩) (blkD id - k0.length) (blkD id - k0.length)] 25 (by kernel_rfl) rfl fun u2 h2 => ?_
  have hj := join2 (a0, k0, c0) (some ⟨u.heap.size, 0, none⟩, List.replicate (blkD id - k0.length) 0, blkD id - k0.length) u1 u2 (ok0.below bu1) okz (by simp; omega) (by simp only [Sl.val, List.length_replicate]; exact h2)
  rw [← hkk] at hj
  refine L_callF [.slice (some ⟨u1.heap.size, 0, none⟩) 2 2] E26 rfl rfl hj ?_
  rintro v u3 hm3
  have bu3 := hm3.choose_spec.choose_spec.2.2
  obtain ⟨a8, c8, rfl, ok8⟩ := made_ok hm3
  refine L_val _ _ (X_assign) rfl ?_
  refine L_nil ?_
  have bu2 : Below u.heap.size u u2 := h2.below bu1 bu1.size
  have bu3' : Below u.heap.size u u3 := bu2.trans (bu3.mono bu2.size)
  have bw3 : Below w.heap.size w u3 := bu.trans (bu3'.mono su)
  clear h2 hj hzr bu1 bu2 bu3 okz kz
  repeat (first | refine T_seq ?_ | refine T_block ?_ | refine T_inBlock ?_ | refine T_skip ?_)
  refine T_region ?_
  refine L_buildSlice #[] 5 (by kernel_rfl) rfl fun y1 h1 => ?_
  refine L_buildSlice #[] 5 (by kernel_rfl) rfl fun y2 h2 => ?_
  refine L_val _ _ (X_assign) rfl ?_
  refine L_val _ _ (X_assign) rfl ?_
  refine L_nil ?_
  have o1 : y1.ownsRow u3.heap.size 5 1 (.slice (some ⟨u3.heap.size, 0, none⟩) 0 0) 0 [] := owns_made (c := 0) (z := #[.int .u8 0]) (by rw [made0]; exact h1) (Nat.le_refl _) (by simp [maxLen])
  have by1 : Below u3.heap.size u3 y1 := h1.below (Below.refl _ _) (Nat.le_refl _)
  have o1' := owns_new' h2 o1
  have o2 : y2.ownsRow u3.heap.size 5 1 (.slice (some ⟨y1.heap.size, 0, none⟩) 0 0) 0 [] := owns_made (c := 0) (z := #[.int .u8 0]) (by rw [made0]; exact h2) by1.size (by simp [maxLen])
  have by2 : Below u3.heap.size u3 y2 := h2.below by1 by1.size
  have zu := h1.lt
  have hap0 : Ap (.slice (some ⟨u3.heap.size, 0, none⟩) 0 0) (.slice (some ⟨y1.heap.size, 0, none⟩) 0 0) := by
    intro b hb hb2
    simp [Value.ownBlock] at hb hb2
    omega
  repeat (first | refine T_seq ?_ | refine T_block ?_ | refine T_inBlock ?_ | refine T_skip ?_)
  refine T_region ?_
  refine L_val _ _ (X_assign) rfl ?_
  refine L_nil ?_
  repeat (first | refine T_seq ?_ | refine T_block ?_ | refine T_inBlock ?_ | refine T_skip ?_)
  refine T_loopS [11, 7, 9, 10, 8, 0, 2] (fun m vs y => ∃ (i : Nat) (a9 : Option Addr) (c9 : Nat) (aa : Option Addr) (ca : Nat), vs = [.int .i64 i, .int .i64 (blkD id : Int), .slice a9 i c9, .slice aa i ca, Sl.val (a8, kk, c8), .int .i64 (id : Int), X.val] ∧ i ≤ blkD id ∧ m = blkD id - i ∧ y.ownsRow u3.heap.size 5 1 (.slice a9 i c9) i (iv .u8 (List.replicate i 54)) ∧ y.ownsRow u3.heap.size 5 1 (.slice aa i ca) i (iv .u8 (List.replicate i 92)) ∧ Ap (.slice a9 i c9) (.slice aa i ca) ∧ Below u3.heap.size u3 y) (blkD id)
    ⟨0, some ⟨u3.heap.size, 0, none⟩, 0, some ⟨y1.heap.size, 0, none⟩, 0, rfl, by omega, rfl, o1', o2, hap0, by2⟩ ?_
  clear o1 o1' o2 hap0 by1 by2 h1 h2 zu
  rintro m vs ρ2 y ⟨i, a9, c9, aa, ca, rfl, hi, rfl, o8, o9, hap, by_⟩ ih
  have sy := by_.size
  repeat (first | refine T_seq ?_ | refine T_block ?_ | refine T_inBlock ?_ | refine T_skip ?_)
  refine T_region ?_
  refine L_val _ _ (X_move) rfl ?_
  refine L_val _ _ (X_move) rfl ?_
  refine L_val _ _ (X_cmp rfl rfl rfl) rfl ?_
  refine L_nil ?_
  refine T_if rfl (fun ht => ?_) (fun hf => ?_)
  · have hlt : i < blkD id := by simpa [cmpB] using ht
    repeat (first | refine T_seq ?_ | refine T_block ?_ | refine T_inBlock ?_ | refine T_skip ?_)
    refine T_region ?_
    refine L_val _ _ (X_move) rfl ?_
    refine L_buildSlice #[.int .u8 54] 5 (by kernel_rfl) rfl fun y1 h1 => ?_
    have b1 : Below u3.heap.size u3 y1 := h1.below by_ sy
    have o81 := owns_new' h1 o8
    have o91 := owns_new' h1 o9
    refine L_appendA u3.heap.size (.slice a9 i c9) i (iv .u8 (List.replicate i 54)) (some ⟨y.heap.size, 0, none⟩) 1 1 (iv .u8 [54]) Tryd.underlying25 I5 rfl (by decide) rfl o81 rfl rfl (by simp) (ints_src (ints_blk h1.new)) (iv_one _ _) (by simp only [maxLen]; omega) (by omega) b1.size rfl fun v2 y2 o82 g2 p2 => ?_
    obtain ⟨a8', c8', rfl, -, -⟩ := owns_val o82
    refine L_val _ _ (X_assign) rfl ?_
    refine L_nil ?_
    have o92 := hap.kept o91 g2
    have hap2 := hap.grow o91 p2
    have b2 : Below u3.heap.size u3 y2 := grown_below b1 o81 g2 b1.size (Nat.le_refl _)
    repeat (first | refine T_seq ?_ | refine T_block ?_ | refine T_inBlock ?_ | refine T_skip ?_)
    refine T_region ?_
    refine L_val _ _ (X_move) rfl ?_
    refine L_buildSlice #[.int .u8 92] 5 (by kernel_rfl) rfl fun y3 h3 => ?_
    have b3 : Below u3.heap.size u3 y3 := h3.below b2 b2.size
    have o83 := owns_new' h3 o82
    have o93 := owns_new' h3 o92
    refine L_appendA u3.heap.size (.slice aa i ca) i (iv .u8 (List.replicate i 92)) (some ⟨y2.heap.size, 0, none⟩) 1 1 (iv .u8 [92]) Tryd.underlying25 I5 rfl (by decide) rfl o93 rfl rfl (by simp) (ints_src (ints_blk h3.new)) (iv_one _ _) (by simp only [maxLen]; omega) (by omega) b3.size rfl fun v4 y4 o94 g4 p4 => ?_
    obtain ⟨a9', c9', rfl, -, -⟩ := owns_val o94
    refine L_val _ _ (X_assign) rfl ?_
    refine L_nil ?_
    have o84 := hap2.symm.kept o83 g4
    have hap4 := (hap2.symm.grow o83 p4).symm
    have b4 : Below u3.heap.size u3 y4 := grown_below b3 o93 g4 b3.size (Nat.le_refl _)
    repeat (first | refine T_seq ?_ | refine T_block ?_ | refine T_inBlock ?_ | refine T_skip ?_)
    refine T_region ?_
    refine L_val _ _ (X_move) rfl ?_
    refine L_val _ _ (X_add rfl rfl (by omega) (by omega)) rfl ?_
    refine L_val _ _ (X_assign) rfl ?_
    refine L_nil ?_
    exact ih _ _ _ (by omega) ⟨i + 1, a8', c8', a9', c9', rfl, by omega, rfl, by rw [List.replicate_succ', iv_app]; exact o84, by rw [List.replicate_succ', iv_app]; exact o94, hap4, b4⟩
  have hge : ¬ i < blkD id := by simpa [cmpB] using hf
  obtain rfl : i = blkD id := by omega
  refine T_exit rfl ?_
  have ok9 : Ints .u8 y a9 (List.replicate (blkD id) 54) := ints_owns o8 (by simp)
  have oka : Ints .u8 y aa (List.replicate (blkD id) 92) := ints_owns o9 (by simp)
  have ok8y := ok8.below by_
  have hXy := (hX.below bw3).below by_
  have bwy : Below w.heap.size w y := bw3.trans (by_.mono bw3.size)
  have zm54 : zx kk (List.replicate (blkD id) 54) kk.length = ip := by rw [zx_map (by omega) (by omega), List.take_of_length_le (by omega), ← hipe]
  have zm92 : zx kk (List.replicate (blkD id) 92) kk.length = op := by rw [zx_map (by omega) (by omega), List.take_of_length_le (by omega), ← hope]
  have hx1 := fun z (hz : Below y.heap.size y z) => ret_args (b := #[Sl.val (a8, kk, c8), .slice aa (blkD id) ca]) (by simp [Sl.val, List.length_replicate]) (xor_ret a8 aa kk (List.replicate (blkD id) 92) c8 ca z (ok8y.1.below hz) (oka.below hz) (by simp; omega) (by omega))
  have hx2 := fun z (hz : Below y.heap.size y z) => ret_args (b := #[Sl.val (a8, kk, c8), .slice a9 (blkD id) c9]) (by simp [Sl.val, List.length_replicate]) (xor_ret a8 a9 kk (List.replicate (blkD id) 54) c8 c9 z (ok8y.1.below hz) (ok9.below hz) (by simp; omega) (by omega))
  simp only [zm54, zm92] at hx1 hx2
  have hdl := dg_len sn cr hid (ip ++ X.2.1)
  have hsz := szD_le hid
  repeat (first | refine T_seq ?_ | refine T_block ?_ | refine T_inBlock ?_ | refine T_skip ?_)
  refine T_region ?_
  refine L_val _ _ (X_move) rfl ?_
  refine L_val _ _ (X_move) rfl ?_
  refine L_val _ _ (X_move) rfl ?_
  refine L_callF [Sl.val (a8, kk, c8), .slice aa (blkD id) ca] E37 rfl rfl (hx1 y (Below.refl _ _)) ?_
  rintro v1 y1 hm1
  have b1 := hm1.choose_spec.choose_spec.2.2
  obtain ⟨a1, c1, rfl, ok1⟩ := made_ok hm1
  refine L_val _ _ (X_move) rfl ?_
  refine L_val _ _ (X_move) rfl ?_
  refine L_val _ _ (X_move) rfl ?_
  refine L_callF [Sl.val (a8, kk, c8), .slice a9 (blkD id) c9] E37 rfl rfl (hx2 y1 b1) ?_
  rintro v2 y2 hm2
  have b2 := hm2.choose_spec.choose_spec.2.2
  obtain ⟨a2, c2, rfl, ok2⟩ := made_ok hm2
  have by2 : Below y.heap.size y y2 := b1.trans (b2.mono b1.size)
  refine L_val _ _ (X_move) rfl ?_
  refine L_buildSlice #[Sl.val (a2, ip, c2), X.val] 25 (by kernel_rfl) rfl fun y3 h3 => ?_
  have hj := join2 (a2, ip, c2) X y2 y3 ok2 (hXy.below by2) (by show ip.length + X.2.1.length ≤ _; omega) h3
  have b3 : Below y.heap.size y y3 := h3.below by2 by2.size
  refine L_callF [.slice (some ⟨y2.heap.size, 0, none⟩) 2 2] E26 rfl rfl hj ?_
  rintro v4 y4 hm4
  have b4 := hm4.choose_spec.choose_spec.2.2
  obtain ⟨a4, c4, rfl, ok4⟩ := made_ok hm4
  have by4 : Below y.heap.size y y4 := b3.trans (b4.mono b3.size)
  have bw4 : Below w.heap.size w y4 := bwy.trans (by4.mono bwy.size)
  have hs := sum_ret sn cr id hid a4 (ip ++ X.2.1) c4 y4 (hG.below bw4) ok4.1 ok4.2 (by rw [List.length_append]; omega)
  refine L_callF [.int .i64 (id : Int), Sl.val (a4, ip ++ X.2.1, c4)] E38 rfl rfl hs ?_
  rintro v5 y5 hm5
  have b5 := hm5.choose_spec.choose_spec.2.2
  obtain ⟨a5, c5, rfl, ok5⟩ := made_ok hm5
  have by5 : Below y.heap.size y y5 := by4.trans (b5.mono by4.size)
  have ok15 : Sl.ok y5 (a1, op, c1) := ((((ok1.below b2).below (h3.below (Below.refl _ _) (Nat.le_refl _))).below b4).below b5)
  refine L_buildSlice #[Sl.val (a1, op, c1), Sl.val (a5, dg sn cr id (ip ++ X.2.1), c5)] 25 (by kernel_rfl) rfl fun y6 h6 => ?_
  have hj2 := join2 (a1, op, c1) (a5, dg sn cr id (ip ++ X.2.1), c5) y5 y6 ok15 ok5 (by show op.length + (dg sn cr id (ip ++ X.2.1)).length ≤ _; omega) h6
  have by6 : Below y.heap.size y y6 := h6.below by5 by5.size
  refine L_callF [.slice (some ⟨y5.heap.size, 0, none⟩) 2 2] E26 rfl rfl hj2 ?_
  rintro v7 y7 hm7
  have b7 := hm7.choose_spec.choose_spec.2.2
  obtain ⟨a7, c7, rfl, ok7⟩ := made_ok hm7
  have by7 : Below y.heap.size y y7 := by6.trans (b7.mono by6.size)
  have bw7 : Below w.heap.size w y7 := bwy.trans (by7.mono bwy.size)
  have hs2 := sum_ret sn cr id hid a7 (op ++ dg sn cr id (ip ++ X.2.1)) c7 y7 (hG.below bw7) ok7.1 ok7.2 (by rw [List.length_append]; omega)
  refine L_callF [.int .i64 (id : Int), Sl.val (a7, op ++ dg sn cr id (ip ++ X.2.1), c7)] E38 rfl rfl hs2 ?_
  rintro v8 y8 ⟨af, cf, rfl, of, b8⟩
  refine L_val _ _ (X_assign) rfl ?_
  refine L_nil ?_
  exact T_ret1 Tryd.func16 rfl ⟨af, cf, rfl, World.ownsRow.mono of bw7.size, bw7.trans (b8.mono bw7.size)⟩
end Go.Proofs.Qxb6500863aDoor
