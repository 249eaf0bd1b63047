/-
  TextIsCanonical, the law.
-/
import Derived.Test.Qxb6500866aDoorL3
namespace Go.Proofs.Qxb6500866aDoor
set_option linter.unusedSimpArgs false
set_option linter.unusedVariables false
open Go.RowKit

structure Glob (w : World) : Prop where
  init : InitAt w
  round : RoundAt w
  size : 1 < w.heap.size
theorem Glob.below {w w' : World} (h : Glob w) (hb : Below w.heap.size w w') : Glob w' := by
  refine ⟨?_, ?_, Nat.lt_of_lt_of_le h.size hb.size⟩
  · obtain ⟨s0, s1, s2, s3, s4, s5, s6, s7, hi⟩ := h.init
    exact ⟨s0, s1, s2, s3, s4, s5, s6, s7, fun j v hv => (below_cell hb _ (by have := h.size; omega)).trans (hi j v hv)⟩
  · intro i hi
    obtain ⟨x, hx⟩ := h.round i hi
    exact ⟨x, (below_cell hb _ h.size).trans hx⟩

set_option maxHeartbeats 8000000 in
set_option maxRecDepth 10000 in
/-- digestlaw.TextIsCanonical -/
theorem law_ret (a : Option Addr) (c : Nat) (xs : List OpT) (w : World) (hs : Script w a xs) (hG : Glob w) :
    Ret Tryd.prog 3 #[.slice a xs.length c] w fun v w' => v = .bool true ∧ Below w.heap.size w w' := by
  refine ret_of_T (vs := [.slice a xs.length c]) Tryd.func3 Tryd.ntmps3 rfl (Nat.le_of_ble_eq_true rfl) ?_
  repeat (first | refine T_seq ?_ | refine T_block ?_ | refine T_inBlock ?_ | refine T_skip ?_)
  refine T_region ?_
  refine L_val _ _ (X_assign) rfl ?_
  refine L_nil ?_
  repeat (first | refine T_seq ?_ | refine T_block ?_ | refine T_inBlock ?_ | refine T_skip ?_)
  refine T_region ?_
  refine L_val _ _ (X_move) rfl ?_
  refine L_callF [.slice a xs.length c] E4 rfl rfl (small_ret a c xs w hs) ?_
  rintro v w1 ⟨t, rfl, rfl, hsmall⟩
  refine L_val _ _ (X_not rfl) rfl ?_
  refine L_nil ?_
  cases t with
  | false =>
    refine T_true rfl ?_
    repeat (first | refine T_seq ?_ | refine T_block ?_ | refine T_inBlock ?_ | refine T_skip ?_)
    refine T_region ?_
    refine L_val _ _ (X_assign) rfl ?_
    refine L_nil ?_
    exact T_ret1 Tryd.func3 rfl ⟨rfl, Below.refl _ _⟩
  | true =>
  obtain ⟨hxl, hxs⟩ := hsmall rfl
  refine T_false rfl ?_
  repeat (first | refine T_seq ?_ | refine T_block ?_ | refine T_inBlock ?_ | refine T_skip ?_)
  refine T_region ?_
  refine L_val _ _ (X_move) rfl ?_
  refine L_val _ _ (X_lenS U22 rfl) rfl ?_
  refine L_val _ _ (X_move) rfl ?_
  refine L_nil ?_
  repeat (first | refine T_seq ?_ | refine T_block ?_ | refine T_inBlock ?_ | refine T_skip ?_)
  refine T_loopS [17, 16, 15] (fun m vs x => ∃ i : Nat, vs = [.int .i64 i, .int .i64 xs.length, .slice a xs.length c] ∧ i ≤ xs.length ∧ m = xs.length - i ∧ Below w.heap.size w x) xs.length ⟨0, rfl, by omega, rfl, Below.refl _ _⟩ ?_
  rintro m vs ρ x ⟨i, rfl, hi, rfl, bx⟩ ih
  repeat (first | refine T_seq ?_ | refine T_block ?_ | refine T_inBlock ?_ | refine T_skip ?_)
  refine T_region ?_
  refine L_val _ _ (X_cmp rfl rfl rfl) rfl ?_
  refine L_nil ?_
  repeat (first | refine T_seq ?_ | refine T_block ?_ | refine T_inBlock ?_ | refine T_skip ?_)
  refine T_if rfl (fun ht => ?_) (fun hf => ?_)
  case refine_2 =>
    refine T_exit rfl ?_
    repeat (first | refine T_seq ?_ | refine T_block ?_ | refine T_inBlock ?_ | refine T_skip ?_)
    refine T_region ?_
    refine L_val _ _ (X_assign) rfl ?_
    refine L_nil ?_
    exact T_ret1 Tryd.func3 rfl ⟨rfl, bx⟩
  have hlt : i < xs.length := by simpa [cmpB] using ht
  obtain ⟨p, q, rfl, hp, hc⟩ := (hs.arr.below bx).cell i xs[i].cells (by rw [List.getElem?_map, List.getElem?_eq_getElem hlt]; rfl)
  have hok := hs.ok xs[i] (by simp)
  have hdl := hxs xs[i] (by simp)
  generalize xs[i] = X at *
  have hA := hok.data
  have hB := hok.byt
  have hN := hok.none
  have hC := hok.cap
  have sx := bx.size
  repeat (first | refine T_seq ?_ | refine T_block ?_ | refine T_inBlock ?_ | refine T_skip ?_)
  refine T_region ?_
  refine L_val _ _ (X_index U22 S29 rfl rfl hlt) rfl ?_
  refine L_val _ _ (X_loadAgg X.cells A29 S29 rfl rfl hc) rfl ?_
  refine L_alloc Z29 rfl fun w2 h2 => ?_
  refine L_storeAll X.cells S29 rfl rfl rfl (OpT.cells_one _) h2.new rfl fun w3 h3 => ?_
  refine L_nil ?_
  have h23 := h2.trans h3
  have b3 : Below w.heap.size w w3 := h23.below bx sx
  have k4 : Blk w3 x.heap.size X.cells.toArray 29 := h23.new
  have hG3 := hG.below b3
  clear h2 h3 h23 hc
  generalize x.heap.size = B4 at *
  repeat (first | refine T_seq ?_ | refine T_block ?_ | refine T_inBlock ?_ | refine T_skip ?_)
  refine T_region ?_
  refine L_val _ _ (X_field F29_1 rfl) rfl ?_
  refine L_val _ _ (X_load A25 rfl (gblk k4 1 rfl)) rfl ?_
  refine L_callF [.slice X.da X.data.length X.dc] E5 rfl rfl (sum_ret X.da X.data.length X.dc w3 hC hdl (hA.below b3).rda (fun h => by rw [hN h]; rfl) hG3.init hG3.round hG3.size) ?_
  rintro v w4 ⟨bs, rfl, hbl, hby, b4⟩
  refine L_alloc Z31 rfl fun w5 h5 => ?_
  refine L_storeAll (u8s bs) S31 rfl rfl (by rw [u8s_len]; exact hbl) (u8s_one _) h5.new rfl fun w6 h6 => ?_
  refine L_nil ?_
  have h56 := h5.trans h6
  have s4 := b4.size
  have b46 : Below w3.heap.size w3 w6 := h56.below b4 s4
  have k5 : Blk w6 w4.heap.size (u8s bs).toArray 31 := h56.new
  have k46 := below_blk b46 k4 k4.lt
  have b6 : Below w.heap.size w w6 := b3.trans (b46.mono b3.size)
  clear h5 h6 h56 b46 b4 k4 hG3
  generalize w4.heap.size = B5 at *
  have hT := text_ret bs hbl hby w6
  repeat (first | refine T_seq ?_ | refine T_block ?_ | refine T_inBlock ?_ | refine T_skip ?_)
  refine T_region ?_
  refine L_val _ _ (X_loadAgg (u8s bs) A31 S31 (by rw [u8s_len]; exact hbl) rfl (gblk0 k5)) rfl ?_
  refine L_callF [.agg (u8s bs).toArray] E7 rfl rfl hT ?_
  rintro v w7 ⟨rfl, b7⟩
  refine L_callF [.string (strOfNums (textOf bs))] E6 rfl rfl (parse_ret (textOf bs) (textOf_byt hby) w7) ?_
  rintro v w8 ⟨bs2, er, rfl, hbl2, b8, hcase⟩
  refine L_val _ _ (X_move) rfl ?_
  refine L_val _ _ (X_extract rfl rfl) rfl ?_
  refine L_val _ _ (X_extract rfl rfl) rfl ?_
  refine L_alloc Z31 rfl fun w9 h9 => ?_
  refine L_storeAll (u8s bs2) S31 rfl rfl (by rw [u8s_len]; exact hbl2) (u8s_one _) h9.new rfl fun w10 h10 => ?_
  refine L_val _ _ (X_assign) rfl ?_
  refine L_nil ?_
  obtain ⟨rfl, hb2, he2⟩ : er = .nilIface ∧ Byt bs2 ∧ textOf bs = textOf bs2 := by
    rcases hcase with h | ⟨_, h⟩
    · exact h
    · exact absurd rfl (h bs hbl hby)
  obtain rfl : bs = bs2 := textOf_inj bs bs2 hby hb2 (by omega) he2
  have h910 := h9.trans h10
  have s7 := b7.size
  have s8 := b8.size
  have b610 : Below w6.heap.size w6 w10 := h910.below (b7.trans (b8.mono s7)) (by omega)
  have k6 : Blk w10 w8.heap.size (u8s bs).toArray 31 := h910.new
  have k510 := below_blk b610 k5 k5.lt
  have k410 := below_blk b610 k46 k46.lt
  have b10 : Below w.heap.size w w10 := b6.trans (b610.mono b6.size)
  clear h9 h10 h910 b610 b7 b8 hcase k5 k46
  repeat (first | refine T_seq ?_ | refine T_block ?_ | refine T_inBlock ?_ | refine T_skip ?_)
  refine T_region ?_
  refine L_val _ _ (X_move) rfl ?_
  refine L_val _ _ (X_neq (b := false) (by kernel_rfl)) rfl ?_
  refine L_val _ _ (X_move) rfl ?_
  refine L_guard rfl rfl rfl ?_
  refine L_val _ _ (X_loadAgg (u8s bs) A31 S31 (by rw [u8s_len]; exact hbl) rfl (gblk0 k6)) rfl ?_
  refine L_guard rfl rfl rfl ?_
  refine L_val _ _ (X_loadAgg (u8s bs) A31 S31 (by rw [u8s_len]; exact hbl) rfl (gblk0 k510)) rfl ?_
  refine L_guard rfl rfl rfl ?_
  refine L_val _ _ (X_neq31 bs hbl rfl rfl) rfl ?_
  refine L_val _ _ (X_pick rfl) rfl ?_
  refine L_nil ?_
  refine T_false rfl ?_
  have s10 := b10.size
  repeat (first | refine T_seq ?_ | refine T_block ?_ | refine T_inBlock ?_ | refine T_skip ?_)
  refine T_region ?_
  refine L_val _ _ (X_field F29_1 rfl) rfl ?_
  refine L_val _ _ (X_load A25 rfl (gblk k410 1 rfl)) rfl ?_
  refine L_val _ _ (X_toStr0 X.da X.dc X.data Tryd.underlying25 Tryd.underlying5 Tryd.underlying9 rfl (hA.below b10) hN) rfl ?_
  refine L_callF [.string (strOfNums X.data)] E6 rfl rfl (parse_ret X.data hB w10) ?_
  rintro v w11 ⟨g, er, rfl, hgl, b11, hcase⟩
  refine L_val _ _ (X_move) rfl ?_
  refine L_val _ _ (X_extract rfl rfl) rfl ?_
  refine L_val _ _ (X_extract rfl rfl) rfl ?_
  refine L_alloc Z31 rfl fun w12 h12 => ?_
  refine L_storeAll (u8s g) S31 rfl rfl (by rw [u8s_len]; exact hgl) (u8s_one _) h12.new rfl fun w13 h13 => ?_
  refine L_val _ _ (X_assign) rfl ?_
  refine L_nil ?_
  have h1213 := h12.trans h13
  have s11 := b11.size
  have b1013 : Below w10.heap.size w10 w13 := h1213.below b11 s11
  have k8 : Blk w13 w11.heap.size (u8s g).toArray 31 := h1213.new
  have k413 := below_blk b1013 k410 k410.lt
  have b13 : Below w.heap.size w w13 := b10.trans (b1013.mono s10)
  have s13 := b13.size
  clear h12 h13 h1213 b1013 b11 k410 k510 k6
  have hin : Below w13.heap.size w13 w13.drew := (sm_drew w13).below (Below.refl _ _)
  repeat (first | refine T_seq ?_ | refine T_block ?_ | refine T_inBlock ?_ | refine T_skip ?_)
  rcases hcase with ⟨rfl, hgb, hge⟩ | ⟨hers, _⟩
  · refine T_quiet (fun z => Below w13.heap.size w13 z) rfl (by kernel_rfl) (hin) ?_
    refine LQ_val _ (fun w hw => X_move) rfl ?_
    refine LQ_val _ (fun w hw => X_eq (b := true) (by kernel_rfl)) rfl ?_
    refine LQ_val _ (fun w hw => X_move) rfl ?_
    refine LQ_guard rfl rfl rfl ?_
    refine LQ_val _ (fun w hw => X_loadAgg (u8s g) A31 S31 (by rw [u8s_len]; exact hgl) rfl (gblk0 (below_blk hw k8 k8.lt))) rfl ?_
    refine LQ_guard rfl rfl rfl ?_
    refine LQ_callF [.agg (u8s g).toArray] (.string (strOfNums X.data)) E7 rfl rfl (fun w hw => (text_ret g hgl hgb w).mono fun u w' hu => ⟨hu.1.trans (by rw [hge]), hw.trans (hu.2.mono hw.size)⟩) ?_
    refine LQ_guard rfl rfl rfl ?_
    refine LQ_val _ (fun w hw => X_field F29_1 rfl) rfl ?_
    refine LQ_guard rfl rfl rfl ?_
    refine LQ_val _ (fun w hw => X_load A25 rfl (gblk (below_blk hw k413 k413.lt) 1 rfl)) rfl ?_
    refine LQ_guard rfl rfl rfl ?_
    refine LQ_val _ (fun w hw => X_toStr0 X.da X.dc X.data Tryd.underlying25 Tryd.underlying5 Tryd.underlying9 rfl (hA.below (b13.trans (hw.mono s13))) hN) rfl ?_
    refine LQ_guard rfl rfl rfl ?_
    refine LQ_val _ (fun w hw => X_neqS (strOfNums X.data) rfl rfl) rfl ?_
    refine LQ_val _ (fun w hw => X_pick rfl) rfl ?_
    refine LQ_nil fun w14 b14 => ?_
    refine T_false rfl ?_
    repeat (first | refine T_seq ?_ | refine T_block ?_ | refine T_inBlock ?_ | refine T_skip ?_)
    have k414 := below_blk b14 k413 k413.lt
    have b14w : Below w.heap.size w w14 := b13.trans (b14.mono s13)
    have hA14 := hA.below b14w
    refine T_region ?_
    refine L_val _ _ (X_field F29_1 rfl) rfl ?_
    refine L_val _ _ (X_load A25 rfl (gblk k414 1 rfl)) rfl ?_
    refine L_callF [.slice X.da X.data.length X.dc] E8 rfl rfl (from_ret X.da X.dc X.data w14 hA14.src hN hA14.blk) ?_
    rintro v w15 ⟨f, er2, rfl, hfl, b15, hcase2⟩
    refine L_val _ _ (X_move) rfl ?_
    refine L_val _ _ (X_extract rfl rfl) rfl ?_
    refine L_val _ _ (X_extract rfl rfl) rfl ?_
    refine L_alloc Z31 rfl fun w16 h16 => ?_
    refine L_storeAll (u8s f) S31 rfl rfl (by rw [u8s_len]; exact hfl) (u8s_one _) h16.new rfl fun w17 h17 => ?_
    refine L_val _ _ (X_assign) rfl ?_
    refine L_nil ?_
    have h1617 := h16.trans h17
    have s15 := b15.size
    have b1417 : Below w14.heap.size w14 w17 := h1617.below b15 s15
    have k10 : Blk w17 w15.heap.size (u8s f).toArray 31 := h1617.new
    have k417 := below_blk b1417 k414 k414.lt
    have b17 : Below w.heap.size w w17 := b14w.trans (b1417.mono b14w.size)
    have s17 := b17.size
    have hin2 : Below w17.heap.size w17 w17.drew := (sm_drew w17).below (Below.refl _ _)
    repeat (first | refine T_seq ?_ | refine T_block ?_ | refine T_inBlock ?_ | refine T_skip ?_)
    rcases hcase2 with ⟨rfl, rfl⟩ | rfl
    · have hcf : ∀ z, Below w17.heap.size w17 z → ∀ a, some (⟨w15.heap.size, 0, none⟩ : Addr) = some a → ∃ b o, a = ⟨b, o, none⟩ ∧ ∀ j, j < 32 → z.cell? ⟨b, o + j, none⟩ = some (.int .u8 (X.data.getD j 0)) := by
        intro z hz a ha
        obtain rfl := Option.some.inj ha
        refine ⟨_, _, rfl, fun j hj => ?_⟩
        rw [Nat.zero_add]
        exact gblk (below_blk hz k10 k10.lt) j (by simp [u8s, List.getElem?_eq_getElem (show j < X.data.length by omega), List.getD_eq_getElem?_getD])
      refine T_quiet (fun z => Below w17.heap.size w17 z) rfl (by kernel_rfl) (hin2) ?_
      refine LQ_val _ (fun w hw => X_move) rfl ?_
      refine LQ_val _ (fun w hw => X_eq (b := true) (by kernel_rfl)) rfl ?_
      refine LQ_val _ (fun w hw => X_move) rfl ?_
      refine LQ_guard rfl rfl rfl ?_
      refine LQ_val _ (fun w hw => X_sliceA U31 S5 rfl (by decide)) rfl ?_
      refine LQ_guard rfl rfl rfl ?_
      refine LQ_val _ (fun w hw => X_toStr (some ⟨w15.heap.size, 0, none⟩) 32 32 X.data Tryd.underlying25 Tryd.underlying5 Tryd.underlying9 rfl hfl (hcf _ hw) (fun h => by cases h)) rfl ?_
      refine LQ_guard rfl rfl rfl ?_
      refine LQ_val _ (fun w hw => X_field F29_1 rfl) rfl ?_
      refine LQ_guard rfl rfl rfl ?_
      refine LQ_val _ (fun w hw => X_load A25 rfl (gblk (below_blk hw k417 k417.lt) 1 rfl)) rfl ?_
      refine LQ_guard rfl rfl rfl ?_
      refine LQ_val _ (fun w hw => X_toStr0 X.da X.dc X.data Tryd.underlying25 Tryd.underlying5 Tryd.underlying9 rfl (hA.below (b17.trans (hw.mono s17))) hN) rfl ?_
      refine LQ_guard rfl rfl rfl ?_
      refine LQ_val _ (fun w hw => X_neqS (strOfNums X.data) rfl rfl) rfl ?_
      refine LQ_val _ (fun w hw => X_pick rfl) rfl ?_
      refine LQ_nil fun w18 b18 => ?_
      refine T_false rfl ?_
      repeat (first | refine T_seq ?_ | refine T_block ?_ | refine T_inBlock ?_ | refine T_skip ?_)
      refine T_region ?_
      refine L_val _ _ (X_add rfl rfl (by omega) (by omega)) rfl ?_
      refine L_val _ _ (X_move) rfl ?_
      refine L_nil ?_
      exact ih _ _ _ (by omega) ⟨i + 1, rfl, by omega, rfl, b17.trans (b18.mono s17)⟩
    · refine T_quiet (fun z => Below w17.heap.size w17 z) rfl (by kernel_rfl) (hin2) ?_
      refine LQ_val _ (fun w hw => X_move) rfl ?_
      refine LQ_val _ (fun w hw => X_eq (b := false) (by kernel_rfl)) rfl ?_
      refine LQ_val _ (fun w hw => X_move) rfl ?_
      refine LQ_passB rfl rfl rfl ?_
      refine LQ_passB rfl rfl rfl ?_
      refine LQ_passB rfl rfl rfl ?_
      refine LQ_passB rfl rfl rfl ?_
      refine LQ_passB rfl rfl rfl ?_
      refine LQ_passB rfl rfl rfl ?_
      refine LQ_val _ (fun w hw => X_pick rfl) rfl ?_
      refine LQ_nil fun w18 b18 => ?_
      refine T_false rfl ?_
      repeat (first | refine T_seq ?_ | refine T_block ?_ | refine T_inBlock ?_ | refine T_skip ?_)
      refine T_region ?_
      refine L_val _ _ (X_add rfl rfl (by omega) (by omega)) rfl ?_
      refine L_val _ _ (X_move) rfl ?_
      refine L_nil ?_
      exact ih _ _ _ (by omega) ⟨i + 1, rfl, by omega, rfl, b17.trans (b18.mono s17)⟩
  · have hers' : ∃ k, er = .iface 47 (.int .u8 k) := by rcases hers with h | h <;> exact ⟨_, h⟩
    obtain ⟨kk, rfl⟩ := hers'
    refine T_quiet (fun z => Below w13.heap.size w13 z) rfl (by kernel_rfl) (hin) ?_
    refine LQ_val _ (fun w hw => X_move) rfl ?_
    refine LQ_val _ (fun w hw => X_eq (b := false) (by kernel_rfl)) rfl ?_
    refine LQ_val _ (fun w hw => X_move) rfl ?_
    refine LQ_passB rfl rfl rfl ?_
    refine LQ_passB rfl rfl rfl ?_
    refine LQ_passB rfl rfl rfl ?_
    refine LQ_passB rfl rfl rfl ?_
    refine LQ_passB rfl rfl rfl ?_
    refine LQ_passB rfl rfl rfl ?_
    refine LQ_val _ (fun w hw => X_pick rfl) rfl ?_
    refine LQ_nil fun w14 b14 => ?_
    refine T_false rfl ?_
    repeat (first | refine T_seq ?_ | refine T_block ?_ | refine T_inBlock ?_ | refine T_skip ?_)
    have k414 := below_blk b14 k413 k413.lt
    have b14w : Below w.heap.size w w14 := b13.trans (b14.mono s13)
    have hA14 := hA.below b14w
    refine T_region ?_
    refine L_val _ _ (X_field F29_1 rfl) rfl ?_
    refine L_val _ _ (X_load A25 rfl (gblk k414 1 rfl)) rfl ?_
    refine L_callF [.slice X.da X.data.length X.dc] E8 rfl rfl (from_ret X.da X.dc X.data w14 hA14.src hN hA14.blk) ?_
    rintro v w15 ⟨f, er2, rfl, hfl, b15, hcase2⟩
    refine L_val _ _ (X_move) rfl ?_
    refine L_val _ _ (X_extract rfl rfl) rfl ?_
    refine L_val _ _ (X_extract rfl rfl) rfl ?_
    refine L_alloc Z31 rfl fun w16 h16 => ?_
    refine L_storeAll (u8s f) S31 rfl rfl (by rw [u8s_len]; exact hfl) (u8s_one _) h16.new rfl fun w17 h17 => ?_
    refine L_val _ _ (X_assign) rfl ?_
    refine L_nil ?_
    have h1617 := h16.trans h17
    have s15 := b15.size
    have b1417 : Below w14.heap.size w14 w17 := h1617.below b15 s15
    have k10 : Blk w17 w15.heap.size (u8s f).toArray 31 := h1617.new
    have k417 := below_blk b1417 k414 k414.lt
    have b17 : Below w.heap.size w w17 := b14w.trans (b1417.mono b14w.size)
    have s17 := b17.size
    have hin2 : Below w17.heap.size w17 w17.drew := (sm_drew w17).below (Below.refl _ _)
    repeat (first | refine T_seq ?_ | refine T_block ?_ | refine T_inBlock ?_ | refine T_skip ?_)
    rcases hcase2 with ⟨rfl, rfl⟩ | rfl
    · have hcf : ∀ z, Below w17.heap.size w17 z → ∀ a, some (⟨w15.heap.size, 0, none⟩ : Addr) = some a → ∃ b o, a = ⟨b, o, none⟩ ∧ ∀ j, j < 32 → z.cell? ⟨b, o + j, none⟩ = some (.int .u8 (X.data.getD j 0)) := by
        intro z hz a ha
        obtain rfl := Option.some.inj ha
        refine ⟨_, _, rfl, fun j hj => ?_⟩
        rw [Nat.zero_add]
        exact gblk (below_blk hz k10 k10.lt) j (by simp [u8s, List.getElem?_eq_getElem (show j < X.data.length by omega), List.getD_eq_getElem?_getD])
      refine T_quiet (fun z => Below w17.heap.size w17 z) rfl (by kernel_rfl) (hin2) ?_
      refine LQ_val _ (fun w hw => X_move) rfl ?_
      refine LQ_val _ (fun w hw => X_eq (b := true) (by kernel_rfl)) rfl ?_
      refine LQ_val _ (fun w hw => X_move) rfl ?_
      refine LQ_guard rfl rfl rfl ?_
      refine LQ_val _ (fun w hw => X_sliceA U31 S5 rfl (by decide)) rfl ?_
      refine LQ_guard rfl rfl rfl ?_
      refine LQ_val _ (fun w hw => X_toStr (some ⟨w15.heap.size, 0, none⟩) 32 32 X.data Tryd.underlying25 Tryd.underlying5 Tryd.underlying9 rfl hfl (hcf _ hw) (fun h => by cases h)) rfl ?_
      refine LQ_guard rfl rfl rfl ?_
      refine LQ_val _ (fun w hw => X_field F29_1 rfl) rfl ?_
      refine LQ_guard rfl rfl rfl ?_
      refine LQ_val _ (fun w hw => X_load A25 rfl (gblk (below_blk hw k417 k417.lt) 1 rfl)) rfl ?_
      refine LQ_guard rfl rfl rfl ?_
      refine LQ_val _ (fun w hw => X_toStr0 X.da X.dc X.data Tryd.underlying25 Tryd.underlying5 Tryd.underlying9 rfl (hA.below (b17.trans (hw.mono s17))) hN) rfl ?_
      refine LQ_guard rfl rfl rfl ?_
      refine LQ_val _ (fun w hw => X_neqS (strOfNums X.data) rfl rfl) rfl ?_
      refine LQ_val _ (fun w hw => X_pick rfl) rfl ?_
      refine LQ_nil fun w18 b18 => ?_
      refine T_false rfl ?_
      repeat (first | refine T_seq ?_ | refine T_block ?_ | refine T_inBlock ?_ | refine T_skip ?_)
      refine T_region ?_
      refine L_val _ _ (X_add rfl rfl (by omega) (by omega)) rfl ?_
      refine L_val _ _ (X_move) rfl ?_
      refine L_nil ?_
      exact ih _ _ _ (by omega) ⟨i + 1, rfl, by omega, rfl, b17.trans (b18.mono s17)⟩
    · refine T_quiet (fun z => Below w17.heap.size w17 z) rfl (by kernel_rfl) (hin2) ?_
      refine LQ_val _ (fun w hw => X_move) rfl ?_
      refine LQ_val _ (fun w hw => X_eq (b := false) (by kernel_rfl)) rfl ?_
      refine LQ_val _ (fun w hw => X_move) rfl ?_
      refine LQ_passB rfl rfl rfl ?_
      refine LQ_passB rfl rfl rfl ?_
      refine LQ_passB rfl rfl rfl ?_
      refine LQ_passB rfl rfl rfl ?_
      refine LQ_passB rfl rfl rfl ?_
      refine LQ_passB rfl rfl rfl ?_
      refine LQ_val _ (fun w hw => X_pick rfl) rfl ?_
      refine LQ_nil fun w18 b18 => ?_
      refine T_false rfl ?_
      repeat (first | refine T_seq ?_ | refine T_block ?_ | refine T_inBlock ?_ | refine T_skip ?_)
      refine T_region ?_
      refine L_val _ _ (X_add rfl rfl (by omega) (by omega)) rfl ?_
      refine L_val _ _ (X_move) rfl ?_
      refine L_nil ?_
      exact ih _ _ _ (by omega) ⟨i + 1, rfl, by omega, rfl, b17.trans (b18.mono s17)⟩
end Go.Proofs.Qxb6500866aDoor
