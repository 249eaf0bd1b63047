import Derived.Test.Qxb6500865aW7
namespace Go.Proofs.Qxb6500865a
set_option linter.unusedSimpArgs false
set_option linter.unusedVariables false
open Go.RowKit

/-- A name that some leg bears. -/
def borne (ids : List Int) (x : Int) : Bool := (findAt ids x).isSome
/-- What wellNamed makes of a leg. -/
def wnData (ids : List Int) (g : Leg) : Int × Int × Tx × List Int := (g.id, g.chain, g.tx, g.needs.filter (borne ids))

theorem take_filter_yes {l : List Int} {p : Int → Bool} {j : Nat} (hj : j < l.length) (h : p l[j] = true) : (l.take (j + 1)).filter p = (l.take j).filter p ++ [l[j]] := by
  rw [List.take_succ_eq_append_getElem hj, List.filter_append]
  simp [h]
theorem take_filter_no {l : List Int} {p : Int → Bool} {j : Nat} (hj : j < l.length) (h : p l[j] = false) : (l.take (j + 1)).filter p = (l.take j).filter p := by
  rw [List.take_succ_eq_append_getElem hj, List.filter_append]
  simp [h]

set_option maxHeartbeats 4000000 in
set_option maxRecDepth 10000 in
/-- bundlelaw.wellNamed -/
theorem well_ret (a : Option Addr) (c : Nat) (gs : List Leg) (w : World) (hl : Legs w a gs) (hn : gs.length ≤ 65536) (hsm : ∀ g ∈ gs, g.needs.length ≤ 65536) :
    Ret Try.prog 9 #[.agg #[.slice a gs.length c]] w fun v w' => ∃ a' c' gs', v = .agg #[.slice a' gs.length c'] ∧ gs'.map Leg.data = gs.map (wnData (gs.map (·.id))) ∧ LegsOwn w' w.heap.size a' c' gs' ∧ Below w.heap.size w w' := by
  refine ret_of_T (vs := [.agg #[.slice a gs.length c]]) Try.func9 Try.ntmps9 rfl (Nat.le_of_ble_eq_true rfl) ?_
  generalize hids : gs.map (·.id) = ids
  repeat (first | refine T_seq ?_ | refine T_block ?_ | refine T_inBlock ?_ | refine T_skip ?_)
  refine T_region ?_
  refine L_box rfl fun w1 h1 => ?_
  refine L_alloc Z28 rfl fun w2 h2 => ?_
  refine L_nil ?_
  repeat (first | refine T_seq ?_ | refine T_block ?_ | refine T_inBlock ?_ | refine T_skip ?_)
  refine T_region ?_
  refine L_val _ _ (X_build (.agg #[.slice none 0 0]) (by kernel_rfl)) rfl ?_
  refine L_alloc Z28 rfl fun w3 h3 => ?_
  refine L_storeAll [.slice none 0 0] S28 rfl rfl rfl (by simp [Value.oneCell']) h3.new rfl fun w4 h4 => ?_
  refine L_nil ?_
  have h34 := h3.trans h4
  have z1 := h1.lt
  have z2 := h2.lt
  have z4 := h34.lt
  have s1 := h1.size
  have s2 := h2.size
  have s4 := h34.size
  have bw : Below w.heap.size w w4 := h34.below (h2.below (h1.below (Below.refl _ _) (Nat.le_refl _)) s1) (by omega)
  have k1 : Blk w4 w.heap.size #[.slice a gs.length c] 28 := h34.blk (h2.blk h1.new (by omega)) (by omega)
  have k2 : Blk w4 w1.heap.size #[.slice none 0 0] 28 := h34.blk h2.new (by omega)
  have k3 : Blk w4 w2.heap.size #[.slice none 0 0] 28 := h34.new
  clear h1 h2 h3 h4 h34
  generalize w1.heap.size = B1 at *
  generalize w2.heap.size = B2 at *
  repeat (first | refine T_seq ?_ | refine T_block ?_ | refine T_inBlock ?_ | refine T_skip ?_)
  refine T_region ?_
  refine L_val _ _ (X_field F28_0 rfl) rfl ?_
  refine L_val _ _ (X_load A26 rfl (k1.cell 0)) rfl ?_
  refine L_val _ _ (X_lenS U26 rfl) rfl ?_
  refine L_val _ _ (X_move) rfl ?_
  refine L_nil ?_
  repeat (first | refine T_seq ?_ | refine T_block ?_ | refine T_inBlock ?_ | refine T_skip ?_)
  refine T_loopS [15, 14, 13, 1, 3, 2] (fun m vs y => ∃ k : Nat, vs = [.int .i64 k, .int .i64 gs.length, .slice a gs.length c, .pointer (some ⟨w.heap.size, 0, none⟩), .pointer (some ⟨B2, 0, none⟩), .pointer (some ⟨B1, 0, none⟩)] ∧ k ≤ gs.length ∧ m = gs.length - k ∧ Below w.heap.size w y ∧
    Blk y w.heap.size #[.slice a gs.length c] 28 ∧ Blk y B1 #[.slice none 0 0] 28 ∧ ∃ ka kc ks, Blk y B2 #[.slice ka k kc] 28 ∧ ks.length = k ∧ LegsOwn y w.heap.size ka kc ks ∧ ks.map Leg.data = (gs.take k).map (wnData ids)) gs.length
    ⟨0, rfl, by omega, rfl, bw, k1, k2, none, 0, [], k3, rfl, ⟨World.ownsRow_nil _ _ _ _, by simp⟩, rfl⟩ ?_
  clear k1 k2 k3 bw
  rintro m vs ρ y ⟨k, rfl, hk, rfl, by_, k1, k2, ka, kc, ks, k3, hkl, hko, hkd⟩ ih
  subst hkl
  have y1 := k1.lt
  have y2 := k2.lt
  have y3 := k3.lt
  have sy := by_.size
  have hly := hl.keep (keeps_below by_)
  repeat (first | refine T_seq ?_ | refine T_block ?_ | refine T_inBlock ?_ | refine T_skip ?_)
  refine T_region ?_
  refine L_val _ _ (X_cmp rfl rfl rfl) rfl ?_
  refine L_nil ?_
  repeat (first | refine T_seq ?_ | refine T_block ?_ | refine T_inBlock ?_ | refine T_skip ?_)
  refine T_if rfl (fun ht => ?_) (fun hf => ?_)
  case refine_2 =>
    have hge : ¬ ks.length < gs.length := by simpa [cmpB] using hf
    have hkl : ks.length = gs.length := by omega
    rw [hkl, List.take_of_length_le (Nat.le_refl _)] at hkd
    rw [hkl] at k3
    refine T_exit rfl ?_
    repeat (first | refine T_seq ?_ | refine T_block ?_ | refine T_inBlock ?_ | refine T_skip ?_)
    refine T_region ?_
    refine L_val _ _ (X_loadAgg [.slice ka gs.length kc] A28 S28 rfl rfl (agg1 k3)) rfl ?_
    refine L_storeAll [.slice ka gs.length kc] S28 rfl rfl rfl (by simp [Value.oneCell']) k2 rfl fun w5 h5 => ?_
    refine L_nil ?_
    refine T_retC [.slice ka gs.length kc] Try.func9 rfl A28 S28 rfl rfl (agg1 h5.new) ⟨ka, kc, ks, rfl, hkd, ⟨?_, ?_⟩, h5.below by_ (by omega)⟩
    · exact owns_chg h5 (.inl k2) (by decide) hko.own
    · exact fun u hu => owns_chg h5 (.inl k2) (by decide) (hko.needs u hu)
  have hlt : ks.length < gs.length := by simpa [cmpB] using ht
  obtain ⟨p, q, rfl, hp, hc⟩ := hly.at (i := ks.length) (g := gs[ks.length]) (by simp)
  have hna := hly.ok gs[ks.length] (by simp)
  have hnl := hsm gs[ks.length] (by simp)
  have hdat : (gs.take (ks.length + 1)).map (wnData ids) = (gs.take ks.length).map (wnData ids) ++ [wnData ids gs[ks.length]] := by
    rw [List.take_succ_eq_append_getElem hlt, List.map_append]; rfl
  generalize gs[ks.length] = g at *
  repeat (first | refine T_seq ?_ | refine T_block ?_ | refine T_inBlock ?_ | refine T_skip ?_)
  refine T_region ?_
  refine L_val _ _ (X_index U26 S62 rfl rfl hlt) rfl ?_
  refine L_val _ _ (X_loadAgg g.cells A62 S62 (Leg.cells_length _) rfl hc) rfl ?_
  refine L_alloc Z62 rfl fun w5 h5 => ?_
  refine L_storeAll g.cells S62 rfl rfl (Leg.cells_length _) (Leg.cells_one _) h5.new rfl fun w6 h6 => ?_
  refine L_nil ?_
  have h56 := h5.trans h6
  have j5 := h56.new
  repeat (first | refine T_seq ?_ | refine T_block ?_ | refine T_inBlock ?_ | refine T_skip ?_)
  refine T_region ?_
  refine L_val _ _ (X_field F62_0 rfl) rfl ?_
  refine L_val _ _ (X_load A59 rfl (leg_blk j5 0 rfl)) rfl ?_
  refine L_val _ _ (X_field F62_1 rfl) rfl ?_
  refine L_val _ _ (X_load A25 rfl (leg_blk j5 (0 + 1) rfl)) rfl ?_
  refine L_val _ _ (X_field F62_2 rfl) rfl ?_
  refine L_val _ _ (X_loadAgg g.tx.cells A39 S39 (Tx.cells_length _) rfl (fun j v hv => leg_blk j5 (0 + 2 + j) (leg_tx _ hv))) rfl ?_
  refine L_val _ _ (X_build (.agg (⟨g.id, g.chain, g.tx, [], none, 0⟩ : Leg).cells.toArray) (by kernel_rfl)) rfl ?_
  refine L_alloc Z62 rfl fun w7 h7 => ?_
  refine L_storeAll (⟨g.id, g.chain, g.tx, [], none, 0⟩ : Leg).cells S62 rfl rfl (Leg.cells_length _) (Leg.cells_one _) h7.new rfl fun w8 h8 => ?_
  refine L_nil ?_
  have h78 := h7.trans h8
  have z6 := h56.lt
  have z8 := h78.lt
  have s6 := h56.size
  have s8 := h78.size
  have b8 : Below y.heap.size y w8 := h78.below (h56.below (Below.refl _ _) (Nat.le_refl _)) s6
  have j58 : Blk w8 y.heap.size g.cells.toArray 62 := h78.blk j5 (by omega)
  have j6 : Blk w8 w6.heap.size (⟨g.id, g.chain, g.tx, [], none, 0⟩ : Leg).cells.toArray 62 := h78.new
  have hB6 : y.heap.size ≤ w6.heap.size := s6
  clear h5 h6 h56 h7 h8 h78 j5
  generalize w6.heap.size = B6 at *
  repeat (first | refine T_seq ?_ | refine T_block ?_ | refine T_inBlock ?_ | refine T_skip ?_)
  refine T_region ?_
  refine L_val _ _ (X_field F62_3 rfl) rfl ?_
  refine L_val _ _ (X_load A60 rfl (leg_blk j58 (0 + 21) rfl)) rfl ?_
  refine L_val _ _ (X_lenS U60 rfl) rfl ?_
  refine L_val _ _ (X_move) rfl ?_
  refine L_nil ?_
  repeat (first | refine T_seq ?_ | refine T_block ?_ | refine T_inBlock ?_ | refine T_skip ?_)
  -- the needs
  refine T_loopS [29, 28, 27, 6, 15, 14, 13, 1, 3, 2] (fun m vs z => ∃ j : Nat, vs = [.int .i64 j, .int .i64 g.needs.length, .slice g.na g.needs.length g.nc, .pointer (some ⟨B6, 0, none⟩), .int .i64 ks.length, .int .i64 gs.length, .slice (some ⟨p, q, none⟩) gs.length c, .pointer (some ⟨w.heap.size, 0, none⟩), .pointer (some ⟨B2, 0, none⟩), .pointer (some ⟨B1, 0, none⟩)] ∧ j ≤ g.needs.length ∧ m = g.needs.length - j ∧ Below y.heap.size y z ∧
    ∃ na nc, Blk z B6 (⟨g.id, g.chain, g.tx, (g.needs.take j).filter (borne ids), na, nc⟩ : Leg).cells.toArray 62 ∧ NeedsOwn z y.heap.size ⟨g.id, g.chain, g.tx, (g.needs.take j).filter (borne ids), na, nc⟩) g.needs.length
    ⟨0, rfl, by omega, rfl, b8, none, 0, j6, World.ownsRow_nil _ _ _ _⟩ ?_
  clear b8 j58 j6
  rintro m vs ρ2 z ⟨j, rfl, hj, rfl, bz, na, nc, j6, hno⟩ ih2
  have sz := bz.size
  have y6 := j6.lt
  repeat (first | refine T_seq ?_ | refine T_block ?_ | refine T_inBlock ?_ | refine T_skip ?_)
  refine T_region ?_
  refine L_val _ _ (X_cmp rfl rfl rfl) rfl ?_
  refine L_nil ?_
  repeat (first | refine T_seq ?_ | refine T_block ?_ | refine T_inBlock ?_ | refine T_skip ?_)
  refine T_if rfl (fun ht2 => ?_) (fun hf2 => ?_)
  case refine_2 =>
    have hge : ¬ j < g.needs.length := by simpa [cmpB] using hf2
    obtain rfl : j = g.needs.length := by omega
    rw [List.take_of_length_le (Nat.le_refl _)] at j6 hno
    have kz3 := below_blk bz k3 y3
    have hoz := LegsOwn.below bz hko
    refine T_exit rfl ?_
    generalize hG : (⟨g.id, g.chain, g.tx, g.needs.filter (borne ids), na, nc⟩ : Leg) = G at *
    have hGd : G.data = wnData ids g := by rw [← hG]; rfl
    refine T_region ?_
    refine L_val _ _ (X_field F28_0 rfl) rfl ?_
    refine L_val _ _ (X_load A26 rfl (kz3.cell 0)) rfl ?_
    refine L_val _ _ (X_loadAgg G.cells A62 S62 (Leg.cells_length _) rfl (fun j v hv => by rw [Nat.zero_add]; exact leg_blk j6 j hv)) rfl ?_
    refine L_buildSlice G.cells.toArray 62 (by kernel_rfl) rfl fun w9 h9 => ?_
    refine L_append1 w.heap.size (.slice ka ks.length kc) ks.length ((ks.map Leg.cells).flatten) z.heap.size G.cells Try.underlying26 I62 rfl (by decide) rfl (owns_new h9 hoz.own) rfl (Leg.cells_length _) h9.new (Leg.cells_one _) (by simp only [maxLen]; omega) (by omega) (by have := h9.size; omega) rfl fun v11 w11 o11 g11 => ?_
    obtain ⟨ka', kc', rfl, _, _⟩ := owns_val o11
    refine L_val _ _ (X_field F28_0 rfl) rfl ?_
    refine L_store (.slice ka' (ks.length + 1) kc') S26 rfl rfl rfl (grown_blk_ty (owns_new h9 hoz.own) g11 (h9.blk kz3 (by omega)) (by decide)) (by simp) fun w12 h12 => ?_
    refine L_nil ?_
    have o9 := owns_new h9 hoz.own
    have kk3 := grown_blk_ty o9 g11 (h9.blk kz3 (by omega)) (by decide)
    have kk1 := grown_blk_ty o9 g11 (h9.blk (below_blk bz k1 y1) (by omega)) (by decide)
    have kk2 := grown_blk_ty o9 g11 (h9.blk (below_blk bz k2 y2) (by omega)) (by decide)
    have t9 := h9.size
    have t11 := g11.size
    have bwz : Below w.heap.size w z := by_.trans (bz.mono sy)
    have bw12 : Below w.heap.size w w12 := h12.below (grown_below (h9.below bwz (by omega)) o9 g11 (by omega) (Nat.le_refl _)) (by omega)
    repeat (first | refine T_seq ?_ | refine T_block ?_ | refine T_inBlock ?_ | refine T_skip ?_)
    refine T_region ?_
    refine L_val _ _ (X_add rfl rfl (by omega) (by omega)) rfl ?_
    refine L_val _ _ (X_move) rfl ?_
    refine L_nil ?_
    refine ih _ _ _ (by omega) ⟨ks.length + 1, rfl, by omega, rfl, bw12, h12.blk kk1 (by omega), h12.blk kk2 (by omega), ka', kc', ks ++ [G], h12.new, by simp, ⟨?_, ?_⟩, ?_⟩
    · have e := owns_chg h12 (.inl kk3) (by decide) o11
      simpa using e
    · intro u hu
      simp only [List.mem_append, List.mem_singleton] at hu
      refine owns_chg h12 (.inl kk3) (by decide) (owns_grown o9 g11 (by decide) (owns_new h9 ?_))
      rcases hu with hu | rfl
      · exact hoz.needs u hu
      · exact owns_base sy hno
    · rw [hdat, List.map_append, hkd]
      simp [hGd]
  have hlt2 : j < g.needs.length := by simpa [cmpB] using ht2
  obtain ⟨p3, q3, hna3, hp3, hc3⟩ := (hna.keep (keeps_below bz)).cell j [.int .u8 g.needs[j]] (by simp [ints, hlt2])
  have e27 : (Value.slice g.na g.needs.length g.nc) = .slice (some ⟨p3, q3, none⟩) g.needs.length g.nc := by rw [hna3]
  have kz1 := below_blk bz k1 y1
  have hlz := hly.keep (keeps_below bz)
  generalize hxx : g.needs[j] = xx at *
  repeat (first | refine T_seq ?_ | refine T_block ?_ | refine T_inBlock ?_ | refine T_skip ?_)
  refine T_region ?_
  refine L_val _ _ (X_index U60 S59 e27 rfl hlt2) rfl ?_
  refine L_val _ _ (X_load A59 rfl (hc3 0 _ rfl)) rfl ?_
  refine L_val _ _ (X_assign) rfl ?_
  refine L_nil ?_
  repeat (first | refine T_seq ?_ | refine T_block ?_ | refine T_inBlock ?_ | refine T_skip ?_)
  refine T_region ?_
  refine L_val _ _ (X_field F28_0 rfl) rfl ?_
  refine L_val _ _ (X_load A26 rfl (kz1.cell 0)) rfl ?_
  refine L_val _ _ (X_lenS U26 rfl) rfl ?_
  refine L_val _ _ (X_move) rfl ?_
  refine L_nil ?_
  repeat (first | refine T_seq ?_ | refine T_block ?_ | refine T_inBlock ?_ | refine T_skip ?_)
  -- is the name borne?
  refine T_loopS [36, 35, 34, 8, 29, 28, 27, 6, 15, 14, 13, 1, 3, 2] (fun m vs u => ∃ t : Nat, vs = [.int .i64 t, .int .i64 gs.length, .slice (some ⟨p, q, none⟩) gs.length c, .int .u8 xx, .int .i64 j, .int .i64 g.needs.length, .slice g.na g.needs.length g.nc, .pointer (some ⟨B6, 0, none⟩), .int .i64 ks.length, .int .i64 gs.length, .slice (some ⟨p, q, none⟩) gs.length c, .pointer (some ⟨w.heap.size, 0, none⟩), .pointer (some ⟨B2, 0, none⟩), .pointer (some ⟨B1, 0, none⟩)] ∧ t ≤ gs.length ∧ m = gs.length - t ∧ Below z.heap.size z u ∧
    ∀ (i : Nat) v, i < t → ids[i]? = some v → v ≠ xx) gs.length
    ⟨0, rfl, by omega, rfl, Below.refl _ _, fun i v h => by omega⟩ ?_
  rintro m vs ρ3 u ⟨t, rfl, htl, rfl, bu, hno2⟩ ih3
  have su := bu.size
  have bzu : Below y.heap.size y u := bz.trans (bu.mono sz)
  have hnou : NeedsOwn u y.heap.size _ := owns_below bu hno
  have j6u := below_blk bu j6 y6
  repeat (first | refine T_seq ?_ | refine T_block ?_ | refine T_inBlock ?_ | refine T_skip ?_)
  refine T_region ?_
  refine L_val _ _ (X_cmp rfl rfl rfl) rfl ?_
  refine L_nil ?_
  repeat (first | refine T_seq ?_ | refine T_block ?_ | refine T_inBlock ?_ | refine T_skip ?_)
  refine T_if rfl (fun ht3 => ?_) (fun hf3 => ?_)
  · have hlt3 : t < gs.length := by simpa [cmpB] using ht3
    obtain ⟨p4, q4, hpq, hp4, hc4⟩ := (hlz.keep (keeps_below bu)).at (i := t) (g := gs[t]) (by simp)
    simp only [Option.some.injEq, Addr.mk.injEq, and_true] at hpq
    obtain ⟨rfl, rfl⟩ := hpq
    have hidt : ids[t]? = some gs[t].id := by rw [← hids]; simp [hlt3]
    generalize gs[t] = h at *
    repeat (first | refine T_seq ?_ | refine T_block ?_ | refine T_inBlock ?_ | refine T_skip ?_)
    refine T_region ?_
    refine L_val _ _ (X_index U26 S62 rfl rfl hlt3) rfl ?_
    refine L_val _ _ (X_loadAgg h.cells A62 S62 (Leg.cells_length _) rfl hc4) rfl ?_
    refine L_alloc Z62 rfl fun w9 h9 => ?_
    refine L_storeAll h.cells S62 rfl rfl (Leg.cells_length _) (Leg.cells_one _) h9.new rfl fun w10 h10 => ?_
    refine L_nil ?_
    have h910 := h9.trans h10
    have j10 : Blk w10 u.heap.size h.cells.toArray 62 := h910.new
    have s10 := h910.size
    have b10 : Below z.heap.size z w10 := h910.below bu su
    have b10y : Below y.heap.size y w10 := h910.below bzu (by omega)
    have hno10 : NeedsOwn w10 y.heap.size _ := owns_new h910 hnou
    have j610 := h910.blk j6u (by have := j6u.lt; omega)
    clear h9 h10
    repeat (first | refine T_seq ?_ | refine T_block ?_ | refine T_inBlock ?_ | refine T_skip ?_)
    refine T_region ?_
    refine L_val _ _ (X_field F62_0 rfl) rfl ?_
    refine L_val _ _ (X_load A59 rfl (leg_blk j10 0 rfl)) rfl ?_
    refine L_val _ _ (X_move) rfl ?_
    refine L_val _ _ (X_cmp rfl rfl rfl) rfl ?_
    refine L_nil ?_
    refine T_if rfl (fun ht4 => ?_) (fun hf4 => ?_)
    · have he : h.id = xx := by simpa [cmpB] using ht4
      have hb : borne ids xx = true := by
        unfold borne
        rw [findAt_some_of (i := t) (by rw [hidt, he]) hno2]
        rfl
      have hflt := take_filter_yes (l := g.needs) (p := borne ids) hlt2 (by rw [hxx]; exact hb)
      rw [hxx] at hflt
      unfold NeedsOwn at hno10
      simp only at hno10
      generalize hF : (g.needs.take j).filter (borne ids) = F at *
      have hFl : F.length ≤ 65536 := by
        rw [← hF]
        exact Nat.le_trans (List.length_filter_le _ _) (by rw [List.length_take]; omega)
      repeat (first | refine T_seq ?_ | refine T_block ?_ | refine T_inBlock ?_ | refine T_skip ?_)
      refine T_region ?_
      refine L_val _ _ (X_field F62_3 rfl) rfl ?_
      refine L_val _ _ (X_load A60 rfl (leg_blk j610 (0 + 21) rfl)) rfl ?_
      refine L_val _ _ (X_move) rfl ?_
      refine L_buildSlice #[.int .u8 xx] 59 (by kernel_rfl) rfl fun w11 h11 => ?_
      refine L_append1 y.heap.size (.slice na F.length nc) F.length (F.map (Value.int .u8)) w10.heap.size [.int .u8 xx] Try.underlying60 I59 rfl (by decide) rfl (owns_new h11 hno10) rfl rfl h11.new (by simp [Value.oneCell']) (by simp only [maxLen]; omega) (by omega) (by have := h11.size; omega) rfl fun v12 w12 o12 g12 => ?_
      obtain ⟨na', nc', rfl, _, _⟩ := owns_val o12
      refine L_val _ _ (X_field F62_3 rfl) rfl ?_
      refine L_store (.slice na' (F.length + 1) nc') S60 rfl rfl rfl (grown_blk_ty (owns_new h11 hno10) g12 (h11.blk j610 (by have := j610.lt; omega)) (by decide)) (by simp [Leg.cells_length]) fun w13 h13 => ?_
      refine L_nil ?_
      refine T_exit rfl ?_
      have o11 := owns_new h11 hno10
      have t11 := h11.size
      have t12 := g12.size
      have kk6 := grown_blk_ty o11 g12 (h11.blk j610 (by have := j610.lt; omega)) (by decide)
      have b13 : Below y.heap.size y w13 := h13.below (grown_below (h11.below b10y (by omega)) o11 g12 (by omega) (Nat.le_refl _)) hB6
      have k13 : Blk w13 B6 (⟨g.id, g.chain, g.tx, F ++ [xx], na', nc'⟩ : Leg).cells.toArray 62 := by
        have e := h13.new
        have e2 : (⟨g.id, g.chain, g.tx, F, na, nc⟩ : Leg).cells.toArray.setIfInBounds (0 + 21) (.slice na' (F.length + 1) nc') = (⟨g.id, g.chain, g.tx, F ++ [xx], na', nc'⟩ : Leg).cells.toArray := by
          simp [Leg.cells, Tx.cells, Msg.cells]
        rw [e2] at e
        exact e
      repeat (first | refine T_seq ?_ | refine T_block ?_ | refine T_inBlock ?_ | refine T_skip ?_)
      refine T_region ?_
      refine L_val _ _ (X_add rfl rfl (by omega) (by omega)) rfl ?_
      refine L_val _ _ (X_move) rfl ?_
      refine L_nil ?_
      refine ih2 _ _ _ (by omega) ⟨j + 1, rfl, by omega, rfl, b13, na', nc', ?_, ?_⟩
      · rw [hflt]; exact k13
      · rw [hflt]
        have e := owns_chg h13 (.inl kk6) (by decide) o12
        simpa [NeedsOwn] using e
    · have he : h.id ≠ xx := by simpa [cmpB] using hf4
      repeat (first | refine T_seq ?_ | refine T_block ?_ | refine T_inBlock ?_ | refine T_skip ?_)
      refine T_region ?_
      refine L_val _ _ (X_add rfl rfl (by omega) (by omega)) rfl ?_
      refine L_val _ _ (X_move) rfl ?_
      refine L_nil ?_
      refine ih3 _ _ _ (by omega) ⟨t + 1, rfl, by omega, rfl, b10, ?_⟩
      intro i v hi hv
      rcases Nat.lt_succ_iff_lt_or_eq.1 hi with h' | rfl
      · exact hno2 i v h' hv
      · rw [hidt] at hv
        simp at hv
        subst hv
        exact he
  · have hge : ¬ t < gs.length := by simpa [cmpB] using hf3
    have hb : borne ids xx = false := by
      unfold borne
      rw [findAt_none_of fun i v hv => hno2 i v (by
        have := (List.getElem?_eq_some_iff.1 hv).1
        rw [← hids] at this
        simp at this
        omega) hv]
      rfl
    have hflt := take_filter_no (l := g.needs) (p := borne ids) hlt2 (by rw [hxx]; exact hb)
    refine T_exit rfl ?_
    repeat (first | refine T_seq ?_ | refine T_block ?_ | refine T_inBlock ?_ | refine T_skip ?_)
    refine T_region ?_
    refine L_val _ _ (X_add rfl rfl (by omega) (by omega)) rfl ?_
    refine L_val _ _ (X_move) rfl ?_
    refine L_nil ?_
    refine ih2 _ _ _ (by omega) ⟨j + 1, rfl, by omega, rfl, bzu, na, nc, ?_, ?_⟩
    · rw [hflt]; exact j6u
    · rw [hflt]; exact hnou
end Go.Proofs.Qxb6500865a
