import Derived.Test.Qxb6500865aCyc
namespace Go.Proofs.Qxb6500865a
set_option linter.unusedSimpArgs false
set_option linter.unusedVariables false
open Go.RowKit

theorem masks_lt {gs : List Leg} (h : gs.length ≤ 8) : ∀ m ∈ pad8 (masksOf gs), m < 256 := by
  intro m hm
  unfold pad8 at hm
  simp only [List.mem_append, List.mem_replicate] at hm
  rcases hm with hm | ⟨_, rfl⟩
  · unfold masksOf at hm
    obtain ⟨g, _, rfl⟩ := List.mem_map.1 hm
    exact maskOf_lt (by simpa using h)
  · decide
theorem masks_inside (gs : List Leg) : Inside gs.length (pad8 (masksOf gs)) := by
  intro i k hk
  rw [List.getD_eq_getElem?_getD] at hk
  cases hi : (pad8 (masksOf gs))[i]? with
  | none => rw [hi] at hk; simp at hk
  | some m =>
    rw [hi] at hk
    have hm := List.mem_of_getElem? hi
    unfold pad8 at hm
    simp only [List.mem_append, List.mem_replicate] at hm
    rcases hm with hm | ⟨_, rfl⟩
    · unfold masksOf at hm
      obtain ⟨g, _, rfl⟩ := List.mem_map.1 hm
      have := maskOf_bits hk
      simpa using this
    · simp at hk
theorem masks_len {gs : List Leg} (h : gs.length ≤ 8) : (pad8 (masksOf gs)).length = 8 := pad8_length (by simpa [masksOf] using h)

theorem wn_needs {gs' gs : List Leg} {ids : List Int} (hd : gs'.map Leg.data = gs.map (wnData ids)) (h : ∀ g ∈ gs, g.needs.length ≤ 65536) : ∀ g ∈ gs', g.needs.length < 1000000 := by
  intro g hg
  have h1 : g.data ∈ gs.map (wnData ids) := by rw [← hd]; exact List.mem_map_of_mem hg
  obtain ⟨g2, hg2, he⟩ := List.mem_map.1 h1
  have h3 : g2.needs.filter (borne ids) = g.needs := congrArg (fun d => d.2.2.2) he
  rw [← h3]
  have := List.length_filter_le (borne ids) g2.needs
  have := h g2 hg2
  omega
theorem order_ok {n k : Nat} {v : Value} {Q : Addr → Nat → Prop} (hv : (k < n ∧ v = .tuple #[.slice none 0 0, .bool false]) ∨ (k = n ∧ ∃ a c, v = .tuple #[.slice (some a) n c, .bool true] ∧ Q a c)) : ∃ ov ok, v = .tuple #[ov, .bool ok] ∧ ok = decide (k = n) := by
  rcases hv with ⟨h1, rfl⟩ | ⟨h1, a, c, rfl, _⟩
  · exact ⟨_, _, rfl, by simp; omega⟩
  · exact ⟨_, _, rfl, by simp [h1]⟩
set_option maxHeartbeats 4000000 in
set_option maxRecDepth 10000 in
/-- bundlelaw.CycleIsShown -/
theorem cycleLaw_ret (a : Option Addr) (c : Nat) (xs : List OpD) (w : World) (hs : Script w a xs) :
    Ret Try.prog 4 #[.slice a xs.length c] w fun v w' => v = .bool true ∧ Below w.heap.size w w' := by
  refine ret_of_T (vs := [.slice a xs.length c]) Try.func4 Try.ntmps4 rfl (Nat.le_of_ble_eq_true rfl) ?_
  repeat (first | refine T_seq ?_ | refine T_block ?_ | refine T_inBlock ?_ | refine T_skip ?_)
  refine T_region ?_
  refine L_val _ _ (X_assign) rfl ?_
  refine L_nil ?_
  repeat (first | refine T_seq ?_ | refine T_block ?_ | refine T_inBlock ?_ | refine T_skip ?_)
  refine T_region ?_
  refine L_val _ _ (X_move) rfl ?_
  refine L_callF [.slice a xs.length c] E8 rfl rfl (small_ret a c xs w hs.ops hs.len hs.big) ?_
  rintro v w1 ⟨t, rfl, rfl, hsmall⟩
  refine L_val _ _ (X_not rfl) rfl ?_
  refine L_nil ?_
  cases t with
  | false =>
    refine T_true rfl ?_
    repeat (first | refine T_seq ?_ | refine T_block ?_ | refine T_inBlock ?_ | refine T_skip ?_)
    refine T_region ?_
    refine L_val _ _ (X_assign) rfl ?_
    refine L_nil ?_
    exact T_ret1 Try.func4 rfl ⟨rfl, Below.refl _ _⟩
  | true =>
  obtain ⟨hxl, hxs⟩ := hsmall rfl
  refine T_false rfl ?_
  repeat (first | refine T_seq ?_ | refine T_block ?_ | refine T_inBlock ?_ | refine T_skip ?_)
  refine T_region ?_
  refine L_val _ _ (X_move) rfl ?_
  refine L_val _ _ (X_lenS U22 rfl) rfl ?_
  refine L_val _ _ (X_move) rfl ?_
  refine L_nil ?_
  repeat (first | refine T_seq ?_ | refine T_block ?_ | refine T_inBlock ?_ | refine T_skip ?_)
  refine T_loopS [18, 17, 16] (fun m vs x => ∃ i : Nat, vs = [.int .i64 i, .int .i64 xs.length, .slice a xs.length c] ∧ i ≤ xs.length ∧ m = xs.length - i ∧ Below w1.heap.size w1 x) xs.length ⟨0, rfl, by omega, rfl, Below.refl _ _⟩ ?_
  rintro m vs ρ x ⟨i, rfl, hi, rfl, bx⟩ ih
  repeat (first | refine T_seq ?_ | refine T_block ?_ | refine T_inBlock ?_ | refine T_skip ?_)
  refine T_region ?_
  refine L_val _ _ (X_cmp rfl rfl rfl) rfl ?_
  refine L_nil ?_
  repeat (first | refine T_seq ?_ | refine T_block ?_ | refine T_inBlock ?_ | refine T_skip ?_)
  refine T_if rfl (fun ht => ?_) (fun hf => ?_)
  case refine_2 =>
    refine T_exit rfl ?_
    repeat (first | refine T_seq ?_ | refine T_block ?_ | refine T_inBlock ?_ | refine T_skip ?_)
    refine T_region ?_
    refine L_val _ _ (X_assign) rfl ?_
    refine L_nil ?_
    exact T_ret1 Try.func4 rfl ⟨rfl, bx⟩
  have hlt : i < xs.length := by simpa [cmpB] using ht
  have hox := hs.ops.keep (keeps_below bx)
  obtain ⟨p, q, rfl, hp, hc⟩ := hox.at (i := i) (x := xs[i]) (by simp)
  have hlx := hox.ok xs[i] (by simp)
  have hsx := hxs xs[i] (by simp)
  generalize xs[i] = X at *
  have hLl := hsx.legs
  have sx := bx.size
  repeat (first | refine T_seq ?_ | refine T_block ?_ | refine T_inBlock ?_ | refine T_skip ?_)
  refine T_region ?_
  refine L_val _ _ (X_index U22 S43 rfl rfl hlt) rfl ?_
  refine L_val _ _ (X_loadAgg X.cells A43 S43 (OpD.cells_length _) rfl hc) rfl ?_
  refine L_alloc Z43 rfl fun w2 h2 => ?_
  refine L_storeAll X.cells S43 rfl rfl (OpD.cells_length _) (OpD.cells_one _) h2.new rfl fun w3 h3 => ?_
  refine L_nil ?_
  have h23 := h2.trans h3
  have b3 : Below x.heap.size x w3 := h23.below (Below.refl _ _) (Nat.le_refl _)
  have k4 : Blk w3 x.heap.size X.cells.toArray 43 := h23.new
  have s3 := h23.size
  have hl3 := hlx.keep (keeps_below b3)
  clear h2 h3 h23
  repeat (first | refine T_seq ?_ | refine T_block ?_ | refine T_inBlock ?_ | refine T_skip ?_)
  refine T_region ?_
  refine L_val _ _ (X_field F43_2 rfl) rfl ?_
  refine L_val _ _ (X_field F28_0 rfl) rfl ?_
  refine L_val _ _ (X_load A26 rfl (op_blk k4 2 rfl)) rfl ?_
  refine L_val _ _ (X_lenS U26 rfl) rfl ?_
  refine L_val _ _ (X_cmp rfl rfl rfl) rfl ?_
  refine L_nil ?_
  refine T_if rfl (fun ht8 => ?_) (fun hf8 => ?_)
  · refine T_exit rfl ?_
    refine T_region ?_
    refine L_val _ _ (X_add rfl rfl (by omega) (by omega)) rfl ?_
    refine L_val _ _ (X_move) rfl ?_
    refine L_nil ?_
    exact ih _ _ _ (by omega) ⟨i + 1, rfl, by omega, rfl, bx.trans (b3.mono sx)⟩
  have hl8 : X.legs.length ≤ 8 := by simp [cmpB] at hf8; omega
  repeat (first | refine T_seq ?_ | refine T_block ?_ | refine T_inBlock ?_ | refine T_skip ?_)
  refine T_region ?_
  refine L_val _ _ (X_field F43_2 rfl) rfl ?_
  refine L_val _ _ (X_loadAgg [.slice X.la X.legs.length X.lc] A28 S28 rfl rfl (by intro j v hj; exact op_blk k4 (0 + 2 + j) (op_legs X hj))) rfl ?_
  refine L_callF [.agg #[.slice X.la X.legs.length X.lc]] E9 rfl rfl (well_ret X.la X.lc X.legs w3 hl3 hLl hsx.needs) ?_
  rintro v w4 ⟨a', c', gs', rfl, hgd, hgo, b4⟩
  have hgl : gs'.length = X.legs.length := by have := congrArg List.length hgd; simpa using this
  have hgn : ∀ g ∈ gs', g.needs.length < 1000000 := wn_needs hgd hsx.needs
  rw [← hgl]
  refine L_callF [.agg #[.slice a' gs'.length c']] E10 rfl rfl (graphOf_ret a' c' gs' w4 hgo.legs (by omega) hgn) ?_
  rintro v w5 ⟨rfl, b5⟩
  have hml := masks_len (gs := gs') (by omega)
  have hmlt := masks_lt (gs := gs') (by omega)
  have hmin := masks_inside gs'
  generalize pad8 (masksOf gs') = M at *
  generalize hnn : gs'.length = n at *
  refine L_alloc Z47 rfl fun w6 h6 => ?_
  refine L_storeAll (gcells n M) S47 rfl rfl (gcells_length hml) (gcells_one _ _) h6.new rfl fun w7 h7 => ?_
  refine L_nil ?_
  have h67 := h6.trans h7
  have s4 := b4.size
  have s5 := b5.size
  have s7 := h67.size
  have z7 := h67.lt
  have b7 : Below x.heap.size x w7 := h67.below ((b3.trans (b4.mono s3)).trans (b5.mono (by omega))) (by omega)
  have kg : Blk w7 w5.heap.size (gcells n M).toArray 47 := h67.new
  have hn8 : n ≤ 8 := by omega
  clear h6 h7 h67 k4 hl3 b3 b4 b5
  generalize w5.heap.size = GB at *
  repeat (first | refine T_seq ?_ | refine T_block ?_ | refine T_inBlock ?_ | refine T_skip ?_)
  refine T_region ?_
  refine L_callF [.pointer (some ⟨GB, 0, none⟩)] E11 rfl rfl (order_ret GB n M w7 kg hn8 hml hmlt) ?_
  rintro v w8 ⟨b8, hv⟩
  obtain ⟨ov, ok, rfl, hok⟩ := order_ok hv
  refine L_val _ _ (X_move) rfl ?_
  refine L_val _ _ (X_extract rfl rfl) rfl ?_
  refine L_val _ _ (X_extract rfl rfl) rfl ?_
  refine L_val _ _ (X_assign) rfl ?_
  refine L_val _ _ (X_assign) rfl ?_
  refine L_nil ?_
  have s8 := b8.size
  have kg8 := below_blk b8 kg kg.lt
  repeat (first | refine T_seq ?_ | refine T_block ?_ | refine T_inBlock ?_ | refine T_skip ?_)
  refine T_region ?_
  refine L_callF [.pointer (some ⟨GB, 0, none⟩)] E15 rfl rfl (cycle_ret GB n M w8 kg8 hn8 hml hmlt hmin) ?_
  rintro v w9 ⟨b9, hr⟩
  refine L_val _ _ (X_assign) rfl ?_
  refine L_nil ?_
  have s9 := b9.size
  have kg9 := below_blk b9 kg8 kg8.lt
  have b9x : Below x.heap.size x w9 := (b7.trans (b8.mono (by omega))).trans (b9.mono (by omega))
  have b9w : Below w1.heap.size w1 w9 := bx.trans (b9x.mono sx)
  rcases hr with ⟨hfull, rfl⟩ | ⟨hpart, b, o, r, c2, rfl, hrc, hring, hbl, hcell⟩
  · obtain rfl : ok = true := by rw [hok]; simp [hfull]
    repeat (first | refine T_seq ?_ | refine T_block ?_ | refine T_inBlock ?_ | refine T_skip ?_)
    refine T_region ?_
    refine L_val _ _ (X_move) rfl ?_
    refine L_val _ _ (X_move) rfl ?_
    refine L_val _ _ (X_eqNil U49 rfl) rfl ?_
    refine L_val _ _ (X_neqB U4 rfl rfl) rfl ?_
    refine L_nil ?_
    refine T_false rfl ?_
    repeat (first | refine T_seq ?_ | refine T_block ?_ | refine T_inBlock ?_ | refine T_skip ?_)
    refine T_region ?_
    refine L_val _ _ (X_move) rfl ?_
    refine L_val _ _ (X_lenS U49 rfl) rfl ?_
    refine L_val _ _ (X_move) rfl ?_
    refine L_nil ?_
    repeat (first | refine T_seq ?_ | refine T_block ?_ | refine T_inBlock ?_ | refine T_skip ?_)
    refine T_loopS [42, 41, 18, 17, 16] (fun m vs y => vs = [.int .i64 0, .int .i64 0, .int .i64 i, .int .i64 xs.length, .slice (some ⟨p, q, none⟩) xs.length c] ∧ w9 = y) 0 ⟨rfl, rfl⟩ ?_
    rintro m vs ρ2 y ⟨rfl, rfl⟩ _
    repeat (first | refine T_seq ?_ | refine T_block ?_ | refine T_inBlock ?_ | refine T_skip ?_)
    refine T_region ?_
    refine L_val _ _ (X_cmp rfl rfl rfl) rfl ?_
    refine L_nil ?_
    repeat (first | refine T_seq ?_ | refine T_block ?_ | refine T_inBlock ?_ | refine T_skip ?_)
    refine T_false rfl ?_
    refine T_exit rfl ?_
    repeat (first | refine T_seq ?_ | refine T_block ?_ | refine T_inBlock ?_ | refine T_skip ?_)
    refine T_region ?_
    refine L_val _ _ (X_add rfl rfl (by omega) (by omega)) rfl ?_
    refine L_val _ _ (X_move) rfl ?_
    refine L_nil ?_
    exact ih _ _ _ (by omega) ⟨i + 1, rfl, by omega, rfl, b9w⟩
  · obtain rfl : ok = false := by rw [hok]; simp; omega
    have hrl : r.length ≤ n := nodup_le n r hring.nodup hring.lt
    repeat (first | refine T_seq ?_ | refine T_block ?_ | refine T_inBlock ?_ | refine T_skip ?_)
    refine T_region ?_
    refine L_val _ _ (X_move) rfl ?_
    refine L_val _ _ (X_move) rfl ?_
    refine L_val _ _ (X_eqNil U49 rfl) rfl ?_
    refine L_val _ _ (X_neqB U4 rfl rfl) rfl ?_
    refine L_nil ?_
    refine T_false rfl ?_
    repeat (first | refine T_seq ?_ | refine T_block ?_ | refine T_inBlock ?_ | refine T_skip ?_)
    refine T_region ?_
    refine L_val _ _ (X_move) rfl ?_
    refine L_val _ _ (X_lenS U49 rfl) rfl ?_
    refine L_val _ _ (X_move) rfl ?_
    refine L_nil ?_
    repeat (first | refine T_seq ?_ | refine T_block ?_ | refine T_inBlock ?_ | refine T_skip ?_)
    refine T_loopS [42, 41, 40, 8, 5, 18, 17, 16] (fun m vs y => ∃ t : Nat, vs = [.int .i64 t, .int .i64 r.length, .slice (some ⟨b, o, none⟩) r.length c2, .slice (some ⟨b, o, none⟩) r.length c2, .pointer (some ⟨GB, 0, none⟩), .int .i64 i, .int .i64 xs.length, .slice (some ⟨p, q, none⟩) xs.length c] ∧ t ≤ r.length ∧ m = r.length - t ∧ w9 = y) r.length ⟨0, rfl, by omega, rfl, rfl⟩ ?_
    rintro m vs ρ2 y ⟨t, rfl, htl, rfl, rfl⟩ ih2
    repeat (first | refine T_seq ?_ | refine T_block ?_ | refine T_inBlock ?_ | refine T_skip ?_)
    refine T_region ?_
    refine L_val _ _ (X_cmp rfl rfl rfl) rfl ?_
    refine L_nil ?_
    repeat (first | refine T_seq ?_ | refine T_block ?_ | refine T_inBlock ?_ | refine T_skip ?_)
    refine T_if rfl (fun ht2 => ?_) (fun hf2 => ?_)
    case refine_2 =>
      refine T_exit rfl ?_
      repeat (first | refine T_seq ?_ | refine T_block ?_ | refine T_inBlock ?_ | refine T_skip ?_)
      refine T_region ?_
      refine L_val _ _ (X_add rfl rfl (by omega) (by omega)) rfl ?_
      refine L_val _ _ (X_move) rfl ?_
      refine L_nil ?_
      exact ih _ _ _ (by omega) ⟨i + 1, rfl, by omega, rfl, b9w⟩
    have hlt2 : t < r.length := by simpa [cmpB] using ht2
    have hpos := hring.pos
    have hmod : (t + 1) % r.length < r.length := Nat.mod_lt _ hpos
    have ht1 : r[t]? = some r[t] := by simp
    have ht2' : r[(t + 1) % r.length]? = some r[(t + 1) % r.length] := by simp
    have hedge := hring.edge t _ _ ht1 ht2'
    have hlx1 := hring.lt r[t] (by simp)
    have hlx2 := hring.lt r[(t + 1) % r.length] (by simp)
    have hc1 := hcell t _ ht1
    have hc2 := hcell ((t + 1) % r.length) _ ht2'
    have hlen0 : r.length ≠ 0 := by omega
    have hnd : ∀ j y, j < t → r[j]? = some y → y ≠ r[t] := by
      intro j y hj hy
      obtain ⟨h1, h2⟩ := List.getElem?_eq_some_iff.1 hy
      rw [← h2]
      exact (List.pairwise_iff_getElem.1 hring.nodup) j t h1 hlt2 hj
    generalize hX1 : r[t] = X1 at *
    generalize hX2 : r[(t + 1) % r.length] = X2 at *
    repeat (first | refine T_seq ?_ | refine T_block ?_ | refine T_inBlock ?_ | refine T_skip ?_)
    refine T_region ?_
    refine L_val _ _ (X_move) rfl ?_
    refine L_val _ _ (X_index U49 S3 rfl rfl hlt2) rfl ?_
    refine L_val _ _ (X_load A3 rfl (hc1)) rfl ?_
    refine L_val _ _ (X_assign) rfl ?_
    refine L_val _ _ (X_assign) rfl ?_
    refine L_nil ?_
    repeat (first | refine T_seq ?_ | refine T_block ?_ | refine T_inBlock ?_ | refine T_skip ?_)
    refine T_region ?_
    refine L_val _ _ (X_move) rfl ?_
    refine L_val _ _ (X_move) rfl ?_
    refine L_val _ _ (X_move) rfl ?_
    refine L_val _ _ (X_add rfl rfl (by omega) (by omega)) rfl ?_
    refine L_val _ _ (X_move) rfl ?_
    refine L_val _ _ (X_lenS U49 rfl) rfl ?_
    refine L_val _ _ (X_remN (t + 1) r.length rfl rfl hlen0) rfl ?_
    refine L_val _ _ (X_index U49 S3 rfl rfl hmod) rfl ?_
    refine L_val _ _ (X_load A3 rfl (hc2)) rfl ?_
    refine L_callF [.pointer (some ⟨GB, 0, none⟩), .int .i64 X1, .int .i64 X2] E16 rfl rfl (needs_yes GB n M w9 kg9 hn8 hml hmlt X1 X2 hlx1 hlx2 hedge) ?_
    rintro v w10 ⟨rfl, rfl⟩
    refine L_val _ _ (X_not rfl) rfl ?_
    refine L_nil ?_
    refine T_false rfl ?_
    repeat (first | refine T_seq ?_ | refine T_block ?_ | refine T_inBlock ?_ | refine T_skip ?_)
    refine T_region ?_
    refine L_val _ _ (X_move) rfl ?_
    refine L_val _ _ (X_move) rfl ?_
    refine L_val _ _ (X_sliceH U49 S3 rfl rfl (show t ≤ c2 by omega)) rfl ?_
    refine L_val _ _ (X_lenS U49 rfl) rfl ?_
    refine L_val _ _ (X_move) rfl ?_
    refine L_nil ?_
    repeat (first | refine T_seq ?_ | refine T_block ?_ | refine T_inBlock ?_ | refine T_skip ?_)
    refine T_loopS [62, 61, 60, 10, 42, 41, 40, 8, 5, 18, 17, 16] (fun m vs y => ∃ j : Nat, vs = [.int .i64 j, .int .i64 t, .slice (some ⟨b, o, none⟩) t c2, .int .i64 X1, .int .i64 t, .int .i64 r.length, .slice (some ⟨b, o, none⟩) r.length c2, .slice (some ⟨b, o, none⟩) r.length c2, .pointer (some ⟨GB, 0, none⟩), .int .i64 i, .int .i64 xs.length, .slice (some ⟨p, q, none⟩) xs.length c] ∧ j ≤ t ∧ m = t - j ∧ w10 = y) t ⟨0, rfl, by omega, rfl, rfl⟩ ?_
    rintro m vs ρ3 y ⟨j, rfl, hj, rfl, rfl⟩ ih3
    repeat (first | refine T_seq ?_ | refine T_block ?_ | refine T_inBlock ?_ | refine T_skip ?_)
    refine T_region ?_
    refine L_val _ _ (X_cmp rfl rfl rfl) rfl ?_
    refine L_nil ?_
    repeat (first | refine T_seq ?_ | refine T_block ?_ | refine T_inBlock ?_ | refine T_skip ?_)
    refine T_if rfl (fun ht3 => ?_) (fun hf3 => ?_)
    case refine_2 =>
      refine T_exit rfl ?_
      repeat (first | refine T_seq ?_ | refine T_block ?_ | refine T_inBlock ?_ | refine T_skip ?_)
      refine T_region ?_
      refine L_val _ _ (X_add rfl rfl (by omega) (by omega)) rfl ?_
      refine L_val _ _ (X_move) rfl ?_
      refine L_nil ?_
      exact ih2 _ _ _ (by omega) ⟨t + 1, rfl, by omega, rfl, rfl⟩
    have hlt3 : j < t := by simpa [cmpB] using ht3
    have hjr : r[j]? = some (r[j]'(by omega)) := by simp
    have hc3 := hcell j _ hjr
    have hne := hnd j _ hlt3 hjr
    generalize r[j]'(by omega) = X3 at *
    repeat (first | refine T_seq ?_ | refine T_block ?_ | refine T_inBlock ?_ | refine T_skip ?_)
    refine T_region ?_
    refine L_val _ _ (X_index U49 S3 rfl rfl hlt3) rfl ?_
    refine L_val _ _ (X_load A3 rfl (hc3)) rfl ?_
    refine L_val _ _ (X_assign) rfl ?_
    refine L_nil ?_
    repeat (first | refine T_seq ?_ | refine T_block ?_ | refine T_inBlock ?_ | refine T_skip ?_)
    refine T_region ?_
    refine L_val _ _ (X_move) rfl ?_
    refine L_val _ _ (X_move) rfl ?_
    refine L_val _ _ (X_cmpR false rfl rfl rfl (show cmpB .eql (X3 : Int) X1 = false by simp [cmpB]; omega)) rfl ?_
    refine L_nil ?_
    refine T_false rfl ?_
    repeat (first | refine T_seq ?_ | refine T_block ?_ | refine T_inBlock ?_ | refine T_skip ?_)
    refine T_region ?_
    refine L_val _ _ (X_add rfl rfl (by omega) (by omega)) rfl ?_
    refine L_val _ _ (X_move) rfl ?_
    refine L_nil ?_
    exact ih3 _ _ _ (by omega) ⟨j + 1, rfl, by omega, rfl, rfl⟩
end Go.Proofs.Qxb6500865a
