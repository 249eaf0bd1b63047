import Derived.Test.Qxb6500865aAlter
import Derived.Test.Qxb6500865aW8
namespace Go.Proofs.Qxb6500865a
set_option linter.unusedSimpArgs false
set_option linter.unusedVariables false
open Go.RowKit

/-- A script as it comes in. -/
structure Script (w : World) (a : Option Addr) (xs : List OpD) : Prop where
  ops : Ops w a xs
  len : xs.length ≤ 140737488355328
  big : ∀ x ∈ xs, x.big
  nil : ∀ x ∈ xs, x.la = none → x.legs.length = 0
  nils : ∀ x ∈ xs, ∀ g ∈ x.legs, g.na = none → g.needs.length = 0 ∧ g.nc = 0

theorem op_blk {w : World} {b : Nat} {g : OpD} {t : TypeId} (h : Blk w b g.cells.toArray t) (i : Nat) {v : Value} (hv : g.cells[i]? = some v) : w.cell? ⟨b, i, none⟩ = some v := by
  rw [h.cell]; simpa using hv
theorem agg1 {w : World} {b : Nat} {v : Value} {t : TypeId} (h : Blk w b #[v] t) : ∀ j u, [v][j]? = some u → w.cell? ⟨b, 0 + j, none⟩ = some u := by
  intro j u hj
  rw [h.cell, Nat.zero_add]
  simpa using hj

theorem below_blk {B : Nat} {w w' : World} {k : Nat} {c : Array Value} {t : TypeId} (h : Below B w w') (hb : Blk w k c t) (hk : k < B) : Blk w' k c t := (h.block k hk).trans hb
theorem owns_below {w w' : World} {base n : Nat} {e : TypeId} {sz : Nat} {v : Value} {xs : List Value} (hb : Below w.heap.size w w') (h : w.ownsRow base e sz v n xs) : w'.ownsRow base e sz v n xs := by
  refine ⟨h.1, ?_⟩
  rcases h.2 with h' | ⟨g, cap, cur, rfl, hbg, hgg, hrest⟩
  · exact .inl h'
  · exact .inr ⟨g, cap, cur, rfl, hbg, (hb.block g (Array.getElem?_eq_some_iff.1 hgg).1).trans hgg, hrest⟩
theorem LegsOwn.below {w w' : World} {base : Nat} {a : Option Addr} {c : Nat} {gs : List Leg} (hb : Below w.heap.size w w') (h : LegsOwn w base a c gs) : LegsOwn w' base a c gs := ⟨owns_below hb h.own, fun g hg => owns_below hb (h.needs g hg)⟩
theorem owns_base {w : World} {base base' n : Nat} {e : TypeId} {sz : Nat} {v : Value} {xs : List Value} (hb : base' ≤ base) (h : w.ownsRow base e sz v n xs) : w.ownsRow base' e sz v n xs := by
  refine ⟨h.1, ?_⟩
  rcases h.2 with h' | ⟨g, cap, cur, rfl, hbg, hrest⟩
  · exact .inl h'
  · exact .inr ⟨g, cap, cur, rfl, by omega, hrest⟩
theorem grown_blk_ty {w w1 : World} {base n k : Nat} {e t : TypeId} {sz : Nat} {v : Value} {xs : List Value} {c : Array Value} (ho : w.ownsRow base e sz v n xs) (hg : w.grownBy w1 v.ownBlock) (hb : Blk w k c t) (hte : t ≠ e) : Blk w1 k c t :=
  grown_blk hg hb (fun he => by
    rcases ho.2 with ⟨rfl, _⟩ | ⟨g', cap, cur, rfl, _, hgg, _⟩
    · simp [Value.ownBlock] at he
    · simp [Value.ownBlock] at he
      subst he
      unfold Blk at hb
      rw [hgg] at hb
      simp at hb
      exact hte hb.2.symm)
theorem op_legs (X : OpD) {j : Nat} {v : Value} (hj : [Value.slice X.la X.legs.length X.lc][j]? = some v) : X.cells[0 + 2 + j]? = some v := by
  have hl := (List.getElem?_eq_some_iff.1 hj).1
  simp at hl
  subst hl
  exact hj
theorem data_needs {gs1 gs2 : List Leg} {N : Nat} (hd : gs1.map Leg.data = gs2.map Leg.data) (h : ∀ g ∈ gs2, g.needs.length < N) : ∀ g ∈ gs1, g.needs.length < N := by
  intro g hg
  have h1 : g.data ∈ gs2.map Leg.data := by rw [← hd]; exact List.mem_map_of_mem hg
  obtain ⟨g2, hg2, he⟩ := List.mem_map.1 h1
  have h3 : g2.needs = g.needs := congrArg (fun d => d.2.2.2) he
  rw [← h3]
  exact h g2 hg2
set_option maxHeartbeats 4000000 in
set_option maxRecDepth 10000 in
/-- bundlelaw.CopySharesNothing -/
theorem copyLaw_ret (a : Option Addr) (c : Nat) (xs : List OpD) (w : World) (hs : Script w a xs) :
    Ret Try.prog 7 #[.slice a xs.length c] w fun v w' => v = .bool true ∧ Below w.heap.size w w' := by
  refine ret_of_T (vs := [.slice a xs.length c]) Try.func7 Try.ntmps7 rfl (Nat.le_of_ble_eq_true rfl) ?_
  repeat (first | refine T_seq ?_ | refine T_block ?_ | refine T_inBlock ?_ | refine T_skip ?_)
  refine T_region ?_
  refine L_val _ _ (X_assign) rfl ?_
  refine L_nil ?_
  repeat (first | refine T_seq ?_ | refine T_block ?_ | refine T_inBlock ?_ | refine T_skip ?_)
  refine T_region ?_
  refine L_val _ _ (X_move) rfl ?_
  refine L_callF [.slice a xs.length c] E8 rfl rfl (small_ret a c xs w hs.ops hs.len hs.big) ?_
  rintro v w1 ⟨t, rfl, rfl, hsmall⟩
  refine L_val _ _ (X_not rfl) rfl ?_
  refine L_nil ?_
  cases t with
  | false =>
    refine T_true rfl ?_
    repeat (first | refine T_seq ?_ | refine T_block ?_ | refine T_inBlock ?_ | refine T_skip ?_)
    refine T_region ?_
    refine L_val _ _ (X_assign) rfl ?_
    refine L_nil ?_
    exact T_ret1 Try.func7 rfl ⟨rfl, Below.refl _ _⟩
  | true =>
  obtain ⟨hxl, hxs⟩ := hsmall rfl
  refine T_false rfl ?_
  repeat (first | refine T_seq ?_ | refine T_block ?_ | refine T_inBlock ?_ | refine T_skip ?_)
  refine T_region ?_
  refine L_val _ _ (X_move) rfl ?_
  refine L_val _ _ (X_lenS U22 rfl) rfl ?_
  refine L_val _ _ (X_move) rfl ?_
  refine L_nil ?_
  repeat (first | refine T_seq ?_ | refine T_block ?_ | refine T_inBlock ?_ | refine T_skip ?_)
  refine T_loopS [19, 18, 17] (fun m vs x => ∃ i : Nat, vs = [.int .i64 i, .int .i64 xs.length, .slice a xs.length c] ∧ i ≤ xs.length ∧ m = xs.length - i ∧ Below w1.heap.size w1 x) xs.length ⟨0, rfl, by omega, rfl, Below.refl _ _⟩ ?_
  rintro m vs ρ x ⟨i, rfl, hi, rfl, bx⟩ ih
  repeat (first | refine T_seq ?_ | refine T_block ?_ | refine T_inBlock ?_ | refine T_skip ?_)
  refine T_region ?_
  refine L_val _ _ (X_cmp rfl rfl rfl) rfl ?_
  refine L_nil ?_
  repeat (first | refine T_seq ?_ | refine T_block ?_ | refine T_inBlock ?_ | refine T_skip ?_)
  refine T_if rfl (fun ht => ?_) (fun hf => ?_)
  case refine_2 =>
    refine T_exit rfl ?_
    repeat (first | refine T_seq ?_ | refine T_block ?_ | refine T_inBlock ?_ | refine T_skip ?_)
    refine T_region ?_
    refine L_val _ _ (X_assign) rfl ?_
    refine L_nil ?_
    exact T_ret1 Try.func7 rfl ⟨rfl, bx⟩
  have hlt : i < xs.length := by simpa [cmpB] using ht
  have hox := hs.ops.keep (keeps_below bx)
  obtain ⟨p, q, rfl, hp, hc⟩ := hox.at (i := i) (x := xs[i]) (by simp)
  have hlx := hox.ok xs[i] (by simp)
  have hsx := hxs xs[i] (by simp)
  have hnx := hs.nil xs[i] (by simp)
  have hnnx := hs.nils xs[i] (by simp)
  generalize xs[i] = X at *
  have hLl := hsx.legs
  repeat (first | refine T_seq ?_ | refine T_block ?_ | refine T_inBlock ?_ | refine T_skip ?_)
  refine T_region ?_
  refine L_val _ _ (X_index U22 S43 rfl rfl hlt) rfl ?_
  refine L_val _ _ (X_loadAgg X.cells A43 S43 (OpD.cells_length _) rfl hc) rfl ?_
  refine L_alloc Z43 rfl fun w2 h2 => ?_
  refine L_storeAll X.cells S43 rfl rfl (OpD.cells_length _) (OpD.cells_one _) h2.new rfl fun w3 h3 => ?_
  refine L_nil ?_
  have h23 := h2.trans h3
  repeat (first | refine T_seq ?_ | refine T_block ?_ | refine T_inBlock ?_ | refine T_skip ?_)
  refine T_region ?_
  refine L_val _ _ (X_build (.agg #[.slice none 0 0]) (by kernel_rfl)) rfl ?_
  refine L_alloc Z28 rfl fun w4 h4 => ?_
  refine L_storeAll [.slice none 0 0] S28 rfl rfl rfl (by simp [Value.oneCell']) h4.new rfl fun w5 h5 => ?_
  refine L_nil ?_
  have h45 := h4.trans h5
  have z3 := h23.lt
  have z5 := h45.lt
  have s3 := h23.size
  have s5 := h45.size
  have sx := bx.size
  have bw : Below x.heap.size x w5 := h45.below (h23.below (Below.refl _ _) (Nat.le_refl _)) (by omega)
  have k4 : Blk w5 x.heap.size X.cells.toArray 43 := h45.blk h23.new (by omega)
  have k5 : Blk w5 w3.heap.size #[.slice none 0 0] 28 := h45.new
  clear h2 h3 h23 h4 h5 h45
  have hB5 : x.heap.size ≤ w3.heap.size := by omega
  generalize w3.heap.size = B5 at *
  repeat (first | refine T_seq ?_ | refine T_block ?_ | refine T_inBlock ?_ | refine T_skip ?_)
  refine T_region ?_
  refine L_val _ _ (X_field F43_2 rfl) rfl ?_
  refine L_val _ _ (X_field F28_0 rfl) rfl ?_
  refine L_val _ _ (X_load A26 rfl (op_blk k4 2 rfl)) rfl ?_
  refine L_val _ _ (X_lenS U26 rfl) rfl ?_
  refine L_val _ _ (X_move) rfl ?_
  refine L_nil ?_
  repeat (first | refine T_seq ?_ | refine T_block ?_ | refine T_inBlock ?_ | refine T_skip ?_)
  -- the copy by hand
  refine T_loopS [28, 27, 26, 4, 5, 19, 18, 17] (fun m vs y => ∃ k : Nat, vs = [.int .i64 k, .int .i64 X.legs.length, .slice X.la X.legs.length X.lc, .pointer (some ⟨x.heap.size, 0, none⟩), .pointer (some ⟨B5, 0, none⟩), .int .i64 i, .int .i64 xs.length, .slice (some ⟨p, q, none⟩) xs.length c] ∧ k ≤ X.legs.length ∧ m = X.legs.length - k ∧
    Below x.heap.size x y ∧ Blk y x.heap.size X.cells.toArray 43 ∧ ∃ ka kc ks, Blk y B5 #[.slice ka k kc] 28 ∧ ks.length = k ∧ LegsOwn y x.heap.size ka kc ks ∧ ks.map Leg.data = (X.legs.take k).map Leg.data) X.legs.length
    ⟨0, rfl, by omega, rfl, bw, k4, none, 0, [], k5, rfl, ⟨World.ownsRow_nil _ _ _ _, by simp⟩, rfl⟩ ?_
  clear k4 k5 bw
  rintro m vs ρ2 y ⟨k, rfl, hk, rfl, by_, k4, ka, kc, ks, k5, hkl, hko, hkd⟩ ih2
  subst hkl
  repeat (first | refine T_seq ?_ | refine T_block ?_ | refine T_inBlock ?_ | refine T_skip ?_)
  refine T_region ?_
  refine L_val _ _ (X_cmp rfl rfl rfl) rfl ?_
  refine L_nil ?_
  repeat (first | refine T_seq ?_ | refine T_block ?_ | refine T_inBlock ?_ | refine T_skip ?_)
  have hly := hlx.keep (keeps_below by_)
  have y4 := k4.lt
  have y5 := k5.lt
  refine T_if rfl (fun ht2 => ?_) (fun hf2 => ?_)
  · have hlt2 : ks.length < X.legs.length := by simpa [cmpB] using ht2
    obtain ⟨p2, q2, hla, hp2, hc2⟩ := hly.at (i := ks.length) (g := X.legs[ks.length]) (by simp)
    have hna := hly.ok X.legs[ks.length] (by simp)
    have hnl := hsx.needs X.legs[ks.length] (by simp)
    have hdat : (X.legs.take (ks.length + 1)).map Leg.data = (X.legs.take ks.length).map Leg.data ++ [X.legs[ks.length].data] := by
      rw [List.take_succ_eq_append_getElem hlt2, List.map_append]; rfl
    generalize X.legs[ks.length] = g at *
    have e26 : (Value.slice X.la X.legs.length X.lc) = .slice (some ⟨p2, q2, none⟩) X.legs.length X.lc := by rw [hla]
    repeat (first | refine T_seq ?_ | refine T_block ?_ | refine T_inBlock ?_ | refine T_skip ?_)
    refine T_region ?_
    refine L_val _ _ (X_index U26 S62 e26 rfl hlt2) rfl ?_
    refine L_val _ _ (X_loadAgg g.cells A62 S62 (Leg.cells_length _) rfl hc2) rfl ?_
    refine L_alloc Z62 rfl fun w6 h6 => ?_
    refine L_storeAll g.cells S62 rfl rfl (Leg.cells_length _) (Leg.cells_one _) h6.new rfl fun w7 h7 => ?_
    refine L_nil ?_
    have h67 := h6.trans h7
    repeat (first | refine T_seq ?_ | refine T_block ?_ | refine T_inBlock ?_ | refine T_skip ?_)
    refine T_region ?_
    refine L_buildSlice #[] 59 (by kernel_rfl) rfl fun w8 h8 => ?_
    refine L_val _ _ (X_assign) rfl ?_
    refine L_nil ?_
    have z7 := h67.lt
    have z8 := h8.lt
    have s7 := h67.size
    have s8 := h8.size
    have sy := by_.size
    have by8 : Below y.heap.size y w8 := h8.below (h67.below (Below.refl _ _) (Nat.le_refl _)) (by omega)
    have j7 : Blk w8 y.heap.size g.cells.toArray 62 := h8.blk h67.new (by omega)
    have o8 : w8.ownsRow y.heap.size 59 1 (.slice (some ⟨w7.heap.size, 0, none⟩) 0 0) 0 [] := ⟨rfl, .inr ⟨w7.heap.size, 0, #[], rfl, by omega, h8.new, Nat.le_refl _, by simp [maxLen], rfl, rfl⟩⟩
    clear h6 h7 h67 h8
    repeat (first | refine T_seq ?_ | refine T_block ?_ | refine T_inBlock ?_ | refine T_skip ?_)
    refine T_region ?_
    refine L_val _ _ (X_field F62_3 rfl) rfl ?_
    refine L_val _ _ (X_load A60 rfl (leg_blk j7 (0 + 21) rfl)) rfl ?_
    refine L_val _ _ (X_lenS U60 rfl) rfl ?_
    refine L_val _ _ (X_move) rfl ?_
    refine L_nil ?_
    repeat (first | refine T_seq ?_ | refine T_block ?_ | refine T_inBlock ?_ | refine T_skip ?_)
    -- the needs, one by one
    refine T_loopS [36, 35, 34, 8, 7, 28, 27, 26, 4, 5, 19, 18, 17] (fun m vs z => ∃ (j : Nat) (v8 : Value), vs = [.int .i64 j, .int .i64 g.needs.length, .slice g.na g.needs.length g.nc, v8, .pointer (some ⟨y.heap.size, 0, none⟩), .int .i64 ks.length, .int .i64 X.legs.length, .slice X.la X.legs.length X.lc, .pointer (some ⟨x.heap.size, 0, none⟩), .pointer (some ⟨B5, 0, none⟩), .int .i64 i, .int .i64 xs.length, .slice (some ⟨p, q, none⟩) xs.length c] ∧ j ≤ g.needs.length ∧ m = g.needs.length - j ∧
      Below y.heap.size y z ∧ Blk z y.heap.size g.cells.toArray 62 ∧ z.ownsRow y.heap.size 59 1 v8 j ((g.needs.take j).map (Value.int .u8))) g.needs.length
      ⟨0, _, rfl, by omega, rfl, by8, j7, o8⟩ ?_
    clear o8 j7 by8
    rintro m vs ρ3 z ⟨j, v8, rfl, hj, rfl, bz, j7, o8⟩ ih3
    repeat (first | refine T_seq ?_ | refine T_block ?_ | refine T_inBlock ?_ | refine T_skip ?_)
    refine T_region ?_
    refine L_val _ _ (X_cmp rfl rfl rfl) rfl ?_
    refine L_nil ?_
    repeat (first | refine T_seq ?_ | refine T_block ?_ | refine T_inBlock ?_ | refine T_skip ?_)
    refine T_if rfl (fun ht3 => ?_) (fun hf3 => ?_)
    · have hlt3 : j < g.needs.length := by simpa [cmpB] using ht3
      obtain ⟨p3, q3, hna3, hp3, hc3⟩ := (hna.keep (keeps_below bz)).cell j [.int .u8 g.needs[j]] (by simp [ints, hlt3])
      have e34 : (Value.slice g.na g.needs.length g.nc) = .slice (some ⟨p3, q3, none⟩) g.needs.length g.nc := by rw [hna3]
      repeat (first | refine T_seq ?_ | refine T_block ?_ | refine T_inBlock ?_ | refine T_skip ?_)
      refine T_region ?_
      refine L_val _ _ (X_index U60 S59 e34 rfl hlt3) rfl ?_
      refine L_val _ _ (X_load A59 rfl (hc3 0 _ rfl)) rfl ?_
      refine L_val _ _ (X_assign) rfl ?_
      refine L_nil ?_
      refine T_region ?_
      refine L_val _ _ (X_move) rfl ?_
      refine L_val _ _ (X_move) rfl ?_
      refine L_buildSlice #[.int .u8 g.needs[j]] 59 (by kernel_rfl) rfl fun w9 h9 => ?_
      refine L_append1 y.heap.size v8 j ((g.needs.take j).map (Value.int .u8)) z.heap.size [.int .u8 g.needs[j]] Try.underlying60 I59 rfl (by decide) rfl (owns_new h9 o8) rfl rfl h9.new (by simp [Value.oneCell']) (by simp only [maxLen]; omega) (by omega) (by have := h9.size; have := bz.size; omega) rfl fun v10 w10 o10 g10 => ?_
      refine L_val _ _ (X_assign) rfl ?_
      refine L_nil ?_
      have b9 : Below y.heap.size y w9 := h9.below bz bz.size
      have b10 : Below y.heap.size y w10 := grown_below b9 (owns_new h9 o8) g10 (by have := h9.size; have := bz.size; omega) (Nat.le_refl _)
      have j9 : Blk w9 y.heap.size g.cells.toArray 62 := h9.blk j7 (by have := j7.lt; omega)
      have j10 : Blk w10 y.heap.size g.cells.toArray 62 := grown_blk g10 j9 (fun e => by
        have o9 := owns_new h9 o8
        rcases o9.2 with ⟨rfl, _⟩ | ⟨g', cap, cur, rfl, _, hgg, _⟩
        · simp [Value.ownBlock] at e
        · simp [Value.ownBlock] at e
          subst e
          unfold Blk at j9
          rw [hgg] at j9
          simp at j9)
      repeat (first | refine T_seq ?_ | refine T_block ?_ | refine T_inBlock ?_ | refine T_skip ?_)
      refine T_region ?_
      refine L_val _ _ (X_add rfl rfl (by omega) (by omega)) rfl ?_
      refine L_val _ _ (X_move) rfl ?_
      refine L_nil ?_
      refine ih3 _ _ _ (by omega) ⟨j + 1, v10, rfl, by omega, rfl, b10, j10, ?_⟩
      rw [List.take_succ_eq_append_getElem hlt3, List.map_append]
      exact o10
    · have hge : ¬ j < g.needs.length := by simpa [cmpB] using hf3
      obtain rfl : j = g.needs.length := by omega
      rw [List.take_of_length_le (Nat.le_refl _)] at o8
      obtain ⟨na', nc', rfl, _, _⟩ := owns_val o8
      have kz4 := below_blk bz k4 y4
      have kz5 := below_blk bz k5 y5
      have hoz := LegsOwn.below bz hko
      have hz5 := kz5.lt
      have hz4 := kz4.lt
      refine T_exit rfl ?_
      have hG : (⟨g.id, g.chain, g.tx, g.needs, na', nc'⟩ : Leg).data = g.data := rfl
      refine T_region ?_
      refine L_val _ _ (X_field F28_0 rfl) rfl ?_
      refine L_val _ _ (X_load A26 rfl (kz5.cell 0)) rfl ?_
      refine L_val _ _ (X_field F62_0 rfl) rfl ?_
      refine L_val _ _ (X_load A59 rfl (leg_blk j7 0 rfl)) rfl ?_
      refine L_val _ _ (X_field F62_1 rfl) rfl ?_
      refine L_val _ _ (X_load A25 rfl (leg_blk j7 (0 + 1) rfl)) rfl ?_
      refine L_val _ _ (X_field F62_2 rfl) rfl ?_
      refine L_val _ _ (X_loadAgg g.tx.cells A39 S39 (Tx.cells_length _) rfl (fun j v hv => leg_blk j7 (0 + 2 + j) (leg_tx _ hv))) rfl ?_
      refine L_val _ _ (X_move) rfl ?_
      refine L_val _ _ (X_build (.agg (⟨g.id, g.chain, g.tx, g.needs, na', nc'⟩ : Leg).cells.toArray) (by kernel_rfl)) rfl ?_
      refine L_buildSlice (⟨g.id, g.chain, g.tx, g.needs, na', nc'⟩ : Leg).cells.toArray 62 (by kernel_rfl) rfl fun w9 h9 => ?_
      refine L_append1 x.heap.size (.slice ka ks.length kc) ks.length ((ks.map Leg.cells).flatten) z.heap.size (⟨g.id, g.chain, g.tx, g.needs, na', nc'⟩ : Leg).cells Try.underlying26 I62 rfl (by decide) rfl (owns_new h9 hoz.own) rfl (Leg.cells_length _) h9.new (Leg.cells_one _) (by simp only [maxLen]; omega) (by omega) (by have := h9.size; omega) rfl fun v11 w11 o11 g11 => ?_
      obtain ⟨ka', kc', rfl, _, _⟩ := owns_val o11
      refine L_val _ _ (X_field F28_0 rfl) rfl ?_
      refine L_store (.slice ka' (ks.length + 1) kc') S26 rfl rfl rfl (grown_blk_ty (owns_new h9 hoz.own) g11 (h9.blk kz5 (by omega)) (by decide)) (by simp) fun w12 h12 => ?_
      refine L_nil ?_
      have o9 := owns_new h9 hoz.own
      have kk5 := grown_blk_ty o9 g11 (h9.blk kz5 (by omega)) (by decide)
      have kk4 := grown_blk_ty o9 g11 (h9.blk kz4 (by omega)) (by decide)
      have t9 := h9.size
      have t11 := g11.size
      have tz := bz.size
      have ty := by_.size
      have bxz : Below x.heap.size x z := by_.trans (bz.mono ty)
      have bx12 : Below x.heap.size x w12 := h12.below (grown_below (h9.below bxz (by omega)) o9 g11 (by omega) (Nat.le_refl _)) (by omega)
      repeat (first | refine T_seq ?_ | refine T_block ?_ | refine T_inBlock ?_ | refine T_skip ?_)
      refine T_region ?_
      refine L_val _ _ (X_add rfl rfl (by omega) (by omega)) rfl ?_
      refine L_val _ _ (X_move) rfl ?_
      refine L_nil ?_
      refine ih2 _ _ _ (by omega) ⟨ks.length + 1, rfl, by omega, rfl, bx12, h12.blk kk4 (by omega), ka', kc', ks ++ [⟨g.id, g.chain, g.tx, g.needs, na', nc'⟩], h12.new, by simp, ⟨?_, ?_⟩, ?_⟩
      · have e := owns_chg h12 (.inl kk5) (by decide) o11
        simpa using e
      · intro u hu
        simp only [List.mem_append, List.mem_singleton] at hu
        refine owns_chg h12 (.inl kk5) (by decide) (owns_grown o9 g11 (by decide) (owns_new h9 ?_))
        rcases hu with hu | rfl
        · exact hoz.needs u hu
        · exact owns_base ty o8
      · rw [hdat, List.map_append, hkd]
        rfl
  · have hge : ¬ ks.length < X.legs.length := by simpa [cmpB] using hf2
    have hkl : ks.length = X.legs.length := by omega
    rw [hkl, List.take_of_length_le (Nat.le_refl _)] at hkd
    refine T_exit rfl ?_
    have hkp : ∀ g ∈ X.legs, g.needs.length ≤ 65537 := fun g hg => Nat.le_succ_of_le (hsx.needs g hg)
    repeat (first | refine T_seq ?_ | refine T_block ?_ | refine T_inBlock ?_ | refine T_skip ?_)
    refine T_region ?_
    refine L_val _ _ (X_field F43_2 rfl) rfl ?_
    refine L_val _ _ (X_loadAgg [.slice X.la X.legs.length X.lc] A28 S28 rfl rfl (by intro j v hj; exact op_blk k4 (0 + 2 + j) (op_legs X hj))) rfl ?_
    refine L_callF [.agg #[.slice X.la X.legs.length X.lc]] E20 rfl rfl (copy_ret X.la X.lc X.legs y hly hnx hnnx hLl hkp) ?_
    rintro v w6 ⟨a', c', gs', rfl, hgd, hnn', hco, bc⟩
    refine L_alloc Z28 rfl fun w7 h7 => ?_
    refine L_storeAll [.slice a' X.legs.length c'] S28 rfl rfl rfl (by simp [Value.oneCell']) h7.new rfl fun w8 h8 => ?_
    refine L_nil ?_
    have h78 := h7.trans h8
    have hgl : gs'.length = X.legs.length := by have := congrArg List.length hgd; simpa using this
    have sy := by_.size
    have s6 := bc.size
    have s8 := h78.size
    have z8 := h78.lt
    have b8 : Below y.heap.size y w8 := h78.below bc s6
    have k11 : Blk w8 w6.heap.size #[.slice a' X.legs.length c'] 28 := h78.new
    have hco8 : LegsOwn w8 y.heap.size a' c' gs' := ⟨owns_new h78 hco.own, fun u hu => owns_new h78 (hco.needs u hu)⟩
    have k48 := below_blk b8 k4 y4
    have hly8 := hly.keep (keeps_below b8)
    clear h7 h8 h78 hco
    generalize w6.heap.size = B11 at *
    have hnX : ∀ g ∈ X.legs, g.needs.length < 1000000 := fun g hg => Nat.lt_of_le_of_lt (hsx.needs g hg) (by decide)
    have hsame : Ret Try.prog 22 #[.agg #[.slice a' X.legs.length c'], .agg #[.slice X.la X.legs.length X.lc]] w8 fun v w' => v = .bool true ∧ Below w8.heap.size w8 w' := by
      have e := same_ret a' X.la c' X.lc gs' X.legs w8 hco8.legs hly8 hgd (by omega) (data_needs hgd hnX)
      rw [hgl] at e
      exact e
    repeat (first | refine T_seq ?_ | refine T_block ?_ | refine T_inBlock ?_ | refine T_skip ?_)
    refine T_region ?_
    refine L_val _ _ (X_loadAgg [.slice a' X.legs.length c'] A28 S28 rfl rfl (agg1 k11)) rfl ?_
    refine L_val _ _ (X_field F43_2 rfl) rfl ?_
    refine L_val _ _ (X_loadAgg [.slice X.la X.legs.length X.lc] A28 S28 rfl rfl (by intro j v hj; exact op_blk k48 (0 + 2 + j) (op_legs X hj))) rfl ?_
    refine L_callF [.agg #[.slice a' X.legs.length c'], .agg #[.slice X.la X.legs.length X.lc]] E22 rfl rfl hsame ?_
    rintro v w9 ⟨rfl, b9⟩
    refine L_val _ _ (X_not rfl) rfl ?_
    refine L_val _ _ (X_move) rfl ?_
    refine L_guard rfl rfl rfl ?_
    refine L_val _ _ (X_field F28_0 rfl) rfl ?_
    refine L_guard rfl rfl rfl ?_
    refine L_val _ _ (X_load A26 rfl ((below_blk b9 k11 k11.lt).cell 0)) rfl ?_
    refine L_guard rfl rfl rfl ?_
    refine L_val _ _ (X_eqNil U26 rfl) rfl ?_
    refine L_guard rfl rfl rfl ?_
    refine L_val _ _ (X_field F43_2 rfl) rfl ?_
    refine L_guard rfl rfl rfl ?_
    refine L_val _ _ (X_field F28_0 rfl) rfl ?_
    refine L_guard rfl rfl rfl ?_
    refine L_val _ _ (X_load A26 rfl (op_blk (below_blk b9 k48 k48.lt) (0 + 2) rfl)) rfl ?_
    refine L_guard rfl rfl rfl ?_
    refine L_val _ _ (X_eqNil U26 rfl) rfl ?_
    refine L_guard rfl rfl rfl ?_
    refine L_val (.bool false) w9 ((X_neqB U4 rfl rfl).trans (by rw [hnn']; simp)) rfl ?_
    refine L_val _ _ (X_pick rfl) rfl ?_
    refine L_nil ?_
    refine T_false rfl ?_
    have k119 := below_blk b9 k11 k11.lt
    have k49 := below_blk b9 k48 k48.lt
    have s9 := b9.size
    have bq : Below y.heap.size y w9 := b8.trans (b9.mono (by omega))
    have hco9 := LegsOwn.below b9 hco8
    have hB11 : y.heap.size ≤ B11 := s6
    clear hsame b9 k11 k48 hco8 b8
    repeat (first | refine T_seq ?_ | refine T_block ?_ | refine T_inBlock ?_ | refine T_skip ?_)
    refine T_region ?_
    refine L_val _ _ (X_field F28_0 rfl) rfl ?_
    refine L_val _ _ (X_load A26 rfl (k119.cell 0)) rfl ?_
    refine L_val _ _ (X_lenS U26 rfl) rfl ?_
    refine L_val _ _ (X_move) rfl ?_
    refine L_nil ?_
    repeat (first | refine T_seq ?_ | refine T_block ?_ | refine T_inBlock ?_ | refine T_skip ?_)
    -- the copy is written over
    refine T_loopS [80, 79, 11, 5, 4, 19, 18, 17] (fun m vs z => ∃ t : Nat, vs = [.int .i64 t, .int .i64 X.legs.length, .pointer (some ⟨B11, 0, none⟩), .pointer (some ⟨B5, 0, none⟩), .pointer (some ⟨x.heap.size, 0, none⟩), .int .i64 i, .int .i64 xs.length, .slice (some ⟨p, q, none⟩) xs.length c] ∧ t ≤ X.legs.length ∧ m = X.legs.length - t ∧
      Below y.heap.size y z ∧ Blk z B11 #[.slice a' X.legs.length c'] 28 ∧ Cop z y.heap.size a' c' (gs'.map Leg.hdr)) X.legs.length
      ⟨0, rfl, by omega, rfl, bq, k119, gs', hco9, rfl⟩ ?_
    clear k119 k49 bq hco9
    rintro m vs ρ4 z ⟨t, rfl, htl, rfl, bz, k11, hcop⟩ ih4
    have sz := bz.size
    repeat (first | refine T_seq ?_ | refine T_block ?_ | refine T_inBlock ?_ | refine T_skip ?_)
    refine T_region ?_
    refine L_val _ _ (X_cmp rfl rfl rfl) rfl ?_
    refine L_nil ?_
    repeat (first | refine T_seq ?_ | refine T_block ?_ | refine T_inBlock ?_ | refine T_skip ?_)
    refine T_if rfl (fun ht4 => ?_) (fun hf4 => ?_)
    · have hlt4 : t < X.legs.length := by simpa [cmpB] using ht4
      obtain ⟨ls, hls, hh⟩ := hcop
      have hlsn : ls.length = X.legs.length := by have := congrArg List.length hh; simpa [hgl] using this
      obtain ⟨G, cur, rfl, hG, kG, hcs, -⟩ := owns_blk hls.own (by omega)
      rw [hlsn] at hcs
      have hcell : ∀ j u, ls[t].cells[j]? = some u → z.cell? ⟨G, 0 + t * 22 + j, none⟩ = some u := by
        obtain ⟨b, o, hbo, _, hcc⟩ := hls.legs.at (i := t) (g := ls[t]) (by simp)
        simp only [Option.some.injEq, Addr.mk.injEq, and_true] at hbo
        obtain ⟨rfl, rfl⟩ := hbo
        exact hcc
      have hGB : G ≠ B11 := fun e => by subst e; unfold Blk at *; rw [kG] at k11; simp at k11
      repeat (first | refine T_seq ?_ | refine T_block ?_ | refine T_inBlock ?_ | refine T_skip ?_)
      refine T_region ?_
      refine L_val _ _ (X_move) rfl ?_
      refine L_val _ _ (X_assign) rfl ?_
      refine L_nil ?_
      repeat (first | refine T_seq ?_ | refine T_block ?_ | refine T_inBlock ?_ | refine T_skip ?_)
      refine T_region ?_
      refine L_val _ _ (X_field F28_0 rfl) rfl ?_
      refine L_val _ _ (X_load A26 rfl (k11.cell 0)) rfl ?_
      refine L_val _ _ (X_move) rfl ?_
      refine L_val _ _ (X_index U26 S62 rfl rfl hlt4) rfl ?_
      refine L_val _ _ (X_field F62_0 rfl) rfl ?_
      refine L_val _ _ (X_load A59 rfl (hcell 0 _ rfl)) rfl ?_
      refine L_val _ _ (X_ar rfl rfl rfl) rfl ?_
      refine L_val _ _ (X_index U26 S62 rfl rfl hlt4) rfl ?_
      refine L_val _ _ (X_field F62_0 rfl) rfl ?_
      refine L_store (.int .u8 (IntKind.u8.wrap (arB .add ls[t].id 1))) S59 rfl rfl rfl kG (by omega) fun y1 c1 => ?_
      refine L_nil ?_
      obtain ⟨hl1, hh1⟩ := legs_set (i := t) (j := 0) { ls[t] with id := IntKind.u8.wrap (arB .add ls[t].id 1) } (by omega) hls (by omega) (by decide) kG c1 rfl rfl rfl
      have bz1 := c1.below bz hG
      have k111 := c1.blk k11 (Ne.symm hGB)
      generalize hL1 : ls.set t { ls[t] with id := IntKind.u8.wrap (arB .add ls[t].id 1) } = ls1 at hl1 hh1
      have hlsn1 : ls1.length = X.legs.length := by have := congrArg List.length hh1; simpa [hlsn] using this
      obtain ⟨G', cur1, hG1, -, kG1, hcs1, -⟩ := owns_blk hl1.own (by omega)
      simp only [Option.some.injEq, Addr.mk.injEq, and_true] at hG1
      subst hG1
      rw [hlsn1] at hcs1
      have hcell1 : ∀ j u, ls1[t].cells[j]? = some u → y1.cell? ⟨G, 0 + t * 22 + j, none⟩ = some u := by
        obtain ⟨b, o, hbo, _, hcc⟩ := hl1.legs.at (i := t) (g := ls1[t]) (by simp)
        simp only [Option.some.injEq, Addr.mk.injEq, and_true] at hbo
        obtain ⟨rfl, rfl⟩ := hbo
        exact hcc
      repeat (first | refine T_seq ?_ | refine T_block ?_ | refine T_inBlock ?_ | refine T_skip ?_)
      refine T_region ?_
      refine L_val _ _ (X_field F28_0 rfl) rfl ?_
      refine L_val _ _ (X_load A26 rfl (k111.cell 0)) rfl ?_
      refine L_val _ _ (X_move) rfl ?_
      refine L_val _ _ (X_index U26 S62 rfl rfl hlt4) rfl ?_
      refine L_val _ _ (X_field F62_2 rfl) rfl ?_
      refine L_val _ _ (X_field F39_3 rfl) rfl ?_
      refine L_val _ _ (X_load A29 rfl (hcell1 5 _ rfl)) rfl ?_
      refine L_val _ _ (X_ar rfl rfl rfl) rfl ?_
      refine L_val _ _ (X_index U26 S62 rfl rfl hlt4) rfl ?_
      refine L_val _ _ (X_field F62_2 rfl) rfl ?_
      refine L_val _ _ (X_field F39_3 rfl) rfl ?_
      refine L_store (.int .u64 (IntKind.u64.wrap (arB .add ls1[t].tx.nonce 1))) S29 rfl rfl rfl kG1 (by omega) fun y2 c2 => ?_
      refine L_nil ?_
      obtain ⟨hl2, hh2⟩ := legs_set (i := t) (j := 5) { ls1[t] with tx := { ls1[t].tx with nonce := IntKind.u64.wrap (arB .add ls1[t].tx.nonce 1) } } (by omega) hl1 (by omega) (by decide) kG1 c2 rfl rfl rfl
      have bz2 := c2.below bz1 hG
      have k112 := c2.blk k111 (Ne.symm hGB)
      generalize hL2 : ls1.set t { ls1[t] with tx := { ls1[t].tx with nonce := IntKind.u64.wrap (arB .add ls1[t].tx.nonce 1) } } = ls2 at hl2 hh2
      have hlsn2 : ls2.length = X.legs.length := by have := congrArg List.length hh2; simpa [hlsn1] using this
      have hcell2 : ∀ j u, ls2[t].cells[j]? = some u → y2.cell? ⟨G, 0 + t * 22 + j, none⟩ = some u := by
        obtain ⟨b, o, hbo, _, hcc⟩ := hl2.legs.at (i := t) (g := ls2[t]) (by simp)
        simp only [Option.some.injEq, Addr.mk.injEq, and_true] at hbo
        obtain ⟨rfl, rfl⟩ := hbo
        exact hcc
      have hH : ls2.map Leg.hdr = gs'.map Leg.hdr := (hh2.trans hh1).trans hh
      have hnl : ls2[t].needs.length < 1000000 := by
        have h1 : gs'[t].hdr = ls2[t].hdr := by
          have := congrArg (fun l => l[t]?) hH
          simp only [List.getElem?_map, List.getElem?_eq_getElem (show t < ls2.length by omega), List.getElem?_eq_getElem (show t < gs'.length by omega), Option.map_some, Option.some.injEq] at this
          exact this.symm
        have h2 : gs'[t].needs.length = ls2[t].needs.length := congrArg (fun d => d.2.1) h1
        rw [← h2]
        exact data_needs hgd hnX gs'[t] (by simp)
      repeat (first | refine T_seq ?_ | refine T_block ?_ | refine T_inBlock ?_ | refine T_skip ?_)
      refine T_region ?_
      refine L_val _ _ (X_field F28_0 rfl) rfl ?_
      refine L_val _ _ (X_load A26 rfl (k112.cell 0)) rfl ?_
      refine L_val _ _ (X_move) rfl ?_
      refine L_val _ _ (X_index U26 S62 rfl rfl hlt4) rfl ?_
      refine L_val _ _ (X_field F62_3 rfl) rfl ?_
      refine L_val _ _ (X_load A60 rfl (hcell2 21 _ rfl)) rfl ?_
      refine L_val _ _ (X_lenS U60 rfl) rfl ?_
      refine L_val _ _ (X_move) rfl ?_
      refine L_nil ?_
      repeat (first | refine T_seq ?_ | refine T_block ?_ | refine T_inBlock ?_ | refine T_skip ?_)
      generalize hnn5 : ls2[t].needs.length = nn at *
      generalize hna5 : ls2[t].na = na at *
      generalize hnc5 : ls2[t].nc = nc at *
      refine T_loopS [110, 109, 12, 80, 79, 11, 5, 4, 19, 18, 17] (fun m vs u => ∃ j : Nat, vs = [.int .i64 j, .int .i64 nn, .int .i64 t, .int .i64 t, .int .i64 X.legs.length, .pointer (some ⟨B11, 0, none⟩), .pointer (some ⟨B5, 0, none⟩), .pointer (some ⟨x.heap.size, 0, none⟩), .int .i64 i, .int .i64 xs.length, .slice (some ⟨p, q, none⟩) xs.length c] ∧ j ≤ nn ∧ m = nn - j ∧
        Below y.heap.size y u ∧ Blk u B11 #[.slice (some ⟨G, 0, none⟩) X.legs.length c'] 28 ∧ Cop u y.heap.size (some ⟨G, 0, none⟩) c' (ls2.map Leg.hdr)) nn
        ⟨0, rfl, by omega, rfl, bz2, k112, ls2, hl2, rfl⟩ ?_
      rintro m vs ρ5 u ⟨j, rfl, hj, rfl, bu, k11u, ⟨lu, hlu, hhu⟩⟩ ih5
      repeat (first | refine T_seq ?_ | refine T_block ?_ | refine T_inBlock ?_ | refine T_skip ?_)
      refine T_region ?_
      refine L_val _ _ (X_cmp rfl rfl rfl) rfl ?_
      refine L_nil ?_
      repeat (first | refine T_seq ?_ | refine T_block ?_ | refine T_inBlock ?_ | refine T_skip ?_)
      refine T_if rfl (fun ht5 => ?_) (fun hf5 => ?_)
      · have hlt5 : j < nn := by simpa [cmpB] using ht5
        have hlun : lu.length = X.legs.length := by have := congrArg List.length hhu; simpa [hlsn2] using this
        have hhd : lu[t].hdr = ls2[t].hdr := by
          have := congrArg (fun l => l[t]?) hhu
          simp only [List.getElem?_map, List.getElem?_eq_getElem (show t < ls2.length by omega), List.getElem?_eq_getElem (show t < lu.length by omega), Option.map_some, Option.some.injEq] at this
          exact this
        have hhd1 : lu[t].na = na := by rw [← hna5]; exact congrArg (fun d => d.1) hhd
        have hhd2 : lu[t].needs.length = nn := by rw [← hnn5]; exact congrArg (fun d => d.2.1) hhd
        have hhd3 : lu[t].nc = nc := by rw [← hnc5]; exact congrArg (fun d => d.2.2) hhd
        have hcellu : ∀ j v, lu[t].cells[j]? = some v → u.cell? ⟨G, 0 + t * 22 + j, none⟩ = some v := by
          obtain ⟨b, o, hbo, _, hcc⟩ := hlu.legs.at (i := t) (g := lu[t]) (by simp)
          simp only [Option.some.injEq, Addr.mk.injEq, and_true] at hbo
          obtain ⟨rfl, rfl⟩ := hbo
          exact hcc
        have hno : NeedsOwn u y.heap.size lu[t] := hlu.needs lu[t] (by simp)
        obtain ⟨h, curh, hnh, hh0, kh, hch, -, -, -, hth⟩ := owns_blk hno (by omega)
        have hcn : u.cell? ⟨h, 0 + j * 1, none⟩ = some (.int .u8 lu[t].needs[j]) := by
          have e := hno.arr.cell j [.int .u8 lu[t].needs[j]] (by simp [ints, hhd2, hlt5])
          obtain ⟨b, o, hbo, _, hcc⟩ := e
          rw [hnh] at hbo
          simp only [Option.some.injEq, Addr.mk.injEq, and_true] at hbo
          obtain ⟨rfl, rfl⟩ := hbo
          exact hcc 0 _ rfl
        have hc21 := hcellu 21 _ rfl
        rw [hhd2, hhd3, hnh] at hc21
        have hhB : h ≠ B11 := fun e => by subst e; unfold Blk at *; rw [kh] at k11u; simp at k11u
        repeat (first | refine T_seq ?_ | refine T_block ?_ | refine T_inBlock ?_ | refine T_skip ?_)
        refine T_region ?_
        refine L_val _ _ (X_move) rfl ?_
        refine L_val _ _ (X_assign) rfl ?_
        refine L_nil ?_
        repeat (first | refine T_seq ?_ | refine T_block ?_ | refine T_inBlock ?_ | refine T_skip ?_)
        refine T_region ?_
        refine L_val _ _ (X_field F28_0 rfl) rfl ?_
        refine L_val _ _ (X_load A26 rfl (k11u.cell 0)) rfl ?_
        refine L_val _ _ (X_move) rfl ?_
        refine L_val _ _ (X_index U26 S62 rfl rfl hlt4) rfl ?_
        refine L_val _ _ (X_field F62_3 rfl) rfl ?_
        refine L_val _ _ (X_load A60 rfl (hc21)) rfl ?_
        refine L_val _ _ (X_move) rfl ?_
        refine L_val _ _ (X_index U60 S59 rfl rfl hlt5) rfl ?_
        refine L_val _ _ (X_load A59 rfl (hcn)) rfl ?_
        refine L_val _ _ (X_ar rfl rfl rfl) rfl ?_
        refine L_val _ _ (X_index U60 S59 rfl rfl hlt5) rfl ?_
        refine L_store (.int .u8 (IntKind.u8.wrap (arB .add lu[t].needs[j] 1))) S59 rfl rfl rfl kh (by omega) fun y3 c3 => ?_
        refine L_nil ?_
        obtain ⟨l3, hl3, hh3⟩ := needs_set hlu kh c3
        repeat (first | refine T_seq ?_ | refine T_block ?_ | refine T_inBlock ?_ | refine T_skip ?_)
        refine T_region ?_
        refine L_val _ _ (X_add rfl rfl (by omega) (by omega)) rfl ?_
        refine L_val _ _ (X_move) rfl ?_
        refine L_nil ?_
        exact ih5 _ _ _ (by omega) ⟨j + 1, rfl, by omega, rfl, c3.below bu hh0, c3.blk k11u (Ne.symm hhB), l3, hl3, hh3.trans hhu⟩
      · refine T_exit rfl ?_
        repeat (first | refine T_seq ?_ | refine T_block ?_ | refine T_inBlock ?_ | refine T_skip ?_)
        refine T_region ?_
        refine L_val _ _ (X_add rfl rfl (by omega) (by omega)) rfl ?_
        refine L_val _ _ (X_move) rfl ?_
        refine L_nil ?_
        exact ih4 _ _ _ (by omega) ⟨t + 1, rfl, by omega, rfl, bu, k11u, lu, hlu, hhu.trans hH⟩
    · refine T_exit rfl ?_
      have k5z := below_blk bz k5 y5
      have k4z := below_blk bz k4 y4
      have hkoz := LegsOwn.below bz hko
      have hlyz := hly.keep (keeps_below bz)
      have hsame := same_ret ka X.la kc X.lc ks X.legs z hkoz.legs hlyz hkd (by omega) (data_needs hkd hnX)
      repeat (first | refine T_seq ?_ | refine T_block ?_ | refine T_inBlock ?_ | refine T_skip ?_)
      refine T_region ?_
      refine L_val _ _ (X_loadAgg [.slice ka ks.length kc] A28 S28 rfl rfl (agg1 k5z)) rfl ?_
      refine L_val _ _ (X_field F43_2 rfl) rfl ?_
      refine L_val _ _ (X_loadAgg [.slice X.la X.legs.length X.lc] A28 S28 rfl rfl (by intro j v hj; exact op_blk k4z (0 + 2 + j) (op_legs X hj))) rfl ?_
      refine L_callF [.agg #[.slice ka ks.length kc], .agg #[.slice X.la X.legs.length X.lc]] E22 rfl rfl hsame ?_
      rintro v w9 ⟨rfl, b9⟩
      refine L_val _ _ (X_not rfl) rfl ?_
      refine L_nil ?_
      refine T_false rfl ?_
      repeat (first | refine T_seq ?_ | refine T_block ?_ | refine T_inBlock ?_ | refine T_skip ?_)
      refine T_region ?_
      refine L_val _ _ (X_add rfl rfl (by omega) (by omega)) rfl ?_
      refine L_val _ _ (X_move) rfl ?_
      refine L_nil ?_
      have b9' : Below w1.heap.size w1 w9 := bx.trans ((by_.trans ((bz.trans (b9.mono sz)).mono sy)).mono sx)
      exact ih _ _ _ (by omega) ⟨i + 1, rfl, by omega, rfl, b9'⟩
end Go.Proofs.Qxb6500865a
