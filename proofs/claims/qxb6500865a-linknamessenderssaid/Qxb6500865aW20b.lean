/-
  Copy once more: no two legs of the copy share their needs.
-/
import Derived.Test.Qxb6500865aW20
import Derived.Deep.Onto
namespace Go.Proofs.Qxb6500865a
set_option linter.unusedSimpArgs false
set_option linter.unusedVariables false
open Go.RowKit

/-- No two legs' needs lie in one block. -/
def Apart (gs : List Leg) : Prop := ∀ (i j : Nat) (g h : Leg), gs[i]? = some g → gs[j]? = some h → i ≠ j → ∀ a, g.na = some a → h.na ≠ some a
theorem NeedsOwn.lt {w : World} {base : Nat} {g : Leg} (h : NeedsOwn w base g) : ∀ a, g.na = some a → ∃ b, a = ⟨b, 0, none⟩ ∧ base ≤ b ∧ b < w.heap.size := by
  unfold NeedsOwn at h
  obtain ⟨a', c', hv, _, hz⟩ := owns_val h
  simp only [Value.slice.injEq] at hv
  obtain ⟨rfl, -, rfl⟩ := hv
  exact hz
theorem Apart.snoc {gs : List Leg} {g : Leg} (h : Apart gs) (hn : ∀ u ∈ gs, ∀ a, u.na = some a → g.na ≠ some a) : Apart (gs ++ [g]) := by
  intro i j u v hu hv hij a ha hva
  rw [List.getElem?_append] at hu hv
  split at hu
  · split at hv
    · exact h i j u v hu hv hij a ha hva
    · obtain ⟨h1, h2⟩ := List.getElem?_eq_some_iff.1 hv
      simp at h1
      subst h2
      exact hn u (List.mem_of_getElem? hu) a ha (by simpa using hva)
  · split at hv
    · obtain ⟨h1, h2⟩ := List.getElem?_eq_some_iff.1 hu
      simp at h1
      subst h2
      exact hn v (List.mem_of_getElem? hv) a hva (by simpa using ha)
    · obtain ⟨h1, h2⟩ := List.getElem?_eq_some_iff.1 hu
      obtain ⟨h3, h4⟩ := List.getElem?_eq_some_iff.1 hv
      simp at h1 h3
      omega
set_option maxRecDepth 10000 in
/-- bundle.Copy -/
theorem copy_ret2 (a : Option Addr) (c : Nat) (gs : List Leg) (w : World) (hl : Legs w a gs) (hnil : a = none → gs.length = 0) (hnn : ∀ g ∈ gs, g.na = none → g.needs.length = 0 ∧ g.nc = 0) (hn : gs.length ≤ 65536) (hsm : ∀ g ∈ gs, g.needs.length ≤ 65537) :
    Ret Try.prog 20 #[.agg #[.slice a gs.length c]] w fun v w' => ∃ a' c' gs', v = .agg #[.slice a' gs.length c'] ∧ gs'.map Leg.data = gs.map Leg.data ∧ (a'.isNone = a.isNone) ∧ LegsOwn w' w.heap.size a' c' gs' ∧ Below w.heap.size w w' ∧ Apart gs' := by
  refine ret_of_T (vs := [.agg #[.slice a gs.length c]]) Try.func20 Try.ntmps20 rfl (Nat.le_of_ble_eq_true rfl) ?_
  repeat (first | refine T_seq ?_ | refine T_block ?_ | refine T_inBlock ?_ | refine T_skip ?_)
  refine T_region ?_
  refine L_box rfl fun w1 h1 => ?_
  refine L_alloc Z28 rfl fun w2 h2 => ?_
  refine L_nil ?_
  repeat (first | refine T_seq ?_ | refine T_block ?_ | refine T_inBlock ?_ | refine T_skip ?_)
  refine T_region ?_
  refine L_val _ _ (X_build (.agg #[.slice none 0 0]) (by kernel_rfl)) rfl ?_
  refine L_alloc Z28 rfl fun w3 h3 => ?_
  refine L_storeAll [.slice none 0 0] S28 rfl rfl rfl (by simp [Value.oneCell']) h3.new rfl fun w4 h4 => ?_
  refine L_nil ?_
  have h34 := h3.trans h4
  have z1 := h1.lt
  have z2 := h2.lt
  have z4 := h34.lt
  have s1 := h1.size
  have s2 := h2.size
  have s4 := h34.size
  have bw : Below w.heap.size w w4 := h34.below (h2.below (h1.below (Below.refl _ _) (Nat.le_refl _)) s1) (by omega)
  have k1 : Blk w4 w.heap.size #[.slice a gs.length c] 28 := h34.blk (h2.blk h1.new (by omega)) (by omega)
  have k2 : Blk w4 w1.heap.size #[.slice none 0 0] 28 := h34.blk h2.new (by omega)
  have k3 : Blk w4 w2.heap.size #[.slice none 0 0] 28 := h34.new
  clear h1 h2 h3 h4 h34 w3
  generalize w1.heap.size = B1 at *
  generalize w2.heap.size = B2 at *
  repeat (first | refine T_seq ?_ | refine T_block ?_ | refine T_inBlock ?_ | refine T_skip ?_)
  refine T_region ?_
  refine L_val _ _ (X_field F28_0 rfl) rfl ?_
  refine L_val _ _ (X_load A26 rfl (k1.cell 0)) rfl ?_
  refine L_val _ _ (X_neqNil U26 rfl) rfl ?_
  refine L_nil ?_
  cases a with
  | none =>
    have hz := hnil rfl
    have hg0 : gs = [] := List.eq_nil_of_length_eq_zero hz
    subst hg0
    refine T_false rfl ?_
    repeat (first | refine T_seq ?_ | refine T_block ?_ | refine T_inBlock ?_ | refine T_skip ?_)
    refine T_region ?_
    refine L_val _ _ (X_field F28_0 rfl) rfl ?_
    refine L_val _ _ (X_load A26 rfl (k1.cell 0)) rfl ?_
    refine L_val _ _ (X_lenS U26 rfl) rfl ?_
    refine L_val _ _ (X_move) rfl ?_
    refine L_nil ?_
    repeat (first | refine T_seq ?_ | refine T_block ?_ | refine T_inBlock ?_ | refine T_skip ?_)
    refine T_loopS [18, 17, 3, 2] (fun m vs x => vs = [.int .i64 0, .int .i64 0, .pointer (some ⟨B2, 0, none⟩), .pointer (some ⟨B1, 0, none⟩)] ∧ x = w4) 0 ⟨rfl, rfl⟩ ?_
    rintro m vs ρ x ⟨rfl, rfl⟩ _
    repeat (first | refine T_seq ?_ | refine T_block ?_ | refine T_inBlock ?_ | refine T_skip ?_)
    refine T_region ?_
    refine L_val _ _ (X_cmp rfl rfl rfl) rfl ?_
    refine L_nil ?_
    repeat (first | refine T_seq ?_ | refine T_block ?_ | refine T_inBlock ?_ | refine T_skip ?_)
    refine T_false rfl ?_
    refine T_exit rfl ?_
    repeat (first | refine T_seq ?_ | refine T_block ?_ | refine T_inBlock ?_ | refine T_skip ?_)
    refine T_region ?_
    refine L_val _ _ (X_loadAgg [.slice none 0 0] A28 S28 rfl rfl (by intro j v hj; rw [k3.cell]; simpa using hj)) rfl ?_
    refine L_storeAll [.slice none 0 0] S28 rfl rfl rfl (by simp [Value.oneCell']) k2 rfl fun w5 h5 => ?_
    refine L_nil ?_
    refine T_retC [.slice none 0 0] Try.func20 rfl A28 S28 rfl rfl (by intro j v hj; rw [Nat.zero_add, h5.new.cell]; simpa using hj) ⟨none, 0, [], rfl, rfl, rfl, ⟨?_, by simp⟩, h5.below bw (by omega), by intro i j g h hi; simp at hi⟩
    exact World.ownsRow_nil _ _ _ _
  | some ad =>
    refine T_true rfl ?_
    refine T_region ?_
    refine L_val _ _ (X_field F28_0 rfl) rfl ?_
    refine L_val _ _ (X_load A26 rfl (k1.cell 0)) rfl ?_
    refine L_val _ _ (X_lenS U26 rfl) rfl ?_
    refine L_make Try.underlying26 I62 rfl rfl (Nat.le_refl _) (by omega) (by simp only [maxLen]; omega) rfl fun w5 h5 => ?_
    refine L_val _ _ (X_field F28_0 rfl) rfl ?_
    refine L_store (.slice (some ⟨w4.heap.size, 0, none⟩) gs.length gs.length) S26 rfl rfl rfl (h5.blk k3 (by have := k3.lt; omega)) (by simp) fun w6 h6 => ?_
    refine L_nil ?_
    have z3 := k3.lt
    have z2' := k2.lt
    have z5 := h5.lt
    have s5 := h5.size
    have s6 := h6.size
    have bz := bw.size
    have bw6 : Below w.heap.size w w6 := h6.below (h5.below bw bz) (by omega)
    have q1 : Blk w6 w.heap.size #[.slice (some ad) gs.length c] 28 := h6.blk (h5.blk k1 (by have := k1.lt; omega)) (by omega)
    have q2 : Blk w6 B1 #[.slice none 0 0] 28 := h6.blk (h5.blk k2 (by omega)) (by omega)
    have q3 : Blk w6 B2 #[.slice (some ⟨w4.heap.size, 0, none⟩) gs.length gs.length] 28 := h6.new
    have q4 : Blk w6 w4.heap.size (madeCells (Value.cells _) (gs.length * 22)) 62 := h6.blk h5.new (by omega)
    generalize hm : madeCells (Value.cells _) (gs.length * 22) = mc at q4
    have hmc : mc.size = gs.length * 22 := by rw [← hm]; exact size_madeCells _ _
    clear h5 h6 hm k1 k2 k3
    have hG0 : w.heap.size ≤ w4.heap.size := bz
    generalize w4.heap.size = G at *
    repeat (first | refine T_seq ?_ | refine T_block ?_ | refine T_inBlock ?_ | refine T_skip ?_)
    refine T_region ?_
    refine L_val _ _ (X_field F28_0 rfl) rfl ?_
    refine L_val _ _ (X_load A26 rfl (q1.cell 0)) rfl ?_
    refine L_val _ _ (X_lenS U26 rfl) rfl ?_
    refine L_val _ _ (X_move) rfl ?_
    refine L_nil ?_
    repeat (first | refine T_seq ?_ | refine T_block ?_ | refine T_inBlock ?_ | refine T_skip ?_)
    refine T_loopS [18, 17, 16, 3, 2] (fun m vs x => ∃ i : Nat, vs = [.int .i64 i, .int .i64 gs.length, .slice (some ad) gs.length c, .pointer (some ⟨B2, 0, none⟩), .pointer (some ⟨B1, 0, none⟩)] ∧ i ≤ gs.length ∧ m = gs.length - i ∧ Below w.heap.size w x ∧
      Blk x B1 #[.slice none 0 0] 28 ∧ Blk x B2 #[.slice (some ⟨G, 0, none⟩) gs.length gs.length] 28 ∧ ∃ gs' tail, gs'.length = i ∧ gs'.map Leg.data = (gs.take i).map Leg.data ∧ (∀ g ∈ gs', NeedsOwn x w.heap.size g) ∧ Blk x G ((gs'.map Leg.cells).flatten ++ tail).toArray 62 ∧ tail.length = (gs.length - i) * 22 ∧ Apart gs') gs.length
      ⟨0, rfl, by omega, rfl, bw6, q2, q3, [], mc.toList, rfl, rfl, by simp, by simpa using q4, by simpa using hmc, by intro i j g h hi; simp at hi⟩ ?_
    clear q1 q2 q3 q4 bw6 hmc
    rintro m vs ρ x ⟨i, rfl, hi, rfl, bx, k2, k3, gs', tail, hg1, hg2, hg3, kG, htl, hap⟩ ih
    repeat (first | refine T_seq ?_ | refine T_block ?_ | refine T_inBlock ?_ | refine T_skip ?_)
    refine T_region ?_
    refine L_val _ _ (X_cmp rfl rfl rfl) rfl ?_
    refine L_nil ?_
    repeat (first | refine T_seq ?_ | refine T_block ?_ | refine T_inBlock ?_ | refine T_skip ?_)
    refine T_if rfl (fun ht => ?_) (fun hf => ?_)
    case refine_2 =>
      have hge : ¬ i < gs.length := by simpa [cmpB] using hf
      obtain rfl : i = gs.length := by omega
      have ht0 : tail = [] := List.eq_nil_of_length_eq_zero (by simpa using htl)
      subst ht0
      refine T_exit rfl ?_
      repeat (first | refine T_seq ?_ | refine T_block ?_ | refine T_inBlock ?_ | refine T_skip ?_)
      refine T_region ?_
      refine L_val _ _ (X_loadAgg [.slice (some ⟨G, 0, none⟩) gs.length gs.length] A28 S28 rfl rfl (by intro j v hj; rw [k3.cell]; simpa using hj)) rfl ?_
      refine L_storeAll [.slice (some ⟨G, 0, none⟩) gs.length gs.length] S28 rfl rfl rfl (by simp [Value.oneCell']) k2 rfl fun w5 h5 => ?_
      refine L_nil ?_
      refine T_retC [.slice (some ⟨G, 0, none⟩) gs.length gs.length] Try.func20 rfl A28 S28 rfl rfl (by intro j v hj; rw [Nat.zero_add, h5.new.cell]; simpa using hj) ⟨some ⟨G, 0, none⟩, gs.length, gs', rfl, by simpa using hg2, rfl, ⟨?_, ?_⟩, h5.below bx (by omega), hap⟩
      · have kG' := h5.blk kG (fun e => by subst e; unfold Blk at *; rw [kG] at k2; simp at k2)
        rw [hg1]
        have hlf : (gs'.map Leg.cells).flatten.length = gs.length * 22 := by
          rw [length_flatten (sz := 22) _ (by simp only [List.mem_map]; rintro cs ⟨g, _, rfl⟩; exact g.cells_length)]
          simp [hg1]
        refine ⟨hlf, .inr ⟨G, gs.length, _, rfl, hG0, kG', Nat.le_refl _, by simp only [maxLen]; omega, by simp [hlf], ?_⟩⟩
        simp only [List.append_nil, List.toList_toArray]
        exact List.take_of_length_le (by omega)
      · intro g hg
        exact owns_chg h5 (.inl k2) (by decide) (hg3 g hg)
    have hlt : i < gs.length := by simpa [cmpB] using ht
    have hlx := hl.keep (keeps_below bx)
    obtain ⟨p, q, hpq, hp, hc⟩ := hlx.at (i := i) (g := gs[i]) (by simp)
    have ho := hlx.ok gs[i] (by simp)
    have hs := hsm gs[i] (by simp)
    have hnz := hnn gs[i] (by simp)
    have hdat : (gs.take (i + 1)).map Leg.data = (gs.take i).map Leg.data ++ [gs[i].data] := by
      rw [List.take_succ_eq_append_getElem hlt, List.map_append]; rfl
    generalize gs[i] = g at *
    obtain rfl := Option.some.inj hpq
    repeat (first | refine T_seq ?_ | refine T_block ?_ | refine T_inBlock ?_ | refine T_skip ?_)
    refine T_region ?_
    refine L_val _ _ (X_move) rfl ?_
    refine L_val _ _ (X_index U26 S62 rfl rfl hlt) rfl ?_
    refine L_val _ _ (X_loadAgg g.cells A62 S62 (Leg.cells_length _) rfl hc) rfl ?_
    refine L_alloc Z62 rfl fun w5 h5 => ?_
    refine L_val _ _ (X_assign) rfl ?_
    refine L_storeAll g.cells S62 rfl rfl (Leg.cells_length _) (Leg.cells_one _) h5.new rfl fun w6 h6 => ?_
    refine L_nil ?_
    have h56 := h5.trans h6
    have y2 := k2.lt
    have y3 := k3.lt
    have yG := kG.lt
    have y6 := h56.lt
    have t6 := h56.size
    have bx6 : Below w.heap.size w w6 := h56.below bx bx.size
    have j2 := h56.blk k2 (by omega)
    have j3 := h56.blk k3 (by omega)
    have jG := h56.blk kG (by omega)
    have j5 : Blk w6 x.heap.size g.cells.toArray 62 := h56.new
    have hg36 : ∀ g ∈ gs', NeedsOwn w6 w.heap.size g := fun g hg => owns_new h56 (hg3 g hg)
    have ho6 := ho.keep (chg_keeps h56 (Nat.le_refl _))
    have hbx := bx.size
    clear h5 h6 h56 k2 k3 kG hg3
    generalize x.heap.size = X at *
    repeat (first | refine T_seq ?_ | refine T_block ?_ | refine T_inBlock ?_ | refine T_skip ?_)
    refine T_region ?_
    refine L_val _ _ (X_field F62_3 rfl) rfl ?_
    refine L_val _ _ (X_load A60 rfl (leg_blk j5 (0 + 21) rfl)) rfl ?_
    refine L_append w6.heap.size (.slice none 0 0) 0 [] g.na g.needs.length g.nc (g.needs.map (Value.int .u8)) Try.underlying60 I59 rfl (by decide) rfl (World.ownsRow_nil _ _ _ _) rfl (by simp) hnz (arr_src ho6) (ints_one _) (by simp only [maxLen]; omega) (by omega) (Nat.le_refl _) rfl fun v7 w7 o7 g7 => ?_
    obtain ⟨na', nc', rfl, hn7, ha7⟩ := owns_val o7
    refine L_val _ _ (X_field F62_3 rfl) rfl ?_
    refine L_store (.slice na' (0 + g.needs.length) nc') S60 rfl rfl rfl (grown_blk g7 j5 (by simp [Value.ownBlock])) (by simp [Leg.cells_length]) fun w8 h8 => ?_
    refine L_nil ?_
    have hX7 := (grown_blk g7 j5 (by simp [Value.ownBlock])).lt
    have t7 := g7.size
    have bx7 : Below w.heap.size w w7 := grown_below bx6 (World.ownsRow_nil w6 w.heap.size 59 1) g7 (by omega) (Nat.le_refl _)
    have bx8 : Below w.heap.size w w8 := h8.below bx7 (by omega)
    have l2 := h8.blk (grown_blk g7 j2 (by simp [Value.ownBlock])) (by omega)
    have l3 := h8.blk (grown_blk g7 j3 (by simp [Value.ownBlock])) (by omega)
    have lG := h8.blk (grown_blk g7 jG (by simp [Value.ownBlock])) (by omega)
    have l5 : Blk w8 X ({ g with na := na', nc := nc' } : Leg).cells.toArray 62 := by
      have e := h8.new
      rw [Nat.zero_add] at e
      have e2 := leg_set g na' nc'
      rw [show (0 + g.needs.length) = g.needs.length by omega] at e
      rw [e2] at e
      exact e
    have hg38 : ∀ g ∈ gs', NeedsOwn w8 w.heap.size g := fun g hg => owns_chg h8 (.inl (grown_blk g7 j5 (by simp [Value.ownBlock]))) (by decide) (owns_kept_none (hg36 g hg) g7)
    have hown8 : NeedsOwn w8 w.heap.size { g with na := na', nc := nc' } := by
      have e := (owns_chg h8 (.inl (grown_blk g7 j5 (by simp [Value.ownBlock]))) (by decide) o7).mono (show w.heap.size ≤ w6.heap.size by omega)
      simpa [NeedsOwn] using e
    have hfar : ∀ u ∈ gs', ∀ ad, u.na = some ad → na' ≠ some ad := fun u hu ad h1 h2 => by
      obtain ⟨b, e1, _, e2⟩ := (hg36 u hu).lt ad h1
      obtain ⟨b', e3, e4, _⟩ := ha7 ad h2
      have e5 : b = b' := congrArg Addr.block (e1.symm.trans e3)
      omega
    have hap8 : Apart (gs' ++ [{ g with na := na', nc := nc' }]) := hap.snoc hfar
    generalize hg8 : ({ g with na := na', nc := nc' } : Leg) = g8 at *
    have hd8 : g8.data = g.data := by rw [← hg8]; rfl
    clear h8 g7 o7 j2 j3 jG j5 hg36 bx6 bx7
    repeat (first | refine T_seq ?_ | refine T_block ?_ | refine T_inBlock ?_ | refine T_skip ?_)
    refine T_region ?_
    refine L_val _ _ (X_field F28_0 rfl) rfl ?_
    refine L_val _ _ (X_load A26 rfl (l3.cell 0)) rfl ?_
    refine L_val _ _ (X_move) rfl ?_
    refine L_val _ _ (X_loadAgg g8.cells A62 S62 (Leg.cells_length _) rfl (fun j v hv => by rw [Nat.zero_add]; exact leg_blk l5 j hv)) rfl ?_
    refine L_val _ _ (X_index U26 S62 rfl rfl hlt) rfl ?_
    refine L_storeAgg g8.cells S62 rfl rfl (Leg.cells_length _) (Leg.cells_one _) lG (by simp [length_flatten (sz := 22) (gs'.map Leg.cells) (by simp only [List.mem_map]; rintro cs ⟨g, _, rfl⟩; exact g.cells_length), hg1, htl]; omega) fun w9 h9 => ?_
    refine L_nil ?_
    have m2 := h9.blk l2 (by omega)
    have m3 := h9.blk l3 (by omega)
    have mG := h9.new
    rw [take_drop_flat gs' g8 tail i hg1] at mG
    repeat (first | refine T_seq ?_ | refine T_block ?_ | refine T_inBlock ?_ | refine T_skip ?_)
    refine T_region ?_
    refine L_val _ _ (X_add rfl rfl (by omega) (by omega)) rfl ?_
    refine L_val _ _ (X_move) rfl ?_
    refine L_nil ?_
    refine ih _ _ _ (by omega) ⟨i + 1, rfl, by omega, rfl, h9.below bx8 (by omega), m2, m3, gs' ++ [g8], tail.drop 22, by simp [hg1], ?_, ?_, mG, by simp [htl]; omega, hap8⟩
    · rw [hdat, List.map_append, hg2]
      simp [hd8]
    · intro u hu
      simp only [List.mem_append, List.mem_singleton] at hu
      rcases hu with hu | rfl
      · exact owns_chg h9 (.inl lG) (by decide) (hg38 u hu)
      · exact owns_chg h9 (.inl lG) (by decide) hown8
end Go.Proofs.Qxb6500865a
