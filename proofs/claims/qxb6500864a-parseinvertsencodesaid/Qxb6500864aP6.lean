/-
  spell.
-/
import Derived.Test.Qxb6500864aP5
namespace Go.Proofs.Qxb6500864a
set_option linter.unusedSimpArgs false
set_option linter.unusedVariables false
open Go.RowKit
/-- A slice over a block of its own. -/
def SlB (B : Nat) (l : List Nat) (v : Value) (w : World) : Prop := ∃ b, v = .slice (some ⟨b, 0, none⟩) l.length l.length ∧ B ≤ b ∧ Blk w b (bv l).toArray 5
theorem SlB.below {B : Nat} {l : List Nat} {v : Value} {w w' : World} (h : SlB B l v w) (hb : Below w.heap.size w w') : SlB B l v w' :=
  let ⟨b, h1, h2, h3⟩ := h; ⟨b, h1, h2, below_blk hb h3 h3.lt⟩
theorem step_build {P : Program} {ρ : Env} {w : World} {d : Option Tmp} {ty : TypeId} {pos : String} {after : Array Edge} {gd : Option (Nat × Bool)} {t : TypeId} {m : Nat} {ps : Array (Nat × Operand)} {B : Nat} (l : List Nat) (hm : l.length = m) (hB : B ≤ w.heap.size)
    (hv : (Instr.buildSlice t m (ps.map fun (i, x) => (i, ev ρ x))).run P w = .ok (.slice (some ⟨w.heap.size, 0, none⟩) m m) (w.alloc (.cells (bv l).toArray 5))) :
    Step P ρ w ⟨d, .buildSlice t m ps, ty, pos, after, gd⟩ (fun v w' => SlB B l v w' ∧ Below w.heap.size w w') := by
  have hc := chg_alloc w (.cells (bv l).toArray 5 (0, 0))
  refine .inl ⟨_, _, ?_, ⟨w.heap.size, by rw [hm], hB, hc.new⟩, hc.below (Below.refl _ _) (Nat.le_refl _)⟩
  simp only [execOp, Sem.run_bind]
  rw [hv]; rfl
theorem step_call {P : Program} {ρ : Env} {w : World} {d : Option Tmp} {ty : TypeId} {pos : String} {after : Array Edge} {gd : Option (Nat × Bool)} {g : FuncId} {xs : Array Operand} {ts : Array TypeId} {Z : Value → World → Prop} (args : List Value) (hg : EN P g) (ha : xs.toList.map (ev ρ) = args) (hr : Ret P g args.toArray w Z) :
    Step P ρ w ⟨d, .call { callee := .value (.func g), args := xs, argTypes := ts }, ty, pos, after, gd⟩ Z := by
  have e : xs.map (ev ρ) = args.toArray := by
    rw [← ha]; apply Array.ext'; simp
  have h1 := hg args.toArray w
  refine .inr ⟨g, args.toArray, ?_, hr⟩
  simp [execOp, resolve, e, ev, Deferred.ofValue, invoke, h1]
def spellN (h : Hd) : List Nat := if h.id = 1028 then [4, 4] ++ [h.fl] ++ List.replicate 5 255 ++ eight h.seq else [5, 4] ++ [h.fl] ++ [255] ++ two h.ec ++ two h.rrc ++ eight h.seq
def phi2 (B : Nat) (h : Hd) : Nat → Value → World → Prop
  | 0 => SlB B [4, 4]
  | 3 => SlB B [h.fl]
  | 4 => SlB B (List.replicate 5 255)
  | 7 => SlB B (eight h.seq)
  | _ => fun _ _ => True
theorem phi2_stab (B : Nat) (h : Hd) : ∀ i v w w', phi2 B h i v w → Below w.heap.size w w' → phi2 B h i v w' := by
  intro i v w w' hp hb
  unfold phi2 at *
  split at hp
  all_goals first | exact SlB.below hp hb | trivial
def phi3 (B : Nat) (h : Hd) : Nat → Value → World → Prop
  | 0 => SlB B [5, 4]
  | 3 => SlB B [h.fl]
  | 4 => SlB B [255]
  | 7 => SlB B (two h.ec)
  | 10 => SlB B (two h.rrc)
  | 13 => SlB B (eight h.seq)
  | _ => fun _ _ => True
theorem phi3_stab (B : Nat) (h : Hd) : ∀ i v w w', phi3 B h i v w → Below w.heap.size w w' → phi3 B h i v w' := by
  intro i v w w' hp hb
  unfold phi3 at *
  split at hp
  all_goals first | exact SlB.below hp hb | trivial
theorem slb_ok {B : Nat} {l : List Nat} {b : Nat} {w : World} (h : Blk w b (bv l).toArray 5) : Sl.ok w (some ⟨b, 0, none⟩, l, l.length) := ⟨byt_of_blk h, fun h => by cases h⟩
set_option maxHeartbeats 8000000 in
set_option maxRecDepth 10000 in
/-- tokenm.spell -/
theorem spell_ret (h : Hd) (hk : h.ok) (w : World) : Ret Try.prog 25 #[.agg h.cells.toArray] w fun v w' => ∃ a c, v = .slice a 16 c ∧ w'.ownsRow w.heap.size 5 1 (.slice a 16 c) 16 (bv (spellN h)) ∧ Below w.heap.size w w' := by
  refine ret_of_T (vs := [.agg h.cells.toArray]) Try.func25 Try.ntmps25 rfl (Nat.le_of_ble_eq_true rfl) ?_
  repeat (first | refine T_seq ?_ | refine T_block ?_ | refine T_inBlock ?_ | refine T_skip ?_)
  refine T_region ?_
  refine L_box rfl fun w1 h1 => ?_
  refine L_val _ _ (X_assign) rfl ?_
  refine L_nil ?_
  have z1 := h1.lt
  have s1 := h1.size
  have k1 : Blk w1 w.heap.size h.cells.toArray 32 := h1.new
  have b1 : Below w.heap.size w w1 := h1.below (Below.refl _ _) (Nat.le_refl _)
  clear h1
  repeat (first | refine T_seq ?_ | refine T_block ?_ | refine T_inBlock ?_ | refine T_skip ?_)
  by_cases hm : h.id = 1028
  · have e1 : cmpB .eql (h.id : Int) 1028 = true := by simp [cmpB]; omega
    refine T_region ?_
    refine L_val _ _ (X_field F32_0 rfl) rfl ?_
    refine L_val _ _ (X_load A27 rfl (gblk k1 0 rfl)) rfl ?_
    refine L_val _ _ (X_cmpR true rfl rfl rfl e1) rfl ?_
    refine L_nil ?_
    refine T_true rfl ?_
    repeat (first | refine T_seq ?_ | refine T_block ?_ | refine T_inBlock ?_ | refine T_skip ?_)
    refine T_draw (fun z => Below w1.heap.size w1 z) 10 rfl rfl fun z2 hsm => ?_
    have hS : Below w1.heap.size w1 z2 := hsm.below (Below.refl _ _)
    refine D_take 1 _ rfl (by kernel_rfl) hS (fun w hw => X_field F32_1 rfl) rfl ?_
    refine D_take 2 _ rfl (by kernel_rfl) hS (fun w hw => X_load A5 rfl (gblk (below_blk hw k1 z1) 1 rfl)) rfl ?_
    refine D_take 5 _ rfl (by kernel_rfl) hS (fun w hw => X_field F32_4 rfl) rfl ?_
    refine D_take 6 _ rfl (by kernel_rfl) hS (fun w hw => X_load A28 rfl (gblk (below_blk hw k1 z1) 4 rfl)) rfl ?_
    skip
    refine D_phase (fuel := 3) [(0, 6), (3, 9), (4, 10), (7, 13)] (phi2 w1.heap.size h) (by kernel_rfl) hS (phi2_stab _ h) ?_ ?_
    · intro i d o hid ho ρ' w' hρ hdep hS' hB'
      simp only [List.mem_cons, Prod.mk.injEq, List.not_mem_nil, or_false] at hid
      rcases hid with ⟨rfl, rfl⟩ | ⟨rfl, rfl⟩ | ⟨rfl, rfl⟩ | ⟨rfl, rfl⟩
      · obtain rfl := Option.some.inj ho
        refine (step_build [4, 4] rfl hS'.size (by kernel_rfl)).mono fun v w'' hh => ⟨hh.1, hS'.trans (hh.2.mono hS'.size), hh.2⟩
      · obtain rfl := Option.some.inj ho
        have e8 : ev ρ' (.tmp 8) = .int .u8 (h.fl : Int) := hρ 8 rfl
        refine (step_build [h.fl] rfl hS'.size ?_).mono fun v w'' hh => ⟨hh.1, hS'.trans (hh.2.mono hS'.size), hh.2⟩
        simp only [List.map_toArray, List.map_cons, List.map_nil, e8]
        kernel_rfl
      · obtain rfl := Option.some.inj ho
        refine (step_build (List.replicate 5 255) rfl hS'.size (by kernel_rfl)).mono fun v w'' hh => ⟨hh.1, hS'.trans (hh.2.mono hS'.size), hh.2⟩
      · obtain rfl := Option.some.inj ho
        have e12 : ev ρ' (.tmp 12) = .int .u64 (h.seq : Int) := hρ 12 rfl
        refine (step_call [.int .u64 (h.seq : Int)] E37 (by simp [e12]) (eight_ret h.seq hk.seq w')).mono fun v w'' hh => ⟨⟨w'.heap.size, by rw [hh.1, eight_len], hS'.size, hh.2.1⟩, hS'.trans (hh.2.2.mono hS'.size), hh.2.2⟩
    · intro vals w' hv hS' hB'
      obtain ⟨g0, e0, l0, q0⟩ := hv 0 6 (by simp)
      obtain ⟨g3, e3, l3, q3⟩ := hv 3 9 (by simp)
      obtain ⟨g4, e4, l4, q4⟩ := hv 4 10 (by simp)
      obtain ⟨g7, e7, l7, q7⟩ := hv 7 13 (by simp)
      simp only [List.foldl_cons, List.foldl_nil]
      generalize vals 0 = v0 at *
      generalize vals 3 = v3 at *
      generalize vals 4 = v4 at *
      generalize vals 7 = v7 at *
      subst e0 e3 e4 e7
      refine D_buildSlice 8 #[.slice (some ⟨g0, 0, none⟩) 2 2, .slice (some ⟨g3, 0, none⟩) 1 1, .slice (some ⟨g4, 0, none⟩) 5 5, .slice (some ⟨g7, 0, none⟩) (eight h.seq).length (eight h.seq).length] 25 rfl (by kernel_rfl) (by kernel_rfl) rfl ?_
      intro w3 h3
      have b3 : Below w1.heap.size w1 w3 := h3.below hS' hS'.size
      have b3' : Below w'.heap.size w' w3 := h3.below (Below.refl _ _) (Nat.le_refl _)
      refine ⟨fun _ => b3, ?_⟩
      let ls : List Sl := [(some ⟨g0, 0, none⟩, [4, 4], 2), (some ⟨g3, 0, none⟩, [h.fl], 1), (some ⟨g4, 0, none⟩, List.replicate 5 255, 5), (some ⟨g7, 0, none⟩, eight h.seq, (eight h.seq).length)]
      have hcat : cat ls = spellN h := by
        rw [spellN, if_pos hm]
        simp [cat, ls]
      have hlen : (spellN h).length = 16 := by
        rw [spellN, if_pos hm]
        simp [eight_len]
      have hj := join_ret w'.heap.size 0 4 ls w3 h3.lt (by
        have hk3 : Blk w3 w'.heap.size (ls.map Sl.val).toArray 25 := h3.new
        intro i x hx
        rw [Nat.zero_add]
        exact gblk hk3 i (by rw [List.getElem?_map, hx]; rfl)) (by
        intro x hx
        simp only [ls, List.mem_cons, List.not_mem_nil, or_false] at hx
        rcases hx with rfl | rfl | rfl | rfl
        · exact ⟨byt_of_blk (below_blk b3' q0 q0.lt), fun h => by cases h⟩
        · exact ⟨byt_of_blk (below_blk b3' q3 q3.lt), fun h => by cases h⟩
        · exact ⟨byt_of_blk (below_blk b3' q4 q4.lt), fun h => by cases h⟩
        · exact ⟨byt_of_blk (below_blk b3' q7 q7.lt), fun h => by cases h⟩) (by simp [ls]) (by rw [hcat, hlen]; omega)
      rw [hcat, hlen] at hj
      refine D_callF 9 [.slice (some ⟨w'.heap.size, 0, none⟩) 4 4] rfl (by kernel_rfl) E19 rfl rfl hj ?_
      rintro v w4 ⟨a, c, rfl, o4, b4⟩
      have b4' : Below w1.heap.size w1 w4 := b3.trans (b4.mono b3.size)
      refine ⟨fun _ => b4', ?_⟩
      refine D_val 10 _ _ rfl (by kernel_rfl) X_assign rfl (fun hb => by cases hb) ?_
      refine D_done (by kernel_rfl) ?_
      have h13 := b3.size
      exact T_ret1 Try.func25 rfl ⟨a, c, rfl, World.ownsRow.mono o4 (by omega), b1.trans (b4'.mono s1)⟩
  have e1 : cmpB .eql (h.id : Int) 1028 = false := by simp [cmpB]; omega
  refine T_region ?_
  refine L_val _ _ (X_field F32_0 rfl) rfl ?_
  refine L_val _ _ (X_load A27 rfl (gblk k1 0 rfl)) rfl ?_
  refine L_val _ _ (X_cmpR false rfl rfl rfl e1) rfl ?_
  refine L_nil ?_
  refine T_false rfl ?_
  repeat (first | refine T_seq ?_ | refine T_block ?_ | refine T_inBlock ?_ | refine T_skip ?_)
  refine T_draw (fun z => Below w1.heap.size w1 z) 16 rfl rfl fun z2 hsm => ?_
  have hS : Below w1.heap.size w1 z2 := hsm.below (Below.refl _ _)
  refine D_take 1 _ rfl (by kernel_rfl) hS (fun w hw => X_field F32_1 rfl) rfl ?_
  refine D_take 2 _ rfl (by kernel_rfl) hS (fun w hw => X_load A5 rfl (gblk (below_blk hw k1 z1) 1 rfl)) rfl ?_
  refine D_take 5 _ rfl (by kernel_rfl) hS (fun w hw => X_field F32_2 rfl) rfl ?_
  refine D_take 6 _ rfl (by kernel_rfl) hS (fun w hw => X_load A27 rfl (gblk (below_blk hw k1 z1) 2 rfl)) rfl ?_
  refine D_take 8 _ rfl (by kernel_rfl) hS (fun w hw => X_field F32_3 rfl) rfl ?_
  refine D_take 9 _ rfl (by kernel_rfl) hS (fun w hw => X_load A27 rfl (gblk (below_blk hw k1 z1) 3 rfl)) rfl ?_
  refine D_take 11 _ rfl (by kernel_rfl) hS (fun w hw => X_field F32_4 rfl) rfl ?_
  refine D_take 12 _ rfl (by kernel_rfl) hS (fun w hw => X_load A28 rfl (gblk (below_blk hw k1 z1) 4 rfl)) rfl ?_
  skip
  refine D_phase (fuel := 3) [(0, 16), (3, 19), (4, 20), (7, 23), (10, 26), (13, 29)] (phi3 w1.heap.size h) (by kernel_rfl) hS (phi3_stab _ h) ?_ ?_
  · intro i d o hid ho ρ' w' hρ hdep hS' hB'
    simp only [List.mem_cons, Prod.mk.injEq, List.not_mem_nil, or_false] at hid
    rcases hid with ⟨rfl, rfl⟩ | ⟨rfl, rfl⟩ | ⟨rfl, rfl⟩ | ⟨rfl, rfl⟩ | ⟨rfl, rfl⟩ | ⟨rfl, rfl⟩
    · obtain rfl := Option.some.inj ho
      refine (step_build [5, 4] rfl hS'.size (by kernel_rfl)).mono fun v w'' hh => ⟨hh.1, hS'.trans (hh.2.mono hS'.size), hh.2⟩
    · obtain rfl := Option.some.inj ho
      have e8 : ev ρ' (.tmp 18) = .int .u8 (h.fl : Int) := hρ 18 rfl
      refine (step_build [h.fl] rfl hS'.size ?_).mono fun v w'' hh => ⟨hh.1, hS'.trans (hh.2.mono hS'.size), hh.2⟩
      simp only [List.map_toArray, List.map_cons, List.map_nil, e8]
      kernel_rfl
    · obtain rfl := Option.some.inj ho
      refine (step_build [255] rfl hS'.size (by kernel_rfl)).mono fun v w'' hh => ⟨hh.1, hS'.trans (hh.2.mono hS'.size), hh.2⟩
    · obtain rfl := Option.some.inj ho
      have e12 : ev ρ' (.tmp 22) = .int .u16 (h.ec : Int) := hρ 22 rfl
      refine (step_call [.int .u16 (h.ec : Int)] E38 (by simp [e12]) (two_ret h.ec hk.ec w')).mono fun v w'' hh => ⟨⟨w'.heap.size, hh.1, hS'.size, hh.2.1⟩, hS'.trans (hh.2.2.mono hS'.size), hh.2.2⟩
    · obtain rfl := Option.some.inj ho
      have e12 : ev ρ' (.tmp 25) = .int .u16 (h.rrc : Int) := hρ 25 rfl
      refine (step_call [.int .u16 (h.rrc : Int)] E38 (by simp [e12]) (two_ret h.rrc hk.rrc w')).mono fun v w'' hh => ⟨⟨w'.heap.size, hh.1, hS'.size, hh.2.1⟩, hS'.trans (hh.2.2.mono hS'.size), hh.2.2⟩
    · obtain rfl := Option.some.inj ho
      have e12 : ev ρ' (.tmp 28) = .int .u64 (h.seq : Int) := hρ 28 rfl
      refine (step_call [.int .u64 (h.seq : Int)] E37 (by simp [e12]) (eight_ret h.seq hk.seq w')).mono fun v w'' hh => ⟨⟨w'.heap.size, by rw [hh.1, eight_len], hS'.size, hh.2.1⟩, hS'.trans (hh.2.2.mono hS'.size), hh.2.2⟩
  · intro vals w' hv hS' hB'
    obtain ⟨g0, e0, l0, q0⟩ := hv 0 16 (by simp)
    obtain ⟨g3, e3, l3, q3⟩ := hv 3 19 (by simp)
    obtain ⟨g4, e4, l4, q4⟩ := hv 4 20 (by simp)
    obtain ⟨g7, e7, l7, q7⟩ := hv 7 23 (by simp)
    obtain ⟨ga, ea, la, qa⟩ := hv 10 26 (by simp)
    obtain ⟨gd, ed, ld, qd⟩ := hv 13 29 (by simp)
    simp only [List.foldl_cons, List.foldl_nil]
    generalize vals 0 = v0 at *
    generalize vals 3 = v3 at *
    generalize vals 4 = v4 at *
    generalize vals 7 = v7 at *
    generalize vals 10 = va at *
    generalize vals 13 = vd at *
    subst e0 e3 e4 e7 ea ed
    refine D_buildSlice 14 #[.slice (some ⟨g0, 0, none⟩) 2 2, .slice (some ⟨g3, 0, none⟩) 1 1, .slice (some ⟨g4, 0, none⟩) 1 1, .slice (some ⟨g7, 0, none⟩) 2 2, .slice (some ⟨ga, 0, none⟩) 2 2, .slice (some ⟨gd, 0, none⟩) (eight h.seq).length (eight h.seq).length] 25 rfl (by kernel_rfl) (by kernel_rfl) rfl ?_
    intro w3 h3
    have b3 : Below w1.heap.size w1 w3 := h3.below hS' hS'.size
    have b3' : Below w'.heap.size w' w3 := h3.below (Below.refl _ _) (Nat.le_refl _)
    refine ⟨fun _ => b3, ?_⟩
    let ls : List Sl := [(some ⟨g0, 0, none⟩, [5, 4], 2), (some ⟨g3, 0, none⟩, [h.fl], 1), (some ⟨g4, 0, none⟩, [255], 1), (some ⟨g7, 0, none⟩, two h.ec, 2), (some ⟨ga, 0, none⟩, two h.rrc, 2), (some ⟨gd, 0, none⟩, eight h.seq, (eight h.seq).length)]
    have hcat : cat ls = spellN h := by
      rw [spellN, if_neg hm]
      simp [cat, ls]
    have hlen : (spellN h).length = 16 := by
      rw [spellN, if_neg hm]
      simp [eight_len, two]
    have hj := join_ret w'.heap.size 0 6 ls w3 h3.lt (by
      have hk3 : Blk w3 w'.heap.size (ls.map Sl.val).toArray 25 := h3.new
      intro i x hx
      rw [Nat.zero_add]
      exact gblk hk3 i (by rw [List.getElem?_map, hx]; rfl)) (by
      intro x hx
      simp only [ls, List.mem_cons, List.not_mem_nil, or_false] at hx
      rcases hx with rfl | rfl | rfl | rfl | rfl | rfl
      · exact ⟨byt_of_blk (below_blk b3' q0 q0.lt), fun h => by cases h⟩
      · exact ⟨byt_of_blk (below_blk b3' q3 q3.lt), fun h => by cases h⟩
      · exact ⟨byt_of_blk (below_blk b3' q4 q4.lt), fun h => by cases h⟩
      · exact ⟨byt_of_blk (below_blk b3' q7 q7.lt), fun h => by cases h⟩
      · exact ⟨byt_of_blk (below_blk b3' qa qa.lt), fun h => by cases h⟩
      · exact ⟨byt_of_blk (below_blk b3' qd qd.lt), fun h => by cases h⟩) (by simp [ls]) (by rw [hcat, hlen]; omega)
    rw [hcat, hlen] at hj
    refine D_callF 15 [.slice (some ⟨w'.heap.size, 0, none⟩) 6 6] rfl (by kernel_rfl) E19 rfl rfl hj ?_
    rintro v w4 ⟨a, c, rfl, o4, b4⟩
    have b4' : Below w1.heap.size w1 w4 := b3.trans (b4.mono b3.size)
    refine ⟨fun _ => b4', ?_⟩
    refine D_val 16 _ _ rfl (by kernel_rfl) X_assign rfl (fun hb => by cases hb) ?_
    refine D_done (by kernel_rfl) ?_
    have h13 := b3.size
    exact T_ret1 Try.func25 rfl ⟨a, c, rfl, World.ownsRow.mono o4 (by omega), b1.trans (b4'.mono s1)⟩
end Go.Proofs.Qxb6500864a
