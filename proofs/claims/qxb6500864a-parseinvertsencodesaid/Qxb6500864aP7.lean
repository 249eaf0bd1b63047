/-
  token.Parse.
-/
import Derived.Test.Qxb6500864aP6
namespace Go.Proofs.Qxb6500864a
set_option linter.unusedSimpArgs false
set_option linter.unusedVariables false
open Go.RowKit
theorem T_ifJ {P : Program} {f : FuncId} {n : Nat} {R : Value → World → Prop} {ρ : Env} {w : World} {k : List Item} {c : Operand} {x y : Code} {t : Bool} (ss : List Nat) (I : List Value → World → Prop) (hc : ev ρ c = .bool t) (rest : ∀ vs ρ w, I vs w → T P f n k R (sets ρ ss vs) w)
    (h1 : t = true → (∀ ρ w, I (ss.map ρ) w → T P f n k R ρ w) → T P f n (.code x :: k) R ρ w) (h2 : t = false → (∀ ρ w, I (ss.map ρ) w → T P f n k R ρ w) → T P f n (.code y :: k) R ρ w) : T P f n (.code (.cond c x y) :: k) R ρ w := by
  have join : ∀ ρ w, I (ss.map ρ) w → T P f n k R ρ w := fun ρ w hI => by
    have := rest _ ρ w hI
    rw [sets_self] at this
    exact this
  exact T_if hc (fun h => h1 h join) (fun h => h2 h join)
section
variable {P : Program} {f : FuncId} {n : Nat} {R : Value → World → Prop} {ρ : Env} {w : World} {k : List Item} {ops : Array Oper} {S : World → Prop} {N fuel : Nat} {listed : Array Bool}
variable {d d' : Nat} {ty ty' : TypeId} {pos pos' : String} {after after' : Array Edge}
theorem D_storeAll (i : Nat) {t : TypeId} {x y : Operand} {b m : Nat} {c : Array Value} {u : TypeId} (cs : List Value) (hi : ops[i]? = some ⟨none, .store t x y, ty, pos, after, none⟩) (hc : only ops listed i = true) (hs : SZ P t m) (hx : ev ρ x = .pointer (some ⟨b, 0, none⟩)) (hy : ev ρ y = .agg cs.toArray) (hm : cs.length = m) (hv : ∀ v ∈ cs, v.oneCell' = true) (hb : Blk w b c u) (ho : c.size = m)
    (h : ∀ w1, Chg w w1 b (.cells cs.toArray u (0, 0)) → (Nat.blt i N = true → S w1) ∧ D P f n ops S N fuel (listed.setIfInBounds i true) k R ρ w1) : D P f n ops S N (fuel + 1) listed k R ρ w := by
  have h1 := hs w
  have hst := run_storeCells_at P b 0 u cs 0 c w hb (by omega) hv
  simp only [Nat.add_zero] at hst
  have e : (c.toList.take 0 ++ cs ++ c.toList.drop (0 + cs.length)) = cs := by simp; omega
  rw [e] at hst
  have hch := chg_setRow hb cs.toArray
  refine D_skip i _ hi hc ?_ (h _ hch).1 (h _ hch).2
  simp [execOp, Instr.storeAt, Instr.sureAddr, storeVar, hx, hy, h1, Value.cells, hm, hst]
end
def gt (l : List Nat) (i : Nat) : Nat := l.getD i 0
theorem gt_at {l : List Nat} {i : Nat} (h : i < l.length) : l[i]? = some (gt l i) := by
  simp [gt, List.getD, h]
def hdOf (l : List Nat) : Hd := ⟨gt l 0 * 256 + gt l 1, gt l 2, if gt l 0 * 256 + gt l 1 = 1284 then gt l 4 * 256 + gt l 5 else 0, if gt l 0 * 256 + gt l 1 = 1284 then gt l 6 * 256 + gt l 7 else 0, be ((l.drop 8).take 8)⟩
def filEnd (l : List Nat) : Nat := if gt l 0 * 256 + gt l 1 = 1284 then 4 else 8
def filOk (l : List Nat) : Bool := ((l.drop 3).take (filEnd l - 3)).all (· == 255)
def par (l : List Nat) : Nat := if l.length < 16 then 8 else if chk (hdOf l) ≠ 0 then chk (hdOf l) else if filOk l = true then 0 else 10
def parH (l : List Nat) : Hd := if par l = 0 then hdOf l else Hd.zero
theorem par_er (l : List Nat) : Er (par l) := by
  unfold par
  split
  · unfold Er; omega
  split
  · exact chk_er _
  split <;> (unfold Er; omega)
theorem gt_lt {l : List Nat} (h : ∀ x ∈ l, x < 256) (i : Nat) : gt l i < 256 := by
  unfold gt
  rw [List.getD_eq_getElem?_getD]
  cases hi : l[i]? with
  | none => simp
  | some x => simpa using h x (List.mem_of_getElem? hi)
theorem hdOf_ok {l : List Nat} (h : ∀ x ∈ l, x < 256) : (hdOf l).ok := by
  have g := gt_lt h
  have g0 := g 0
  have g1 := g 1
  have g2 := g 2
  have g4 := g 4
  have g5 := g 5
  have g6 := g 6
  have g7 := g 7
  refine ⟨?_, ?_, ?_, ?_, ?_⟩
  · show gt l 0 * 256 + gt l 1 < 65536; omega
  · exact g2
  · show (if gt l 0 * 256 + gt l 1 = 1284 then gt l 4 * 256 + gt l 5 else 0) < 65536; split <;> omega
  · show (if gt l 0 * 256 + gt l 1 = 1284 then gt l 6 * 256 + gt l 7 else 0) < 65536; split <;> omega
  · show be ((l.drop 8).take 8) < _
    have h1 := be_lt _ ((l.drop 8).take 8) rfl (fun x hx => h x (List.mem_of_mem_drop (List.mem_of_mem_take hx)))
    have h2 : 256 ^ ((l.drop 8).take 8).length ≤ 256 ^ 8 := Nat.pow_le_pow_right (by decide) (by simp; omega)
    have h3 : (256 : Nat) ^ 8 = 18446744073709551616 := by decide
    omega
def phiP (B : Nat) (l : List Nat) : Nat → Value → World → Prop
  | 2 => fun v _ => v = .int .u16 ((gt l 0 * 256 + gt l 1 : Nat) : Int)
  | 8 => fun v _ => v = .int .u64 ((be ((l.drop 8).take 8) : Nat) : Int)
  | 9 => fun v _ => v = .agg (⟨gt l 0 * 256 + gt l 1, gt l 2, 0, 0, be ((l.drop 8).take 8)⟩ : Hd).cells.toArray
  | 10 => fun v w => ∃ b, v = .pointer (some ⟨b, 0, none⟩) ∧ B ≤ b ∧ Blk w b Hd.zero.cells.toArray 39
  | _ => fun _ _ => True
theorem phiP_stab (B : Nat) (l : List Nat) : ∀ i v w w', phiP B l i v w → Below w.heap.size w w' → phiP B l i v w' := by
  intro i v w w' hp hb
  unfold phiP at *
  split at hp
  · exact hp
  · exact hp
  · exact hp
  · obtain ⟨b, h1, h2, h3⟩ := hp
    exact ⟨b, h1, h2, below_blk hb h3 h3.lt⟩
  · trivial
theorem all_take_succ {l : List Nat} {i : Nat} {x : Nat} (h : l[i]? = some x) : (l.take (i + 1)).all (· == 255) = ((l.take i).all (· == 255) && (x == 255)) := by
  obtain ⟨hi, he⟩ := List.getElem?_eq_some_iff.1 h
  rw [List.take_succ_eq_append_getElem hi, List.all_append, he]
  simp
set_option maxHeartbeats 8000000 in
set_option maxRecDepth 10000 in
/-- token.Parse -/
theorem parse_ret (a : Option Addr) (l : List Nat) (c : Nat) (w : World) (hl : Byt w a l) (hb : ∀ x ∈ l, x < 256) (hc : l.length ≤ c) : Ret Try.prog 8 #[.slice a l.length c] w fun v w' => v = .tuple #[.agg (parH l).cells.toArray, errV (par l)] ∧ Below w.heap.size w w' := by
  refine ret_of_T (vs := [.slice a l.length c]) Try.func8 Try.ntmps8 rfl (Nat.le_of_ble_eq_true rfl) ?_
  repeat (first | refine T_seq ?_ | refine T_block ?_ | refine T_inBlock ?_ | refine T_skip ?_)
  refine T_region ?_
  refine L_alloc Z39 rfl fun w1 h1 => ?_
  refine L_val _ _ (X_assign) rfl ?_
  refine L_nil ?_
  have z1 := h1.lt
  have s1 := h1.size
  have k2 : Blk w1 w.heap.size Hd.zero.cells.toArray 39 := h1.new
  have b1 : Below w.heap.size w w1 := h1.below (Below.refl _ _) (Nat.le_refl _)
  clear h1
  repeat (first | refine T_seq ?_ | refine T_block ?_ | refine T_inBlock ?_ | refine T_skip ?_)
  by_cases h16 : l.length < 16
  · have e1 : cmpB .lss (l.length : Int) 16 = true := by simp [cmpB]; omega
    have hp : par l = 8 := by rw [par, if_pos h16]
    have hh : parH l = Hd.zero := by rw [parH, hp]; rfl
    refine T_region ?_
    refine L_val _ _ (X_move) rfl ?_
    refine L_val _ _ (X_lenS U25 rfl) rfl ?_
    refine L_val _ _ (X_cmpR true rfl rfl rfl e1) rfl ?_
    refine L_nil ?_
    refine T_true rfl ?_
    repeat (first | refine T_seq ?_ | refine T_block ?_ | refine T_inBlock ?_ | refine T_skip ?_)
    refine T_region ?_
    refine L_val _ _ (X_build (.agg Hd.zero.cells.toArray) (by kernel_rfl)) rfl ?_
    refine L_val _ _ (X_mkIface U60 (by simp)) rfl ?_
    refine L_storeAll Hd.zero.cells S39 rfl rfl rfl (Hd.cells_one _) k2 rfl fun w2 h2 => ?_
    refine L_val _ _ (X_assign) rfl ?_
    refine L_nil ?_
    exact T_retCT Hd.zero.cells Try.func8 rfl A39 S39 rfl rfl (gblk0 h2.new) ⟨by rw [hp, hh]; rfl, h2.below b1 (Nat.le_refl _)⟩
  have e1 : cmpB .lss (l.length : Int) 16 = false := by simp [cmpB]; omega
  refine T_region ?_
  refine L_val _ _ (X_move) rfl ?_
  refine L_val _ _ (X_lenS U25 rfl) rfl ?_
  refine L_val _ _ (X_cmpR false rfl rfl rfl e1) rfl ?_
  refine L_nil ?_
  refine T_false rfl ?_
  obtain ⟨b, o, rfl, hbw⟩ := hl.some (by omega)
  have hcell : ∀ z, Below w.heap.size w z → ∀ j, j < l.length → z.cell? ⟨b, o + j, none⟩ = some (.int .u8 (gt l j : Int)) := fun z hz j hj => (below_cell hz _ hbw).trans (hl.at j _ (gt_at hj))
  have g := gt_lt hb
  have hbw1 : ∀ z, Below w1.heap.size w1 z → Below w.heap.size w z := fun z hz => b1.trans (hz.mono s1)
  repeat (first | refine T_seq ?_ | refine T_block ?_ | refine T_inBlock ?_ | refine T_skip ?_)
  refine T_draw (fun z => Below w1.heap.size w1 z) 11 rfl rfl fun z2 hsm => ?_
  have hS : Below w1.heap.size w1 z2 := hsm.below (Below.refl _ _)
  refine D_take 0 _ rfl (by kernel_rfl) hS (fun w hw => X_move) rfl ?_
  refine D_take 1 _ rfl (by kernel_rfl) hS (fun w hw => X_sliceL (l := 0) U25 S5 rfl rfl (by omega) (by omega)) rfl ?_
  refine D_take 3 _ rfl (by kernel_rfl) hS (fun w hw => X_move) rfl ?_
  refine D_take 4 _ rfl (by kernel_rfl) hS (fun w hw => X_index U25 S5 rfl rfl (show 2 < l.length by omega)) rfl ?_
  refine D_take 5 _ rfl (by kernel_rfl) hS (fun w hw => X_load A5 rfl (hcell _ (hbw1 _ hw) 2 (by omega))) rfl ?_
  refine D_take 6 _ rfl (by kernel_rfl) hS (fun w hw => X_move) rfl ?_
  refine D_take 7 _ rfl (by kernel_rfl) hS (fun w hw => X_sliceL (l := 8) U25 S5 rfl rfl (by omega) (by omega)) rfl ?_
  skip
  refine D_phase (fuel := 1) [(2, 16), (8, 22), (9, 23), (10, 4)] (phiP w1.heap.size l) (by kernel_rfl) hS (phiP_stab _ l) ?_ ?_
  · intro i d oo hid ho ρ' w' hρ hdep hS' hB'
    simp only [List.mem_cons, Prod.mk.injEq, List.not_mem_nil, or_false] at hid
    have hbw' := hbw1 _ hS'
    rcases hid with ⟨rfl, rfl⟩ | ⟨rfl, rfl⟩ | ⟨rfl, rfl⟩ | ⟨rfl, rfl⟩
    · obtain rfl := Option.some.inj ho
      have e15 : ev ρ' (.tmp 15) = .slice (some ⟨b, o + 0 * 1, none⟩) (l.length - 0) (c - 0) := hρ 15 rfl
      refine (step_call [.slice (some ⟨b, o + 0 * 1, none⟩) (l.length - 0) (c - 0)] E22 (by simp [e15]) (be16_ret b (o + 0 * 1) (l.length - 0) (c - 0) (gt l 0) (gt l 1) w' (by omega) (g 0) (g 1) ?_ ?_)).mono fun v w'' hh => ⟨hh.1, hS'.trans (hh.2.mono hS'.size), hh.2⟩
      · have := hcell _ hbw' 0 (by omega); simpa using this
      · have := hcell _ hbw' 1 (by omega); simpa using this
    · obtain rfl := Option.some.inj ho
      have e21 : ev ρ' (.tmp 21) = .slice (some ⟨b, o + 8 * 1, none⟩) (l.length - 8) (c - 8) := hρ 21 rfl
      refine (step_call [.slice (some ⟨b, o + 8 * 1, none⟩) (l.length - 8) (c - 8)] E23 (by simp [e21]) (be64_ret b (o + 8 * 1) (l.length - 8) (c - 8) ((l.drop 8).take 8) w' (by simp; omega) (by omega) (fun x hx => hb x (List.mem_of_mem_drop (List.mem_of_mem_take hx))) ?_)).mono fun v w'' hh => ⟨hh.1, hh.2 ▸ hS', hh.2 ▸ Below.refl _ _⟩
      intro j x hx
      have hj : j < 8 := by have := (List.getElem?_eq_some_iff.1 hx).1; simp at this; omega
      rw [List.getElem?_take_of_lt hj, List.getElem?_drop] at hx
      have h8 : 8 + j < l.length := (List.getElem?_eq_some_iff.1 hx).1
      have := hcell _ hbw' (8 + j) h8
      rw [gt_at h8] at hx
      obtain rfl := Option.some.inj hx
      rw [show o + 8 * 1 + j = o + (8 + j) by omega]
      exact this
    · obtain rfl := Option.some.inj ho
      have e16 : ev ρ' (.tmp 16) = .int .u16 ((gt l 0 * 256 + gt l 1 : Nat) : Int) := hdep 2 16 (by simp) (by kernel_rfl)
      have e22 : ev ρ' (.tmp 22) = .int .u64 ((be ((l.drop 8).take 8) : Nat) : Int) := hdep 8 22 (by simp) (by kernel_rfl)
      have e19 : ev ρ' (.tmp 19) = .int .u8 (gt l 2 : Int) := hρ 19 rfl
      refine .inl ⟨_, w', X_build (.agg (⟨gt l 0 * 256 + gt l 1, gt l 2, 0, 0, be ((l.drop 8).take 8)⟩ : Hd).cells.toArray) ?_, rfl, hS', Below.refl _ _⟩
      simp only [List.map_toArray, List.map_cons, List.map_nil, e16, e22, e19]
      kernel_rfl
    · obtain rfl := Option.some.inj ho
      have hc := chg_alloc w' (.cells Hd.zero.cells.toArray 39 (0, 0))
      have hbl := hc.below (Below.refl w'.heap.size w') (Nat.le_refl _)
      refine .inl ⟨.pointer (some ⟨w'.heap.size, 0, none⟩), w'.alloc (.cells Hd.zero.cells.toArray 39), ?_, ⟨w'.heap.size, rfl, hS'.size, hc.new⟩, hS'.trans (hbl.mono hS'.size), hbl⟩
      have h1 := Z39 w'
      simp [execOp, Instr.alloc, h1, newVar, newRow]
      rfl
  intro vals w' hv hS' hB'
  have e2 : vals 2 = _ := hv 2 16 (by simp)
  have e8 : vals 8 = _ := hv 8 22 (by simp)
  have e9 : vals 9 = _ := hv 9 23 (by simp)
  obtain ⟨b4, e10, l10, q10⟩ := hv 10 4 (by simp)
  simp only [List.foldl_cons, List.foldl_nil]
  rw [e2, e8, e9, e10]
  refine D_storeAll 11 (⟨gt l 0 * 256 + gt l 1, gt l 2, 0, 0, be ((l.drop 8).take 8)⟩ : Hd).cells rfl (by kernel_rfl) S39 rfl rfl rfl (Hd.cells_one _) q10 rfl ?_
  intro w3 h3
  refine ⟨fun hb => (by cases hb), ?_⟩
  refine D_done (by kernel_rfl) ?_
  have k4 := h3.new
  have b3 : Below w1.heap.size w1 w3 := h3.below hS' l10
  have hsz3 := b3.size
  clear h3 q10 hB' hS' hS hsm
  have hB4 : w.heap.size ≤ b4 := by omega
  repeat (first | refine T_seq ?_ | refine T_block ?_ | refine T_inBlock ?_ | refine T_skip ?_)
  refine T_region ?_
  refine L_val _ _ (X_assign) rfl ?_
  refine L_nil ?_
  repeat (first | refine T_seq ?_ | refine T_block ?_ | refine T_inBlock ?_ | refine T_skip ?_)
  refine T_region ?_
  refine L_val _ _ (X_field F39_0 rfl) rfl ?_
  refine L_val _ _ (X_load A36 rfl (gblk k4 0 rfl)) rfl ?_
  refine L_val _ _ (X_cmp rfl rfl rfl) rfl ?_
  refine L_nil ?_
  refine T_ifJ [0, 2, 4, 5] (fun vs u => vs = [.slice (some ⟨b, o, none⟩) l.length c, .pointer (some ⟨w.heap.size, 0, none⟩), .pointer (some ⟨b4, 0, none⟩), .int .i64 (filEnd l : Int)] ∧ Below w1.heap.size w1 u ∧ Blk u b4 (hdOf l).cells.toArray 39) rfl ?_ (fun ht3 join => ?_) (fun hf3 join => ?_)
  · rintro vs ρ3 u ⟨rfl, bu, k4⟩
    have k2u := below_blk bu k2 z1
    have bwu := hbw1 _ bu
    have su := bu.size
    have hok := hdOf_ok hb
    repeat (first | refine T_seq ?_ | refine T_block ?_ | refine T_inBlock ?_ | refine T_skip ?_)
    refine T_region ?_
    refine L_val _ _ (X_loadAgg (hdOf l).cells A39 S39 rfl rfl (gblk0 k4)) rfl ?_
    refine L_callF [.agg (hdOf l).cells.toArray] E24 rfl rfl (check_ret (hdOf l) hok.fl u) ?_
    rintro v u2 ⟨rfl, bu2⟩
    refine L_val _ _ (X_assign) rfl ?_
    refine L_nil ?_
    have her := chk_er (hdOf l)
    have bu2' : Below w1.heap.size w1 u2 := bu.trans (bu2.mono su)
    have k22 := below_blk bu2' k2 z1
    have k42 := below_blk bu2 k4 k4.lt
    have bwu2 := hbw1 _ bu2'
    repeat (first | refine T_seq ?_ | refine T_block ?_ | refine T_inBlock ?_ | refine T_skip ?_)
    by_cases hck : chk (hdOf l) = 0
    case neg =>
      have e := err_nil (chk (hdOf l)) her 37 u2
      rw [decide_eq_true hck] at e
      have hp : par l = chk (hdOf l) := by rw [par, if_neg h16, if_pos hck]
      have hh : parH l = Hd.zero := by rw [parH, hp, if_neg hck]
      refine T_region ?_
      refine L_val _ _ (X_move) rfl ?_
      refine L_val _ _ (X_neq (b := true) e) rfl ?_
      refine L_nil ?_
      refine T_true rfl ?_
      repeat (first | refine T_seq ?_ | refine T_block ?_ | refine T_inBlock ?_ | refine T_skip ?_)
      refine T_region ?_
      refine L_val _ _ (X_build (.agg Hd.zero.cells.toArray) (by kernel_rfl)) rfl ?_
      refine L_val _ _ (X_move) rfl ?_
      refine L_storeAll Hd.zero.cells S39 rfl rfl rfl (Hd.cells_one _) k22 rfl fun u3 h3 => ?_
      refine L_val _ _ (X_assign) rfl ?_
      refine L_nil ?_
      exact T_retCT Hd.zero.cells Try.func8 rfl A39 S39 rfl rfl (gblk0 h3.new) ⟨by rw [hp, hh]; rfl, h3.below bwu2 (Nat.le_refl _)⟩
    have e := err_nil (chk (hdOf l)) her 37 u2
    rw [decide_eq_false (not_not_intro hck)] at e
    refine T_region ?_
    refine L_val _ _ (X_move) rfl ?_
    refine L_val _ _ (X_neq (b := false) e) rfl ?_
    refine L_nil ?_
    refine T_false rfl ?_
    have hfe : 4 ≤ filEnd l ∧ filEnd l ≤ 8 := by unfold filEnd; split <;> omega
    repeat (first | refine T_seq ?_ | refine T_block ?_ | refine T_inBlock ?_ | refine T_skip ?_)
    refine T_region ?_
    refine L_val _ _ (X_move) rfl ?_
    refine L_val _ _ (X_move) rfl ?_
    refine L_val _ _ (X_sliceLH (l := 3) (h := filEnd l) U25 S5 rfl rfl rfl (by omega) (by omega) (by omega)) rfl ?_
    refine L_val _ _ (X_lenS U25 rfl) rfl ?_
    refine L_val _ _ (X_move) rfl ?_
    refine L_nil ?_
    repeat (first | refine T_seq ?_ | refine T_block ?_ | refine T_inBlock ?_ | refine T_skip ?_)
    refine T_loopS [45, 44, 43, 4, 2] (fun m vs z => ∃ i : Nat, vs = [.int .i64 i, .int .i64 ((filEnd l - 3 : Nat) : Int), .slice (some ⟨b, o + 3 * 1, none⟩) (filEnd l - 3) (c - 3), .pointer (some ⟨b4, 0, none⟩), .pointer (some ⟨w.heap.size, 0, none⟩)] ∧ i ≤ filEnd l - 3 ∧ m = filEnd l - 3 - i ∧ u2 = z ∧ ((l.drop 3).take i).all (· == 255) = true) (filEnd l - 3) ⟨0, rfl, by omega, rfl, rfl, rfl⟩ ?_
    rintro m vs ρ4 z ⟨i, rfl, hi, rfl, rfl, hall⟩ ih
    repeat (first | refine T_seq ?_ | refine T_block ?_ | refine T_inBlock ?_ | refine T_skip ?_)
    refine T_region ?_
    refine L_val _ _ (X_cmp rfl rfl rfl) rfl ?_
    refine L_nil ?_
    repeat (first | refine T_seq ?_ | refine T_block ?_ | refine T_inBlock ?_ | refine T_skip ?_)
    refine T_if rfl (fun ht => ?_) (fun hf => ?_)
    case refine_2 =>
      have hge : ¬ i < filEnd l - 3 := by simpa [cmpB] using hf
      obtain rfl : i = filEnd l - 3 := by omega
      have hp : par l = 0 := by rw [par, if_neg h16, if_neg (not_not_intro hck), if_pos (show filOk l = true from hall)]
      have hh : parH l = hdOf l := by rw [parH, if_pos hp]
      refine T_exit rfl ?_
      repeat (first | refine T_seq ?_ | refine T_block ?_ | refine T_inBlock ?_ | refine T_skip ?_)
      refine T_region ?_
      refine L_val _ _ (X_loadAgg (hdOf l).cells A39 S39 rfl rfl (gblk0 k42)) rfl ?_
      refine L_storeAll (hdOf l).cells S39 rfl rfl rfl (Hd.cells_one _) k22 rfl fun u3 h3 => ?_
      refine L_val _ _ (X_assign) rfl ?_
      refine L_nil ?_
      exact T_retCT (hdOf l).cells Try.func8 rfl A39 S39 rfl rfl (gblk0 h3.new) ⟨by rw [hp, hh]; rfl, h3.below bwu2 (Nat.le_refl _)⟩
    have hlt : i < filEnd l - 3 := by simpa [cmpB] using ht
    have hxi : (l.drop 3)[i]? = some (gt l (3 + i)) := by rw [List.getElem?_drop]; exact gt_at (by omega)
    have hal := all_take_succ hxi
    have hci : u2.cell? ⟨b, o + 3 * 1 + i * 1, none⟩ = some (.int .u8 (gt l (3 + i) : Int)) := by
      rw [show o + 3 * 1 + i * 1 = o + (3 + i) by omega]; exact hcell _ bwu2 (3 + i) (by omega)
    repeat (first | refine T_seq ?_ | refine T_block ?_ | refine T_inBlock ?_ | refine T_skip ?_)
    refine T_region ?_
    refine L_val _ _ (X_index U25 S5 rfl rfl hlt) rfl ?_
    refine L_val _ _ (X_load A5 rfl (hci)) rfl ?_
    refine L_val _ _ (X_assign) rfl ?_
    refine L_nil ?_
    repeat (first | refine T_seq ?_ | refine T_block ?_ | refine T_inBlock ?_ | refine T_skip ?_)
    by_cases hx : gt l (3 + i) = 255
    · have e3 : cmpB .neq (gt l (3 + i) : Int) 255 = false := by simp [cmpB]; omega
      refine T_region ?_
      refine L_val _ _ (X_move) rfl ?_
      refine L_val _ _ (X_cmpR false rfl rfl rfl e3) rfl ?_
      refine L_nil ?_
      refine T_false rfl ?_
      repeat (first | refine T_seq ?_ | refine T_block ?_ | refine T_inBlock ?_ | refine T_skip ?_)
      refine T_region ?_
      refine L_val _ _ (X_add rfl rfl (by omega) (by omega)) rfl ?_
      refine L_val _ _ (X_move) rfl ?_
      refine L_nil ?_
      exact ih _ _ _ (by omega) ⟨i + 1, rfl, by omega, rfl, rfl, by rw [hal, hall, hx]; rfl⟩
    · have e3 : cmpB .neq (gt l (3 + i) : Int) 255 = true := by simp [cmpB]; omega
      have hno : filOk l = false := by
        unfold filOk
        rw [List.all_eq_false]
        refine ⟨gt l (3 + i), ?_, by simpa using hx⟩
        have : ((l.drop 3).take (filEnd l - 3))[i]? = some (gt l (3 + i)) := by rw [List.getElem?_take_of_lt hlt]; exact hxi
        exact List.mem_of_getElem? this
      have hp : par l = 10 := by rw [par, if_neg h16, if_neg (not_not_intro hck), if_neg (by rw [hno]; decide)]
      have hh : parH l = Hd.zero := by rw [parH, hp]; rfl
      refine T_region ?_
      refine L_val _ _ (X_move) rfl ?_
      refine L_val _ _ (X_cmpR true rfl rfl rfl e3) rfl ?_
      refine L_nil ?_
      refine T_true rfl ?_
      repeat (first | refine T_seq ?_ | refine T_block ?_ | refine T_inBlock ?_ | refine T_skip ?_)
      refine T_region ?_
      refine L_val _ _ (X_build (.agg Hd.zero.cells.toArray) (by kernel_rfl)) rfl ?_
      refine L_val _ _ (X_mkIface U60 (by simp)) rfl ?_
      refine L_storeAll Hd.zero.cells S39 rfl rfl rfl (Hd.cells_one _) k22 rfl fun u3 h3 => ?_
      refine L_val _ _ (X_assign) rfl ?_
      refine L_nil ?_
      exact T_retCT Hd.zero.cells Try.func8 rfl A39 S39 rfl rfl (gblk0 h3.new) ⟨by rw [hp, hh]; rfl, h3.below bwu2 (Nat.le_refl _)⟩
  · have hw : gt l 0 * 256 + gt l 1 = 1284 := by simp [cmpB] at ht3; omega
    have hbw3 := hbw1 _ b3
    repeat (first | refine T_seq ?_ | refine T_block ?_ | refine T_inBlock ?_ | refine T_skip ?_)
    refine T_region ?_
    refine L_val _ _ (X_assign) rfl ?_
    refine L_nil ?_
    repeat (first | refine T_seq ?_ | refine T_block ?_ | refine T_inBlock ?_ | refine T_skip ?_)
    refine T_region ?_
    refine L_val _ _ (X_move) rfl ?_
    refine L_val _ _ (X_sliceL (l := 4) U25 S5 rfl rfl (by omega) (by omega)) rfl ?_
    refine L_callF [.slice (some ⟨b, o + 4 * 1, none⟩) (l.length - 4) (c - 4)] E22 rfl rfl (be16_ret b (o + 4 * 1) (l.length - 4) (c - 4) (gt l 4) (gt l 5) w3 (by omega) (g 4) (g 5) (hcell _ hbw3 4 (by omega)) (hcell _ hbw3 5 (by omega))) ?_
    rintro v w4 ⟨rfl, b4'⟩
    refine L_val _ _ (X_field F39_2 rfl) rfl ?_
    refine L_store (.int .u16 ((gt l 4 * 256 + gt l 5 : Nat) : Int)) S27 rfl rfl rfl (below_blk b4' k4 k4.lt) (by simp [Hd.cells]) fun w5 h5 => ?_
    refine L_nil ?_
    have k45 : Blk w5 b4 (⟨gt l 0 * 256 + gt l 1, gt l 2, gt l 4 * 256 + gt l 5, 0, be ((l.drop 8).take 8)⟩ : Hd).cells.toArray 39 := h5.new
    have s4 := b4'.size
    have b5 : Below w1.heap.size w1 w5 := h5.below (b3.trans (b4'.mono hsz3)) l10
    have hbw5 := hbw1 _ b5
    have s5 := b5.size
    repeat (first | refine T_seq ?_ | refine T_block ?_ | refine T_inBlock ?_ | refine T_skip ?_)
    refine T_region ?_
    refine L_val _ _ (X_move) rfl ?_
    refine L_val _ _ (X_sliceL (l := 6) U25 S5 rfl rfl (by omega) (by omega)) rfl ?_
    refine L_callF [.slice (some ⟨b, o + 6 * 1, none⟩) (l.length - 6) (c - 6)] E22 rfl rfl (be16_ret b (o + 6 * 1) (l.length - 6) (c - 6) (gt l 6) (gt l 7) w5 (by omega) (g 6) (g 7) (hcell _ hbw5 6 (by omega)) (hcell _ hbw5 7 (by omega))) ?_
    rintro v w6 ⟨rfl, b6'⟩
    refine L_val _ _ (X_field F39_3 rfl) rfl ?_
    refine L_store (.int .u16 ((gt l 6 * 256 + gt l 7 : Nat) : Int)) S27 rfl rfl rfl (below_blk b6' k45 k45.lt) (by simp [Hd.cells]) fun w7 h7 => ?_
    refine L_nil ?_
    have k47 : Blk w7 b4 (⟨gt l 0 * 256 + gt l 1, gt l 2, gt l 4 * 256 + gt l 5, gt l 6 * 256 + gt l 7, be ((l.drop 8).take 8)⟩ : Hd).cells.toArray 39 := h7.new
    have b7 : Below w1.heap.size w1 w7 := h7.below (b5.trans (b6'.mono s5)) l10
    have hfe : filEnd l = 4 := by rw [filEnd, if_pos hw]
    have hhd : hdOf l = ⟨gt l 0 * 256 + gt l 1, gt l 2, gt l 4 * 256 + gt l 5, gt l 6 * 256 + gt l 7, be ((l.drop 8).take 8)⟩ := by rw [hdOf, if_pos hw, if_pos hw]
    exact join _ _ ⟨by rw [hfe]; rfl, b7, by rw [hhd]; exact k47⟩
  · have hw : gt l 0 * 256 + gt l 1 ≠ 1284 := by simp [cmpB] at hf3; omega
    have hfe : filEnd l = 8 := by rw [filEnd, if_neg hw]
    have hhd : hdOf l = ⟨gt l 0 * 256 + gt l 1, gt l 2, 0, 0, be ((l.drop 8).take 8)⟩ := by rw [hdOf, if_neg hw, if_neg hw]
    refine T_skip ?_
    exact join _ _ ⟨by rw [hfe]; rfl, b3, by rw [hhd]; exact k4⟩
end Go.Proofs.Qxb6500864a
