/-
  Check.
-/
import Derived.Test.Qxb6500865aLk6
import Derived.Test.Qxb6500865aWk7
namespace Go.Proofs.Qxb6500865a
set_option linter.unusedSimpArgs false
set_option linter.unusedVariables false
open Go.RowKit
theorem X_idx {P : Program} {ρ : Env} {w : World} {dst : Option Tmp} {gd : Option (Nat × Bool)} {ty : TypeId} {pos : String} {after : Array Edge} {t e : TypeId} {x y : Operand} {l j : Nat} {cs : Array Value} {v : Value} {q : IntKind} (ht : UN P t (.array l e)) (hs : SZ P e 1) (ha : AG P e false) (hx : ev ρ x = .agg cs) (hy : ev ρ y = .int q j) (hj : j < l) (hv : cs[j]? = some v) :
    (execOp (ev ρ) ⟨dst, .index t x y, ty, pos, after, gd⟩).run P w = .ok (.value v) w := by
  have h1 := ht w
  have h2 := hs w
  have h3 := ha w
  simp [execOp, Instr.index, hx, hy, h1, h2, h3, asIntOf, hj, part, hv]
def fvals : List Value := [.func (.func 33) #[] #[], .func (.func 34) #[] #[], .func (.func 35) #[] #[]]
theorem EN33 : EN Try.prog 33 := fun _ _ => by kernel_rfl
theorem EN34 : EN Try.prog 34 := fun _ _ => by kernel_rfl
theorem EN35 : EN Try.prog 35 := fun _ _ => by kernel_rfl
/-- What the pass numbered p says of leg j. -/
def PassSays (gs : List Leg) (p j : Nat) (g : Leg) (cd : Int) : Prop := (p = 0 → cd = 0 → findAt (gs.map (·.id)) g.id = some j) ∧ (cd = 38 → p = 2 ∧ unans gs g = true)
theorem pass_ret (a : Option Addr) (c : Nat) (gs : List Leg) (p : Nat) (hp : p < 3) (hn : gs.length < 1000000) (hsm : ∀ g ∈ gs, g.needs.length < 1000000) : ∃ g : FuncId, fvals[p]? = some (.func (.func g) #[] #[]) ∧ EN Try.prog g ∧ ∀ (j : Nat) (hj : j < gs.length) (w : World), Legs w a gs →
    Ret Try.prog g #[.agg #[.slice a gs.length c], .int .i64 j] w fun v w' => ∃ cd, v = .int .u8 cd ∧ PassSays gs p j gs[j] cd ∧ Below w.heap.size w w' := by
  match p, hp with
  | 0, _ =>
    refine ⟨33, rfl, EN33, fun j hj w hl => (cl_ret a c gs j w hl hj hn).mono fun v w' ⟨h, hb⟩ => ?_⟩
    rcases h with ⟨rfl, hf⟩ | rfl | rfl | rfl
    · exact ⟨0, rfl, ⟨fun _ _ => hf, fun h => by omega⟩, hb⟩
    · exact ⟨34, rfl, ⟨fun _ h => by omega, fun h => by omega⟩, hb⟩
    · exact ⟨35, rfl, ⟨fun _ h => by omega, fun h => by omega⟩, hb⟩
    · exact ⟨36, rfl, ⟨fun _ h => by omega, fun h => by omega⟩, hb⟩
  | 1, _ =>
    refine ⟨34, rfl, EN34, fun j hj w hl => (cn_ret a c gs j w hl hj hn (hsm _ (by simp))).mono fun v w' ⟨h, hb⟩ => ?_⟩
    rcases h with rfl | rfl
    · exact ⟨0, rfl, ⟨fun h => by omega, fun h => by omega⟩, hb⟩
    · exact ⟨37, rfl, ⟨fun h => by omega, fun h => by omega⟩, hb⟩
  | 2, _ =>
    refine ⟨35, rfl, EN35, fun j hj w hl => (ca_ret a c gs j w hl hj hn (hsm _ (by simp))).mono fun v w' ⟨h, hb⟩ => ?_⟩
    cases hu : unans gs gs[j] with
    | true => exact ⟨38, by rw [h, hu]; rfl, ⟨fun h => by omega, fun _ => ⟨rfl, hu⟩⟩, hb⟩
    | false => exact ⟨0, by rw [h, hu]; rfl, ⟨fun h => by omega, fun h => by omega⟩, hb⟩
set_option maxHeartbeats 8000000 in
set_option maxRecDepth 10000 in
/-- bundle.Check -/
theorem check_ret (a : Option Addr) (c : Nat) (gs : List Leg) (w : World) (hl : Legs w a gs) (hn : gs.length < 1000000) (hsm : ∀ g ∈ gs, g.needs.length < 1000000) :
    Ret Try.prog 23 #[.agg #[.slice a gs.length c]] w fun v w' => ∃ ix cd, v = .tuple #[.int .i64 ix, .int .u8 cd] ∧ Below w.heap.size w w' ∧ (cd = 38 → ∃ i : Nat, ix = i ∧ ∃ hi : i < gs.length, unans gs gs[i] = true ∧ ∀ (j : Nat) (hj : j < gs.length), findAt (gs.map (·.id)) gs[j].id = some j) := by
  refine ret_of_T (vs := [.agg #[.slice a gs.length c]]) Try.func23 Try.ntmps23 rfl (Nat.le_of_ble_eq_true rfl) ?_
  repeat (first | refine T_seq ?_ | refine T_block ?_ | refine T_inBlock ?_ | refine T_skip ?_)
  refine T_region ?_
  refine L_box rfl fun w1 h1 => ?_
  refine L_val _ _ (X_assign) rfl ?_
  refine L_val _ _ (X_assign) rfl ?_
  refine L_nil ?_
  have sz1 := h1.size
  have z1 := h1.lt
  have k1 : Blk w1 w.heap.size #[.slice a gs.length c] 28 := h1.new
  have b1 : Below w.heap.size w w1 := h1.below (Below.refl _ _) (Nat.le_refl _)
  repeat (first | refine T_seq ?_ | refine T_block ?_ | refine T_inBlock ?_ | refine T_skip ?_)
  refine T_region ?_
  refine L_val _ _ (X_field F28_0 rfl) rfl ?_
  refine L_val _ _ (X_load A26 rfl (k1.cell 0)) rfl ?_
  refine L_val _ _ (X_lenS U26 rfl) rfl ?_
  refine L_val _ _ (X_cmp rfl rfl rfl) rfl ?_
  refine L_nil ?_
  refine T_if rfl (fun ht => ?_) (fun hf => ?_)
  · repeat (first | refine T_seq ?_ | refine T_block ?_ | refine T_inBlock ?_ | refine T_skip ?_)
    refine T_region ?_
    refine L_val _ _ (X_assign) rfl ?_
    refine L_val _ _ (X_assign) rfl ?_
    refine L_nil ?_
    exact T_ret2 Try.func23 rfl ⟨_, _, rfl, b1, fun h => by omega⟩
  repeat (first | refine T_seq ?_ | refine T_block ?_ | refine T_inBlock ?_ | refine T_skip ?_)
  refine T_region ?_
  refine L_val _ _ (X_field F28_0 rfl) rfl ?_
  refine L_val _ _ (X_load A26 rfl (k1.cell 0)) rfl ?_
  refine L_val _ _ (X_lenS U26 rfl) rfl ?_
  refine L_val _ _ (X_cmp rfl rfl rfl) rfl ?_
  refine L_nil ?_
  refine T_if rfl (fun ht => ?_) (fun hf2 => ?_)
  · repeat (first | refine T_seq ?_ | refine T_block ?_ | refine T_inBlock ?_ | refine T_skip ?_)
    refine T_region ?_
    refine L_val _ _ (X_assign) rfl ?_
    refine L_val _ _ (X_assign) rfl ?_
    refine L_nil ?_
    exact T_ret2 Try.func23 rfl ⟨_, _, rfl, b1, fun h => by omega⟩
  repeat (first | refine T_seq ?_ | refine T_block ?_ | refine T_inBlock ?_ | refine T_skip ?_)
  refine T_region ?_
  refine L_val _ _ (X_build (.agg fvals.toArray) (by kernel_rfl)) rfl ?_
  refine L_alloc Z84 rfl fun w2 h2 => ?_
  refine L_storeAll fvals S84 rfl rfl rfl (by simp [fvals, Value.oneCell']) h2.new rfl fun w3 h3 => ?_
  refine L_nil ?_
  have h23 := h2.trans h3
  have k4 : Blk w3 w1.heap.size fvals.toArray 84 := h23.new
  have b3 : Below w.heap.size w w3 := h23.below b1 sz1
  have k13 := h23.blk k1 (by omega)
  have z13 := k13.lt
  repeat (first | refine T_seq ?_ | refine T_block ?_ | refine T_inBlock ?_ | refine T_skip ?_)
  refine T_region ?_
  refine L_val _ _ (X_loadAgg fvals A84 S84 rfl rfl (lblk0 k4)) rfl ?_
  refine L_val _ _ (X_move) rfl ?_
  refine L_nil ?_
  repeat (first | refine T_seq ?_ | refine T_block ?_ | refine T_inBlock ?_ | refine T_skip ?_)
  refine T_loopS [19, 18, 1] (fun m vs y => ∃ p : Nat, vs = [.int .i64 p, .agg fvals.toArray, .pointer (some ⟨w.heap.size, 0, none⟩)] ∧ p ≤ 3 ∧ m = 3 - p ∧ Below w3.heap.size w3 y ∧ (0 < p → ∀ (j : Nat) (hj : j < gs.length), findAt (gs.map (·.id)) gs[j].id = some j)) 3
    ⟨0, rfl, by omega, rfl, Below.refl _ _, fun h => by omega⟩ ?_
  rintro m vs ρ y ⟨p, rfl, hp, rfl, by_, hall⟩ ih
  repeat (first | refine T_seq ?_ | refine T_block ?_ | refine T_inBlock ?_ | refine T_skip ?_)
  refine T_region ?_
  refine L_val _ _ (X_cmp rfl rfl rfl) rfl ?_
  refine L_nil ?_
  repeat (first | refine T_seq ?_ | refine T_block ?_ | refine T_inBlock ?_ | refine T_skip ?_)
  refine T_if rfl (fun ht3 => ?_) (fun hf3 => ?_)
  case refine_2 =>
    refine T_exit rfl ?_
    repeat (first | refine T_seq ?_ | refine T_block ?_ | refine T_inBlock ?_ | refine T_skip ?_)
    refine T_region ?_
    refine L_val _ _ (X_assign) rfl ?_
    refine L_val _ _ (X_assign) rfl ?_
    refine L_nil ?_
    exact T_ret2 Try.func23 rfl ⟨_, _, rfl, b3.trans (by_.mono b3.size), fun h => by omega⟩
  have hlt : p < 3 := by simp [cmpB] at ht3; omega
  obtain ⟨g, hfv, hEN, hRet⟩ := pass_ret a c gs p hlt hn hsm
  have hfv' : fvals.toArray[p]? = some (.func (.func g) #[] #[]) := by simpa using hfv
  repeat (first | refine T_seq ?_ | refine T_block ?_ | refine T_inBlock ?_ | refine T_skip ?_)
  refine T_region ?_
  refine L_val _ _ (X_idx U84 S83 A83 rfl rfl hlt hfv') rfl ?_
  refine L_val _ _ (X_assign) rfl ?_
  refine L_nil ?_
  repeat (first | refine T_seq ?_ | refine T_block ?_ | refine T_inBlock ?_ | refine T_skip ?_)
  refine T_region ?_
  refine L_val _ _ (X_field F28_0 rfl) rfl ?_
  refine L_val _ _ (X_load A26 rfl ((below_blk by_ k13 z13).cell 0)) rfl ?_
  refine L_val _ _ (X_lenS U26 rfl) rfl ?_
  refine L_val _ _ (X_move) rfl ?_
  refine L_nil ?_
  repeat (first | refine T_seq ?_ | refine T_block ?_ | refine T_inBlock ?_ | refine T_skip ?_)
  refine T_loopS [25, 24, 6, 19, 18, 1] (fun m vs z => ∃ j : Nat, vs = [.int .i64 j, .int .i64 gs.length, .func (.func g) #[] #[], .int .i64 p, .agg fvals.toArray, .pointer (some ⟨w.heap.size, 0, none⟩)] ∧ j ≤ gs.length ∧ m = gs.length - j ∧ Below w3.heap.size w3 z ∧ (p = 0 → ∀ (q : Nat) (hq : q < gs.length), q < j → findAt (gs.map (·.id)) gs[q].id = some q)) gs.length
    ⟨0, rfl, by omega, rfl, by_, fun _ q _ h => by omega⟩ ?_
  rintro m vs ρ2 z ⟨j, rfl, hj, rfl, bz, hsay⟩ ih2
  have sz := bz.size
  repeat (first | refine T_seq ?_ | refine T_block ?_ | refine T_inBlock ?_ | refine T_skip ?_)
  refine T_region ?_
  refine L_val _ _ (X_cmp rfl rfl rfl) rfl ?_
  refine L_nil ?_
  repeat (first | refine T_seq ?_ | refine T_block ?_ | refine T_inBlock ?_ | refine T_skip ?_)
  refine T_if rfl (fun ht4 => ?_) (fun hf4 => ?_)
  case refine_2 =>
    have hge : ¬ j < gs.length := by simpa [cmpB] using hf4
    refine T_exit rfl ?_
    repeat (first | refine T_seq ?_ | refine T_block ?_ | refine T_inBlock ?_ | refine T_skip ?_)
    refine T_region ?_
    refine L_val _ _ (X_add rfl rfl (by omega) (by omega)) rfl ?_
    refine L_val _ _ (X_move) rfl ?_
    refine L_nil ?_
    refine ih _ _ _ (by omega) ⟨p + 1, rfl, by omega, rfl, bz, fun _ q hq => ?_⟩
    rcases Nat.eq_zero_or_pos p with h0 | h0
    · exact hsay h0 q hq (by omega)
    · exact hall h0 q hq
  have hltj : j < gs.length := by simpa [cmpB] using ht4
  have hcall := hRet j hltj z (hl.keep (keeps_below (b3.trans (bz.mono b3.size))))
  repeat (first | refine T_seq ?_ | refine T_block ?_ | refine T_inBlock ?_ | refine T_skip ?_)
  refine T_region ?_
  refine L_val _ _ (X_move) rfl ?_
  refine L_val _ _ (X_assign) rfl ?_
  refine L_nil ?_
  repeat (first | refine T_seq ?_ | refine T_block ?_ | refine T_inBlock ?_ | refine T_skip ?_)
  refine T_region ?_
  refine L_val _ _ (X_move) rfl ?_
  refine L_val _ _ (X_loadAgg [.slice a gs.length c] A28 S28 rfl rfl (agg1 (below_blk bz k13 z13))) rfl ?_
  refine L_val _ _ (X_move) rfl ?_
  refine L_callV [.agg #[.slice a gs.length c], .int .i64 j] [] hEN rfl rfl rfl hcall ?_
  rintro v z1 ⟨cd, rfl, hps, bz1⟩
  refine L_val _ _ (X_assign) rfl ?_
  refine L_nil ?_
  have bz1' : Below w3.heap.size w3 z1 := bz.trans (bz1.mono sz)
  repeat (first | refine T_seq ?_ | refine T_block ?_ | refine T_inBlock ?_ | refine T_skip ?_)
  refine T_region ?_
  refine L_val _ _ (X_move) rfl ?_
  refine L_val _ _ (X_cmp rfl rfl rfl) rfl ?_
  refine L_nil ?_
  refine T_if rfl (fun ht5 => ?_) (fun hf5 => ?_)
  · repeat (first | refine T_seq ?_ | refine T_block ?_ | refine T_inBlock ?_ | refine T_skip ?_)
    refine T_region ?_
    refine L_val _ _ (X_move) rfl ?_
    refine L_val _ _ (X_move) rfl ?_
    refine L_val _ _ (X_assign) rfl ?_
    refine L_val _ _ (X_assign) rfl ?_
    refine L_nil ?_
    refine T_ret2 Try.func23 rfl ⟨_, _, rfl, b3.trans (bz1'.mono b3.size), fun h => ⟨j, rfl, hltj, (hps.2 h).2, hall (by have := (hps.2 h).1; omega)⟩⟩
  · have hcd : cd = 0 := by simpa [cmpB] using hf5
    repeat (first | refine T_seq ?_ | refine T_block ?_ | refine T_inBlock ?_ | refine T_skip ?_)
    refine T_region ?_
    refine L_val _ _ (X_add rfl rfl (by omega) (by omega)) rfl ?_
    refine L_val _ _ (X_move) rfl ?_
    refine L_nil ?_
    refine ih2 _ _ _ (by omega) ⟨j + 1, rfl, by omega, rfl, bz1', fun h0 q hq hqj => ?_⟩
    rcases Nat.lt_succ_iff_lt_or_eq.1 hqj with h' | rfl
    · exact hsay h0 q hq h'
    · exact hps.1 h0 hcd
end Go.Proofs.Qxb6500865a
