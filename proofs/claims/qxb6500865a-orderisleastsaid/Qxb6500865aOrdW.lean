/-
  place, Fits.
-/
import Derived.Test.Qxb6500865aOrd
import Derived.Test.Qxb6500865aWk7
namespace Go.Proofs.Qxb6500865a
set_option linter.unusedSimpArgs false
set_option linter.unusedVariables false
open Go.RowKit

def natc (l : List Nat) : List (List Value) := l.map fun i => [.int .i64 (i : Nat)]
theorem natc_flatten : ∀ l : List Nat, (natc l).flatten = natCells l
  | [] => rfl
  | x :: l => by
    have := natc_flatten l
    simp only [natc, natCells, List.map_cons, List.flatten_cons] at *
    rw [this]
    rfl
theorem natc_arr {w : World} {base m c : Nat} {a : Option Addr} {l : List Nat} (h : w.ownsRow base 3 1 (.slice a m c) m (natCells l)) (hl : l.length = m) : Arr w a 1 (natc l) :=
  owns_arr (by rw [natc_flatten]; exact h) (by simp [natc]) (by simpa [natc] using hl)
def plc (ids : List Int) (x : Int) : Int := match findAt ids x with | some k => (k : Nat) | none => -1
/-- All that leg i needs lies in pre. -/
def okN (gs : List Leg) (pre : List Nat) (i : Nat) : Bool := ((gs[i]?.map (·.needs)).getD []).all fun x => pre.any fun j => (j : Int) == plc (gs.map (·.id)) x

set_option maxHeartbeats 4000000 in
set_option maxRecDepth 10000 in
/-- bundlem.place -/
theorem place_ret (a : Option Addr) (c : Nat) (gs : List Leg) (x : Int) (w : World) (hl : Legs w a gs) (hn : gs.length < 1000000) :
    Ret Try.prog 29 #[.agg #[.slice a gs.length c], .int .u8 x] w fun v w' => v = .int .i64 (plc (gs.map (·.id)) x) ∧ Below w.heap.size w w' := by
  refine ret_of_T (vs := [.agg #[.slice a gs.length c], .int .u8 x]) Try.func29 Try.ntmps29 rfl (Nat.le_of_ble_eq_true rfl) ?_
  repeat (first | refine T_seq ?_ | refine T_block ?_ | refine T_inBlock ?_ | refine T_skip ?_)
  refine T_region ?_
  refine L_box rfl fun w1 h1 => ?_
  refine L_val _ _ (X_assign) rfl ?_
  refine L_nil ?_
  have b1 : Below w.heap.size w w1 := h1.below (Below.refl _ _) (Nat.le_refl _)
  have k1 : Blk w1 w.heap.size #[.slice a gs.length c] 28 := h1.new
  repeat (first | refine T_seq ?_ | refine T_block ?_ | refine T_inBlock ?_ | refine T_skip ?_)
  refine T_region ?_
  refine L_val _ _ (X_field F28_0 rfl) rfl ?_
  refine L_val _ _ (X_load A26 rfl (k1.cell 0)) rfl ?_
  refine L_val _ _ (X_lenS U26 rfl) rfl ?_
  refine L_val _ _ (X_move) rfl ?_
  refine L_nil ?_
  repeat (first | refine T_seq ?_ | refine T_block ?_ | refine T_inBlock ?_ | refine T_skip ?_)
  refine T_loopS [10, 9, 8, 1] (fun m vs y => ∃ i : Nat, vs = [.int .i64 i, .int .i64 gs.length, .slice a gs.length c, .int .u8 x] ∧ Below w.heap.size w y ∧ i ≤ gs.length ∧ m = gs.length - i ∧ ∀ (j : Nat) y, j < i → (gs.map (·.id))[j]? = some y → y ≠ x) gs.length ⟨0, rfl, b1, by omega, rfl, fun j y h => by omega⟩ ?_
  clear k1
  rintro m vs ρ y ⟨i, rfl, by_, hi, rfl, hno⟩ ih
  have sy := by_.size
  repeat (first | refine T_seq ?_ | refine T_block ?_ | refine T_inBlock ?_ | refine T_skip ?_)
  refine T_region ?_
  refine L_val _ _ (X_cmp rfl rfl rfl) rfl ?_
  refine L_nil ?_
  repeat (first | refine T_seq ?_ | refine T_block ?_ | refine T_inBlock ?_ | refine T_skip ?_)
  refine T_if rfl (fun ht => ?_) (fun hf => ?_)
  case refine_2 =>
    refine T_exit rfl ?_
    repeat (first | refine T_seq ?_ | refine T_block ?_ | refine T_inBlock ?_ | refine T_skip ?_)
    refine T_region ?_
    refine L_val _ _ (X_assign) rfl ?_
    refine L_nil ?_
    refine T_ret1 Try.func29 rfl ⟨?_, by_⟩
    have hge : i = gs.length := by
      have : ¬ (i < gs.length) := by simpa [cmpB] using hf
      omega
    have hfd := findAt_none_of (ids := gs.map (·.id)) (x := x) (fun j y hy => hno j y (by
      have := (List.getElem?_eq_some_iff.1 hy).1
      simp at this; omega) hy)
    rw [plc, hfd]
    rfl
  have hlt : i < gs.length := by simpa [cmpB] using ht
  obtain ⟨b, o, rfl, hb, hc⟩ := (hl.keep (keeps_below by_)).at (i := i) (g := gs[i]) (by simp)
  have hid : (gs.map (·.id))[i]? = some gs[i].id := by simp [hlt]
  generalize gs[i] = g at *
  repeat (first | refine T_seq ?_ | refine T_block ?_ | refine T_inBlock ?_ | refine T_skip ?_)
  refine T_region ?_
  refine L_val _ _ (X_move) rfl ?_
  refine L_val _ _ (X_index U26 S62 rfl rfl hlt) rfl ?_
  refine L_val _ _ (X_loadAgg g.cells A62 S62 (Leg.cells_length _) rfl hc) rfl ?_
  refine L_alloc Z62 rfl fun u1 v1 => ?_
  refine L_val _ _ (X_assign) rfl ?_
  refine L_storeAll g.cells S62 rfl rfl (Leg.cells_length _) (Leg.cells_one _) v1.new rfl fun u2 v2 => ?_
  refine L_nil ?_
  have v12 := v1.trans v2
  have kL : Blk u2 y.heap.size g.cells.toArray 62 := v12.new
  have bu : Below w.heap.size w u2 := v12.below by_ sy
  repeat (first | refine T_seq ?_ | refine T_block ?_ | refine T_inBlock ?_ | refine T_skip ?_)
  refine T_region ?_
  refine L_val _ _ (X_field F62_0 rfl) rfl ?_
  refine L_val _ _ (X_load A59 rfl (leg_blk kL 0 rfl)) rfl ?_
  refine L_val _ _ (X_move) rfl ?_
  refine L_val _ _ (X_cmp rfl rfl rfl) rfl ?_
  refine L_nil ?_
  refine T_if rfl (fun ht' => ?_) (fun hf' => ?_)
  · have he : g.id = x := by simpa [cmpB] using ht'
    repeat (first | refine T_seq ?_ | refine T_block ?_ | refine T_inBlock ?_ | refine T_skip ?_)
    refine T_region ?_
    refine L_val _ _ (X_move) rfl ?_
    refine L_val _ _ (X_assign) rfl ?_
    refine L_nil ?_
    refine T_ret1 Try.func29 rfl ⟨?_, bu⟩
    have hfd := findAt_some_of (ids := gs.map (·.id)) (x := x) (i := i) (by rw [hid, he]) hno
    rw [plc, hfd]
    rfl
  · have he : g.id ≠ x := by simpa [cmpB] using hf'
    repeat (first | refine T_seq ?_ | refine T_block ?_ | refine T_inBlock ?_ | refine T_skip ?_)
    refine T_region ?_
    refine L_val _ _ (X_add rfl rfl (by omega) (by omega)) rfl ?_
    refine L_val _ _ (X_move) rfl ?_
    refine L_nil ?_
    refine ih _ _ _ (by omega) ⟨i + 1, rfl, bu, by omega, rfl, ?_⟩
    intro j z hj hz
    rcases Nat.lt_succ_iff_lt_or_eq.1 hj with h | rfl
    · exact hno j z h hz
    · rw [hid] at hz
      cases hz
      exact he

theorem any_take_succ {l : List Nat} {t : Nat} {p : Nat → Bool} (h : t < l.length) : (l.take (t + 1)).any p = ((l.take t).any p || p l[t]) := by
  rw [List.take_succ_eq_append_getElem h, List.any_append]
  simp
theorem fits_take {R : List Nat → Nat → Bool} {l : List Nat} {t : Nat} (h : t < l.length) : fitsF R [] (l.take (t + 1)) = (fitsF R [] (l.take t) && R (l.take t) l[t]) := by
  rw [List.take_succ_eq_append_getElem h, fitsF_append]
  simp [fitsF]
theorem fits_false {R : List Nat → Nat → Bool} {l : List Nat} {t : Nat} (h : t < l.length) (hR : R (l.take t) l[t] = false) : fitsF R [] l = false := by
  have e : l = l.take (t + 1) ++ l.drop (t + 1) := (List.take_append_drop _ _).symm
  rw [e, fitsF_append, fits_take h, hR]
  simp

set_option maxHeartbeats 8000000 in
set_option maxRecDepth 10000 in
/-- bundlem.Fits -/
theorem fits_ret (a : Option Addr) (c : Nat) (gs : List Leg) (pa : Option Addr) (pc : Nat) (perm : List Nat) (w : World) (hl : Legs w a gs) (hn : gs.length < 1000000) (hsm : ∀ g ∈ gs, g.needs.length < 1000000) (hp : Arr w pa 1 (natc perm)) (hpl : perm.length ≤ 8) (hpc : perm.length ≤ pc) (hpi : ∀ i ∈ perm, i < gs.length) :
    Ret Try.prog 14 #[.agg #[.slice a gs.length c], .slice pa perm.length pc] w fun v w' => v = .bool (fitsF (okN gs) [] perm) ∧ Below w.heap.size w w' := by
  refine ret_of_T (vs := [.agg #[.slice a gs.length c], .slice pa perm.length pc]) Try.func14 Try.ntmps14 rfl (Nat.le_of_ble_eq_true rfl) ?_
  repeat (first | refine T_seq ?_ | refine T_block ?_ | refine T_inBlock ?_ | refine T_skip ?_)
  refine T_region ?_
  refine L_box rfl fun w1 h1 => ?_
  refine L_val _ _ (X_assign) rfl ?_
  refine L_nil ?_
  have b1 : Below w.heap.size w w1 := h1.below (Below.refl _ _) (Nat.le_refl _)
  have k1 : Blk w1 w.heap.size #[.slice a gs.length c] 28 := h1.new
  repeat (first | refine T_seq ?_ | refine T_block ?_ | refine T_inBlock ?_ | refine T_skip ?_)
  refine T_region ?_
  refine L_val _ _ (X_move) rfl ?_
  refine L_val _ _ (X_lenS U49 rfl) rfl ?_
  refine L_val _ _ (X_move) rfl ?_
  refine L_nil ?_
  repeat (first | refine T_seq ?_ | refine T_block ?_ | refine T_inBlock ?_ | refine T_skip ?_)
  refine T_loopS [14, 13, 12, 2, 1] (fun m vs y => ∃ t : Nat, vs = [.int .i64 t, .int .i64 perm.length, .slice pa perm.length pc, .pointer (some ⟨w.heap.size, 0, none⟩), .slice pa perm.length pc] ∧ t ≤ perm.length ∧ m = perm.length - t ∧ Below w.heap.size w y ∧ Blk y w.heap.size #[.slice a gs.length c] 28 ∧ fitsF (okN gs) [] (perm.take t) = true) perm.length
    ⟨0, rfl, by omega, rfl, b1, k1, rfl⟩ ?_
  clear k1 b1 h1
  rintro m vs ρ y ⟨t, rfl, htl, rfl, by_, k1, hft⟩ ih
  repeat (first | refine T_seq ?_ | refine T_block ?_ | refine T_inBlock ?_ | refine T_skip ?_)
  refine T_region ?_
  refine L_val _ _ (X_cmp rfl rfl rfl) rfl ?_
  refine L_nil ?_
  repeat (first | refine T_seq ?_ | refine T_block ?_ | refine T_inBlock ?_ | refine T_skip ?_)
  refine T_if rfl (fun ht => ?_) (fun hf => ?_)
  case refine_2 =>
    refine T_exit rfl ?_
    repeat (first | refine T_seq ?_ | refine T_block ?_ | refine T_inBlock ?_ | refine T_skip ?_)
    refine T_region ?_
    refine L_val _ _ (X_assign) rfl ?_
    refine L_nil ?_
    refine T_ret1 Try.func14 rfl ⟨?_, by_⟩
    have hge : ¬ t < perm.length := by simpa [cmpB] using hf
    rw [List.take_of_length_le (by omega)] at hft
    rw [hft]
    rfl
  have hlt : t < perm.length := by simpa [cmpB] using ht
  have hpy := hp.keep (keeps_below by_)
  obtain ⟨pb, po, rfl, hpb, hpcell⟩ := hpy.cell t [.int .i64 (perm[t] : Nat)] (by simp [natc, hlt])
  have hx0 := hpcell 0 _ rfl
  have hil := hpi perm[t] (by simp)
  have hfs := fits_take (R := okN gs) hlt
  have hff := fits_false (R := okN gs) hlt
  generalize perm[t] = i at *
  have hly := hl.keep (keeps_below by_)
  obtain ⟨b, o, rfl, hb, hc⟩ := hly.at (i := i) (g := gs[i]) (by simp)
  have hna := hl.ok gs[i] (by simp)
  have hnl := hsm gs[i] (by simp)
  have hok : ∀ pre, okN gs pre i = gs[i].needs.all fun x => pre.any fun j => (j : Int) == plc (gs.map (·.id)) x := by
    intro pre
    simp [okN, hil]
  generalize gs[i] = g at *
  have zk := k1.lt
  repeat (first | refine T_seq ?_ | refine T_block ?_ | refine T_inBlock ?_ | refine T_skip ?_)
  refine T_region ?_
  refine L_val _ _ (X_move) rfl ?_
  refine L_val _ _ (X_index U49 S3 rfl rfl hlt) rfl ?_
  refine L_val _ _ (X_load A3 rfl (hx0)) rfl ?_
  refine L_val _ _ (X_assign) rfl ?_
  refine L_val _ _ (X_assign) rfl ?_
  refine L_nil ?_
  repeat (first | refine T_seq ?_ | refine T_block ?_ | refine T_inBlock ?_ | refine T_skip ?_)
  refine T_region ?_
  refine L_val _ _ (X_field F28_0 rfl) rfl ?_
  refine L_val _ _ (X_load A26 rfl (k1.cell 0)) rfl ?_
  refine L_val _ _ (X_move) rfl ?_
  refine L_val _ _ (X_index U26 S62 rfl rfl hil) rfl ?_
  refine L_val _ _ (X_field F62_3 rfl) rfl ?_
  refine L_val _ _ (X_load A60 rfl (hc 21 _ rfl)) rfl ?_
  refine L_val _ _ (X_lenS U60 rfl) rfl ?_
  refine L_val _ _ (X_move) rfl ?_
  refine L_nil ?_
  repeat (first | refine T_seq ?_ | refine T_block ?_ | refine T_inBlock ?_ | refine T_skip ?_)
  refine T_loopS [26, 25, 24, 5, 14, 13, 12, 2, 1] (fun m vs z => ∃ j : Nat, vs = [.int .i64 j, .int .i64 g.needs.length, .slice g.na g.needs.length g.nc, .int .i64 t, .int .i64 t, .int .i64 perm.length, .slice (some ⟨pb, po, none⟩) perm.length pc, .pointer (some ⟨w.heap.size, 0, none⟩), .slice (some ⟨pb, po, none⟩) perm.length pc] ∧ j ≤ g.needs.length ∧ m = g.needs.length - j ∧ Below w.heap.size w z ∧ Blk z w.heap.size #[.slice (some ⟨b, o, none⟩) gs.length c] 28 ∧
      (g.needs.take j).all (fun x => (perm.take t).any fun j => (j : Int) == plc (gs.map (·.id)) x) = true) g.needs.length
    ⟨0, rfl, by omega, rfl, by_, k1, rfl⟩ ?_
  clear k1 zk hx0 hpcell hpy hly hc by_
  rintro m vs ρ2 z ⟨j, rfl, hjl, rfl, bz, k1, hall⟩ ih2
  repeat (first | refine T_seq ?_ | refine T_block ?_ | refine T_inBlock ?_ | refine T_skip ?_)
  refine T_region ?_
  refine L_val _ _ (X_cmp rfl rfl rfl) rfl ?_
  refine L_nil ?_
  repeat (first | refine T_seq ?_ | refine T_block ?_ | refine T_inBlock ?_ | refine T_skip ?_)
  refine T_if rfl (fun ht2 => ?_) (fun hf2 => ?_)
  case refine_2 =>
    have hge : ¬ j < g.needs.length := by simpa [cmpB] using hf2
    rw [List.take_of_length_le (by omega)] at hall
    refine T_exit rfl ?_
    repeat (first | refine T_seq ?_ | refine T_block ?_ | refine T_inBlock ?_ | refine T_skip ?_)
    refine T_region ?_
    refine L_val _ _ (X_add rfl rfl (by omega) (by omega)) rfl ?_
    refine L_val _ _ (X_move) rfl ?_
    refine L_nil ?_
    exact ih _ _ _ (by omega) ⟨t + 1, rfl, by omega, rfl, bz, k1, by rw [hfs, hft, hok, hall]; rfl⟩
  have hlt2 : j < g.needs.length := by simpa [cmpB] using ht2
  have kz := keeps_below bz
  obtain ⟨p3, q3, hna3, hp3, hc3⟩ := (hna.keep kz).cell j [.int .u8 g.needs[j]] (by simp [ints, hlt2])
  have e24 : (Value.slice g.na g.needs.length g.nc) = .slice (some ⟨p3, q3, none⟩) g.needs.length g.nc := by rw [hna3]
  have hxm : g.needs[j] ∈ g.needs := by simp
  have htk : g.needs.take (j + 1) = g.needs.take j ++ [g.needs[j]] := List.take_succ_eq_append_getElem hlt2
  generalize g.needs[j] = xx at *
  repeat (first | refine T_seq ?_ | refine T_block ?_ | refine T_inBlock ?_ | refine T_skip ?_)
  refine T_region ?_
  refine L_val _ _ (X_index U60 S59 e24 rfl hlt2) rfl ?_
  refine L_val _ _ (X_load A59 rfl (hc3 0 _ rfl)) rfl ?_
  refine L_val _ _ (X_assign) rfl ?_
  refine L_nil ?_
  repeat (first | refine T_seq ?_ | refine T_block ?_ | refine T_inBlock ?_ | refine T_skip ?_)
  refine T_region ?_
  refine L_val _ _ (X_assign) rfl ?_
  refine L_nil ?_
  repeat (first | refine T_seq ?_ | refine T_block ?_ | refine T_inBlock ?_ | refine T_skip ?_)
  refine T_region ?_
  refine L_val _ _ (X_move) rfl ?_
  refine L_val _ _ (X_move) rfl ?_
  refine L_val _ _ (X_sliceH U49 S3 rfl rfl (show t ≤ pc by omega)) rfl ?_
  refine L_val _ _ (X_lenS U49 rfl) rfl ?_
  refine L_val _ _ (X_move) rfl ?_
  refine L_nil ?_
  repeat (first | refine T_seq ?_ | refine T_block ?_ | refine T_inBlock ?_ | refine T_skip ?_)
  refine T_loopS [34, 33, 32, 9, 8, 26, 25, 24, 5, 14, 13, 12, 2, 1] (fun m vs u => ∃ s : Nat, vs = [.int .i64 s, .int .i64 t, .slice (some ⟨pb, po, none⟩) t pc, .bool ((perm.take s).any fun j => (j : Int) == plc (gs.map (·.id)) xx), .int .u8 xx, .int .i64 j, .int .i64 g.needs.length, .slice g.na g.needs.length g.nc, .int .i64 t, .int .i64 t, .int .i64 perm.length, .slice (some ⟨pb, po, none⟩) perm.length pc, .pointer (some ⟨w.heap.size, 0, none⟩), .slice (some ⟨pb, po, none⟩) perm.length pc] ∧ s ≤ t ∧ m = t - s ∧ Below w.heap.size w u ∧ Blk u w.heap.size #[.slice (some ⟨b, o, none⟩) gs.length c] 28) t
    ⟨0, rfl, by omega, rfl, bz, k1⟩ ?_
  clear bz k1 hc3 hp3
  rintro m vs ρ3 u ⟨s, rfl, hsl, rfl, bu, k1⟩ ih3
  have ku := keeps_below bu
  repeat (first | refine T_seq ?_ | refine T_block ?_ | refine T_inBlock ?_ | refine T_skip ?_)
  refine T_region ?_
  refine L_val _ _ (X_cmp rfl rfl rfl) rfl ?_
  refine L_nil ?_
  repeat (first | refine T_seq ?_ | refine T_block ?_ | refine T_inBlock ?_ | refine T_skip ?_)
  refine T_if rfl (fun ht3 => ?_) (fun hf3 => ?_)
  case refine_2 =>
    have hge : ¬ s < t := by simpa [cmpB] using hf3
    obtain rfl : s = t := by omega
    refine T_exit rfl ?_
    repeat (first | refine T_seq ?_ | refine T_block ?_ | refine T_inBlock ?_ | refine T_skip ?_)
    refine T_region ?_
    refine L_val _ _ (X_move) rfl ?_
    refine L_val _ _ (X_not rfl) rfl ?_
    refine L_nil ?_
    refine T_if rfl (fun ht4 => ?_) (fun hf4 => ?_)
    · repeat (first | refine T_seq ?_ | refine T_block ?_ | refine T_inBlock ?_ | refine T_skip ?_)
      refine T_region ?_
      refine L_val _ _ (X_assign) rfl ?_
      refine L_nil ?_
      refine T_ret1 Try.func14 rfl ⟨?_, bu⟩
      have h0 : ((perm.take s).any fun j => (j : Int) == plc (gs.map (·.id)) xx) = false := by simpa using ht4
      rw [hff (by
        rw [hok, List.all_eq_false]
        exact ⟨xx, hxm, by rw [h0]; simp⟩)]
      rfl
    · have h0 : ((perm.take s).any fun j => (j : Int) == plc (gs.map (·.id)) xx) = true := by simpa using hf4
      repeat (first | refine T_seq ?_ | refine T_block ?_ | refine T_inBlock ?_ | refine T_skip ?_)
      refine T_region ?_
      refine L_val _ _ (X_add rfl rfl (by omega) (by omega)) rfl ?_
      refine L_val _ _ (X_move) rfl ?_
      refine L_nil ?_
      exact ih2 _ _ _ (by omega) ⟨j + 1, rfl, by omega, rfl, bu, k1, by rw [htk, List.all_append, hall]; simpa using h0⟩
  have hlt3 : s < t := by simpa [cmpB] using ht3
  have hsp : s < perm.length := by omega
  obtain ⟨pb2, po2, he2, hpb2, hpc2⟩ := (hp.keep ku).cell s [.int .i64 (perm[s] : Nat)] (by simp [natc, hsp])
  cases he2
  have hx2 := hpc2 0 _ rfl
  have hany := any_take_succ (p := fun j => (j : Int) == plc (gs.map (·.id)) xx) hsp
  generalize perm[s] = jj at *
  have hpl2 := place_ret (some ⟨b, o, none⟩) c gs xx u (hl.keep ku) hn
  repeat (first | refine T_seq ?_ | refine T_block ?_ | refine T_inBlock ?_ | refine T_skip ?_)
  refine T_region ?_
  refine L_val _ _ (X_index U49 S3 rfl rfl hlt3) rfl ?_
  refine L_val _ _ (X_load A3 rfl (hx2)) rfl ?_
  refine L_val _ _ (X_assign) rfl ?_
  refine L_nil ?_
  repeat (first | refine T_seq ?_ | refine T_block ?_ | refine T_inBlock ?_ | refine T_skip ?_)
  refine T_region ?_
  refine L_val _ _ (X_move) rfl ?_
  refine L_val _ _ (X_loadAgg [.slice (some ⟨b, o, none⟩) gs.length c] A28 S28 rfl rfl (agg1 k1)) rfl ?_
  refine L_val _ _ (X_move) rfl ?_
  refine L_callF [.agg #[.slice (some ⟨b, o, none⟩) gs.length c], .int .u8 xx] E29 rfl rfl hpl2 ?_
  rintro v u2 ⟨rfl, b2⟩
  refine L_val _ _ (X_cmp rfl rfl rfl) rfl ?_
  refine L_nil ?_
  have k12 := below_blk b2 k1 k1.lt
  have bu2 : Below w.heap.size w u2 := bu.trans (b2.mono bu.size)
  refine T_if rfl (fun ht4 => ?_) (fun hf4 => ?_)
  · have he : ((jj : Int) == plc (gs.map (·.id)) xx) = true := ht4
    refine T_region ?_
    refine L_val _ _ (X_assign) rfl ?_
    refine L_nil ?_
    repeat (first | refine T_seq ?_ | refine T_block ?_ | refine T_inBlock ?_ | refine T_skip ?_)
    refine T_region ?_
    refine L_val _ _ (X_add rfl rfl (by omega) (by omega)) rfl ?_
    refine L_val _ _ (X_move) rfl ?_
    refine L_nil ?_
    exact ih3 _ _ _ (by omega) ⟨s + 1, by rw [hany, he, Bool.or_true]; rfl, by omega, rfl, bu2, k12⟩
  · have he : ((jj : Int) == plc (gs.map (·.id)) xx) = false := hf4
    repeat (first | refine T_seq ?_ | refine T_block ?_ | refine T_inBlock ?_ | refine T_skip ?_)
    refine T_region ?_
    refine L_val _ _ (X_add rfl rfl (by omega) (by omega)) rfl ?_
    refine L_val _ _ (X_move) rfl ?_
    refine L_nil ?_
    exact ih3 _ _ _ (by omega) ⟨s + 1, by rw [hany, he, Bool.or_false]; rfl, by omega, rfl, bu2, k12⟩
end Go.Proofs.Qxb6500865a
