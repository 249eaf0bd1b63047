/-
  Link.
-/
import Derived.Test.Qxb6500865aLkP
import Derived.Test.Qxb6500865aWk10
import Derived.Test.Qxb6500865aAlter
namespace Go.Proofs.Qxb6500865a
set_option linter.unusedSimpArgs false
set_option linter.unusedVariables false
open Go.RowKit

theorem own_below' {w w' : World} {B e size n : Nat} {v : Value} {xs : List Value} (h : w.ownsRow B e size v n xs) (hb : Below w.heap.size w w') : w'.ownsRow B e size v n xs := by
  refine ⟨h.1, ?_⟩
  rcases h.2 with hn | ⟨g, cap, cur, rfl, hg, hgg, rest⟩
  · exact .inl hn
  · exact .inr ⟨g, cap, cur, rfl, hg, by rw [hb.block g (Array.getElem?_eq_some_iff.1 hgg).1]; exact hgg, rest⟩
theorem LegsOwn.mono {w : World} {base base' c : Nat} {a : Option Addr} {gs : List Leg} (h : LegsOwn w base a c gs) (hb : base' ≤ base) : LegsOwn w base' a c gs :=
  ⟨World.ownsRow.mono h.own hb, fun g hg => World.ownsRow.mono (h.needs g hg) hb⟩
theorem LegsOwn.chg {w w1 : World} {b base c t : Nat} {a : Option Addr} {gs : List Leg} {cs : Array Value} {o : Obj} (h : LegsOwn w base a c gs) (hc : Chg w w1 b o) (hb : Blk w b cs t) (h1 : t ≠ 62) (h2 : t ≠ 59) : LegsOwn w1 base a c gs :=
  ⟨owns_chg hc (.inl hb) h1 h.own, fun g hg => owns_chg hc (.inl hb) h2 (h.needs g hg)⟩
theorem LegsOwn.nilNeeds {w : World} {base c : Nat} {a : Option Addr} {gs : List Leg} (h : LegsOwn w base a c gs) : ∀ g ∈ gs, g.na = none → g.needs.length = 0 ∧ g.nc = 0 := by
  intro g hg hna
  obtain ⟨a', c', hv, hz, _⟩ := owns_val (h.needs g hg)
  simp only [Value.slice.injEq] at hv
  obtain ⟨rfl, -, rfl⟩ := hv
  exact hz hna
theorem LegsOwn.nil {w : World} {base c : Nat} {a : Option Addr} {gs : List Leg} (h : LegsOwn w base a c gs) : a = none → gs.length = 0 := by
  intro hna
  obtain ⟨a', c', hv, hz, _⟩ := owns_val h.own
  simp only [Value.slice.injEq] at hv
  obtain ⟨rfl, -, rfl⟩ := hv
  exact (hz hna).1
theorem Leg.setNeeds (g : Leg) (a : Option Addr) (l c : Nat) (ns : List Int) (hl : l = ns.length) : g.cells.set 21 (.slice a l c) = (⟨g.id, g.chain, g.tx, ns, a, c⟩ : Leg).cells := by
  subst hl
  rfl
/-- The needs of one leg put in place. -/
theorem legs_setN {w w1 : World} {base c g i o : Nat} {cur : Array Value} {ls : List Leg} (L' : Leg) (ho : o = i * 22 + 21) (hown : w.ownsRow base 62 22 (.slice (some ⟨g, 0, none⟩) ls.length c) ls.length (ls.map Leg.cells).flatten)
    (hnd : ∀ (j : Nat) l, ls[j]? = some l → j ≠ i → NeedsOwn w base l) (hL' : NeedsOwn w base L') (hi : i < ls.length) (hb : Blk w g cur 62) (hc : Chg w w1 g (.cells (cur.setIfInBounds o (.slice L'.na L'.needs.length L'.nc)) 62 (0, 0)))
    (hL : ls[i].cells.set 21 (.slice L'.na L'.needs.length L'.nc) = L'.cells) : LegsOwn w1 base (some ⟨g, 0, none⟩) c (ls.set i L') := by
  subst ho
  refine ⟨?_, ?_⟩
  · have e := owns_set hown hb hc
    rw [set_flatten _ _ (legs_len ls) i 21 (by simpa using hi) (by omega)] at e
    simp only [List.length_set]
    have e2 : (ls.map Leg.cells).set i ((ls.map Leg.cells)[i]'(by simpa using hi) |>.set 21 (.slice L'.na L'.needs.length L'.nc)) = (ls.set i L').map Leg.cells := by
      rw [List.map_set]
      congr 1
      simp [hL]
    rw [e2] at e
    exact e
  · intro u hu
    obtain ⟨j, hj⟩ := List.getElem?_of_mem hu
    rw [List.getElem?_set] at hj
    split at hj
    · simp only [hi, if_true, Option.some.injEq] at hj
      subst hj
      exact owns_chg hc (.inl hb) (by decide) hL'
    · rename_i hne
      exact owns_chg hc (.inl hb) (by decide) (hnd j u hj (fun e => hne e.symm))
theorem Apart.set {ls : List Leg} {i : Nat} {L' : Leg} (h : Apart ls) (hn : ∀ (j : Nat) l, ls[j]? = some l → j ≠ i → ∀ a, l.na = some a → L'.na ≠ some a) : Apart (ls.set i L') := by
  intro p q u v hu hv hpq a ha hva
  rw [List.getElem?_set] at hu hv
  split at hu
  · split at hv
    · omega
    · rename_i h1 h2
      split at hu
      · obtain rfl := Option.some.inj hu
        exact hn q v hv (fun e => h2 e.symm) a hva ha
      · simp at hu
  · split at hv
    · rename_i h1 h2
      split at hv
      · obtain rfl := Option.some.inj hv
        exact hn p u hu (fun e => h1 e.symm) a ha hva
      · simp at hv
    · exact h p q u v hu hv hpq a ha hva
/-- The name that a leg bears is found. -/
theorem findAt_own {gs : List Leg} {k : Nat} {g : Leg} (h : gs[k]? = some g) : ∃ q, findAt (gs.map (·.id)) g.id = some q := by
  cases hf : findAt (gs.map (·.id)) g.id with
  | some q => exact ⟨q, rfl⟩
  | none =>
    unfold findAt at hf
    rw [List.findIdx?_eq_none_iff] at hf
    have := hf g.id (List.mem_map.2 ⟨g, List.mem_of_getElem? h, rfl⟩)
    simp at this
theorem find_first {n k : Nat} {p : Nat → Bool} (hk : k < n) (hp : p k = true) (hno : ∀ q, q < k → p q = false) : (List.range n).find? p = some k := by
  rw [List.find?_eq_some_iff_append]
  refine ⟨hp, List.range k, (List.range' (k+1) (n - k - 1)), ?_, fun q hq => by simp [hno q (by simpa using hq)]⟩
  rw [List.range_eq_range', List.range_eq_range', show n = k + (1 + (n - k - 1)) by omega, ← List.range'_append_1, ← List.range'_append_1]
  simp

set_option maxHeartbeats 16000000 in
set_option maxRecDepth 10000 in
/-- bundle.Link -/
theorem link_ret (a : Option Addr) (c : Nat) (gs : List Leg) (w : World) (hl : Legs w a gs) (hnil : a = none → gs.length = 0) (hnn : ∀ g ∈ gs, g.na = none → g.needs.length = 0 ∧ g.nc = 0) (hn : gs.length ≤ 65536) (hsm : ∀ g ∈ gs, g.needs.length ≤ 65537) :
    Ret Try.prog 21 #[.agg #[.slice a gs.length c]] w fun v w' => ∃ a' c' ls, v = .agg #[.slice a' gs.length c'] ∧ Linked gs ls ∧ LegsOwn w' w.heap.size a' c' ls ∧ Below w.heap.size w w' := by
  refine ret_of_T (vs := [.agg #[.slice a gs.length c]]) Try.func21 Try.ntmps21 rfl (Nat.le_of_ble_eq_true rfl) ?_
  repeat (first | refine T_seq ?_ | refine T_block ?_ | refine T_inBlock ?_ | refine T_skip ?_)
  refine T_region ?_
  refine L_box rfl fun w1 h1 => ?_
  refine L_alloc Z28 rfl fun w2 h2 => ?_
  refine L_nil ?_
  have z1 := h1.lt
  have z2 := h2.lt
  have s1 := h1.size
  have s2 := h2.size
  have bw2 : Below w.heap.size w w2 := h2.below (h1.below (Below.refl _ _) (Nat.le_refl _)) s1
  have k1 : Blk w2 w.heap.size #[.slice a gs.length c] 28 := h2.blk h1.new (by omega)
  have k2 : Blk w2 w1.heap.size #[.slice none 0 0] 28 := h2.new
  clear h1 h2
  generalize w1.heap.size = B2 at *
  have hcopy := copy_ret2 a c gs w2 (hl.keep (keeps_below bw2)) hnil hnn hn hsm
  repeat (first | refine T_seq ?_ | refine T_block ?_ | refine T_inBlock ?_ | refine T_skip ?_)
  refine T_region ?_
  refine L_val _ _ (X_loadAgg [.slice a gs.length c] A28 S28 rfl rfl (agg1 k1)) rfl ?_
  refine L_callF [.agg #[.slice a gs.length c]] E20 rfl rfl hcopy ?_
  rintro v w3 ⟨a', c', gs', rfl, hdat, -, hown, bw3, hap⟩
  refine L_alloc Z28 rfl fun w4 h4 => ?_
  refine L_storeAll [.slice a' gs.length c'] S28 rfl rfl rfl (by simp [Value.oneCell']) h4.new rfl fun w5 h5 => ?_
  refine L_nil ?_
  have h45 := h4.trans h5
  have s3 := bw3.size
  have s5 := h45.size
  have z5 := h45.lt
  have bw5 : Below w2.heap.size w2 w5 := h45.below bw3 s3
  have q2 := below_blk bw5 k2 z2
  have q3 : Blk w5 w3.heap.size #[.slice a' gs.length c'] 28 := h45.new
  have hown5 : LegsOwn w5 w2.heap.size a' c' gs' := ⟨owns_new h45 hown.own, fun g hg => owns_new h45 (hown.needs g hg)⟩
  have hlike : Like gs' gs := by
    have e : ∀ l : List Leg, l.map Leg.core = (l.map Leg.data).map (fun d : Int × Int × Tx × List Int => (d.1, d.2.1, d.2.2.1)) := fun l => by rw [List.map_map]; rfl
    unfold Like
    rw [e, e, hdat]
  have hneeds : ∀ (j : Nat) g l, gs[j]? = some g → gs'[j]? = some l → l.needs = g.needs := by
    intro j g l hg hl
    have := congrArg (·[j]?) hdat
    simp only [List.getElem?_map, hg, hl, Option.map_some, Option.some.injEq, Leg.data, Prod.mk.injEq] at this
    exact this.2.2.2
  have bw : Below w.heap.size w w5 := bw2.trans (bw5.mono bw2.size)
  clear h4 h5 h45 hown hdat bw3 bw5 k1 k2 hcopy
  generalize w3.heap.size = B3 at *
  have hW2 : w.heap.size ≤ w2.heap.size := bw2.size
  have hW25 : w2.heap.size ≤ w5.heap.size := by omega
  generalize w2.heap.size = W2 at *
  repeat (first | refine T_seq ?_ | refine T_block ?_ | refine T_inBlock ?_ | refine T_skip ?_)
  refine T_region ?_
  refine L_val _ _ (X_field F28_0 rfl) rfl ?_
  refine L_val _ _ (X_load A26 rfl (q3.cell 0)) rfl ?_
  refine L_val _ _ (X_lenS U26 rfl) rfl ?_
  refine L_val _ _ (X_move) rfl ?_
  refine L_nil ?_
  repeat (first | refine T_seq ?_ | refine T_block ?_ | refine T_inBlock ?_ | refine T_skip ?_)
  refine T_loopS [15, 14, 3, 2] (fun m vs x => ∃ (i : Nat) (ls : List Leg), vs = [.int .i64 i, .int .i64 gs.length, .pointer (some ⟨B3, 0, none⟩), .pointer (some ⟨B2, 0, none⟩)] ∧ i ≤ gs.length ∧ m = gs.length - i ∧ Below w.heap.size w x ∧ W2 ≤ x.heap.size ∧ Blk x B2 #[.slice none 0 0] 28 ∧ Blk x B3 #[.slice a' gs.length c'] 28 ∧
    Like ls gs ∧ LegsOwn x W2 a' c' ls ∧ Apart ls ∧ ∀ (j : Nat) g l, gs[j]? = some g → ls[j]? = some l → l.needs = if j < i then linkN gs j g else g.needs) gs.length
    ⟨0, gs', rfl, by omega, rfl, bw, hW25, q2, q3, hlike, hown5, hap, fun j g l hg hl => by simpa using hneeds j g l hg hl⟩ ?_
  clear q2 q3 hlike hown5 hap hneeds bw
  rintro m vs ρ x ⟨i, ls, rfl, hi, rfl, bx, hWx, k2, k3, hlike, hown, hap, hneeds⟩ ih
  have hlen := hlike.len
  repeat (first | refine T_seq ?_ | refine T_block ?_ | refine T_inBlock ?_ | refine T_skip ?_)
  refine T_region ?_
  refine L_val _ _ (X_cmp rfl rfl rfl) rfl ?_
  refine L_nil ?_
  repeat (first | refine T_seq ?_ | refine T_block ?_ | refine T_inBlock ?_ | refine T_skip ?_)
  refine T_if rfl (fun ht => ?_) (fun hf => ?_)
  case refine_2 =>
    have hge : ¬ i < gs.length := by simpa [cmpB] using hf
    refine T_exit rfl ?_
    repeat (first | refine T_seq ?_ | refine T_block ?_ | refine T_inBlock ?_ | refine T_skip ?_)
    refine T_region ?_
    refine L_val _ _ (X_loadAgg [.slice a' gs.length c'] A28 S28 rfl rfl (agg1 k3)) rfl ?_
    refine L_storeAll [.slice a' gs.length c'] S28 rfl rfl rfl (by simp [Value.oneCell']) k2 rfl fun w6 h6 => ?_
    refine L_nil ?_
    refine T_retC [.slice a' gs.length c'] Try.func21 rfl A28 S28 rfl rfl (agg1 h6.new) ⟨a', c', ls, rfl, ⟨hlike, fun j g l hg hl => ?_⟩, (hown.chg h6 k2 (by decide) (by decide)).mono hW2, h6.below bx ?_⟩
    · have := hneeds j g l hg hl
      have hj := (List.getElem?_eq_some_iff.1 hg).1
      rwa [if_pos (by omega)] at this
    · exact s1
  have hlt : i < gs.length := by simpa [cmpB] using ht
  have hlti : i < ls.length := by omega
  obtain ⟨G, cur, rfl, hWG, kG, hGs, -, -, -, htk⟩ := owns_blk hown.own (by omega)
  obtain ⟨p, q, hpq, hp, hc⟩ := hown.legs.at (i := i) (g := ls[i]) (by simp [hlti])
  simp only [Option.some.injEq, Addr.mk.injEq, and_true] at hpq
  obtain ⟨rfl, rfl⟩ := hpq
  have hgi := hneeds i gs[i] ls[i] (by simp) (by simp [hlti])
  rw [if_neg (by omega)] at hgi
  have hcore := hlike.at (k := i) (l := ls[i]) (g := gs[i]) (by simp [hlti]) (by simp)
  have hlinkN := hlike.linkN (i := i) hcore hgi
  have hsmi : ls[i].needs.length ≤ 65537 := by rw [hgi]; exact hsm _ (by simp)
  have hstep : ∀ (y : World) (ls' : List Leg), Like ls' ls → (∀ (j : Nat) l l', ls[j]? = some l → ls'[j]? = some l' → l'.needs = if j = i then linkN ls i l else l.needs) → 
      Like ls' gs ∧ ∀ (j : Nat) g l, gs[j]? = some g → ls'[j]? = some l → l.needs = if j < i + 1 then linkN gs j g else g.needs := by
    intro y ls' h1 h2
    refine ⟨h1.trans hlike, fun j g l hg hl => ?_⟩
    obtain ⟨u, hu, _⟩ := h1.get hl
    have e1 := h2 j u l hu hl
    have e2 := hneeds j g u hg hu
    by_cases hji : j = i
    · subst hji
      rw [if_pos rfl] at e1
      rw [if_pos (by omega), e1, ← hlike.linkN (hlike.at hu hg) (by simpa using e2)]
    · rw [if_neg hji] at e1
      rw [e1, e2]
      by_cases hj2 : j < i
      · rw [if_pos hj2, if_pos (by omega)]
      · rw [if_neg hj2, if_neg (by omega)]
  have hsame : linkN ls i ls[i] = ls[i].needs → ∀ (j : Nat) l l', ls[j]? = some l → ls[j]? = some l' → l'.needs = if j = i then linkN ls i l else l.needs := by
    intro h j l l' h1 h2
    rw [h1] at h2
    obtain rfl := Option.some.inj h2
    split
    · rename_i e
      subst e
      obtain ⟨_, rfl⟩ := List.getElem?_eq_some_iff.1 h1
      exact h.symm
    · rfl
  generalize hgd : ls[i] = g at *
  have hlsi : ls[i]? = some g := by rw [← hgd]; simp [hlti]
  have hexp := exp_ret g G (0 + i * 22) x (by have := kG.lt; omega) hc
  repeat (first | refine T_seq ?_ | refine T_block ?_ | refine T_inBlock ?_ | refine T_skip ?_)
  refine T_region ?_
  refine L_val _ _ (X_move) rfl ?_
  refine L_val _ _ (X_assign) rfl ?_
  refine L_nil ?_
  repeat (first | refine T_seq ?_ | refine T_block ?_ | refine T_inBlock ?_ | refine T_skip ?_)
  refine T_region ?_
  refine L_val _ _ (X_field F28_0 rfl) rfl ?_
  refine L_val _ _ (X_load A26 rfl (k3.cell 0)) rfl ?_
  refine L_val _ _ (X_move) rfl ?_
  refine L_val _ _ (X_index U26 S62 rfl rfl hlt) rfl ?_
  refine L_callF [.pointer (some ⟨G, 0 + i * 22, none⟩)] E30 rfl rfl hexp ?_
  rintro v y1 ⟨rfl, b1⟩
  refine L_val _ _ (X_move) rfl ?_
  refine L_val _ _ (X_extract rfl rfl) rfl ?_
  refine L_val _ _ (X_extract rfl rfl) rfl ?_
  refine L_alloc Z37 rfl fun y2 h2 => ?_
  refine L_storeAll ((expOf g).getD noMsg).cells S37 rfl rfl (Msg.cells_length _) (Msg.cells_one' _) h2.new rfl fun y3 h3 => ?_
  refine L_val _ _ (X_assign) rfl ?_
  refine L_nil ?_
  have h23 := h2.trans h3
  have t1 := b1.size
  have t3 := h23.size
  have u3 := h23.lt
  have c5 : Blk y3 y1.heap.size ((expOf g).getD noMsg).cells.toArray 37 := h23.new
  have b3 : Below x.heap.size x y3 := h23.below b1 t1
  clear h2 h3 h23 b1
  generalize y1.heap.size = B5 at *
  repeat (first | refine T_seq ?_ | refine T_block ?_ | refine T_inBlock ?_ | refine T_skip ?_)
  cases hex : expOf g with
  | none =>
    refine T_region ?_
    refine L_val _ _ (X_move) rfl ?_
    refine L_val _ _ (X_not rfl) rfl ?_
    refine L_val _ _ (X_move) rfl ?_
    refine L_passB rfl rfl rfl ?_
    refine L_passB rfl rfl rfl ?_
    refine L_passB rfl rfl rfl ?_
    refine L_passB rfl rfl rfl ?_
    refine L_val _ _ (X_pick rfl) rfl ?_
    refine L_nil ?_
    refine T_true rfl ?_
    refine T_exit rfl ?_
    repeat (first | refine T_seq ?_ | refine T_block ?_ | refine T_inBlock ?_ | refine T_skip ?_)
    refine T_region ?_
    refine L_val _ _ (X_add rfl rfl (by omega) (by omega)) rfl ?_
    refine L_val _ _ (X_move) rfl ?_
    refine L_nil ?_
    obtain ⟨e1, e2⟩ := hstep y3 ls rfl (hsame (by simp [linkN, hex]))
    exact ih _ _ _ (by omega) ⟨i + 1, ls, rfl, by omega, rfl, bx.trans (b3.mono bx.size), by omega, below_blk b3 k2 k2.lt, below_blk b3 k3 k3.lt, e1, LegsOwn.below b3 hown, hap, e2⟩
  | some mm =>
  rw [hex] at c5
  have c5' : Blk y3 B5 mm.cells.toArray 37 := c5
  have hown3 := LegsOwn.below b3 hown
  have hns := ns_ret (some ⟨G, 0, none⟩) c' ls i mm y3 hown3.legs hlti (by omega) (by rw [hgd]; omega)
  rw [hgd, hlen] at hns
  refine T_region ?_
  refine L_val _ _ (X_move) rfl ?_
  refine L_val _ _ (X_not rfl) rfl ?_
  refine L_val _ _ (X_move) rfl ?_
  refine L_guard rfl rfl rfl ?_
  refine L_val _ _ (X_loadAgg [.slice (some ⟨G, 0, none⟩) gs.length c'] A28 S28 rfl rfl (agg1 (below_blk b3 k3 k3.lt))) rfl ?_
  refine L_guard rfl rfl rfl ?_
  refine L_val _ _ (X_move) rfl ?_
  refine L_guard rfl rfl rfl ?_
  refine L_val _ _ (X_loadAgg mm.cells A37 S37 (Msg.cells_length _) rfl (lblk0 c5')) rfl ?_
  refine L_guard rfl rfl rfl ?_
  refine L_callF [.agg #[.slice (some ⟨G, 0, none⟩) gs.length c'], .int .i64 i, .agg mm.cells.toArray] E31 rfl rfl hns ?_
  rintro v y4 ⟨rfl, b4⟩
  refine L_val _ _ (X_pick rfl) rfl ?_
  refine L_nil ?_
  have b34 : Below x.heap.size x y4 := b3.trans (b4.mono (by omega))
  have t4 := b4.size
  have c54 := below_blk b4 c5' u3
  have k34 := below_blk b34 k3 k3.lt
  have k24 := below_blk b34 k2 k2.lt
  have kG4 := below_blk b34 kG kG.lt
  have hown4 := LegsOwn.below b34 hown
  clear hown3 hns hexp
  cases hany : g.needs.any (namedSends ls mm) with
  | true =>
    refine T_true rfl ?_
    refine T_exit rfl ?_
    repeat (first | refine T_seq ?_ | refine T_block ?_ | refine T_inBlock ?_ | refine T_skip ?_)
    refine T_region ?_
    refine L_val _ _ (X_add rfl rfl (by omega) (by omega)) rfl ?_
    refine L_val _ _ (X_move) rfl ?_
    refine L_nil ?_
    obtain ⟨e1, e2⟩ := hstep y4 ls rfl (hsame (by simp [linkN, hex, hany]))
    exact ih _ _ _ (by omega) ⟨i + 1, ls, rfl, by omega, rfl, bx.trans (b34.mono bx.size), by omega, k24, k34, e1, hown4, hap, e2⟩
  | false =>
  refine T_false rfl ?_
  repeat (first | refine T_seq ?_ | refine T_block ?_ | refine T_inBlock ?_ | refine T_skip ?_)
  refine T_region ?_
  refine L_val _ _ (X_field F28_0 rfl) rfl ?_
  refine L_val _ _ (X_load A26 rfl (k34.cell 0)) rfl ?_
  refine L_val _ _ (X_lenS U26 rfl) rfl ?_
  refine L_val _ _ (X_move) rfl ?_
  refine L_nil ?_
  repeat (first | refine T_seq ?_ | refine T_block ?_ | refine T_inBlock ?_ | refine T_skip ?_)
  refine T_loopS [37, 36, 3, 4, 5, 2, 15, 14] (fun m vs z => ∃ (kk : Nat), vs = [.int .i64 kk, .int .i64 gs.length, .pointer (some ⟨B3, 0, none⟩), .int .i64 i, .pointer (some ⟨B5, 0, none⟩), .pointer (some ⟨B2, 0, none⟩), .int .i64 i, .int .i64 gs.length] ∧ kk ≤ gs.length ∧ m = gs.length - kk ∧ Below y4.heap.size y4 z ∧ ∀ q, q < kk → isSender ls i mm q = false) gs.length
    ⟨0, rfl, by omega, rfl, Below.refl _ _, fun q h => by omega⟩ ?_
  rintro m vs ρ2 z ⟨kk, rfl, hkk, rfl, bz, hnos⟩ ih2
  have tz := bz.size
  have k2z := below_blk bz k24 k24.lt
  have k3z := below_blk bz k34 k34.lt
  have kGz := below_blk bz kG4 kG4.lt
  have c5z := below_blk bz c54 c54.lt
  have hownz := LegsOwn.below bz hown4
  have bxz : Below w.heap.size w z := bx.trans ((b34.trans (bz.mono (by omega))).mono bx.size)
  repeat (first | refine T_seq ?_ | refine T_block ?_ | refine T_inBlock ?_ | refine T_skip ?_)
  refine T_region ?_
  refine L_val _ _ (X_cmp rfl rfl rfl) rfl ?_
  refine L_nil ?_
  repeat (first | refine T_seq ?_ | refine T_block ?_ | refine T_inBlock ?_ | refine T_skip ?_)
  refine T_if rfl (fun ht2 => ?_) (fun hf2 => ?_)
  case refine_2 =>
    have hge : ¬ kk < gs.length := by simpa [cmpB] using hf2
    refine T_exit rfl ?_
    repeat (first | refine T_seq ?_ | refine T_block ?_ | refine T_inBlock ?_ | refine T_skip ?_)
    refine T_region ?_
    refine L_val _ _ (X_add rfl rfl (by omega) (by omega)) rfl ?_
    refine L_val _ _ (X_move) rfl ?_
    refine L_nil ?_
    have hnone : (List.range gs.length).find? (isSender ls i mm) = none := by
      rw [List.find?_eq_none]
      intro q hq
      have := hnos q (by simp at hq; omega)
      simp [this]
    obtain ⟨e1, e2⟩ := hstep z ls rfl (hsame (by simp [linkN, hex, hany, hlen, hnone]))
    exact ih _ _ _ (by omega) ⟨i + 1, ls, rfl, by omega, rfl, bxz, by omega, k2z, k3z, e1, hownz, hap, e2⟩
  have hltk : kk < gs.length := by simpa [cmpB] using ht2
  have hltk' : kk < ls.length := by omega
  obtain ⟨p, q, hpq, hp2, hck⟩ := hown4.legs.at (i := kk) (g := ls[kk]) (by simp [hltk'])
  simp only [Option.some.injEq, Addr.mk.injEq, and_true] at hpq
  obtain ⟨rfl, rfl⟩ := hpq
  have hlsk : ls[kk]? = some ls[kk] := by simp [hltk']
  have hsend := fun (z : World) (h : LegsOwn z W2 (some ⟨G, 0, none⟩) c' ls) => sends_ret (some ⟨G, 0, none⟩) c' ls kk mm z h.legs hltk'
  generalize ls[kk] = u at *
  rw [hlen] at hsend
  have hfind := fun (z : World) (h : LegsOwn z W2 (some ⟨G, 0, none⟩) c' ls) => find_ret (some ⟨G, 0, none⟩) c' ls u.id z h.legs (by omega)
  rw [hlen] at hfind
  obtain ⟨q, hq⟩ := findAt_own hlsk
  rw [hq] at hfind
  have hq2 : q < gs.length := by have := findAt_lt' hq; simpa [hlen] using this
  have hin : Below y4.heap.size y4 z.drew := (sm_drew z).below bz
  repeat (first | refine T_seq ?_ | refine T_block ?_ | refine T_inBlock ?_ | refine T_skip ?_)
  refine T_region ?_
  refine L_val _ _ (X_move) rfl ?_
  refine L_val _ _ (X_assign) rfl ?_
  refine L_nil ?_
  repeat (first | refine T_seq ?_ | refine T_block ?_ | refine T_inBlock ?_ | refine T_skip ?_)
  refine T_quiet (fun z => Below y4.heap.size y4 z) rfl (by kernel_rfl) (hin) ?_
  refine LQ_val _ (fun w hw => X_loadAgg [.slice (some ⟨G, 0, none⟩) gs.length c'] A28 S28 rfl rfl (agg1 (below_blk hw k34 k34.lt))) rfl ?_
  refine LQ_val _ (fun w hw => X_field F28_0 rfl) rfl ?_
  refine LQ_val _ (fun w hw => X_load A26 rfl ((below_blk hw k34 k34.lt).cell 0)) rfl ?_
  refine LQ_val _ (fun w hw => X_move) rfl ?_
  refine LQ_val _ (fun w hw => X_index U26 S62 rfl rfl hltk) rfl ?_
  refine LQ_val _ (fun w hw => X_field F62_0 rfl) rfl ?_
  refine LQ_val _ (fun w hw => X_load A59 rfl ((below_cell hw _ kG4.lt).trans (hck 0 _ rfl))) rfl ?_
  refine LQ_callL [.agg #[.slice (some ⟨G, 0, none⟩) gs.length c'], .int .u8 u.id] (.tuple #[.int .i64 q, .bool true]) E25 rfl rfl (fun w hw => (hfind w (LegsOwn.below hw hown4)).mono fun u w' hu => ⟨hu.1, hw.trans (hu.2.mono hw.size)⟩) ?_
  refine LQ_val _ (fun w hw => X_move) rfl ?_
  refine LQ_val _ (fun w hw => X_extract rfl rfl) rfl ?_
  refine LQ_val _ (fun w hw => X_extract rfl rfl) rfl ?_
  refine LQ_val _ (fun w hw => X_assign) rfl ?_
  refine LQ_val _ (fun w hw => X_assign) rfl ?_
  refine LQ_nil fun z1 bz1 => ?_
  have tz1 := bz1.size
  have hnext : isSender ls i mm kk = false → ∀ q, q < kk + 1 → isSender ls i mm q = false := fun h q hq => by
    rcases Nat.lt_or_ge q kk with h' | h'
    · exact hnos q h'
    · obtain rfl : q = kk := by omega
      exact h
  repeat (first | refine T_seq ?_ | refine T_block ?_ | refine T_inBlock ?_ | refine T_skip ?_)
  by_cases hqk : q = kk
  case neg =>
    have eq1 : cmpB .eql (q : Int) (kk : Int) = false := by simp [cmpB]; omega
    refine T_region ?_
    refine L_val _ _ (X_move) rfl ?_
    refine L_val _ _ (X_move) rfl ?_
    refine L_val _ _ (X_cmpR false rfl rfl rfl eq1) rfl ?_
    refine L_val _ _ (X_move) rfl ?_
    refine L_passB rfl rfl rfl ?_
    refine L_passB rfl rfl rfl ?_
    refine L_passB rfl rfl rfl ?_
    refine L_val _ _ (X_pick rfl) rfl ?_
    refine L_val _ _ (X_move) rfl ?_
    refine L_passB rfl rfl rfl ?_
    refine L_passB rfl rfl rfl ?_
    refine L_passB rfl rfl rfl ?_
    refine L_passB rfl rfl rfl ?_
    refine L_val _ _ (X_pick rfl) rfl ?_
    refine L_nil ?_
    refine T_false rfl ?_
    repeat (first | refine T_seq ?_ | refine T_block ?_ | refine T_inBlock ?_ | refine T_skip ?_)
    refine T_region ?_
    refine L_val _ _ (X_add rfl rfl (by omega) (by omega)) rfl ?_
    refine L_val _ _ (X_move) rfl ?_
    refine L_nil ?_
    refine ih2 _ _ _ (by omega) ⟨kk + 1, rfl, by omega, rfl, bz1, hnext ?_⟩
    simp [isSender, hlsk, hq, hqk]
  subst hqk
  have eq1 : cmpB .eql (q : Int) (q : Int) = true := by simp [cmpB]
  by_cases hqi : q = i
  · have eq2 : cmpB .neq (q : Int) (i : Int) = false := by simp [cmpB]; omega
    refine T_region ?_
    refine L_val _ _ (X_move) rfl ?_
    refine L_val _ _ (X_move) rfl ?_
    refine L_val _ _ (X_cmpR true rfl rfl rfl eq1) rfl ?_
    refine L_val _ _ (X_move) rfl ?_
    refine L_guard rfl rfl rfl ?_
    refine L_val _ _ (X_move) rfl ?_
    refine L_guard rfl rfl rfl ?_
    refine L_val _ _ (X_move) rfl ?_
    refine L_guard rfl rfl rfl ?_
    refine L_val _ _ (X_cmpR false rfl rfl rfl eq2) rfl ?_
    refine L_val _ _ (X_pick rfl) rfl ?_
    refine L_val _ _ (X_move) rfl ?_
    refine L_passB rfl rfl rfl ?_
    refine L_passB rfl rfl rfl ?_
    refine L_passB rfl rfl rfl ?_
    refine L_passB rfl rfl rfl ?_
    refine L_val _ _ (X_pick rfl) rfl ?_
    refine L_nil ?_
    refine T_false rfl ?_
    repeat (first | refine T_seq ?_ | refine T_block ?_ | refine T_inBlock ?_ | refine T_skip ?_)
    refine T_region ?_
    refine L_val _ _ (X_add rfl rfl (by omega) (by omega)) rfl ?_
    refine L_val _ _ (X_move) rfl ?_
    refine L_nil ?_
    refine ih2 _ _ _ (by omega) ⟨q + 1, rfl, by omega, rfl, bz1, hnext ?_⟩
    have e : (q != i) = false := by simp [hqi]
    unfold isSender
    rw [hlsk]
    simp only [e, Bool.and_false, Bool.false_and]
  have eq2 : cmpB .neq (q : Int) (i : Int) = true := by simp [cmpB]; omega
  have hownz1 := LegsOwn.below bz1 hown4
  have hsendz := hsend z1 hownz1
  have hisS : isSender ls i mm q = sendsB u mm := by simp [isSender, hlsk, hq, hqi]
  generalize sendsB u mm = t at *
  refine T_region ?_
  refine L_val _ _ (X_move) rfl ?_
  refine L_val _ _ (X_move) rfl ?_
  refine L_val _ _ (X_cmpR true rfl rfl rfl eq1) rfl ?_
  refine L_val _ _ (X_move) rfl ?_
  refine L_guard rfl rfl rfl ?_
  refine L_val _ _ (X_move) rfl ?_
  refine L_guard rfl rfl rfl ?_
  refine L_val _ _ (X_move) rfl ?_
  refine L_guard rfl rfl rfl ?_
  refine L_val _ _ (X_cmpR true rfl rfl rfl eq2) rfl ?_
  refine L_val _ _ (X_pick rfl) rfl ?_
  refine L_val _ _ (X_move) rfl ?_
  refine L_guard rfl rfl rfl ?_
  refine L_val _ _ (X_loadAgg [.slice (some ⟨G, 0, none⟩) gs.length c'] A28 S28 rfl rfl (agg1 (below_blk bz1 k34 k34.lt))) rfl ?_
  refine L_guard rfl rfl rfl ?_
  refine L_val _ _ (X_move) rfl ?_
  refine L_guard rfl rfl rfl ?_
  refine L_val _ _ (X_loadAgg mm.cells A37 S37 (Msg.cells_length _) rfl (lblk0 (below_blk bz1 c54 c54.lt))) rfl ?_
  refine L_guard rfl rfl rfl ?_
  refine L_callF [.agg #[.slice (some ⟨G, 0, none⟩) gs.length c'], .int .i64 q, .agg mm.cells.toArray] E32 rfl rfl hsendz ?_
  rintro v z2 ⟨rfl, bz2⟩
  refine L_val _ _ (X_pick rfl) rfl ?_
  refine L_nil ?_
  have bz2' : Below y4.heap.size y4 z2 := bz1.trans (bz2.mono tz1)
  have tz2 := bz2.size
  cases t with
  | false =>
    refine T_false rfl ?_
    repeat (first | refine T_seq ?_ | refine T_block ?_ | refine T_inBlock ?_ | refine T_skip ?_)
    refine T_region ?_
    refine L_val _ _ (X_add rfl rfl (by omega) (by omega)) rfl ?_
    refine L_val _ _ (X_move) rfl ?_
    refine L_nil ?_
    exact ih2 _ _ _ (by omega) ⟨q + 1, rfl, by omega, rfl, bz2', hnext hisS⟩
  | true =>
  refine T_true rfl ?_
  have hfirst : (List.range gs.length).find? (isSender ls i mm) = some q := find_first hltk hisS hnos
  have hlk : linkN ls i g = g.needs ++ [u.id] := by simp [linkN, hex, hany, hlen, hfirst, hlsk]
  have k22 := below_blk bz2' k24 k24.lt
  have k32 := below_blk bz2' k34 k34.lt
  have kG2 := below_blk bz2' kG4 kG4.lt
  have hown2 := LegsOwn.below bz2' hown4
  have bx2 : Below w.heap.size w z2 := bx.trans ((b34.trans (bz2'.mono (by omega))).mono bx.size)
  have hW2z : W2 ≤ z2.heap.size := by omega
  have hci : cur[0 + i * 22 + 21]? = some (.slice g.na g.needs.length g.nc) := by
    have e1 := hc 21 _ rfl
    rw [kG.cell] at e1
    exact e1
  have hcq : cur[0 + q * 22 + 0]? = some (.int .u8 u.id) := by
    have e1 := hck 0 _ rfl
    rw [kG4.cell] at e1
    exact e1
  have hgn : NeedsOwn z2 W2 g := hown2.needs g (List.mem_of_getElem? hlsi)
  have hne : B3 ≠ G := fun e => by subst e; unfold Blk at k32 kG2; rw [k32] at kG2; simp at kG2
  have hbv : ∀ b, (Value.slice g.na g.needs.length g.nc).ownBlock = some b → ∃ cc, Blk z2 b cc 59 := by
    intro b hb
    rcases hgn.2 with ⟨e1, _⟩ | ⟨g1, cap, cc, e1, _, hgg, _⟩
    · rw [e1] at hb; simp [Value.ownBlock] at hb
    · rw [e1] at hb; simp [Value.ownBlock] at hb
      subst hb
      exact ⟨cc, hgg⟩
  clear hown4 hownz hownz1 hown k24 k34 kG4 k2 k3 kG k2z k3z kGz c5z c54 c5 c5' hsendz hsend hfind
  repeat (first | refine T_seq ?_ | refine T_block ?_ | refine T_inBlock ?_ | refine T_skip ?_)
  refine T_draw (fun z => Blk z B3 #[.slice (some ⟨G, 0, none⟩) gs.length c'] 28 ∧ Blk z G cur 62) 17 rfl rfl fun z3 hsm => ?_
  have hS : Blk z3 B3 #[.slice (some ⟨G, 0, none⟩) gs.length c'] 28 ∧ Blk z3 G cur 62 := ⟨hsm.blk k32, hsm.blk kG2⟩
  refine D_take 0 _ rfl (by kernel_rfl) hS (fun w hw => X_field F28_0 rfl) rfl ?_
  refine D_take 1 _ rfl (by kernel_rfl) hS (fun w hw => X_load A26 rfl (hw.1.cell 0)) rfl ?_
  refine D_take 2 _ rfl (by kernel_rfl) hS (fun w hw => X_move) rfl ?_
  refine D_take 3 _ rfl (by kernel_rfl) hS (fun w hw => X_field F28_0 rfl) rfl ?_
  refine D_take 4 _ rfl (by kernel_rfl) hS (fun w hw => X_load A26 rfl (hw.1.cell 0)) rfl ?_
  refine D_take 5 _ rfl (by kernel_rfl) hS (fun w hw => X_move) rfl ?_
  refine D_take 6 _ rfl (by kernel_rfl) hS (fun w hw => X_index U26 S62 rfl rfl hlt) rfl ?_
  refine D_take 7 _ rfl (by kernel_rfl) hS (fun w hw => X_field F62_3 rfl) rfl ?_
  refine D_take 8 _ rfl (by kernel_rfl) hS (fun w hw => X_load A60 rfl ((by rw [hw.2.cell]; exact hci))) rfl ?_
  refine D_take 9 _ rfl (by kernel_rfl) hS (fun w hw => X_field F28_0 rfl) rfl ?_
  refine D_take 10 _ rfl (by kernel_rfl) hS (fun w hw => X_load A26 rfl (hw.1.cell 0)) rfl ?_
  refine D_take 11 _ rfl (by kernel_rfl) hS (fun w hw => X_move) rfl ?_
  refine D_take 12 _ rfl (by kernel_rfl) hS (fun w hw => X_index U26 S62 rfl rfl hltk) rfl ?_
  refine D_take 13 _ rfl (by kernel_rfl) hS (fun w hw => X_field F62_0 rfl) rfl ?_
  refine D_take 14 _ rfl (by kernel_rfl) hS (fun w hw => X_load A59 rfl ((by rw [hw.2.cell]; exact hcq))) rfl ?_
  skip
  have hgn3 : NeedsOwn z3 W2 g := hsm.owns hgn
  have hz3 : z3.heap.size = z2.heap.size := by rw [hsm.heap]
  refine D_buildSlice 15 #[.int .u8 u.id] 59 rfl (by kernel_rfl) (by kernel_rfl) rfl ?_
  intro z4 h4
  have hS4 : Blk z4 B3 #[.slice (some ⟨G, 0, none⟩) gs.length c'] 28 ∧ Blk z4 G cur 62 := ⟨h4.blk hS.1 (by have := hS.1.lt; omega), h4.blk hS.2 (by have := hS.2.lt; omega)⟩
  refine ⟨fun _ => hS4, ?_⟩
  have hgn4 : NeedsOwn z4 W2 g := owns_new h4 hgn3
  have hz4 := h4.size
  have hnot : ∀ b cc t, Blk z4 b cc t → t ≠ 59 → (Value.slice g.na g.needs.length g.nc).ownBlock ≠ some b := by
    intro b cc t hb ht he
    rcases hgn4.2 with ⟨e1, _⟩ | ⟨g1, cap, cc', e1, _, hgg, _⟩
    · rw [e1] at he; simp [Value.ownBlock] at he
    · rw [e1] at he; simp [Value.ownBlock] at he
      subst he
      unfold Blk at hb
      rw [hgg] at hb
      simp at hb
      exact ht hb.2.symm
  refine D_append1 16 W2 (.slice g.na g.needs.length g.nc) g.needs.length (g.needs.map (Value.int .u8)) z3.heap.size [.int .u8 u.id] rfl (by kernel_rfl) Try.underlying60 I59 rfl (by decide) rfl hgn4 rfl rfl h4.new (by simp [Value.oneCell']) (by simp only [maxLen]; omega) (by omega) (by omega) rfl ?_
  intro v' z5 o5 g5 p5
  have hS5 : Blk z5 B3 #[.slice (some ⟨G, 0, none⟩) gs.length c'] 28 ∧ Blk z5 G cur 62 := ⟨grown_blk g5 hS4.1 (hnot _ _ _ hS4.1 (by decide)), grown_blk g5 hS4.2 (hnot _ _ _ hS4.2 (by decide))⟩
  refine ⟨fun _ => hS5, ?_⟩
  obtain ⟨na', nc', rfl, -, hna'⟩ := owns_val o5
  refine D_val 17 _ _ rfl (by kernel_rfl) (X_index U26 S62 rfl rfl hlt) rfl (fun hb => by cases hb) ?_
  refine D_val 18 _ _ rfl (by kernel_rfl) (X_field F62_3 rfl) rfl (fun hb => by cases hb) ?_
  refine D_store 19 (.slice na' (g.needs.length + 1) nc') rfl (by kernel_rfl) S60 rfl rfl rfl hS5.2 (by omega) ?_
  intro z6 h6
  refine ⟨fun hb => (by cases hb), ?_⟩
  refine D_done (by kernel_rfl) ?_
  have hsz5 := g5.size
  have hL' : NeedsOwn z5 W2 ⟨g.id, g.chain, g.tx, g.needs ++ [u.id], na', nc'⟩ := by
    unfold NeedsOwn
    simp only [List.length_append, List.length_singleton, List.map_append, List.map_cons, List.map_nil]
    exact o5
  have hoth : ∀ (j : Nat) l, ls[j]? = some l → j ≠ i → NeedsOwn z4 W2 l := fun j l hj _ => owns_new h4 (hsm.owns (hown2.needs l (List.mem_of_getElem? hj)))
  have hoth5 : ∀ (j : Nat) l, ls[j]? = some l → j ≠ i → NeedsOwn z5 W2 l := by
    intro j l hj hji
    have h0 := hoth j l hj hji
    refine World.ownsRow.kept h0 g5 ?_
    cases hnl : l.na with
    | none => exact .inl rfl
    | some ad =>
      refine .inr fun he => ?_
      obtain ⟨b, rfl, _, _⟩ := h0.lt ad hnl
      cases hng : g.na with
      | none => rw [hng] at he; simp [Value.ownBlock] at he
      | some ad2 =>
        obtain ⟨b2, rfl, _, _⟩ := hgn4.lt ad2 hng
        rw [hng] at he
        simp [Value.ownBlock] at he
        subst he
        exact hap j i l g hj hlsi hji _ hnl hng
  have hrow5 : z5.ownsRow W2 62 22 (.slice (some ⟨G, 0, none⟩) ls.length c') ls.length (ls.map Leg.cells).flatten := by
    refine World.ownsRow.kept (owns_new h4 (hsm.owns hown2.own)) g5 (.inr fun he => ?_)
    exact hnot G cur 62 hS4.2 (by decide) (by simpa [Value.ownBlock] using he.symm)
  have h6' : Chg z5 z6 G (.cells (cur.setIfInBounds (0 + i * 22 + 21) (.slice na' (g.needs ++ [u.id]).length nc')) 62 (0, 0)) := by
    simp only [List.length_append, List.length_singleton]
    exact h6
  have hownN : LegsOwn z6 W2 (some ⟨G, 0, none⟩) c' (ls.set i ⟨g.id, g.chain, g.tx, g.needs ++ [u.id], na', nc'⟩) :=
    legs_setN ⟨g.id, g.chain, g.tx, g.needs ++ [u.id], na', nc'⟩ (by omega) hrow5 hoth5 hL' hlti hS5.2 h6' (by rw [hgd]; exact Leg.setNeeds g na' _ nc' _ rfl)
  have hapN : Apart (ls.set i ⟨g.id, g.chain, g.tx, g.needs ++ [u.id], na', nc'⟩) := by
    refine hap.set fun j l hj hji ad hla hna => ?_
    obtain ⟨b, rfl, _, hbz⟩ := (hoth j l hj hji).lt ad hla
    have hna0 : na' = some ⟨b, 0, none⟩ := hna
    rw [hna0] at p5
    rcases p5 with p5 | p5
    · cases hng : g.na with
      | none => rw [hng] at p5; simp [Value.ownBlock] at p5
      | some ad2 =>
        obtain ⟨b2, rfl, _, _⟩ := hgn4.lt ad2 hng
        rw [hng] at p5
        simp [Value.ownBlock] at p5
        subst p5
        exact hap j i l g hj hlsi hji _ hla hng
    · simp [Value.ownBlock] at p5
      omega
  have hlikeN : Like (ls.set i ⟨g.id, g.chain, g.tx, g.needs ++ [u.id], na', nc'⟩) ls := by
    unfold Like
    rw [List.map_set]
    apply List.ext_getElem?
    intro j
    rw [List.getElem?_set]
    split
    · rename_i e
      subst e
      simp [hlti, hgd, Leg.core]
    · rfl
  obtain ⟨e1, e2⟩ := hstep z6 _ hlikeN (fun j l l' hl hl' => by
    rw [List.getElem?_set] at hl'
    by_cases hji : i = j
    · subst hji
      rw [hlsi] at hl
      obtain rfl := Option.some.inj hl
      simp only [if_true, hlti, Option.some.injEq] at hl'
      subst hl'
      simp only [if_true]
      exact hlk.symm
    · rw [if_neg hji, hl] at hl'
      obtain rfl := Option.some.inj hl'
      rw [if_neg (fun e => hji e.symm)])
  have bx5 : Below w.heap.size w z5 := grown_below (h4.below (hsm.below bx2) (by omega)) hgn4 g5 (by omega) (by omega)
  have bx6 : Below w.heap.size w z6 := h6.below bx5 (by omega)
  have k2N : Blk z6 B2 #[.slice none 0 0] 28 := by
    have a1 := hsm.blk k22
    have a2 := h4.blk a1 (by have := a1.lt; omega)
    have a3 := grown_blk g5 a2 (hnot _ _ _ a2 (by decide))
    exact h6.blk a3 (fun e => by subst e; have := hS5.2; unfold Blk at this a3; rw [this] at a3; simp at a3)
  have k3N := h6.blk hS5.1 (fun e => hne (by omega))
  refine T_exit rfl ?_
  repeat (first | refine T_seq ?_ | refine T_block ?_ | refine T_inBlock ?_ | refine T_skip ?_)
  refine T_region ?_
  refine L_val _ _ (X_add rfl rfl (by omega) (by omega)) rfl ?_
  refine L_val _ _ (X_move) rfl ?_
  refine L_nil ?_
  have hsz6 := h6.size
  exact ih _ _ _ (by omega) ⟨i + 1, _, rfl, by omega, rfl, bx6, by omega, k2N, k3N, e1, hownN, hapN, e2⟩
end Go.Proofs.Qxb6500865a
