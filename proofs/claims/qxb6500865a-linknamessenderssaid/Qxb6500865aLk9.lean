/-
  The law LinkNamesSenders.
-/
import Derived.Test.Qxb6500865aLk8
import Derived.Test.Qxb6500865aWk11
namespace Go.Proofs.Qxb6500865a
set_option linter.unusedSimpArgs false
set_option linter.unusedVariables false
open Go.RowKit

theorem owns_take {w : World} {base n m c : Nat} {e : TypeId} {sz : Nat} {a : Option Addr} {xs : List Value} (h : w.ownsRow base e sz (.slice a n c) n xs) (hm : m ≤ n) : w.ownsRow base e sz (.slice a m c) m (xs.take (m * sz)) := by
  have hms : m * sz ≤ n * sz := Nat.mul_le_mul_right _ hm
  refine ⟨by rw [List.length_take, h.1]; omega, ?_⟩
  rcases h.2 with ⟨h1, h2⟩ | ⟨g, cap, cur, hv, hb, hgg, hnc, hcm, hcs, htk⟩
  · simp only [Value.slice.injEq] at h1
    obtain ⟨rfl, h1, rfl⟩ := h1
    obtain rfl : m = 0 := by omega
    exact .inl ⟨rfl, rfl⟩
  · simp only [Value.slice.injEq] at hv
    obtain ⟨rfl, -, rfl⟩ := hv
    refine .inr ⟨g, c, cur, rfl, hb, hgg, by omega, hcm, hcs, ?_⟩
    rw [← htk, List.take_take]
    congr 1
    omega
theorem owns_cap {w : World} {base n c : Nat} {e : TypeId} {sz : Nat} {a : Option Addr} {xs : List Value} (h : w.ownsRow base e sz (.slice a n c) n xs) : n ≤ c := by
  rcases h.2 with ⟨h1, h2⟩ | ⟨g, cap, cur, hv, hb, hgg, hnc, hcm, hcs, htk⟩
  · simp only [Value.slice.injEq] at h1
    omega
  · simp only [Value.slice.injEq] at hv
    omega
theorem exp_msg {g : Leg} {m : Msg} (h : expOf g = some m) : m = g.tx.msg := by
  unfold expOf inOf at h
  split at h
  · rename_i m' hm
    split at hm
    · simp only [Option.some.injEq] at hm
      subst hm
      split at h
      · simpa using h.symm
      · simp at h
    · simp at hm
  · simp at h
theorem ret_args {P : Program} {g : FuncId} {a b : Array Value} {w : World} {Z : Value → World → Prop} (h : a = b) (hr : Ret P g a w Z) : Ret P g b w Z := h ▸ hr
set_option maxHeartbeats 16000000 in
set_option maxRecDepth 10000 in
/-- bundlelaw.LinkNamesSenders -/
theorem linkLaw_ret (a : Option Addr) (c : Nat) (xs : List OpD) (w : World) (hs : Script w a xs) :
    Ret Try.prog 6 #[.slice a xs.length c] w fun v w' => v = .bool true ∧ Below w.heap.size w w' := by
  refine ret_of_T (vs := [.slice a xs.length c]) Try.func6 Try.ntmps6 rfl (Nat.le_of_ble_eq_true rfl) ?_
  repeat (first | refine T_seq ?_ | refine T_block ?_ | refine T_inBlock ?_ | refine T_skip ?_)
  refine T_region ?_
  refine L_val _ _ (X_assign) rfl ?_
  refine L_nil ?_
  repeat (first | refine T_seq ?_ | refine T_block ?_ | refine T_inBlock ?_ | refine T_skip ?_)
  refine T_region ?_
  refine L_val _ _ (X_move) rfl ?_
  refine L_callF [.slice a xs.length c] E8 rfl rfl (small_ret a c xs w hs.ops hs.len hs.big) ?_
  rintro v w1 ⟨t, rfl, rfl, hsmall⟩
  refine L_val _ _ (X_not rfl) rfl ?_
  refine L_nil ?_
  cases t with
  | false =>
    refine T_true rfl ?_
    repeat (first | refine T_seq ?_ | refine T_block ?_ | refine T_inBlock ?_ | refine T_skip ?_)
    refine T_region ?_
    refine L_val _ _ (X_assign) rfl ?_
    refine L_nil ?_
    exact T_ret1 Try.func6 rfl ⟨rfl, Below.refl _ _⟩
  | true =>
  obtain ⟨hxl, hxs⟩ := hsmall rfl
  refine T_false rfl ?_
  repeat (first | refine T_seq ?_ | refine T_block ?_ | refine T_inBlock ?_ | refine T_skip ?_)
  refine T_region ?_
  refine L_val _ _ (X_move) rfl ?_
  refine L_val _ _ (X_lenS U22 rfl) rfl ?_
  refine L_val _ _ (X_move) rfl ?_
  refine L_nil ?_
  repeat (first | refine T_seq ?_ | refine T_block ?_ | refine T_inBlock ?_ | refine T_skip ?_)
  refine T_loopS [21, 20, 19] (fun m vs x => ∃ i : Nat, vs = [.int .i64 i, .int .i64 xs.length, .slice a xs.length c] ∧ i ≤ xs.length ∧ m = xs.length - i ∧ Below w1.heap.size w1 x) xs.length ⟨0, rfl, by omega, rfl, Below.refl _ _⟩ ?_
  rintro m vs ρ x ⟨i, rfl, hi, rfl, bx⟩ ih
  repeat (first | refine T_seq ?_ | refine T_block ?_ | refine T_inBlock ?_ | refine T_skip ?_)
  refine T_region ?_
  refine L_val _ _ (X_cmp rfl rfl rfl) rfl ?_
  refine L_nil ?_
  repeat (first | refine T_seq ?_ | refine T_block ?_ | refine T_inBlock ?_ | refine T_skip ?_)
  refine T_if rfl (fun ht => ?_) (fun hf => ?_)
  case refine_2 =>
    refine T_exit rfl ?_
    repeat (first | refine T_seq ?_ | refine T_block ?_ | refine T_inBlock ?_ | refine T_skip ?_)
    refine T_region ?_
    refine L_val _ _ (X_assign) rfl ?_
    refine L_nil ?_
    exact T_ret1 Try.func6 rfl ⟨rfl, bx⟩
  have hlt : i < xs.length := by simpa [cmpB] using ht
  have hox := hs.ops.keep (keeps_below bx)
  obtain ⟨p, q, rfl, hp, hc⟩ := hox.at (i := i) (x := xs[i]) (by simp)
  have hlx := hox.ok xs[i] (by simp)
  have hsx := hxs xs[i] (by simp)
  have hnx := hs.nil xs[i] (by simp)
  have hnnx := hs.nils xs[i] (by simp)
  generalize xs[i] = X at *
  have hLl := hsx.legs
  have hNl : ∀ g ∈ X.legs, g.needs.length ≤ 65537 := fun g hg => by have := hsx.needs g hg; omega
  have sx := bx.size
  repeat (first | refine T_seq ?_ | refine T_block ?_ | refine T_inBlock ?_ | refine T_skip ?_)
  refine T_region ?_
  refine L_val _ _ (X_index U22 S43 rfl rfl hlt) rfl ?_
  refine L_val _ _ (X_loadAgg X.cells A43 S43 (OpD.cells_length _) rfl hc) rfl ?_
  refine L_alloc Z43 rfl fun w2 h2 => ?_
  refine L_storeAll X.cells S43 rfl rfl (OpD.cells_length _) (OpD.cells_one _) h2.new rfl fun w3 h3 => ?_
  refine L_nil ?_
  have h23 := h2.trans h3
  have b3 : Below x.heap.size x w3 := h23.below (Below.refl _ _) (Nat.le_refl _)
  have k4 : Blk w3 x.heap.size X.cells.toArray 43 := h23.new
  have s3 := h23.size
  have hl3 := hlx.keep (keeps_below b3)
  clear h2 h3 h23
  have hcopy := copy_ret2 X.la X.lc X.legs w3 hl3 hnx hnnx hLl hNl
  repeat (first | refine T_seq ?_ | refine T_block ?_ | refine T_inBlock ?_ | refine T_skip ?_)
  refine T_region ?_
  refine L_val _ _ (X_field F43_2 rfl) rfl ?_
  refine L_val _ _ (X_loadAgg [.slice X.la X.legs.length X.lc] A28 S28 rfl rfl (fun j v hv => op_blk k4 (0 + 2 + j) (op_legs X hv))) rfl ?_
  refine L_callF [.agg #[.slice X.la X.legs.length X.lc]] E20 rfl rfl hcopy ?_
  rintro v w4 ⟨a5, c5, gv, rfl, hgd, -, hgo, b4, -⟩
  refine L_alloc Z28 rfl fun w5 h5 => ?_
  refine L_storeAll [.slice a5 X.legs.length c5] S28 rfl rfl rfl (by simp [Value.oneCell']) h5.new rfl fun w6 h6 => ?_
  refine L_nil ?_
  have h56 := h5.trans h6
  have s4 := b4.size
  have s6 := h56.size
  have z6 := h56.lt
  have k5 : Blk w6 w4.heap.size #[.slice a5 X.legs.length c5] 28 := h56.new
  have b36 : Below w3.heap.size w3 w6 := h56.below b4 s4
  have k46 := below_blk b36 k4 (by have := k4.lt; omega)
  have hgo6 : LegsOwn w6 w3.heap.size a5 c5 gv := ⟨owns_new h56 hgo.own, fun g hg => owns_new h56 (hgo.needs g hg)⟩
  have hl6 := hl3.keep (keeps_below b36)
  clear h5 h6 h56 hgo b4 hcopy
  have hlink := link_ret X.la X.lc X.legs w6 hl6 hnx hnnx hLl hNl
  repeat (first | refine T_seq ?_ | refine T_block ?_ | refine T_inBlock ?_ | refine T_skip ?_)
  refine T_region ?_
  refine L_val _ _ (X_field F43_2 rfl) rfl ?_
  refine L_val _ _ (X_loadAgg [.slice X.la X.legs.length X.lc] A28 S28 rfl rfl (fun j v hv => op_blk k46 (0 + 2 + j) (op_legs X hv))) rfl ?_
  refine L_callF [.agg #[.slice X.la X.legs.length X.lc]] E21 rfl rfl hlink ?_
  rintro v w7 ⟨a6, c6, ls, rfl, hlk, hlo, b7⟩
  refine L_alloc Z28 rfl fun w8 h8 => ?_
  refine L_storeAll [.slice a6 X.legs.length c6] S28 rfl rfl rfl (by simp [Value.oneCell']) h8.new rfl fun w9 h9 => ?_
  refine L_nil ?_
  have h89 := h8.trans h9
  have s7 := b7.size
  have s9 := h89.size
  have z9 := h89.lt
  have k6 : Blk w9 w7.heap.size #[.slice a6 X.legs.length c6] 28 := h89.new
  have b69 : Below w6.heap.size w6 w9 := h89.below b7 s7
  have k49 := below_blk b69 k46 (by have := k46.lt; omega)
  have k59 := below_blk b69 k5 z6
  have hgo9 := LegsOwn.below b69 hgo6
  have hlo9 : LegsOwn w9 w6.heap.size a6 c6 ls := ⟨owns_new h89 hlo.own, fun g hg => owns_new h89 (hlo.needs g hg)⟩
  have hl9 := hl6.keep (keeps_below b69)
  have b9 : Below x.heap.size x w9 := b3.trans ((b36.trans (b69.mono (by omega))).mono (by omega))
  have hglen : gv.length = X.legs.length := by have := congrArg List.length hgd; simpa using this
  have hllen : ls.length = X.legs.length := hlk.like.len
  clear h8 h9 h89 hlo b7 hlink k46 k5 hl6 hgo6
  generalize w7.heap.size = B6 at *
  generalize w4.heap.size = B5 at *
  have hgn : ∀ (j : Nat) g x, gv[j]? = some g → X.legs[j]? = some x → g.data = x.data := by
    intro j g x hg hx
    have := congrArg (·[j]?) hgd
    simpa only [List.getElem?_map, hg, hx, Option.map_some, Option.some.injEq] using this
  have hNg : ∀ g ∈ gv, g.needs.length ≤ 65536 := by
    intro g hg
    have := data_needs (N := 65537) hgd (fun g hg => by have := hsx.needs g hg; omega) g hg
    omega
  have hshort : ∀ (j : Nat) l g, ls[j]? = some l → gv[j]? = some g → l.needs = g.needs ∨ ∃ x, l.needs = g.needs ++ [x] := by
    intro j l g hl hg
    obtain ⟨u, hu, _⟩ := hlk.like.get hl
    have e1 := hlk.needs j u l hu hl
    have e2 : g.needs = u.needs := congrArg (fun d => d.2.2.2) (hgn j g u hg hu)
    rw [e1, e2]
    exact linkN_cases _ _ _
  have hNs : ∀ l ∈ ls, l.needs.length ≤ 65537 := by
    intro l hl
    obtain ⟨j, hj⟩ := List.getElem?_of_mem hl
    have hjl := (List.getElem?_eq_some_iff.1 hj).1
    have hg : gv[j]? = some (gv[j]'(by omega)) := by simp
    have := hNg _ (List.mem_of_getElem? hg)
    rcases hshort j l _ hj hg with e | ⟨u, e⟩
    · rw [e]; omega
    · rw [e, List.length_append, List.length_singleton]; omega
  have hsame1 : ∀ z, Below w9.heap.size w9 z → Ret Try.prog 22 #[.agg #[.slice a5 X.legs.length c5], .agg #[.slice X.la X.legs.length X.lc]] z fun v w' => v = .bool true ∧ Below z.heap.size z w' := by
    intro z hz
    have := same_ret a5 X.la c5 X.lc gv X.legs z (LegsOwn.below hz hgo9).legs (hl9.keep (keeps_below hz)) hgd (by omega) (fun g hg => by have := hNg g hg; omega)
    rwa [hglen] at this
  have hlink2 : ∀ z, Below w9.heap.size w9 z → Ret Try.prog 21 #[.agg #[.slice a6 X.legs.length c6]] z fun v w' => ∃ a' c' ms, v = .agg #[.slice a' X.legs.length c'] ∧ Linked ls ms ∧ LegsOwn w' z.heap.size a' c' ms ∧ Below z.heap.size z w' := by
    intro z hz
    have := link_ret a6 c6 ls z (LegsOwn.below hz hlo9).legs hlo9.nil hlo9.nilNeeds (by omega) hNs
    rwa [hllen] at this
  have eN : cmpB .neq (X.legs.length : Int) (X.legs.length : Int) = false := by simp [cmpB]
  repeat (first | refine T_seq ?_ | refine T_block ?_ | refine T_inBlock ?_ | refine T_skip ?_)
  refine T_draw (fun z => Below w9.heap.size w9 z) 21 rfl rfl fun u0 hsm => ?_
  have hS : Below w9.heap.size w9 u0 := hsm.below (Below.refl _ _)
  refine D_take 0 _ rfl (by kernel_rfl) hS (fun w hw => X_loadAgg [.slice a5 X.legs.length c5] A28 S28 rfl rfl (agg1 (below_blk hw k59 k59.lt))) rfl ?_
  refine D_take 1 _ rfl (by kernel_rfl) hS (fun w hw => X_field F43_2 rfl) rfl ?_
  refine D_take 2 _ rfl (by kernel_rfl) hS (fun w hw => X_loadAgg [.slice X.la X.legs.length X.lc] A28 S28 rfl rfl (fun j v hv => op_blk (below_blk hw k49 k49.lt) (0 + 2 + j) (op_legs X hv))) rfl ?_
  skip
  refine D_callF 3 [.agg #[.slice a5 X.legs.length c5], .agg #[.slice X.la X.legs.length X.lc]] rfl (by kernel_rfl) E22 rfl rfl (hsame1 u0 hS) ?_
  rintro v u1 ⟨rfl, bu1⟩
  have hS1 : Below w9.heap.size w9 u1 := hS.trans (bu1.mono hS.size)
  refine ⟨fun _ => hS1, ?_⟩
  refine D_take 4 _ rfl (by kernel_rfl) hS1 (fun w hw => X_not rfl) rfl ?_
  refine D_take 5 _ rfl (by kernel_rfl) hS1 (fun w hw => X_move) rfl ?_
  refine D_takeG 6 _ rfl (by kernel_rfl) hS1 rfl rfl rfl (fun w hw => X_loadAgg [.slice a6 X.legs.length c6] A28 S28 rfl rfl (agg1 (below_blk hw k6 k6.lt))) rfl ?_
  refine D_takeG 7 _ rfl (by kernel_rfl) hS1 rfl rfl rfl (fun w hw => X_loadAgg [.slice a6 X.legs.length c6] A28 S28 rfl rfl (agg1 (below_blk hw k6 k6.lt))) rfl ?_
  refine D_callFG 8 [.agg #[.slice a6 X.legs.length c6]] rfl (by kernel_rfl) rfl rfl rfl E21 rfl rfl (hlink2 u1 hS1) ?_
  rintro v u2 ⟨a9, c9, ms, rfl, hms, hmo, bu2⟩
  have hS2 : Below w9.heap.size w9 u2 := hS1.trans (bu2.mono hS1.size)
  refine ⟨fun _ => hS2, ?_⟩
  have hsame2 := same_ret a6 a9 c6 c9 ls ms u2 (LegsOwn.below hS2 hlo9).legs hmo.legs (hlk.twice hms) (by omega) (fun g hg => by have := hNs g hg; omega)
  rw [hms.like.len, hllen] at hsame2
  refine D_callFG 9 [.agg #[.slice a6 X.legs.length c6], .agg #[.slice a9 X.legs.length c9]] rfl (by kernel_rfl) rfl rfl rfl E22 rfl rfl hsame2 ?_
  rintro v u3 ⟨rfl, bu3⟩
  have hS3 : Below w9.heap.size w9 u3 := hS2.trans (bu3.mono hS2.size)
  refine ⟨fun _ => hS3, ?_⟩
  refine D_takeG 10 _ rfl (by kernel_rfl) hS3 rfl rfl rfl (fun w hw => X_not rfl) rfl ?_
  refine D_take 11 _ rfl (by kernel_rfl) hS3 (fun w hw => X_pick rfl) rfl ?_
  refine D_take 12 _ rfl (by kernel_rfl) hS3 (fun w hw => X_move) rfl ?_
  refine D_takeG 13 _ rfl (by kernel_rfl) hS3 rfl rfl rfl (fun w hw => X_field F28_0 rfl) rfl ?_
  refine D_takeG 14 _ rfl (by kernel_rfl) hS3 rfl rfl rfl (fun w hw => X_load A26 rfl ((below_blk hw k6 k6.lt).cell 0)) rfl ?_
  refine D_takeG 15 _ rfl (by kernel_rfl) hS3 rfl rfl rfl (fun w hw => X_lenS U26 rfl) rfl ?_
  refine D_takeG 16 _ rfl (by kernel_rfl) hS3 rfl rfl rfl (fun w hw => X_field F28_0 rfl) rfl ?_
  refine D_takeG 17 _ rfl (by kernel_rfl) hS3 rfl rfl rfl (fun w hw => X_load A26 rfl ((below_blk hw k59 k59.lt).cell 0)) rfl ?_
  refine D_takeG 18 _ rfl (by kernel_rfl) hS3 rfl rfl rfl (fun w hw => X_lenS U26 rfl) rfl ?_
  refine D_takeG 19 _ rfl (by kernel_rfl) hS3 rfl rfl rfl (fun w hw => X_cmpR false rfl rfl rfl eN) rfl ?_
  refine D_take 20 _ rfl (by kernel_rfl) hS3 (fun w hw => X_pick rfl) rfl ?_
  refine D_done (by kernel_rfl) ?_
  refine T_false rfl ?_
  have k63 := below_blk hS3 k6 k6.lt
  have k53 := below_blk hS3 k59 k59.lt
  have hgo3 := LegsOwn.below hS3 hgo9
  have hlo3 := LegsOwn.below hS3 hlo9
  have bxu : Below x.heap.size x u3 := b9.trans (hS3.mono b9.size)
  clear hsm hS hS1 hS2 bu1 bu2 bu3 hsame1 hlink2 hsame2 hmo hgo9 hlo9 k6 k59 k49 b69 b36 k4 hS3
  have hcopy2 := copy_ret2 a6 c6 ls u3 hlo3.legs hlo3.nil hlo3.nilNeeds (by omega) hNs
  rw [hllen] at hcopy2
  repeat (first | refine T_seq ?_ | refine T_block ?_ | refine T_inBlock ?_ | refine T_skip ?_)
  refine T_region ?_
  refine L_val _ _ (X_loadAgg [.slice a6 X.legs.length c6] A28 S28 rfl rfl (agg1 k63)) rfl ?_
  refine L_callF [.agg #[.slice a6 X.legs.length c6]] E20 rfl rfl hcopy2 ?_
  rintro v v1 ⟨a7, c7, ss, rfl, hsd, -, hso, bv1, -⟩
  refine L_alloc Z28 rfl fun v2 h2 => ?_
  refine L_storeAll [.slice a7 X.legs.length c7] S28 rfl rfl rfl (by simp [Value.oneCell']) h2.new rfl fun v3 h3 => ?_
  refine L_nil ?_
  have h23 := h2.trans h3
  have t1 := bv1.size
  have t3 := h23.size
  have k7 : Blk v3 v1.heap.size #[.slice a7 X.legs.length c7] 28 := h23.new
  have bv3 : Below u3.heap.size u3 v3 := h23.below bv1 t1
  have hso3 : LegsOwn v3 u3.heap.size a7 c7 ss := ⟨owns_new h23 hso.own, fun g hg => owns_new h23 (hso.needs g hg)⟩
  have hsn : ∀ (j : Nat) s l, ss[j]? = some s → ls[j]? = some l → s.data = l.data := by
    intro j s l h1 h2
    have := congrArg (·[j]?) hsd
    simpa only [List.getElem?_map, h1, h2, Option.map_some, Option.some.injEq] using this
  have hslike : Like ss ls := by
    have e : ∀ l : List Leg, l.map Leg.core = (l.map Leg.data).map (fun d : Int × Int × Tx × List Int => (d.1, d.2.1, d.2.2.1)) := fun l => by rw [List.map_map]; rfl
    unfold Like
    rw [e, e, hsd]
  clear h2 h3 h23 hso hcopy2 hsd
  have hB7 : u3.heap.size ≤ v1.heap.size := t1
  generalize v1.heap.size = B7 at *
  repeat (first | refine T_seq ?_ | refine T_block ?_ | refine T_inBlock ?_ | refine T_skip ?_)
  refine T_region ?_
  refine L_val _ _ (X_field F28_0 rfl) rfl ?_
  refine L_val _ _ (X_load A26 rfl (k7.cell 0)) rfl ?_
  refine L_val _ _ (X_lenS U26 rfl) rfl ?_
  refine L_val _ _ (X_move) rfl ?_
  refine L_nil ?_
  repeat (first | refine T_seq ?_ | refine T_block ?_ | refine T_inBlock ?_ | refine T_skip ?_)
  refine T_loopS [57, 56, 7, 5, 6, 21, 20, 19] (fun m vs z => ∃ (j : Nat) (ss : List Leg), vs = [.int .i64 j, .int .i64 X.legs.length, .pointer (some ⟨B7, 0, none⟩), .pointer (some ⟨B5, 0, none⟩), .pointer (some ⟨B6, 0, none⟩), .int .i64 i, .int .i64 xs.length, .slice (some ⟨p, q, none⟩) xs.length c] ∧ j ≤ X.legs.length ∧ m = X.legs.length - j ∧ Below u3.heap.size u3 z ∧
    Blk z B7 #[.slice a7 X.legs.length c7] 28 ∧ Like ss ls ∧ LegsOwn z u3.heap.size a7 c7 ss ∧ ∀ (k : Nat) s l g, ss[k]? = some s → ls[k]? = some l → gv[k]? = some g → s.needs = if k < j then g.needs else l.needs) X.legs.length
    ⟨0, ss, rfl, by omega, rfl, bv3, k7, hslike, hso3, fun k s l g h1 h2 h3 => by rw [if_neg (by omega)]; exact congrArg (fun d => d.2.2.2) (hsn k s l h1 h2)⟩ ?_
  clear hso3 hslike hsn k7 bv3 t3 t1
  rintro m vs ρ2 z ⟨j, ss', rfl, hj, rfl, bz, k7, hslike, hso, hsn⟩ ih2
  have tz := bz.size
  have hsslen : ss'.length = X.legs.length := hslike.len.trans hllen
  repeat (first | refine T_seq ?_ | refine T_block ?_ | refine T_inBlock ?_ | refine T_skip ?_)
  refine T_region ?_
  refine L_val _ _ (X_cmp rfl rfl rfl) rfl ?_
  refine L_nil ?_
  repeat (first | refine T_seq ?_ | refine T_block ?_ | refine T_inBlock ?_ | refine T_skip ?_)
  refine T_if rfl (fun ht2 => ?_) (fun hf2 => ?_)
  · have hltj : j < X.legs.length := by simpa [cmpB] using ht2
    have hlts : j < ss'.length := by omega
    have hltg : j < gv.length := by omega
    have hltl : j < ls.length := by omega
    obtain ⟨G, cur, rfl, hWG, kG, hGs, -, -, -, htk⟩ := owns_blk hso.own (by omega)
    obtain ⟨p1, q1, hpq, hp1, hcs⟩ := hso.legs.at (i := j) (g := ss'[j]) (by simp [hlts])
    simp only [Option.some.injEq, Addr.mk.injEq, and_true] at hpq
    obtain ⟨rfl, rfl⟩ := hpq
    obtain ⟨pg, qg, rfl, hpg, hcg⟩ := hgo3.legs.at (i := j) (g := gv[j]) (by simp [hltg])
    have hssj : ss'[j]? = some ss'[j] := by simp [hlts]
    have hgvj : gv[j]? = some gv[j] := by simp [hltg]
    have hlsj : ls[j]? = some ls[j] := by simp [hltl]
    have hnj := hsn j _ _ _ hssj hlsj hgvj
    rw [if_neg (by omega)] at hnj
    have hshj := hshort j _ _ hlsj hgvj
    have hNgj := hNg _ (List.mem_of_getElem? hgvj)
    have hown := hso.needs ss'[j] (by simp [hlts])
    generalize hsdef : ss'[j] = s at *
    generalize gv[j] = g at *
    generalize ls[j] = l at *
    have hle : g.needs.length ≤ s.needs.length ∧ s.needs.length ≤ g.needs.length + 1 ∧ s.needs.take g.needs.length = g.needs := by
      rw [hnj]
      rcases hshj with e | ⟨u, e⟩
      · rw [e]; simp
      · rw [e]; simp
    obtain ⟨hle1, hle2, htake⟩ := hle
    have e1 : cmpB .lss (s.needs.length : Int) (g.needs.length : Int) = false := by simp [cmpB]; omega
    have e2 : cmpB .gtr (s.needs.length : Int) ((g.needs.length : Int) + 1) = false := by simp [cmpB]; omega
    have k5z : Blk z B5 #[.slice (some ⟨pg, qg, none⟩) X.legs.length c5] 28 := below_blk bz k53 k53.lt
    have hcgz : z.cell? ⟨pg, qg + j * 22 + 21, none⟩ = some (.slice g.na g.needs.length g.nc) := (below_cell bz _ hpg).trans (hcg 21 _ rfl)
    have hcsz : z.cell? ⟨G, 0 + j * 22 + 21, none⟩ = some (.slice s.na s.needs.length s.nc) := hcs 21 _ rfl
    repeat (first | refine T_seq ?_ | refine T_block ?_ | refine T_inBlock ?_ | refine T_skip ?_)
    refine T_region ?_
    refine L_val _ _ (X_move) rfl ?_
    refine L_val _ _ (X_assign) rfl ?_
    refine L_nil ?_
    repeat (first | refine T_seq ?_ | refine T_block ?_ | refine T_inBlock ?_ | refine T_skip ?_)
    refine T_quiet (fun y => Sm z y) rfl (by kernel_rfl) (sm_drew z) ?_
    refine LQ_val _ (fun w hw => X_field F28_0 rfl) rfl ?_
    refine LQ_val _ (fun w hw => X_load A26 rfl ((hw.blk k7).cell 0)) rfl ?_
    refine LQ_val _ (fun w hw => X_move) rfl ?_
    refine LQ_val _ (fun w hw => X_index U26 S62 rfl rfl hltj) rfl ?_
    refine LQ_val _ (fun w hw => X_field F62_3 rfl) rfl ?_
    refine LQ_val _ (fun w hw => X_load A60 rfl ((hw.cell _).trans hcsz)) rfl ?_
    refine LQ_val _ (fun w hw => X_lenS U60 rfl) rfl ?_
    refine LQ_val _ (fun w hw => X_field F28_0 rfl) rfl ?_
    refine LQ_val _ (fun w hw => X_load A26 rfl ((hw.blk k5z).cell 0)) rfl ?_
    refine LQ_val _ (fun w hw => X_move) rfl ?_
    refine LQ_val _ (fun w hw => X_index U26 S62 rfl rfl hltj) rfl ?_
    refine LQ_val _ (fun w hw => X_field F62_3 rfl) rfl ?_
    refine LQ_val _ (fun w hw => X_load A60 rfl ((hw.cell _).trans hcgz)) rfl ?_
    refine LQ_val _ (fun w hw => X_lenS U60 rfl) rfl ?_
    refine LQ_val _ (fun w hw => X_cmpR false rfl rfl rfl e1) rfl ?_
    refine LQ_val _ (fun w hw => X_move) rfl ?_
    refine LQ_guard rfl rfl rfl ?_
    refine LQ_val _ (fun w hw => X_field F28_0 rfl) rfl ?_
    refine LQ_guard rfl rfl rfl ?_
    refine LQ_val _ (fun w hw => X_load A26 rfl ((hw.blk k7).cell 0)) rfl ?_
    refine LQ_guard rfl rfl rfl ?_
    refine LQ_val _ (fun w hw => X_move) rfl ?_
    refine LQ_guard rfl rfl rfl ?_
    refine LQ_val _ (fun w hw => X_index U26 S62 rfl rfl hltj) rfl ?_
    refine LQ_guard rfl rfl rfl ?_
    refine LQ_val _ (fun w hw => X_field F62_3 rfl) rfl ?_
    refine LQ_guard rfl rfl rfl ?_
    refine LQ_val _ (fun w hw => X_load A60 rfl ((hw.cell _).trans hcsz)) rfl ?_
    refine LQ_guard rfl rfl rfl ?_
    refine LQ_val _ (fun w hw => X_lenS U60 rfl) rfl ?_
    refine LQ_guard rfl rfl rfl ?_
    refine LQ_val _ (fun w hw => X_field F28_0 rfl) rfl ?_
    refine LQ_guard rfl rfl rfl ?_
    refine LQ_val _ (fun w hw => X_load A26 rfl ((hw.blk k5z).cell 0)) rfl ?_
    refine LQ_guard rfl rfl rfl ?_
    refine LQ_val _ (fun w hw => X_move) rfl ?_
    refine LQ_guard rfl rfl rfl ?_
    refine LQ_val _ (fun w hw => X_index U26 S62 rfl rfl hltj) rfl ?_
    refine LQ_guard rfl rfl rfl ?_
    refine LQ_val _ (fun w hw => X_field F62_3 rfl) rfl ?_
    refine LQ_guard rfl rfl rfl ?_
    refine LQ_val _ (fun w hw => X_load A60 rfl ((hw.cell _).trans hcgz)) rfl ?_
    refine LQ_guard rfl rfl rfl ?_
    refine LQ_val _ (fun w hw => X_lenS U60 rfl) rfl ?_
    refine LQ_guard rfl rfl rfl ?_
    refine LQ_val _ (fun w hw => X_add rfl rfl (by omega) (by omega)) rfl ?_
    refine LQ_guard rfl rfl rfl ?_
    refine LQ_val _ (fun w hw => X_cmpR false rfl rfl rfl e2) rfl ?_
    refine LQ_val _ (fun w hw => X_pick rfl) rfl ?_
    refine LQ_nil fun z1 hz1 => ?_
    refine T_false rfl ?_
    have hown1 := hz1.owns hown
    have hcap := owns_cap hown1
    have kG1 := hz1.blk kG
    have k71 := hz1.blk k7
    have hcg1 := (hz1.cell _).trans hcgz
    have hcs1 := (hz1.cell _).trans hcsz
    have k51 := hz1.blk k5z
    repeat (first | refine T_seq ?_ | refine T_block ?_ | refine T_inBlock ?_ | refine T_skip ?_)
    refine T_draw (fun y => Sm z1 y) 17 rfl rfl fun z2 hsm => ?_
    refine D_take 0 _ rfl (by kernel_rfl) hsm (fun w hw => X_field F28_0 rfl) rfl ?_
    refine D_take 1 _ rfl (by kernel_rfl) hsm (fun w hw => X_load A26 rfl ((hw.blk k71).cell 0)) rfl ?_
    refine D_take 2 _ rfl (by kernel_rfl) hsm (fun w hw => X_move) rfl ?_
    refine D_take 3 _ rfl (by kernel_rfl) hsm (fun w hw => X_field F28_0 rfl) rfl ?_
    refine D_take 4 _ rfl (by kernel_rfl) hsm (fun w hw => X_load A26 rfl ((hw.blk k71).cell 0)) rfl ?_
    refine D_take 5 _ rfl (by kernel_rfl) hsm (fun w hw => X_move) rfl ?_
    refine D_take 6 _ rfl (by kernel_rfl) hsm (fun w hw => X_index U26 S62 rfl rfl hltj) rfl ?_
    refine D_take 7 _ rfl (by kernel_rfl) hsm (fun w hw => X_field F62_3 rfl) rfl ?_
    refine D_take 8 _ rfl (by kernel_rfl) hsm (fun w hw => X_load A60 rfl ((hw.cell _).trans hcs1)) rfl ?_
    refine D_take 9 _ rfl (by kernel_rfl) hsm (fun w hw => X_field F28_0 rfl) rfl ?_
    refine D_take 10 _ rfl (by kernel_rfl) hsm (fun w hw => X_load A26 rfl ((hw.blk k51).cell 0)) rfl ?_
    refine D_take 11 _ rfl (by kernel_rfl) hsm (fun w hw => X_move) rfl ?_
    refine D_take 12 _ rfl (by kernel_rfl) hsm (fun w hw => X_index U26 S62 rfl rfl hltj) rfl ?_
    refine D_take 13 _ rfl (by kernel_rfl) hsm (fun w hw => X_field F62_3 rfl) rfl ?_
    refine D_take 14 _ rfl (by kernel_rfl) hsm (fun w hw => X_load A60 rfl ((hw.cell _).trans hcg1)) rfl ?_
    refine D_take 15 _ rfl (by kernel_rfl) hsm (fun w hw => X_lenS U60 rfl) rfl ?_
    refine D_take 16 _ rfl (by kernel_rfl) hsm (fun w hw => X_sliceH U60 S59 rfl rfl (by omega)) rfl ?_
    skip
    refine D_val 17 _ _ rfl (by kernel_rfl) (X_index U26 S62 rfl rfl hltj) rfl (fun hb => by cases hb) ?_
    refine D_val 18 _ _ rfl (by kernel_rfl) (X_field F62_3 rfl) rfl (fun hb => by cases hb) ?_
    refine D_store 19 (.slice s.na g.needs.length s.nc) rfl (by kernel_rfl) S60 rfl rfl rfl (hsm.blk kG1) (by omega) ?_
    intro z3 h3
    refine ⟨fun hb => (by cases hb), ?_⟩
    refine D_done (by kernel_rfl) ?_
    have hso2 : LegsOwn z2 u3.heap.size (some ⟨G, 0, none⟩) c7 ss' := ⟨hsm.owns (hz1.owns hso.own), fun u hu => hsm.owns (hz1.owns (hso.needs u hu))⟩
    have hL' : NeedsOwn z2 u3.heap.size ⟨s.id, s.chain, s.tx, g.needs, s.na, s.nc⟩ := by
      have e := owns_take (hsm.owns hown1) hle1
      rw [Nat.mul_one, ← List.map_take, htake] at e
      exact e
    have hsoN : LegsOwn z3 u3.heap.size (some ⟨G, 0, none⟩) c7 (ss'.set j ⟨s.id, s.chain, s.tx, g.needs, s.na, s.nc⟩) :=
      legs_setN ⟨s.id, s.chain, s.tx, g.needs, s.na, s.nc⟩ (by omega) hso2.own (fun k u hu _ => hso2.needs u (List.mem_of_getElem? hu)) hL' hlts (hsm.blk kG1) h3 (by rw [hsdef]; exact Leg.setNeeds s s.na _ s.nc _ rfl)
    have hlikeN : Like (ss'.set j ⟨s.id, s.chain, s.tx, g.needs, s.na, s.nc⟩) ss' := by
      unfold Like
      rw [List.map_set]
      apply List.ext_getElem?
      intro k
      rw [List.getElem?_set]
      split
      · rename_i e
        subst e
        simp [hlts, hsdef, Leg.core]
      · rfl
    have b3' : Below u3.heap.size u3 z3 := h3.below (hsm.below (hz1.below bz)) hWG
    have k73 : Blk z3 B7 #[.slice (some ⟨G, 0, none⟩) X.legs.length c7] 28 := h3.blk (hsm.blk k71) (fun e => by subst e; have := hsm.blk k71; have h2 := hsm.blk kG1; unfold Blk at this h2; rw [this] at h2; simp at h2)
    repeat (first | refine T_seq ?_ | refine T_block ?_ | refine T_inBlock ?_ | refine T_skip ?_)
    refine T_region ?_
    refine L_val _ _ (X_add rfl rfl (by omega) (by omega)) rfl ?_
    refine L_val _ _ (X_move) rfl ?_
    refine L_nil ?_
    refine ih2 _ _ _ (by omega) ⟨j + 1, _, rfl, by omega, rfl, b3', k73, hlikeN.trans hslike, hsoN, fun k s1 l1 g1 h1 h2 h3 => ?_⟩
    rw [List.getElem?_set] at h1
    by_cases hjk : j = k
    · subst hjk
      simp only [if_true, hlts, Option.some.injEq] at h1
      subst h1
      rw [if_pos (by omega)]
      rw [hgvj] at h3
      show g.needs = g1.needs
      rw [Option.some.inj h3]
    · rw [if_neg hjk] at h1
      rw [hsn k s1 l1 g1 h1 h2 h3]
      by_cases hk2 : k < j
      · rw [if_pos hk2, if_pos (by omega)]
      · rw [if_neg hk2, if_neg (by omega)]
  have hge : ¬ j < X.legs.length := by simpa [cmpB] using hf2
  refine T_exit rfl ?_
  have hsgd : ss'.map Leg.data = gv.map Leg.data := by
    apply List.ext_getElem?
    intro k
    rw [List.getElem?_map, List.getElem?_map]
    rcases Nat.lt_or_ge k X.legs.length with hk | hk
    · have h1 : ss'[k]? = some (ss'[k]'(by omega)) := by simp
      have h2 : ls[k]? = some (ls[k]'(by omega)) := by simp
      have h3 : gv[k]? = some (gv[k]'(by omega)) := by simp
      have h4 : X.legs[k]? = some X.legs[k] := by simp
      have e1 := hsn k _ _ _ h1 h2 h3
      rw [if_pos (by omega)] at e1
      have e2 := (hslike.at h1 h2).trans (hlk.like.at h2 h4)
      have e3 := hgn k _ _ h3 h4
      rw [h1, h3, Option.map_some, Option.map_some]
      simp only [Leg.core, Leg.data, Prod.mk.injEq, Option.some.injEq] at e1 e2 e3 ⊢
      exact ⟨e2.1.trans e3.1.symm, e2.2.1.trans e3.2.1.symm, e2.2.2.trans e3.2.2.1.symm, e1⟩
    · rw [List.getElem?_eq_none (by omega), List.getElem?_eq_none (by omega)]
  have hgoz := LegsOwn.below bz hgo3
  have hloz := LegsOwn.below bz hlo3
  have k5z := below_blk bz k53 k53.lt
  have k6z := below_blk bz k63 k63.lt
  have hsame3 := same_ret a7 a5 c7 c5 ss' gv z hso.legs hgoz.legs hsgd (by omega) (data_needs hsgd (fun g hg => by have := hNg g hg; omega))
  rw [hsslen, hglen] at hsame3
  repeat (first | refine T_seq ?_ | refine T_block ?_ | refine T_inBlock ?_ | refine T_skip ?_)
  refine T_region ?_
  refine L_val _ _ (X_loadAgg [.slice a7 X.legs.length c7] A28 S28 rfl rfl (agg1 k7)) rfl ?_
  refine L_val _ _ (X_loadAgg [.slice a5 X.legs.length c5] A28 S28 rfl rfl (agg1 k5z)) rfl ?_
  refine L_callF [.agg #[.slice a7 X.legs.length c7], .agg #[.slice a5 X.legs.length c5]] E22 rfl rfl hsame3 ?_
  rintro v y1 ⟨rfl, by1⟩
  refine L_val _ _ (X_not rfl) rfl ?_
  refine L_nil ?_
  refine T_false rfl ?_
  have hlo1 := LegsOwn.below by1 hloz
  have k61 := below_blk by1 k6z k6z.lt
  have bx1 : Below x.heap.size x y1 := bxu.trans ((bz.trans (by1.mono tz)).mono bxu.size)
  have hcheck := ret_args (b := #[.agg #[.slice a6 X.legs.length c6]]) (by rw [hllen]) (check_ret a6 c6 ls y1 hlo1.legs (by omega) (fun g hg => by have := hNs g hg; omega))
  clear hsame3 k5z hgoz hloz k7 hso hsn hslike k6z ih2 hsgd bz
  repeat (first | refine T_seq ?_ | refine T_block ?_ | refine T_inBlock ?_ | refine T_skip ?_)
  refine T_region ?_
  refine L_val _ _ (X_loadAgg [.slice a6 X.legs.length c6] A28 S28 rfl rfl (agg1 k61)) rfl ?_
  refine L_callF [.agg #[.slice a6 X.legs.length c6]] E23 rfl rfl hcheck ?_
  rintro v y2 ⟨ix, cd, rfl, by2, hcd⟩
  refine L_val _ _ (X_move) rfl ?_
  refine L_val _ _ (X_extract rfl rfl) rfl ?_
  refine L_val _ _ (X_extract rfl rfl) rfl ?_
  refine L_val _ _ (X_assign) rfl ?_
  refine L_val _ _ (X_assign) rfl ?_
  refine L_nil ?_
  have bx2 : Below x.heap.size x y2 := bx1.trans (by2.mono bx1.size)
  have bx2w : Below w1.heap.size w1 y2 := bx.trans (bx2.mono sx)
  repeat (first | refine T_seq ?_ | refine T_block ?_ | refine T_inBlock ?_ | refine T_skip ?_)
  refine T_region ?_
  refine L_val _ _ (X_move) rfl ?_
  refine L_val _ _ (X_cmp rfl rfl rfl) rfl ?_
  refine L_nil ?_
  refine T_if rfl (fun ht3 => ?_) (fun hf3 => ?_)
  · refine T_exit rfl ?_
    repeat (first | refine T_seq ?_ | refine T_block ?_ | refine T_inBlock ?_ | refine T_skip ?_)
    refine T_region ?_
    refine L_val _ _ (X_add rfl rfl (by omega) (by omega)) rfl ?_
    refine L_val _ _ (X_move) rfl ?_
    refine L_nil ?_
    exact ih _ _ _ (by omega) ⟨i + 1, rfl, by omega, rfl, bx2w⟩
  have h38 : cd = 38 := by simpa [cmpB] using hf3
  obtain ⟨i0, rfl, hi0, hun, hall⟩ := hcd h38
  have hlo2 := LegsOwn.below by2 hlo1
  have k62 := below_blk by2 k61 k61.lt
  obtain ⟨p1, q1, hpq, hp1, hcl⟩ := hlo2.legs.at (i := i0) (g := ls[i0]) (by simp)
  subst hpq
  have hlsi : ls[i0]? = some ls[i0] := by simp
  generalize ls[i0] = l at *
  have hi0' : i0 < X.legs.length := by omega
  repeat (first | refine T_seq ?_ | refine T_block ?_ | refine T_inBlock ?_ | refine T_skip ?_)
  refine T_region ?_
  refine L_val _ _ (X_field F28_0 rfl) rfl ?_
  refine L_val _ _ (X_load A26 rfl (k62.cell 0)) rfl ?_
  refine L_val _ _ (X_move) rfl ?_
  refine L_val _ _ (X_index U26 S62 rfl rfl hi0') rfl ?_
  refine L_val _ _ (X_field F62_2 rfl) rfl ?_
  refine L_val _ _ (X_field F39_10 rfl) rfl ?_
  refine L_val _ _ (X_loadAgg l.tx.msg.cells A37 S37 (Msg.cells_length _) rfl (fun j v hv => by rw [show q1 + i0 * 22 + 2 + 10 + j = q1 + i0 * 22 + (12 + j) by omega]; exact hcl (12 + j) v (by rw [show 12 + j = 0 + 2 + (10 + j) by omega]; exact leg_tx l (by have := tx_msg hv; rwa [Nat.zero_add] at this)))) rfl ?_
  refine L_alloc Z37 rfl fun y3 h3 => ?_
  refine L_storeAll l.tx.msg.cells S37 rfl rfl (Msg.cells_length _) (Msg.cells_one' _) h3.new rfl fun y4 h4 => ?_
  refine L_nil ?_
  have h34 := h3.trans h4
  have r4 := h34.size
  have r4' := h34.lt
  have k11 : Blk y4 y2.heap.size l.tx.msg.cells.toArray 37 := h34.new
  have b24 : Below y2.heap.size y2 y4 := h34.below (Below.refl _ _) (Nat.le_refl _)
  have k64 := below_blk b24 k62 k62.lt
  have hlo4 := LegsOwn.below b24 hlo2
  have bx4 : Below x.heap.size x y4 := bx2.trans (b24.mono bx2.size)
  have sx4 := bx4.size
  clear h3 h4 h34 b24
  generalize y2.heap.size = B11 at *
  repeat (first | refine T_seq ?_ | refine T_block ?_ | refine T_inBlock ?_ | refine T_skip ?_)
  refine T_region ?_
  refine L_val _ _ (X_field F28_0 rfl) rfl ?_
  refine L_val _ _ (X_load A26 rfl (k64.cell 0)) rfl ?_
  refine L_val _ _ (X_lenS U26 rfl) rfl ?_
  refine L_val _ _ (X_move) rfl ?_
  refine L_nil ?_
  repeat (first | refine T_seq ?_ | refine T_block ?_ | refine T_inBlock ?_ | refine T_skip ?_)
  refine T_loopS [134, 133, 132, 11, 9, 21, 20, 19] (fun m vs z => ∃ k : Nat, vs = [.int .i64 k, .int .i64 X.legs.length, .slice (some ⟨p1, q1, none⟩) X.legs.length c6, .pointer (some ⟨B11, 0, none⟩), .int .i64 i0, .int .i64 i, .int .i64 xs.length, .slice (some ⟨p, q, none⟩) xs.length c] ∧ k ≤ X.legs.length ∧ m = X.legs.length - k ∧ Below y4.heap.size y4 z) X.legs.length
    ⟨0, rfl, by omega, rfl, Below.refl _ _⟩ ?_
  rintro m vs ρ3 z ⟨k, rfl, hk, rfl, bz⟩ ih3
  have tz4 := bz.size
  have bxz : Below x.heap.size x z := bx4.trans (bz.mono sx4)
  repeat (first | refine T_seq ?_ | refine T_block ?_ | refine T_inBlock ?_ | refine T_skip ?_)
  refine T_region ?_
  refine L_val _ _ (X_cmp rfl rfl rfl) rfl ?_
  refine L_nil ?_
  repeat (first | refine T_seq ?_ | refine T_block ?_ | refine T_inBlock ?_ | refine T_skip ?_)
  refine T_if rfl (fun ht4 => ?_) (fun hf4 => ?_)
  case refine_2 =>
    refine T_exit rfl ?_
    repeat (first | refine T_seq ?_ | refine T_block ?_ | refine T_inBlock ?_ | refine T_skip ?_)
    refine T_region ?_
    refine L_val _ _ (X_add rfl rfl (by omega) (by omega)) rfl ?_
    refine L_val _ _ (X_move) rfl ?_
    refine L_nil ?_
    exact ih _ _ _ (by omega) ⟨i + 1, rfl, by omega, rfl, bx.trans (bxz.mono sx)⟩
  have hltk : k < X.legs.length := by simpa [cmpB] using ht4
  have hltk' : k < ls.length := by omega
  obtain ⟨p2, q2, hpq, hp2, hck⟩ := hlo4.legs.at (i := k) (g := ls[k]) (by simp [hltk'])
  simp only [Option.some.injEq, Addr.mk.injEq, and_true] at hpq
  obtain ⟨rfl, rfl⟩ := hpq
  have hlsk : ls[k]? = some ls[k] := by simp [hltk']
  generalize ls[k] = u at *
  have hckz : ∀ j v, u.cells[j]? = some v → z.cell? ⟨p1, q1 + k * 22 + j, none⟩ = some v := fun j v hv => (below_cell bz _ hp2).trans (hck j v hv)
  have k11z := below_blk bz k11 r4'
  repeat (first | refine T_seq ?_ | refine T_block ?_ | refine T_inBlock ?_ | refine T_skip ?_)
  refine T_region ?_
  refine L_val _ _ (X_move) rfl ?_
  refine L_val _ _ (X_index U26 S62 rfl rfl hltk) rfl ?_
  refine L_val _ _ (X_loadAgg u.cells A62 S62 (Leg.cells_length _) rfl hckz) rfl ?_
  refine L_alloc Z62 rfl fun z1 h1 => ?_
  refine L_val _ _ (X_assign) rfl ?_
  refine L_storeAll u.cells S62 rfl rfl (Leg.cells_length _) (Leg.cells_one _) h1.new rfl fun z2 h2 => ?_
  refine L_nil ?_
  have h12 := h1.trans h2
  have k13 : Blk z2 z.heap.size u.cells.toArray 62 := h12.new
  have bz2 : Below z.heap.size z z2 := h12.below (Below.refl _ _) (Nat.le_refl _)
  have tz2 := h12.size
  have k112 := below_blk bz2 k11z k11z.lt
  clear h1 h2 h12
  repeat (first | refine T_seq ?_ | refine T_block ?_ | refine T_inBlock ?_ | refine T_skip ?_)
  refine T_region ?_
  refine L_val _ _ (X_field F62_1 rfl) rfl ?_
  refine L_val _ _ (X_load A25 rfl (leg_blk k13 1 rfl)) rfl ?_
  refine L_val _ _ (X_field F62_2 rfl) rfl ?_
  refine L_val _ _ (X_loadAgg u.tx.cells A39 S39 (Tx.cells_length _) rfl (fun j v hv => leg_blk k13 (0 + 2 + j) (leg_tx u hv))) rfl ?_
  refine L_callF [.int .u8 u.chain, .agg u.tx.cells.toArray] E24 rfl rfl (out_ret u.chain u.tx z2) ?_
  rintro v z3 ⟨rfl, bz3⟩
  refine L_val _ _ (X_move) rfl ?_
  refine L_val _ _ (X_extract rfl rfl) rfl ?_
  refine L_val _ _ (X_extract rfl rfl) rfl ?_
  refine L_alloc Z37 rfl fun z4 h4 => ?_
  refine L_storeAll ((outOf u.chain u.tx).getD noMsg).cells S37 rfl rfl (Msg.cells_length _) (Msg.cells_one' _) h4.new rfl fun z5 h5 => ?_
  refine L_val _ _ (X_assign) rfl ?_
  refine L_nil ?_
  have h45 := h4.trans h5
  have k14 : Blk z5 z3.heap.size ((outOf u.chain u.tx).getD noMsg).cells.toArray 37 := h45.new
  have tz3 := bz3.size
  have bz5 : Below z2.heap.size z2 z5 := h45.below bz3 tz3
  have tz5 := h45.size
  have k115 := below_blk bz5 k112 k112.lt
  have k11lt := k11z.lt
  clear h4 h5 h45
  repeat (first | refine T_seq ?_ | refine T_block ?_ | refine T_inBlock ?_ | refine T_skip ?_)
  refine T_region ?_
  refine L_val _ _ (X_field F37_5 rfl) rfl ?_
  refine L_val _ _ (X_load A29 rfl (lblk k115 5 rfl)) rfl ?_
  refine L_val _ _ (X_field F37_5 rfl) rfl ?_
  refine L_store (.int .u64 l.tx.msg.seq) S29 rfl rfl rfl k14 (by simp [Msg.cells]) fun z6 h6 => ?_
  refine L_nil ?_
  have k146 := lset h6
  rw [show (0 + 5 : Nat) = 5 from rfl, msg_seq] at k146
  have k116 := h6.blk k115 (by omega)
  have bz6 : Below y4.heap.size y4 z6 := h6.below (bz.trans ((bz2.trans (bz5.mono tz2)).mono tz4)) (by omega)
  repeat (first | refine T_seq ?_ | refine T_block ?_ | refine T_inBlock ?_ | refine T_skip ?_)
  by_cases hki : k = i0
  · have e1 : cmpB .neq (k : Int) (i0 : Int) = false := by simp [cmpB]; omega
    refine T_region ?_
    refine L_val _ _ (X_move) rfl ?_
    refine L_val _ _ (X_move) rfl ?_
    refine L_val _ _ (X_cmpR false rfl rfl rfl e1) rfl ?_
    refine L_val _ _ (X_move) rfl ?_
    refine L_passB rfl rfl rfl ?_
    refine L_val _ _ (X_pick rfl) rfl ?_
    refine L_val _ _ (X_move) rfl ?_
    refine L_passB rfl rfl rfl ?_
    refine L_passB rfl rfl rfl ?_
    refine L_passB rfl rfl rfl ?_
    refine L_val _ _ (X_pick rfl) rfl ?_
    refine L_nil ?_
    refine T_false rfl ?_
    repeat (first | refine T_seq ?_ | refine T_block ?_ | refine T_inBlock ?_ | refine T_skip ?_)
    refine T_region ?_
    refine L_val _ _ (X_add rfl rfl (by omega) (by omega)) rfl ?_
    refine L_val _ _ (X_move) rfl ?_
    refine L_nil ?_
    exact ih3 _ _ _ (by omega) ⟨k + 1, rfl, by omega, rfl, bz6⟩
  have e1 : cmpB .neq (k : Int) (i0 : Int) = true := by simp [cmpB]; omega
  obtain ⟨mm, hexp, hns⟩ := hlk.no_sender hlsi hlsk hun hall hki
  obtain rfl := exp_msg hexp
  unfold sendsB at hns
  cases ho : outOf u.chain u.tx with
  | none =>
    refine T_region ?_
    refine L_val _ _ (X_move) rfl ?_
    refine L_val _ _ (X_move) rfl ?_
    refine L_val _ _ (X_cmpR true rfl rfl rfl e1) rfl ?_
    refine L_val _ _ (X_move) rfl ?_
    refine L_guard rfl rfl rfl ?_
    refine L_val _ _ (X_move) rfl ?_
    refine L_val _ _ (X_pick rfl) rfl ?_
    refine L_val _ _ (X_move) rfl ?_
    refine L_passB rfl rfl rfl ?_
    refine L_passB rfl rfl rfl ?_
    refine L_passB rfl rfl rfl ?_
    refine L_val _ _ (X_pick rfl) rfl ?_
    refine L_nil ?_
    refine T_false rfl ?_
    repeat (first | refine T_seq ?_ | refine T_block ?_ | refine T_inBlock ?_ | refine T_skip ?_)
    refine T_region ?_
    refine L_val _ _ (X_add rfl rfl (by omega) (by omega)) rfl ?_
    refine L_val _ _ (X_move) rfl ?_
    refine L_nil ?_
    exact ih3 _ _ _ (by omega) ⟨k + 1, rfl, by omega, rfl, bz6⟩
  | some om =>
    rw [ho] at hns k146
    have hns' : ({ om with seq := l.tx.msg.seq } : Msg).same l.tx.msg = false := hns
    refine T_region ?_
    refine L_val _ _ (X_move) rfl ?_
    refine L_val _ _ (X_move) rfl ?_
    refine L_val _ _ (X_cmpR true rfl rfl rfl e1) rfl ?_
    refine L_val _ _ (X_move) rfl ?_
    refine L_guard rfl rfl rfl ?_
    refine L_val _ _ (X_move) rfl ?_
    refine L_val _ _ (X_pick rfl) rfl ?_
    refine L_val _ _ (X_move) rfl ?_
    refine L_guard rfl rfl rfl ?_
    refine L_val _ _ (X_loadAgg ({ om with seq := l.tx.msg.seq } : Msg).cells A37 S37 (Msg.cells_length _) rfl (lblk0 k146)) rfl ?_
    refine L_guard rfl rfl rfl ?_
    refine L_val _ _ (X_loadAgg l.tx.msg.cells A37 S37 (Msg.cells_length _) rfl (lblk0 k116)) rfl ?_
    refine L_guard rfl rfl rfl ?_
    refine L_val _ _ (X_eql37 ({ om with seq := l.tx.msg.seq } : Msg) l.tx.msg rfl rfl) rfl ?_
    refine L_val _ _ (X_pick rfl) rfl ?_
    refine L_nil ?_
    rw [hns']
    refine T_false rfl ?_
    repeat (first | refine T_seq ?_ | refine T_block ?_ | refine T_inBlock ?_ | refine T_skip ?_)
    refine T_region ?_
    refine L_val _ _ (X_add rfl rfl (by omega) (by omega)) rfl ?_
    refine L_val _ _ (X_move) rfl ?_
    refine L_nil ?_
    exact ih3 _ _ _ (by omega) ⟨k + 1, rfl, by omega, rfl, bz6⟩
end Go.Proofs.Qxb6500865a
