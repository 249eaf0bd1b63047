/-
  ParseInvertsEncode: the data in plain words, and the small functions.
-/
import Derived.Test.Qxb6500864aFa
import Derived.Test.Qxb6500864aWk7
namespace Go.Proofs.Qxb6500864a
set_option linter.unusedSimpArgs false
set_option linter.unusedVariables false
open Go.RowKit

theorem below_blk {B : Nat} {w w' : World} {k : Nat} {c : Array Value} {t : TypeId} (h : Below B w w') (hb : Blk w k c t) (hk : k < B) : Blk w' k c t := (h.block k hk).trans hb
theorem gblk {w : World} {b : Nat} {cs : List Value} {t : TypeId} (h : Blk w b cs.toArray t) (i : Nat) {v : Value} (hv : cs[i]? = some v) : w.cell? ⟨b, i, none⟩ = some v := by
  rw [h.cell]; simpa using hv
theorem gblk0 {w : World} {b : Nat} {cs : List Value} {t : TypeId} (h : Blk w b cs.toArray t) : ∀ j v, cs[j]? = some v → w.cell? ⟨b, 0 + j, none⟩ = some v := by
  intro j v hv
  rw [Nat.zero_add]
  exact gblk h j hv
/-- Octets. -/
def bv (l : List Nat) : List Value := l.map fun (x : Nat) => .int .u8 (x : Int)
structure Byt (w : World) (a : Option Addr) (l : List Nat) : Prop where
  cell : ∀ (j : Nat) (x : Nat), l[j]? = some x → ∃ b o, a = some ⟨b, o, none⟩ ∧ b < w.heap.size ∧ w.cell? ⟨b, o + j, none⟩ = some (.int .u8 (x : Int))
theorem Byt.below {w w' : World} {a : Option Addr} {l : List Nat} (h : Byt w a l) (hb : Below w.heap.size w w') : Byt w' a l :=
  ⟨fun j x hx => let ⟨b, o, h1, h2, h3⟩ := h.cell j x hx; ⟨b, o, h1, Nat.lt_of_lt_of_le h2 hb.size, (below_cell hb _ h2).trans h3⟩⟩
theorem Byt.at {w : World} {b o : Nat} {l : List Nat} (h : Byt w (some ⟨b, o, none⟩) l) : ∀ (j : Nat) (x : Nat), l[j]? = some x → w.cell? ⟨b, o + j, none⟩ = some (.int .u8 (x : Int)) := by
  intro j x hx
  obtain ⟨b', o', h1, _, h3⟩ := h.cell j x hx
  simp only [Option.some.injEq, Addr.mk.injEq, and_true] at h1
  obtain ⟨rfl, rfl⟩ := h1
  exact h3
theorem Byt.some {w : World} {a : Option Addr} {l : List Nat} (h : Byt w a l) (hl : 0 < l.length) : ∃ b o, a = Option.some ⟨b, o, none⟩ ∧ b < w.heap.size := by
  obtain ⟨b, o, h1, h2, _⟩ := h.cell 0 l[0] (by simp)
  exact ⟨b, o, h1, h2⟩
theorem byt_of_blk {w : World} {b : Nat} {l : List Nat} {t : TypeId} (h : Blk w b (bv l).toArray t) : Byt w (some ⟨b, 0, none⟩) l :=
  ⟨fun j x hx => ⟨b, 0, rfl, h.lt, by rw [Nat.zero_add]; exact gblk h j (by simp [bv, hx])⟩⟩
theorem byt_of_owns {w : World} {base n c : Nat} {a : Option Addr} {l : List Nat} (h : w.ownsRow base 5 1 (.slice a n c) n (bv l)) (hn : l.length = n) : Byt w a l := by
  refine ⟨fun j x hx => ?_⟩
  have hj := (List.getElem?_eq_some_iff.1 hx).1
  rcases h.2 with ⟨e1, e2⟩ | ⟨g, cap, cur, hv, hb, hg, hrest⟩
  · omega
  · simp only [Value.slice.injEq] at hv
    obtain ⟨rfl, -, rfl⟩ := hv
    refine ⟨g, 0, rfl, (Array.getElem?_eq_some_iff.1 hg).1, ?_⟩
    rw [Nat.zero_add, h.cellAt _ (by omega)]
    simp [bv, hx]
theorem own_below {w w' : World} {B e size n : Nat} {v : Value} {xs : List Value} (h : w.ownsRow B e size v n xs) (hb : Below w.heap.size w w') : w'.ownsRow B e size v n xs := by
  refine ⟨h.1, ?_⟩
  rcases h.2 with hn | ⟨g, cap, cur, rfl, hg, hgg, rest⟩
  · exact .inl hn
  · exact .inr ⟨g, cap, cur, rfl, hg, by rw [hb.block g (Array.getElem?_eq_some_iff.1 hgg).1]; exact hgg, rest⟩
def lim : IntKind → Nat
  | .u8 => 256
  | .u16 => 65536
  | .u64 => 18446744073709551616
  | _ => 0
theorem wrapN {q : IntKind} {n : Nat} (h : n < lim q) : q.wrap (n : Int) = n := by
  cases q <;> simp only [lim] at h <;> first | omega | (simp only [IntKind.wrap, IntKind.bits, IntKind.signed]; simp; omega)
section
variable {P : Program} {ρ : Env} {w : World} {dst : Option Tmp} {gd : Option (Nat × Bool)} {ty : TypeId} {pos : String} {after : Array Edge} {t t' : TypeId} {x y : Operand} {q : IntKind}
theorem X_mulN (a b : Nat) (hx : ev ρ x = .int q (a : Int)) (hy : ev ρ y = .int q (b : Int)) (h : a * b < lim q) :
    (execOp (ev ρ) ⟨dst, .binOp .mul t x y t', ty, pos, after, gd⟩).run P w = .ok (.value (.int q ((a * b : Nat) : Int))) w := by
  rw [X_ar rfl hx hy, show arB .mul (a : Int) (b : Int) = ((a * b : Nat) : Int) by simp [arB], wrapN h]
theorem X_addN (a b : Nat) (hx : ev ρ x = .int q (a : Int)) (hy : ev ρ y = .int q (b : Int)) (h : a + b < lim q) :
    (execOp (ev ρ) ⟨dst, .binOp .add t x y t', ty, pos, after, gd⟩).run P w = .ok (.value (.int q ((a + b : Nat) : Int))) w := by
  rw [X_ar rfl hx hy, show arB .add (a : Int) (b : Int) = ((a + b : Nat) : Int) by simp [arB], wrapN h]
theorem X_quoN (a b : Nat) (hx : ev ρ x = .int q (a : Int)) (hy : ev ρ y = .int q (b : Int)) (hb : b ≠ 0) (h : a < lim q) :
    (execOp (ev ρ) ⟨dst, .binOp .quo t x y t', ty, pos, after, gd⟩).run P w = .ok (.value (.int q ((a / b : Nat) : Int))) w := by
  have e : (a : Int).tdiv (b : Int) = ((a / b : Nat) : Int) := rfl
  rw [X_quo hx hy (by omega), e, wrapN (Nat.lt_of_le_of_lt (Nat.div_le_self _ _) h)]
theorem X_convN {s : TypeId} {D : TypeDesc} {q' : IntKind} (a : Nat) (hs : UN P s D) (ht : UN P t (.int q')) (hx : ev ρ x = .int q (a : Int)) (h : a < lim q') :
    (execOp (ev ρ) ⟨dst, .convert s t x, ty, pos, after, gd⟩).run P w = .ok (.value (.int q' (a : Int))) w := by
  rw [X_convInt hs ht hx, wrapN h]
/-- The low octet. -/
theorem X_convLow {s : TypeId} {D : TypeDesc} (a : Nat) (hs : UN P s D) (ht : UN P t (.int .u8)) (hx : ev ρ x = .int q (a : Int)) :
    (execOp (ev ρ) ⟨dst, .convert s t x, ty, pos, after, gd⟩).run P w = .ok (.value (.int .u8 ((a % 256 : Nat) : Int))) w := by
  rw [X_convInt hs ht hx]
  have : IntKind.wrap .u8 (a : Int) = ((a % 256 : Nat) : Int) := by
    simp only [IntKind.wrap, IntKind.bits, IntKind.signed]
    simp
  rw [this]
theorem X_shrN (a b : Nat) {q' : IntKind} (hx : ev ρ x = .int q (a : Int)) (hy : ev ρ y = .int q' (b : Int)) (hb : b ≤ q.bits) :
    (execOp (ev ρ) ⟨dst, .binOp .shr t x y t', ty, pos, after, gd⟩).run P w = .ok (.value (.int q ((a / 2 ^ b : Nat) : Int))) w := by
  rw [X_shr hx hy (by omega)]
  have e : min (b : Int).toNat q.bits = b := by simp; omega
  rw [e]
  have e2 : (a : Int).fdiv (2 ^ b) = ((a / 2 ^ b : Nat) : Int) := by
    rw [Int.fdiv_eq_ediv_of_nonneg _ (by exact Int.pow_nonneg (by decide))]
    simp
  rw [e2]
end
/-- A header. -/
structure Hd where
  id : Nat
  fl : Nat
  ec : Nat
  rrc : Nat
  seq : Nat
deriving DecidableEq
def Hd.cells (h : Hd) : List Value := [.int .u16 (h.id : Int), .int .u8 (h.fl : Int), .int .u16 (h.ec : Int), .int .u16 (h.rrc : Int), .int .u64 (h.seq : Int)]
theorem Hd.cells_one (h : Hd) : ∀ v ∈ h.cells, v.oneCell' = true := by simp [Hd.cells, Value.oneCell']
def Hd.zero : Hd := ⟨0, 0, 0, 0, 0⟩
structure Hd.ok (h : Hd) : Prop where
  id : h.id < 65536
  fl : h.fl < 256
  ec : h.ec < 65536
  rrc : h.rrc < 65536
  seq : h.seq < 18446744073709551616
theorem Hd.zero_ok : Hd.zero.ok := ⟨by decide, by decide, by decide, by decide, by decide⟩
/-- Why a header cannot be written: 0: it can; 6: ErrFlags; 7: ErrEC; 9: ErrTokenID. -/
def chk (h : Hd) : Nat := if h.id ≠ 1028 ∧ h.id ≠ 1284 then 9 else if 7 < h.fl then 6 else if h.id = 1028 ∧ h.fl / 2 % 2 = 1 then 6 else if h.id = 1028 ∧ (h.ec ≠ 0 ∨ h.rrc ≠ 0) then 7 else 0
/-- The error numbered n. -/
def errV (n : Nat) : Value := if n = 0 then .nilIface else .iface 60 (.int .i64 (n : Int))
def stN (n : Nat) : Nat := if n = 0 then 0 else n + 1
structure OpP where
  kind : Int
  etype : Int
  ka : Option Addr
  kl : Nat
  kc : Nat
  usage : Int
  hd : Hd
  ca : Option Addr
  cl : Nat
  cc : Nat
  da : Option Addr
  dat : List Nat
  dc : Nat
  off : Int
  val : Nat
  acc : Bool
def OpP.cells (x : OpP) : List Value := [.int .i64 x.kind, .int .i64 x.etype, .slice x.ka x.kl x.kc, .int .u32 x.usage, .int .u16 (x.hd.id : Int), .int .u8 (x.hd.fl : Int), .int .u16 (x.hd.ec : Int), .int .u16 (x.hd.rrc : Int), .int .u64 (x.hd.seq : Int), .slice x.ca x.cl x.cc, .slice x.da x.dat.length x.dc, .int .i64 x.off, .int .u8 (x.val : Int), .bool x.acc]
theorem OpP.cells_one (x : OpP) : ∀ v ∈ x.cells, v.oneCell' = true := by simp [OpP.cells, Value.oneCell']
/-- headerOf -/
theorem headerOf_ret (x : OpP) (w : World) : Ret Try.prog 6 #[.agg x.cells.toArray] w fun v w' => v = .agg x.hd.cells.toArray ∧ Below w.heap.size w w' := by
  refine ret_of_T (vs := [.agg x.cells.toArray]) Try.func6 Try.ntmps6 rfl (Nat.le_of_ble_eq_true rfl) ?_
  repeat (first | refine T_seq ?_ | refine T_block ?_ | refine T_inBlock ?_ | refine T_skip ?_)
  refine T_region ?_
  refine L_box rfl fun w1 h1 => ?_
  refine L_alloc Z32 rfl fun w2 h2 => ?_
  refine L_nil ?_
  have z1 := h1.lt
  have s1 := h1.size
  have k1 : Blk w2 w.heap.size x.cells.toArray 30 := h2.blk h1.new (by omega)
  have k2 : Blk w2 w1.heap.size Hd.zero.cells.toArray 32 := h2.new
  have b2 : Below w.heap.size w w2 := h2.below (h1.below (Below.refl _ _) (Nat.le_refl _)) s1
  repeat (first | refine T_seq ?_ | refine T_block ?_ | refine T_inBlock ?_ | refine T_skip ?_)
  refine T_region ?_
  refine L_val _ _ (X_field F30_4 rfl) rfl ?_
  refine L_val _ _ (X_load A27 rfl (gblk k1 4 rfl)) rfl ?_
  refine L_val _ _ (X_field F30_5 rfl) rfl ?_
  refine L_val _ _ (X_load A5 rfl (gblk k1 5 rfl)) rfl ?_
  refine L_val _ _ (X_field F30_6 rfl) rfl ?_
  refine L_val _ _ (X_load A27 rfl (gblk k1 6 rfl)) rfl ?_
  refine L_val _ _ (X_field F30_7 rfl) rfl ?_
  refine L_val _ _ (X_load A27 rfl (gblk k1 7 rfl)) rfl ?_
  refine L_val _ _ (X_field F30_8 rfl) rfl ?_
  refine L_val _ _ (X_load A28 rfl (gblk k1 8 rfl)) rfl ?_
  refine L_val _ _ (X_build (.agg x.hd.cells.toArray) (by kernel_rfl)) rfl ?_
  refine L_storeAll x.hd.cells S32 rfl rfl rfl (Hd.cells_one _) k2 rfl fun w3 h3 => ?_
  refine L_nil ?_
  exact T_retC x.hd.cells Try.func6 rfl A32 S32 rfl rfl (gblk0 h3.new) ⟨rfl, h3.below b2 s1⟩
/-- plain -/
theorem plain_ret (h : Hd) (w : World) : Ret Try.prog 11 #[.agg h.cells.toArray] w fun v w' => v = .agg h.cells.toArray ∧ Below w.heap.size w w' := by
  refine ret_of_T (vs := [.agg h.cells.toArray]) Try.func11 Try.ntmps11 rfl (Nat.le_of_ble_eq_true rfl) ?_
  repeat (first | refine T_seq ?_ | refine T_block ?_ | refine T_inBlock ?_ | refine T_skip ?_)
  refine T_region ?_
  refine L_box rfl fun w1 h1 => ?_
  refine L_alloc Z32 rfl fun w2 h2 => ?_
  refine L_nil ?_
  have z1 := h1.lt
  have s1 := h1.size
  have k1 : Blk w2 w.heap.size h.cells.toArray 39 := h2.blk h1.new (by omega)
  have k2 : Blk w2 w1.heap.size Hd.zero.cells.toArray 32 := h2.new
  have b2 : Below w.heap.size w w2 := h2.below (h1.below (Below.refl _ _) (Nat.le_refl _)) s1
  repeat (first | refine T_seq ?_ | refine T_block ?_ | refine T_inBlock ?_ | refine T_skip ?_)
  refine T_region ?_
  refine L_val _ _ (X_field F39_0 rfl) rfl ?_
  refine L_val _ _ (X_load A36 rfl (gblk k1 0 rfl)) rfl ?_
  refine L_val _ _ (X_field F39_1 rfl) rfl ?_
  refine L_val _ _ (X_load A37 rfl (gblk k1 1 rfl)) rfl ?_
  refine L_val _ _ (X_field F39_2 rfl) rfl ?_
  refine L_val _ _ (X_load A27 rfl (gblk k1 2 rfl)) rfl ?_
  refine L_val _ _ (X_field F39_3 rfl) rfl ?_
  refine L_val _ _ (X_load A27 rfl (gblk k1 3 rfl)) rfl ?_
  refine L_val _ _ (X_field F39_4 rfl) rfl ?_
  refine L_val _ _ (X_load A28 rfl (gblk k1 4 rfl)) rfl ?_
  refine L_val _ _ (X_build (.agg h.cells.toArray) (by kernel_rfl)) rfl ?_
  refine L_storeAll h.cells S32 rfl rfl rfl (Hd.cells_one _) k2 rfl fun w3 h3 => ?_
  refine L_nil ?_
  exact T_retC h.cells Try.func11 rfl A32 S32 rfl rfl (gblk0 h3.new) ⟨rfl, h3.below b2 s1⟩
/-- rich -/
theorem rich_ret (h : Hd) (w : World) : Ret Try.prog 17 #[.agg h.cells.toArray] w fun v w' => v = .agg h.cells.toArray ∧ Below w.heap.size w w' := by
  refine ret_of_T (vs := [.agg h.cells.toArray]) Try.func17 Try.ntmps17 rfl (Nat.le_of_ble_eq_true rfl) ?_
  repeat (first | refine T_seq ?_ | refine T_block ?_ | refine T_inBlock ?_ | refine T_skip ?_)
  refine T_region ?_
  refine L_box rfl fun w1 h1 => ?_
  refine L_alloc Z39 rfl fun w2 h2 => ?_
  refine L_nil ?_
  have z1 := h1.lt
  have s1 := h1.size
  have k1 : Blk w2 w.heap.size h.cells.toArray 32 := h2.blk h1.new (by omega)
  have k2 : Blk w2 w1.heap.size Hd.zero.cells.toArray 39 := h2.new
  have b2 : Below w.heap.size w w2 := h2.below (h1.below (Below.refl _ _) (Nat.le_refl _)) s1
  repeat (first | refine T_seq ?_ | refine T_block ?_ | refine T_inBlock ?_ | refine T_skip ?_)
  refine T_region ?_
  refine L_val _ _ (X_field F32_0 rfl) rfl ?_
  refine L_val _ _ (X_load A27 rfl (gblk k1 0 rfl)) rfl ?_
  refine L_val _ _ (X_field F32_1 rfl) rfl ?_
  refine L_val _ _ (X_load A5 rfl (gblk k1 1 rfl)) rfl ?_
  refine L_val _ _ (X_field F32_2 rfl) rfl ?_
  refine L_val _ _ (X_load A27 rfl (gblk k1 2 rfl)) rfl ?_
  refine L_val _ _ (X_field F32_3 rfl) rfl ?_
  refine L_val _ _ (X_load A27 rfl (gblk k1 3 rfl)) rfl ?_
  refine L_val _ _ (X_field F32_4 rfl) rfl ?_
  refine L_val _ _ (X_load A28 rfl (gblk k1 4 rfl)) rfl ?_
  refine L_val _ _ (X_build (.agg h.cells.toArray) (by kernel_rfl)) rfl ?_
  refine L_storeAll h.cells S39 rfl rfl rfl (Hd.cells_one _) k2 rfl fun w3 h3 => ?_
  refine L_nil ?_
  exact T_retC h.cells Try.func17 rfl A39 S39 rfl rfl (gblk0 h3.new) ⟨rfl, h3.below b2 s1⟩
def nz (v : Nat) : Nat := if v = 0 then 1 else v
/-- nonzero -/
theorem nonzero_ret (v : Nat) (w : World) : Ret Try.prog 21 #[.int .u8 (v : Int)] w fun u w' => u = .int .u8 (nz v : Int) ∧ w = w' := by
  refine ret_of_T (vs := [.int .u8 (v : Int)]) Try.func21 Try.ntmps21 rfl (Nat.le_of_ble_eq_true rfl) ?_
  repeat (first | refine T_seq ?_ | refine T_block ?_ | refine T_inBlock ?_ | refine T_skip ?_)
  refine T_region ?_
  refine L_val _ _ (X_assign) rfl ?_
  refine L_nil ?_
  repeat (first | refine T_seq ?_ | refine T_block ?_ | refine T_inBlock ?_ | refine T_skip ?_)
  refine T_region ?_
  refine L_val _ _ (X_move) rfl ?_
  refine L_val _ _ (X_cmp rfl rfl rfl) rfl ?_
  refine L_nil ?_
  refine T_if rfl (fun ht => ?_) (fun hf => ?_)
  · have h0 : v = 0 := by simp [cmpB] at ht; omega
    subst h0
    repeat (first | refine T_seq ?_ | refine T_block ?_ | refine T_inBlock ?_ | refine T_skip ?_)
    refine T_region ?_
    refine L_val _ _ (X_assign) rfl ?_
    refine L_nil ?_
    exact T_ret1 Try.func21 rfl ⟨rfl, rfl⟩
  · have h0 : v ≠ 0 := by simp [cmpB] at hf; omega
    repeat (first | refine T_seq ?_ | refine T_block ?_ | refine T_inBlock ?_ | refine T_skip ?_)
    refine T_region ?_
    refine L_val _ _ (X_move) rfl ?_
    refine L_val _ _ (X_assign) rfl ?_
    refine L_nil ?_
    exact T_ret1 Try.func21 rfl ⟨by rw [nz, if_neg h0]; rfl, rfl⟩
/-- octetsm.BE16 -/
theorem be16_ret (b o len cap x y : Nat) (w : World) (hl : 2 ≤ len) (hx : x < 256) (hy : y < 256) (c0 : w.cell? ⟨b, o, none⟩ = some (.int .u8 (x : Int))) (c1 : w.cell? ⟨b, o + 1, none⟩ = some (.int .u8 (y : Int))) :
    Ret Try.prog 22 #[.slice (some ⟨b, o, none⟩) len cap] w fun u w' => u = .int .u16 ((x * 256 + y : Nat) : Int) ∧ Below w.heap.size w w' := by
  refine ret_of_T (vs := [.slice (some ⟨b, o, none⟩) len cap]) Try.func22 Try.ntmps22 rfl (Nat.le_of_ble_eq_true rfl) ?_
  repeat (first | refine T_seq ?_ | refine T_block ?_ | refine T_inBlock ?_ | refine T_skip ?_)
  refine T_region ?_
  refine L_val _ _ (X_assign) rfl ?_
  refine L_nil ?_
  repeat (first | refine T_seq ?_ | refine T_block ?_ | refine T_inBlock ?_ | refine T_skip ?_)
  refine T_quiet (fun z => Sm w z) rfl (by kernel_rfl) (sm_drew w) ?_
  refine LQ_val _ (fun w hw => X_move) rfl ?_
  refine LQ_val _ (fun w hw => X_index U25 S5 rfl rfl (show 0 < len by omega)) rfl ?_
  refine LQ_val _ (fun w hw => X_load A5 rfl ((hw.cell _).trans c0)) rfl ?_
  refine LQ_val _ (fun w hw => X_convN x U5 U27 rfl (show x < 65536 by omega)) rfl ?_
  refine LQ_val _ (fun w hw => X_mulN x 256 rfl rfl (show x * 256 < 65536 by omega)) rfl ?_
  refine LQ_val _ (fun w hw => X_move) rfl ?_
  refine LQ_val _ (fun w hw => X_index U25 S5 rfl rfl (show 1 < len by omega)) rfl ?_
  refine LQ_val _ (fun w hw => X_load A5 rfl ((hw.cell _).trans c1)) rfl ?_
  refine LQ_val _ (fun w hw => X_convN y U5 U27 rfl (show y < 65536 by omega)) rfl ?_
  refine LQ_val _ (fun w hw => X_addN (x * 256) y rfl rfl (show x * 256 + y < 65536 by omega)) rfl ?_
  refine LQ_val _ (fun w hw => X_assign) rfl ?_
  refine LQ_nil fun w1 h1 => ?_
  exact T_ret1 Try.func22 rfl ⟨rfl, h1.below (Below.refl _ _)⟩
def be (l : List Nat) : Nat := l.foldl (fun v x => v * 256 + x) 0
theorem be_snoc (l : List Nat) (x : Nat) : be (l ++ [x]) = be l * 256 + x := by simp [be]
theorem be_lt : ∀ (n : Nat) (l : List Nat), l.length = n → (∀ x ∈ l, x < 256) → be l < 256 ^ n
  | 0, l, hn, _ => by
    obtain rfl := List.eq_nil_of_length_eq_zero hn
    simp [be]
  | n + 1, l, hn, hx => by
    have hne : l ≠ [] := fun h => by rw [h] at hn; simp at hn
    rw [← List.dropLast_concat_getLast hne, be_snoc, Nat.pow_succ]
    have h1 := be_lt n l.dropLast (by simp [hn]) (fun x h => hx x (List.dropLast_subset _ h))
    have h2 := hx _ (List.getLast_mem hne)
    omega
set_option maxHeartbeats 4000000 in
/-- octetsm.BE64 -/
theorem be64_ret (b o len cap : Nat) (l : List Nat) (w : World) (hl : l.length = 8) (hc : 8 ≤ cap) (hx : ∀ x ∈ l, x < 256) (hcell : ∀ (j : Nat) (x : Nat), l[j]? = some x → w.cell? ⟨b, o + j, none⟩ = some (.int .u8 (x : Int))) :
    Ret Try.prog 23 #[.slice (some ⟨b, o, none⟩) len cap] w fun u w' => u = .int .u64 (be l : Int) ∧ w = w' := by
  refine ret_of_T (vs := [.slice (some ⟨b, o, none⟩) len cap]) Try.func23 Try.ntmps23 rfl (Nat.le_of_ble_eq_true rfl) ?_
  repeat (first | refine T_seq ?_ | refine T_block ?_ | refine T_inBlock ?_ | refine T_skip ?_)
  refine T_region ?_
  refine L_val _ _ (X_assign) rfl ?_
  refine L_nil ?_
  repeat (first | refine T_seq ?_ | refine T_block ?_ | refine T_inBlock ?_ | refine T_skip ?_)
  refine T_region ?_
  refine L_val _ _ (X_assign) rfl ?_
  refine L_nil ?_
  repeat (first | refine T_seq ?_ | refine T_block ?_ | refine T_inBlock ?_ | refine T_skip ?_)
  refine T_region ?_
  refine L_val _ _ (X_move) rfl ?_
  refine L_val _ _ (X_sliceH (h := 8) U25 S5 rfl rfl hc) rfl ?_
  refine L_val _ _ (X_lenS U25 rfl) rfl ?_
  refine L_val _ _ (X_move) rfl ?_
  refine L_nil ?_
  repeat (first | refine T_seq ?_ | refine T_block ?_ | refine T_inBlock ?_ | refine T_skip ?_)
  refine T_loopS [9, 8, 7, 3] (fun m vs z => ∃ i : Nat, vs = [.int .i64 i, .int .i64 8, .slice (some ⟨b, o, none⟩) 8 cap, .int .u64 (be (l.take i) : Int)] ∧ i ≤ 8 ∧ m = 8 - i ∧ w = z) 8 ⟨0, rfl, by omega, rfl, rfl⟩ ?_
  rintro m vs ρ z ⟨i, rfl, hi, rfl, rfl⟩ ih
  repeat (first | refine T_seq ?_ | refine T_block ?_ | refine T_inBlock ?_ | refine T_skip ?_)
  refine T_region ?_
  refine L_val _ _ (X_cmp rfl rfl rfl) rfl ?_
  refine L_nil ?_
  repeat (first | refine T_seq ?_ | refine T_block ?_ | refine T_inBlock ?_ | refine T_skip ?_)
  refine T_if rfl (fun ht => ?_) (fun hf => ?_)
  case refine_2 =>
    have hge : i = 8 := by simp [cmpB] at hf; omega
    subst hge
    refine T_exit rfl ?_
    repeat (first | refine T_seq ?_ | refine T_block ?_ | refine T_inBlock ?_ | refine T_skip ?_)
    refine T_region ?_
    refine L_val _ _ (X_move) rfl ?_
    refine L_val _ _ (X_assign) rfl ?_
    refine L_nil ?_
    refine T_ret1 Try.func23 rfl ⟨?_, rfl⟩
    rw [List.take_of_length_le (by omega)]
    rfl
  have hlt : i < 8 := by simp [cmpB] at ht; omega
  have hli : l[i]? = some (l[i]'(by omega)) := by simp
  have hsn : be (l.take (i + 1)) = be (l.take i) * 256 + l[i]'(by omega) := by rw [List.take_succ_eq_append_getElem (by omega), be_snoc]
  have hxi := hx _ (List.mem_of_getElem? hli)
  have hbt : be (l.take (i + 1)) < 18446744073709551616 := by
    have h1 := be_lt (i + 1) (l.take (i + 1)) (by simp [hl]; omega) (fun x h => hx x (List.mem_of_mem_take h))
    have h2 : 256 ^ (i + 1) ≤ 256 ^ 8 := Nat.pow_le_pow_right (by decide) (by omega)
    have h3 : (256 : Nat) ^ 8 = 18446744073709551616 := by decide
    omega
  generalize (l[i]'(by omega)) = x at *
  generalize be (l.take i) = v at *
  have c0 := hcell i x hli
  repeat (first | refine T_seq ?_ | refine T_block ?_ | refine T_inBlock ?_ | refine T_skip ?_)
  refine T_region ?_
  refine L_val _ _ (X_index U25 S5 rfl rfl hlt) rfl ?_
  refine L_val _ _ (X_load A5 rfl ((by rw [Nat.mul_one]; exact c0))) rfl ?_
  refine L_val _ _ (X_assign) rfl ?_
  refine L_nil ?_
  repeat (first | refine T_seq ?_ | refine T_block ?_ | refine T_inBlock ?_ | refine T_skip ?_)
  refine T_region ?_
  refine L_val _ _ (X_move) rfl ?_
  refine L_val _ _ (X_mulN v 256 rfl rfl (show v * 256 < 18446744073709551616 by omega)) rfl ?_
  refine L_val _ _ (X_move) rfl ?_
  refine L_val _ _ (X_convN x U5 U28 rfl (show x < 18446744073709551616 by omega)) rfl ?_
  refine L_val _ _ (X_addN (v * 256) x rfl rfl (show v * 256 + x < 18446744073709551616 by omega)) rfl ?_
  refine L_val _ _ (X_assign) rfl ?_
  refine L_nil ?_
  repeat (first | refine T_seq ?_ | refine T_block ?_ | refine T_inBlock ?_ | refine T_skip ?_)
  refine T_region ?_
  refine L_val _ _ (X_add rfl rfl (by omega) (by omega)) rfl ?_
  refine L_val _ _ (X_move) rfl ?_
  refine L_nil ?_
  exact ih _ _ _ (by omega) ⟨i + 1, by rw [hsn]; rfl, by omega, rfl, rfl⟩
end Go.Proofs.Qxb6500864a
