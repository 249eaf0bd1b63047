/-
  The script as it comes in, off the form's reading; the two variables off what is laid.
-/
import Derived.Test.Qxb6500863aDoorGM
import Derived.Test.Qxb6500863aDoorRd
import Derived.Lib.LaidTab
import Derived.Stop.LaidErr
import Derived.Test.Qxb6500863aDoorCards
import Derived.Test.Qxb6500863aDoorTie
namespace Go.Proofs.Qxb6500863aDoor
set_option linter.unusedSimpArgs false
set_option linter.unusedVariables false
open Go.RowKit

theorem c3 : Tryd.prog.cellsOf 3 = 1 := by kernel_rfl
theorem c5 : Tryd.prog.cellsOf 5 = 1 := by kernel_rfl
theorem c24 : Tryd.prog.cellsOf 24 = 1 := by kernel_rfl
theorem c25 : Tryd.prog.cellsOf 25 = 1 := by kernel_rfl
theorem c26 : Tryd.prog.cellsOf 26 = 1 := by kernel_rfl
theorem c28 : Tryd.prog.cellsOf 28 = 8 := by kernel_rfl
theorem y5 : Tryd.prog.bytesOf 5 = 1 := by kernel_rfl
theorem y28 : Tryd.prog.bytesOf 28 = 128 := by kernel_rfl
theorem addr_eta {a : Addr} (h : a.spot = none) : a = ⟨a.block, a.off, none⟩ := by
  obtain ⟨b, o, s⟩ := a
  simp only at h
  subst h
  rfl
theorem reach_le {n : Nat} (h : n ≤ reachBytes) : n ≤ 140737488355328 := by
  have : reachBytes < 2 ^ 47 := reachBytes_lt
  omega
theorem rd_int {w : World} {fuel : Nat} {t : TypeId} {k : IntKind} {cs : List Value} (hu : Tryd.prog.underlying t = some (.int k)) (h : Rd Tryd.prog w fuel t cs) : ∃ n, cs = [.int k n] ∧ (Lit.int k n).wf = true := by
  cases fuel with
  | zero => exact h.elim
  | succ fuel => unfold Rd at h; rw [hu] at h; exact h
theorem wf_byte {n : Int} (h : (Lit.int .u8 n).wf = true) : 0 ≤ n ∧ n < 256 := by
  have h1 : IntKind.u8.min = 0 := by decide
  have h2 : IntKind.u8.max = 255 := by decide
  simp only [Lit.wf, h1, h2, Bool.and_eq_true, decide_eq_true_eq] at h
  omega
theorem rd_bytes {w : World} {fuel : Nat} {cs : List Value} (h : Rd Tryd.prog w fuel 25 cs) : ∃ s : Sl, cs = [s.val] ∧ Sl.ok w s ∧ (∀ b ∈ s.2.1, 0 ≤ b ∧ b < 256) ∧ s.2.1.length ≤ s.2.2 ∧ s.2.1.length ≤ 140737488355328 := by
  cases fuel with
  | zero => exact h.elim
  | succ fuel =>
    unfold Rd at h
    rw [Tryd.underlying25] at h
    simp only [c5, y5] at h
    rcases h with rfl | ⟨a, len, cap, rfl, hl, hm, hb, hel⟩
    · exact ⟨(none, [], 0), rfl, ⟨⟨fun i x h => by simp at h⟩, fun _ => ⟨rfl, rfl⟩⟩, (fun b hb => by simp at hb), by simp, by simp⟩
    · obtain ⟨l, hll, hp⟩ := list_of (p := fun i (x : Int) => w.cells? 0 (a.add (i * 1)) 1 = some [.int .u8 x] ∧ 0 ≤ x ∧ x < 256) len fun i hi => by
        obtain ⟨ecs, h1, h2⟩ := hel i hi
        obtain ⟨n, hn, hwf⟩ := rd_int Tryd.underlying5 h2
        exact ⟨n, by rw [h1, hn], wf_byte hwf⟩
      refine ⟨(some a, l, cap), by rw [Sl.val, hll], ⟨⟨fun i x hi => ?_⟩, fun h => by cases h⟩, ?_, ?_, ?_⟩
      · have hi' := (List.getElem?_eq_some_iff.1 hi).1
        simp only at hi'
        have hs : a.spot = none := spot_none (by decide) (hp 0 l[0] (by simp)).1
        obtain ⟨h1, h2, h3⟩ := elem_at (by decide) (hp i x hi).1 (.inl hs)
        have h4 := h3 0 _ rfl
        rw [Nat.mul_one, Nat.add_zero] at h4
        exact ⟨a.block, a.off, by show some a = _; rw [← addr_eta hs], h1, h4⟩
      · intro b hb
        obtain ⟨i, hi⟩ := List.getElem?_of_mem hb
        exact (hp i b hi).2
      · show l.length ≤ cap; omega
      · show l.length ≤ _; have := reach_le hb; omega
theorem rd_op {w : World} {fuel : Nat} {cs : List Value} (h : Rd Tryd.prog w fuel 28 cs) : ∃ x : OpT, cs = x.cells ∧ OpOk w x := by
  cases fuel with
  | zero => exact h.elim
  | succ fuel =>
    unfold Rd at h
    rw [Tryd.underlying28] at h
    simp only [List.mem_cons, forall_eq_or_imp, List.not_mem_nil, false_implies, implies_true, and_true, c28, c24, c25, c26, c3] at h
    obtain ⟨hl, h0, h1, h2, h3, h4, h5, h6, h7⟩ := h
    obtain ⟨x0, e0, _⟩ := rd_int Tryd.underlying24 h0
    obtain ⟨x1, e1, _⟩ := rd_int Tryd.underlying3 h1
    obtain ⟨s2, e2, a2, b2, c2, d2⟩ := rd_bytes h2
    obtain ⟨s3, e3, a3, b3, c3, d3⟩ := rd_bytes h3
    obtain ⟨s4, e4, a4, b4, c4, d4⟩ := rd_bytes h4
    obtain ⟨s5, e5, a5, b5, c5, d5⟩ := rd_bytes h5
    obtain ⟨x6, e6, _⟩ := rd_int Tryd.underlying26 h6
    obtain ⟨x7, e7, _⟩ := rd_int Tryd.underlying3 h7
    refine ⟨⟨x0, x1, s2, s3, s4, s5, x6, x7⟩, ?_, ⟨a2, a3, a4, a5, b3, c4, c5, d2, d3, d4, d5⟩⟩
    have : cs = cs.drop 0 := rfl
    rw [this, drop_step cs 0 1, e0, drop_step cs (0 + 1) 1, e1, drop_step cs (0 + 1 + 1) 1, e2, drop_step cs (0 + 1 + 1 + 1) 1, e3, drop_step cs (0 + 1 + 1 + 1 + 1) 1, e4, drop_step cs (0 + 1 + 1 + 1 + 1 + 1) 1, e5, drop_step cs (0 + 1 + 1 + 1 + 1 + 1 + 1) 1, e6, drop_step cs (0 + 1 + 1 + 1 + 1 + 1 + 1 + 1) 1, e7, List.drop_of_length_le (by omega)]
    rfl
theorem rd_script {w : World} {fuel : Nat} {cs : List Value} (h : Rd Tryd.prog w fuel 22 cs) : ∃ (a : Option Addr) (xs : List OpT) (c : Nat), cs = [.slice a xs.length c] ∧ Script w a xs := by
  cases fuel with
  | zero => exact h.elim
  | succ fuel =>
    unfold Rd at h
    rw [Tryd.underlying22] at h
    simp only [c28, y28] at h
    rcases h with rfl | ⟨a, len, cap, rfl, hl, hm, hb, hel⟩
    · exact ⟨none, [], 0, rfl, ⟨fun i cs h => by simp at h, by simp, by simp⟩⟩
    · obtain ⟨l, hll, hp⟩ := list_of (p := fun i (x : OpT) => w.cells? 0 (a.add (i * 8)) 8 = some x.cells ∧ OpOk w x) len fun i hi => by
        obtain ⟨ecs, h1, h2⟩ := hel i hi
        obtain ⟨g, hg, h3⟩ := rd_op h2
        exact ⟨g, by rw [h1, hg], h3⟩
      refine ⟨some a, l, cap, by rw [hll], ⟨fun i x hi => ?_, ?_, ?_⟩⟩
      · have hi' := (List.getElem?_eq_some_iff.1 hi).1
        have hs : a.spot = none := spot_none (sz := 8) (by decide) (hp 0 l[0] (by simp)).1
        obtain ⟨h1, h2, h3⟩ := elem_at (by decide) (hp i x hi).1 (.inl hs)
        exact ⟨a.block, a.off, by rw [← addr_eta hs], h1, h3⟩
      · intro g hg
        obtain ⟨i, hi⟩ := List.getElem?_of_mem hg
        exact (hp i g hi).2
      · have := reach_le hb; omega

def snL : List Int := [3614090360, 3905402710, 606105819, 3250441966, 4118548399, 1200080426, 2821735955, 4249261313, 1770035416, 2336552879, 4294925233, 2304563134, 1804603682, 4254626195, 2792965006, 1236535329, 4129170786, 3225465664, 643717713, 3921069994, 3593408605, 38016083, 3634488961, 3889429448, 568446438, 3275163606, 4107603335, 1163531501, 2850285829, 4243563512, 1735328473, 2368359562, 4294588738, 2272392833, 1839030562, 4259657740, 2763975236, 1272893353, 4139469664, 3200236656, 681279174, 3936430074, 3572445317, 76029189, 3654602809, 3873151461, 530742520, 3299628645, 4096336452, 1126891415, 2878612391, 4237533241, 1700485571, 2399980690, 4293915773, 2240044497, 1873313359, 4264355552, 2734768916, 1309151649, 4149444226, 3174756917, 718787259, 3951481745]
def crL : List Int := [4794697086780616226, 8158064640168781261, 13096744586834688815, 16840607885511220156, 4131703408338449720, 6480981068601479193, 10538285296894168987, 12329834152419229976, 15566598209576043074, 1334009975649890238, 2608012711638119052, 6128411473006802146, 8268148722764581231, 9286055187155687089, 11230858885718282805, 13951009754708518548, 16472876342353939154, 17275323862435702243, 1135362057144423861, 2597628984639134821, 3308224258029322869, 5365058923640841347, 6679025012923562964, 8573033837759648693, 10970295158949994411, 12119686244451234320, 12683024718118986047, 13788192230050041572, 14330467153632333762, 15395433587784984357, 489312712824947311, 1452737877330783856, 2861767655752347644, 3322285676063803686, 5560940570517711597, 5996557281743188959, 7280758554555802590, 8532644243296465576, 9350256976987008742, 10552545826968843579, 11727347734174303076, 12113106623233404929, 14000437183269869457, 14369950271660146224, 15101387698204529176, 15463397548674623760, 17586052441742319658, 1182934255886127544, 1847814050463011016, 2177327727835720531, 2830643537854262169, 3796741975233480872, 4115178125766777443, 5681478168544905931, 6601373596472566643, 7507060721942968483, 8399075790359081724, 8693463985226723168, 9568029438360202098, 10144078919501101548, 10430055236837252648, 11840083180663258601, 13761210420658862357, 14299343276471374635, 14566680578165727644, 15097957966210449927, 16922976911328602910, 17689382322260857208, 500013540394364858, 748580250866718886, 1242879168328830382, 1977374033974150939, 2944078676154940804, 3659926193048069267, 4368137639120453308, 4836135668995329356, 5532061633213252278, 6448918945643986474, 6902733635092675308, 7801388544844847127]
theorem g_s : Tryd.prog.globalNamed "e2e/digestm.sines" = some 0 := by kernel_rfl
theorem g_c : Tryd.prog.globalNamed "e2e/digestm.cubeRoots" = some 1 := by kernel_rfl
theorem t_s : (Tryd.prog.globals[0]?).map (·.type) = some 90 := by kernel_rfl
theorem t_c : (Tryd.prog.globals[1]?).map (·.type) = some 92 := by kernel_rfl
theorem c90 : Tryd.prog.cellsOf 90 = 64 := by kernel_rfl
theorem c91 : Tryd.prog.cellsOf 91 = 1 := by kernel_rfl
theorem c92 : Tryd.prog.cellsOf 92 = 80 := by kernel_rfl
theorem glob_of_laid {W : World} (h : laidMetH Tryd.prog Rows.hMACIsRFC2104Row.laid W) : Glob snL crL W := by
  have h' : laidMet Tryd.prog [("e2e/digestm.sines", Lib.tabData .u32 snL), ("e2e/digestm.cubeRoots", Lib.tabData .u64 crL)] W := h
  have h0 := Lib.tabIs_of_head g_s t_s Tryd.underlying90 Tryd.underlying26 c26 c90 h'
  have h1 := Lib.tabIs_of_head g_c t_c Tryd.underlying92 Tryd.underlying91 c91 c92 h'.tail
  have hT1 : W.var? Tryd.prog "e2e/digestm.cubeRoots" = some (crL.map fun z => Value.int .u64 z).toArray := h1
  have hsz : 1 < W.heap.size := by
    rcases Nat.lt_or_ge 1 W.heap.size with h1 | h1
    · exact h1
    · simp [World.var?, g_c, Array.getElem?_eq_none h1] at hT1
  refine ⟨hsz, ⟨rfl, fun i hi => ?_⟩, ⟨rfl, fun i hi => ?_⟩⟩
  · have := h0.cell g_s i (by simpa [snL] using hi)
    rw [show 0 + i * 1 = i by omega]
    exact this
  · have := h1.cell g_c i (by simpa [crL] using hi)
    rw [show 0 + i * 1 = i by omega]
    exact this
end Go.Proofs.Qxb6500863aDoor
