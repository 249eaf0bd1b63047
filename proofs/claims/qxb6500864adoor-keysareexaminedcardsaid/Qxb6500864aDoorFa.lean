/-
  Closed facts about this seat's program, by the kernel (written by program off the dump's rows).
-/
import Derived.Test.Qxb6500864aDoorRows
import Derived.Test.Qxb6500864aDoorWk3
namespace Go.Proofs.Qxb6500864aDoor
theorem U3 : UN Tryd.prog 3 (.int .i64) := fun _ => by kernel_rfl
theorem A3 : AG Tryd.prog 3 false := fun _ => by kernel_rfl
theorem S3 : SZ Tryd.prog 3 1 := fun _ => by kernel_rfl
theorem Z3 : ZV Tryd.prog 3 (.int .i64 0) := fun _ => by kernel_rfl
theorem I3 : (Tryd.prog.info? 3).map (fun i => (i.zero, i.size, i.bytes)) = some (some (.int .i64 0), 1, 8) := by kernel_rfl
theorem U4 : UN Tryd.prog 4 .bool := fun _ => by kernel_rfl
theorem A4 : AG Tryd.prog 4 false := fun _ => by kernel_rfl
theorem S4 : SZ Tryd.prog 4 1 := fun _ => by kernel_rfl
theorem Z4 : ZV Tryd.prog 4 (.bool false) := fun _ => by kernel_rfl
theorem I4 : (Tryd.prog.info? 4).map (fun i => (i.zero, i.size, i.bytes)) = some (some (.bool false), 1, 1) := by kernel_rfl
theorem U5 : UN Tryd.prog 5 (.int .u8) := fun _ => by kernel_rfl
theorem A5 : AG Tryd.prog 5 false := fun _ => by kernel_rfl
theorem S5 : SZ Tryd.prog 5 1 := fun _ => by kernel_rfl
theorem Z5 : ZV Tryd.prog 5 (.int .u8 0) := fun _ => by kernel_rfl
theorem I5 : (Tryd.prog.info? 5).map (fun i => (i.zero, i.size, i.bytes)) = some (some (.int .u8 0), 1, 1) := by kernel_rfl
theorem U22 : UN Tryd.prog 22 (.slice 30) := fun _ => by kernel_rfl
theorem A22 : AG Tryd.prog 22 false := fun _ => by kernel_rfl
theorem S22 : SZ Tryd.prog 22 1 := fun _ => by kernel_rfl
theorem Z22 : ZV Tryd.prog 22 (.slice none 0 0) := fun _ => by kernel_rfl
theorem I22 : (Tryd.prog.info? 22).map (fun i => (i.zero, i.size, i.bytes)) = some (some (.slice none 0 0), 1, 24) := by kernel_rfl
theorem U25 : UN Tryd.prog 25 (.slice 5) := fun _ => by kernel_rfl
theorem A25 : AG Tryd.prog 25 false := fun _ => by kernel_rfl
theorem S25 : SZ Tryd.prog 25 1 := fun _ => by kernel_rfl
theorem Z25 : ZV Tryd.prog 25 (.slice none 0 0) := fun _ => by kernel_rfl
theorem I25 : (Tryd.prog.info? 25).map (fun i => (i.zero, i.size, i.bytes)) = some (some (.slice none 0 0), 1, 24) := by kernel_rfl
theorem A30 : AG Tryd.prog 30 true := fun _ => by kernel_rfl
theorem S30 : SZ Tryd.prog 30 14 := fun _ => by kernel_rfl
theorem Z30 : ZV Tryd.prog 30 (.agg #[.int .i64 0, .int .i64 0, .slice none 0 0, .int .u32 0, .int .u16 0, .int .u8 0, .int .u16 0, .int .u16 0, .int .u64 0, .slice none 0 0, .slice none 0 0, .int .i64 0, .int .u8 0, .bool false]) := fun _ => by kernel_rfl
theorem I30 : (Tryd.prog.info? 30).map (fun i => (i.zero, i.size, i.bytes)) = some (some (.agg #[.int .i64 0, .int .i64 0, .slice none 0 0, .int .u32 0, .int .u16 0, .int .u8 0, .int .u16 0, .int .u16 0, .int .u64 0, .slice none 0 0, .slice none 0 0, .int .i64 0, .int .u8 0, .bool false]), 14, 128) := by kernel_rfl
theorem A31 : AG Tryd.prog 31 false := fun _ => by kernel_rfl
theorem S31 : SZ Tryd.prog 31 1 := fun _ => by kernel_rfl
theorem Z31 : ZV Tryd.prog 31 (.pointer none) := fun _ => by kernel_rfl
theorem I31 : (Tryd.prog.info? 31).map (fun i => (i.zero, i.size, i.bytes)) = some (some (.pointer none), 1, 8) := by kernel_rfl
theorem A33 : AG Tryd.prog 33 false := fun _ => by kernel_rfl
theorem S33 : SZ Tryd.prog 33 1 := fun _ => by kernel_rfl
theorem Z33 : ZV Tryd.prog 33 (.nilIface) := fun _ => by kernel_rfl
theorem I33 : (Tryd.prog.info? 33).map (fun i => (i.zero, i.size, i.bytes)) = some (some (.nilIface), 1, 16) := by kernel_rfl
theorem U36 : UN Tryd.prog 36 (.int .i64) := fun _ => by kernel_rfl
theorem A36 : AG Tryd.prog 36 false := fun _ => by kernel_rfl
theorem S36 : SZ Tryd.prog 36 1 := fun _ => by kernel_rfl
theorem Z36 : ZV Tryd.prog 36 (.int .i64 0) := fun _ => by kernel_rfl
theorem I36 : (Tryd.prog.info? 36).map (fun i => (i.zero, i.size, i.bytes)) = some (some (.int .i64 0), 1, 8) := by kernel_rfl
theorem U39 : UN Tryd.prog 39 (.slice 3) := fun _ => by kernel_rfl
theorem A39 : AG Tryd.prog 39 false := fun _ => by kernel_rfl
theorem S39 : SZ Tryd.prog 39 1 := fun _ => by kernel_rfl
theorem Z39 : ZV Tryd.prog 39 (.slice none 0 0) := fun _ => by kernel_rfl
theorem I39 : (Tryd.prog.info? 39).map (fun i => (i.zero, i.size, i.bytes)) = some (some (.slice none 0 0), 1, 24) := by kernel_rfl
theorem A41 : AG Tryd.prog 41 true := fun _ => by kernel_rfl
theorem S41 : SZ Tryd.prog 41 4 := fun _ => by kernel_rfl
theorem Z41 : ZV Tryd.prog 41 (.agg #[.int .i64 0, .int .i64 0, .int .i64 0, .int .i64 0]) := fun _ => by kernel_rfl
theorem I41 : (Tryd.prog.info? 41).map (fun i => (i.zero, i.size, i.bytes)) = some (some (.agg #[.int .i64 0, .int .i64 0, .int .i64 0, .int .i64 0]), 4, 32) := by kernel_rfl
theorem U45 : UN Tryd.prog 45 (.slice 25) := fun _ => by kernel_rfl
theorem A45 : AG Tryd.prog 45 false := fun _ => by kernel_rfl
theorem S45 : SZ Tryd.prog 45 1 := fun _ => by kernel_rfl
theorem Z45 : ZV Tryd.prog 45 (.slice none 0 0) := fun _ => by kernel_rfl
theorem I45 : (Tryd.prog.info? 45).map (fun i => (i.zero, i.size, i.bytes)) = some (some (.slice none 0 0), 1, 24) := by kernel_rfl
theorem U46 : UN Tryd.prog 46 (.int .i64) := fun _ => by kernel_rfl
theorem A46 : AG Tryd.prog 46 false := fun _ => by kernel_rfl
theorem S46 : SZ Tryd.prog 46 1 := fun _ => by kernel_rfl
theorem Z46 : ZV Tryd.prog 46 (.int .i64 0) := fun _ => by kernel_rfl
theorem I46 : (Tryd.prog.info? 46).map (fun i => (i.zero, i.size, i.bytes)) = some (some (.int .i64 0), 1, 8) := by kernel_rfl
theorem A50 : AG Tryd.prog 50 true := fun _ => by kernel_rfl
theorem S50 : SZ Tryd.prog 50 2 := fun _ => by kernel_rfl
theorem Z50 : ZV Tryd.prog 50 (.agg #[.int .i64 0, .slice none 0 0]) := fun _ => by kernel_rfl
theorem I50 : (Tryd.prog.info? 50).map (fun i => (i.zero, i.size, i.bytes)) = some (some (.agg #[.int .i64 0, .slice none 0 0]), 2, 32) := by kernel_rfl
theorem A52 : AG Tryd.prog 52 true := fun _ => by kernel_rfl
theorem S52 : SZ Tryd.prog 52 6 := fun _ => by kernel_rfl
theorem Z52 : ZV Tryd.prog 52 (.agg #[.int .i64 0, .slice none 0 0, .int .i64 0, .int .i64 0, .int .i64 0, .int .i64 0]) := fun _ => by kernel_rfl
theorem I52 : (Tryd.prog.info? 52).map (fun i => (i.zero, i.size, i.bytes)) = some (some (.agg #[.int .i64 0, .slice none 0 0, .int .i64 0, .int .i64 0, .int .i64 0, .int .i64 0]), 6, 64) := by kernel_rfl
theorem U53 : UN Tryd.prog 53 (.array 6 3) := fun _ => by kernel_rfl
theorem A53 : AG Tryd.prog 53 true := fun _ => by kernel_rfl
theorem S53 : SZ Tryd.prog 53 6 := fun _ => by kernel_rfl
theorem Z53 : ZV Tryd.prog 53 (.agg #[.int .i64 0, .int .i64 0, .int .i64 0, .int .i64 0, .int .i64 0, .int .i64 0]) := fun _ => by kernel_rfl
theorem I53 : (Tryd.prog.info? 53).map (fun i => (i.zero, i.size, i.bytes)) = some (some (.agg #[.int .i64 0, .int .i64 0, .int .i64 0, .int .i64 0, .int .i64 0, .int .i64 0]), 6, 48) := by kernel_rfl
theorem F30_1 : FO Tryd.prog 30 1 1 := fun _ _ _ => by kernel_rfl
theorem F30_2 : FO Tryd.prog 30 2 2 := fun _ _ _ => by kernel_rfl
theorem F30_9 : FO Tryd.prog 30 9 9 := fun _ _ _ => by kernel_rfl
theorem F30_10 : FO Tryd.prog 30 10 10 := fun _ _ _ => by kernel_rfl
theorem F41_0 : FO Tryd.prog 41 0 0 := fun _ _ _ => by kernel_rfl
theorem F41_1 : FO Tryd.prog 41 1 1 := fun _ _ _ => by kernel_rfl
theorem F41_3 : FO Tryd.prog 41 3 3 := fun _ _ _ => by kernel_rfl
theorem F50_0 : FO Tryd.prog 50 0 0 := fun _ _ _ => by kernel_rfl
theorem F52_0 : FO Tryd.prog 52 0 0 := fun _ _ _ => by kernel_rfl
theorem F52_1 : FO Tryd.prog 52 1 2 := fun _ _ _ => by kernel_rfl
theorem E4 : EN Tryd.prog 4 := fun _ _ => by kernel_rfl
theorem E5 : EN Tryd.prog 5 := fun _ _ => by kernel_rfl
theorem E6 : EN Tryd.prog 6 := fun _ _ => by kernel_rfl
theorem E7 : EN Tryd.prog 7 := fun _ _ => by kernel_rfl
theorem E8 : EN Tryd.prog 8 := fun _ _ => by kernel_rfl
theorem E9 : EN Tryd.prog 9 := fun _ _ => by kernel_rfl
theorem E10 : EN Tryd.prog 10 := fun _ _ => by kernel_rfl
theorem E11 : EN Tryd.prog 11 := fun _ _ => by kernel_rfl
theorem E12 : EN Tryd.prog 12 := fun _ _ => by kernel_rfl
theorem E13 : EN Tryd.prog 13 := fun _ _ => by kernel_rfl
end Go.Proofs.Qxb6500864aDoor
