/-
  Closed facts about this seat's program, by the kernel (written by program off the dump's rows).
-/
import Derived.Test.Qxb6500864aRows
import Derived.Test.Qxb6500864aWk3
namespace Go.Proofs.Qxb6500864a
theorem U3 : UN Try.prog 3 (.int .i64) := fun _ => by kernel_rfl
theorem A3 : AG Try.prog 3 false := fun _ => by kernel_rfl
theorem S3 : SZ Try.prog 3 1 := fun _ => by kernel_rfl
theorem Z3 : ZV Try.prog 3 (.int .i64 0) := fun _ => by kernel_rfl
theorem I3 : (Try.prog.info? 3).map (fun i => (i.zero, i.size, i.bytes)) = some (some (.int .i64 0), 1, 8) := by kernel_rfl
theorem U5 : UN Try.prog 5 (.int .u8) := fun _ => by kernel_rfl
theorem A5 : AG Try.prog 5 false := fun _ => by kernel_rfl
theorem S5 : SZ Try.prog 5 1 := fun _ => by kernel_rfl
theorem Z5 : ZV Try.prog 5 (.int .u8 0) := fun _ => by kernel_rfl
theorem I5 : (Try.prog.info? 5).map (fun i => (i.zero, i.size, i.bytes)) = some (some (.int .u8 0), 1, 1) := by kernel_rfl
theorem U22 : UN Try.prog 22 (.slice 30) := fun _ => by kernel_rfl
theorem A22 : AG Try.prog 22 false := fun _ => by kernel_rfl
theorem S22 : SZ Try.prog 22 1 := fun _ => by kernel_rfl
theorem Z22 : ZV Try.prog 22 (.slice none 0 0) := fun _ => by kernel_rfl
theorem I22 : (Try.prog.info? 22).map (fun i => (i.zero, i.size, i.bytes)) = some (some (.slice none 0 0), 1, 24) := by kernel_rfl
theorem U25 : UN Try.prog 25 (.slice 5) := fun _ => by kernel_rfl
theorem A25 : AG Try.prog 25 false := fun _ => by kernel_rfl
theorem S25 : SZ Try.prog 25 1 := fun _ => by kernel_rfl
theorem Z25 : ZV Try.prog 25 (.slice none 0 0) := fun _ => by kernel_rfl
theorem I25 : (Try.prog.info? 25).map (fun i => (i.zero, i.size, i.bytes)) = some (some (.slice none 0 0), 1, 24) := by kernel_rfl
theorem U27 : UN Try.prog 27 (.int .u16) := fun _ => by kernel_rfl
theorem A27 : AG Try.prog 27 false := fun _ => by kernel_rfl
theorem S27 : SZ Try.prog 27 1 := fun _ => by kernel_rfl
theorem Z27 : ZV Try.prog 27 (.int .u16 0) := fun _ => by kernel_rfl
theorem I27 : (Try.prog.info? 27).map (fun i => (i.zero, i.size, i.bytes)) = some (some (.int .u16 0), 1, 2) := by kernel_rfl
theorem U28 : UN Try.prog 28 (.int .u64) := fun _ => by kernel_rfl
theorem A28 : AG Try.prog 28 false := fun _ => by kernel_rfl
theorem S28 : SZ Try.prog 28 1 := fun _ => by kernel_rfl
theorem Z28 : ZV Try.prog 28 (.int .u64 0) := fun _ => by kernel_rfl
theorem I28 : (Try.prog.info? 28).map (fun i => (i.zero, i.size, i.bytes)) = some (some (.int .u64 0), 1, 8) := by kernel_rfl
theorem A30 : AG Try.prog 30 true := fun _ => by kernel_rfl
theorem S30 : SZ Try.prog 30 14 := fun _ => by kernel_rfl
theorem Z30 : ZV Try.prog 30 (.agg #[.int .i64 0, .int .i64 0, .slice none 0 0, .int .u32 0, .int .u16 0, .int .u8 0, .int .u16 0, .int .u16 0, .int .u64 0, .slice none 0 0, .slice none 0 0, .int .i64 0, .int .u8 0, .bool false]) := fun _ => by kernel_rfl
theorem I30 : (Try.prog.info? 30).map (fun i => (i.zero, i.size, i.bytes)) = some (some (.agg #[.int .i64 0, .int .i64 0, .slice none 0 0, .int .u32 0, .int .u16 0, .int .u8 0, .int .u16 0, .int .u16 0, .int .u64 0, .slice none 0 0, .slice none 0 0, .int .i64 0, .int .u8 0, .bool false]), 14, 128) := by kernel_rfl
theorem A32 : AG Try.prog 32 true := fun _ => by kernel_rfl
theorem S32 : SZ Try.prog 32 5 := fun _ => by kernel_rfl
theorem Z32 : ZV Try.prog 32 (.agg #[.int .u16 0, .int .u8 0, .int .u16 0, .int .u16 0, .int .u64 0]) := fun _ => by kernel_rfl
theorem I32 : (Try.prog.info? 32).map (fun i => (i.zero, i.size, i.bytes)) = some (some (.agg #[.int .u16 0, .int .u8 0, .int .u16 0, .int .u16 0, .int .u64 0]), 5, 16) := by kernel_rfl
theorem U34 : UN Try.prog 34 (.slice 32) := fun _ => by kernel_rfl
theorem A34 : AG Try.prog 34 false := fun _ => by kernel_rfl
theorem S34 : SZ Try.prog 34 1 := fun _ => by kernel_rfl
theorem Z34 : ZV Try.prog 34 (.slice none 0 0) := fun _ => by kernel_rfl
theorem I34 : (Try.prog.info? 34).map (fun i => (i.zero, i.size, i.bytes)) = some (some (.slice none 0 0), 1, 24) := by kernel_rfl
theorem U36 : UN Try.prog 36 (.int .u16) := fun _ => by kernel_rfl
theorem A36 : AG Try.prog 36 false := fun _ => by kernel_rfl
theorem S36 : SZ Try.prog 36 1 := fun _ => by kernel_rfl
theorem Z36 : ZV Try.prog 36 (.int .u16 0) := fun _ => by kernel_rfl
theorem I36 : (Try.prog.info? 36).map (fun i => (i.zero, i.size, i.bytes)) = some (some (.int .u16 0), 1, 2) := by kernel_rfl
theorem U37 : UN Try.prog 37 (.int .u8) := fun _ => by kernel_rfl
theorem A37 : AG Try.prog 37 false := fun _ => by kernel_rfl
theorem S37 : SZ Try.prog 37 1 := fun _ => by kernel_rfl
theorem Z37 : ZV Try.prog 37 (.int .u8 0) := fun _ => by kernel_rfl
theorem I37 : (Try.prog.info? 37).map (fun i => (i.zero, i.size, i.bytes)) = some (some (.int .u8 0), 1, 1) := by kernel_rfl
theorem A39 : AG Try.prog 39 true := fun _ => by kernel_rfl
theorem S39 : SZ Try.prog 39 5 := fun _ => by kernel_rfl
theorem Z39 : ZV Try.prog 39 (.agg #[.int .u16 0, .int .u8 0, .int .u16 0, .int .u16 0, .int .u64 0]) := fun _ => by kernel_rfl
theorem I39 : (Try.prog.info? 39).map (fun i => (i.zero, i.size, i.bytes)) = some (some (.agg #[.int .u16 0, .int .u8 0, .int .u16 0, .int .u16 0, .int .u64 0]), 5, 16) := by kernel_rfl
theorem A41 : AG Try.prog 41 false := fun _ => by kernel_rfl
theorem S41 : SZ Try.prog 41 1 := fun _ => by kernel_rfl
theorem Z41 : ZV Try.prog 41 (.nilIface) := fun _ => by kernel_rfl
theorem I41 : (Try.prog.info? 41).map (fun i => (i.zero, i.size, i.bytes)) = some (some (.nilIface), 1, 16) := by kernel_rfl
theorem U44 : UN Try.prog 44 (.int .i64) := fun _ => by kernel_rfl
theorem A44 : AG Try.prog 44 false := fun _ => by kernel_rfl
theorem S44 : SZ Try.prog 44 1 := fun _ => by kernel_rfl
theorem Z44 : ZV Try.prog 44 (.int .i64 0) := fun _ => by kernel_rfl
theorem I44 : (Try.prog.info? 44).map (fun i => (i.zero, i.size, i.bytes)) = some (some (.int .i64 0), 1, 8) := by kernel_rfl
theorem U53 : UN Try.prog 53 (.slice 25) := fun _ => by kernel_rfl
theorem A53 : AG Try.prog 53 false := fun _ => by kernel_rfl
theorem S53 : SZ Try.prog 53 1 := fun _ => by kernel_rfl
theorem Z53 : ZV Try.prog 53 (.slice none 0 0) := fun _ => by kernel_rfl
theorem I53 : (Try.prog.info? 53).map (fun i => (i.zero, i.size, i.bytes)) = some (some (.slice none 0 0), 1, 24) := by kernel_rfl
theorem U60 : UN Try.prog 60 (.int .i64) := fun _ => by kernel_rfl
theorem A60 : AG Try.prog 60 false := fun _ => by kernel_rfl
theorem S60 : SZ Try.prog 60 1 := fun _ => by kernel_rfl
theorem Z60 : ZV Try.prog 60 (.int .i64 0) := fun _ => by kernel_rfl
theorem I60 : (Try.prog.info? 60).map (fun i => (i.zero, i.size, i.bytes)) = some (some (.int .i64 0), 1, 8) := by kernel_rfl
theorem U68 : UN Try.prog 68 (.array 16 5) := fun _ => by kernel_rfl
theorem A68 : AG Try.prog 68 true := fun _ => by kernel_rfl
theorem S68 : SZ Try.prog 68 16 := fun _ => by kernel_rfl
theorem Z68 : ZV Try.prog 68 (.agg #[.int .u8 0, .int .u8 0, .int .u8 0, .int .u8 0, .int .u8 0, .int .u8 0, .int .u8 0, .int .u8 0, .int .u8 0, .int .u8 0, .int .u8 0, .int .u8 0, .int .u8 0, .int .u8 0, .int .u8 0, .int .u8 0]) := fun _ => by kernel_rfl
theorem I68 : (Try.prog.info? 68).map (fun i => (i.zero, i.size, i.bytes)) = some (some (.agg #[.int .u8 0, .int .u8 0, .int .u8 0, .int .u8 0, .int .u8 0, .int .u8 0, .int .u8 0, .int .u8 0, .int .u8 0, .int .u8 0, .int .u8 0, .int .u8 0, .int .u8 0, .int .u8 0, .int .u8 0, .int .u8 0]), 16, 16) := by kernel_rfl
theorem F30_2 : FO Try.prog 30 2 2 := fun _ _ _ => by kernel_rfl
theorem F30_4 : FO Try.prog 30 4 4 := fun _ _ _ => by kernel_rfl
theorem F30_5 : FO Try.prog 30 5 5 := fun _ _ _ => by kernel_rfl
theorem F30_6 : FO Try.prog 30 6 6 := fun _ _ _ => by kernel_rfl
theorem F30_7 : FO Try.prog 30 7 7 := fun _ _ _ => by kernel_rfl
theorem F30_8 : FO Try.prog 30 8 8 := fun _ _ _ => by kernel_rfl
theorem F30_9 : FO Try.prog 30 9 9 := fun _ _ _ => by kernel_rfl
theorem F30_10 : FO Try.prog 30 10 10 := fun _ _ _ => by kernel_rfl
theorem F30_12 : FO Try.prog 30 12 12 := fun _ _ _ => by kernel_rfl
theorem F32_0 : FO Try.prog 32 0 0 := fun _ _ _ => by kernel_rfl
theorem F32_1 : FO Try.prog 32 1 1 := fun _ _ _ => by kernel_rfl
theorem F32_2 : FO Try.prog 32 2 2 := fun _ _ _ => by kernel_rfl
theorem F32_3 : FO Try.prog 32 3 3 := fun _ _ _ => by kernel_rfl
theorem F32_4 : FO Try.prog 32 4 4 := fun _ _ _ => by kernel_rfl
theorem F39_0 : FO Try.prog 39 0 0 := fun _ _ _ => by kernel_rfl
theorem F39_1 : FO Try.prog 39 1 1 := fun _ _ _ => by kernel_rfl
theorem F39_2 : FO Try.prog 39 2 2 := fun _ _ _ => by kernel_rfl
theorem F39_3 : FO Try.prog 39 3 3 := fun _ _ _ => by kernel_rfl
theorem F39_4 : FO Try.prog 39 4 4 := fun _ _ _ => by kernel_rfl
theorem E5 : EN Try.prog 5 := fun _ _ => by kernel_rfl
theorem E6 : EN Try.prog 6 := fun _ _ => by kernel_rfl
theorem E7 : EN Try.prog 7 := fun _ _ => by kernel_rfl
theorem E8 : EN Try.prog 8 := fun _ _ => by kernel_rfl
theorem E9 : EN Try.prog 9 := fun _ _ => by kernel_rfl
theorem E10 : EN Try.prog 10 := fun _ _ => by kernel_rfl
theorem E11 : EN Try.prog 11 := fun _ _ => by kernel_rfl
theorem E12 : EN Try.prog 12 := fun _ _ => by kernel_rfl
theorem E13 : EN Try.prog 13 := fun _ _ => by kernel_rfl
theorem E17 : EN Try.prog 17 := fun _ _ => by kernel_rfl
theorem E18 : EN Try.prog 18 := fun _ _ => by kernel_rfl
theorem E19 : EN Try.prog 19 := fun _ _ => by kernel_rfl
theorem E20 : EN Try.prog 20 := fun _ _ => by kernel_rfl
theorem E21 : EN Try.prog 21 := fun _ _ => by kernel_rfl
theorem E22 : EN Try.prog 22 := fun _ _ => by kernel_rfl
theorem E23 : EN Try.prog 23 := fun _ _ => by kernel_rfl
theorem E24 : EN Try.prog 24 := fun _ _ => by kernel_rfl
theorem E25 : EN Try.prog 25 := fun _ _ => by kernel_rfl
theorem E26 : EN Try.prog 26 := fun _ _ => by kernel_rfl
theorem E33 : EN Try.prog 33 := fun _ _ => by kernel_rfl
theorem E34 : EN Try.prog 34 := fun _ _ => by kernel_rfl
theorem E35 : EN Try.prog 35 := fun _ _ => by kernel_rfl
theorem E36 : EN Try.prog 36 := fun _ _ => by kernel_rfl
theorem E37 : EN Try.prog 37 := fun _ _ => by kernel_rfl
theorem E38 : EN Try.prog 38 := fun _ _ => by kernel_rfl
theorem E39 : EN Try.prog 39 := fun _ _ => by kernel_rfl
theorem E40 : EN Try.prog 40 := fun _ _ => by kernel_rfl
end Go.Proofs.Qxb6500864a
