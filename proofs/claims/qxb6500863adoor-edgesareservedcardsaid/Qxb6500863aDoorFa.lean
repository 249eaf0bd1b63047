/-
  Closed facts about this seat's program, by the kernel (written by program off the dump's rows).
-/
import Derived.Test.Qxb6500863aDoorRows
import Derived.Test.Qxb6500863aDoorWk3
namespace Go.Proofs.Qxb6500863aDoor
theorem U3 : UN Tryd.prog 3 (.int .i64) := fun _ => by kernel_rfl
theorem A3 : AG Tryd.prog 3 false := fun _ => by kernel_rfl
theorem S3 : SZ Tryd.prog 3 1 := fun _ => by kernel_rfl
theorem Z3 : ZV Tryd.prog 3 (.int .i64 0) := fun _ => by kernel_rfl
theorem I3 : (Tryd.prog.info? 3).map (fun i => (i.zero, i.size, i.bytes)) = some (some (.int .i64 0), 1, 8) := by kernel_rfl
theorem U4 : UN Tryd.prog 4 .bool := fun _ => by kernel_rfl
theorem A4 : AG Tryd.prog 4 false := fun _ => by kernel_rfl
theorem S4 : SZ Tryd.prog 4 1 := fun _ => by kernel_rfl
theorem Z4 : ZV Tryd.prog 4 (.bool false) := fun _ => by kernel_rfl
theorem I4 : (Tryd.prog.info? 4).map (fun i => (i.zero, i.size, i.bytes)) = some (some (.bool false), 1, 1) := by kernel_rfl
theorem U5 : UN Tryd.prog 5 (.int .u8) := fun _ => by kernel_rfl
theorem A5 : AG Tryd.prog 5 false := fun _ => by kernel_rfl
theorem S5 : SZ Tryd.prog 5 1 := fun _ => by kernel_rfl
theorem Z5 : ZV Tryd.prog 5 (.int .u8 0) := fun _ => by kernel_rfl
theorem I5 : (Tryd.prog.info? 5).map (fun i => (i.zero, i.size, i.bytes)) = some (some (.int .u8 0), 1, 1) := by kernel_rfl
theorem U22 : UN Tryd.prog 22 (.slice 28) := fun _ => by kernel_rfl
theorem A22 : AG Tryd.prog 22 false := fun _ => by kernel_rfl
theorem S22 : SZ Tryd.prog 22 1 := fun _ => by kernel_rfl
theorem Z22 : ZV Tryd.prog 22 (.slice none 0 0) := fun _ => by kernel_rfl
theorem I22 : (Tryd.prog.info? 22).map (fun i => (i.zero, i.size, i.bytes)) = some (some (.slice none 0 0), 1, 24) := by kernel_rfl
theorem U25 : UN Tryd.prog 25 (.slice 5) := fun _ => by kernel_rfl
theorem A25 : AG Tryd.prog 25 false := fun _ => by kernel_rfl
theorem S25 : SZ Tryd.prog 25 1 := fun _ => by kernel_rfl
theorem Z25 : ZV Tryd.prog 25 (.slice none 0 0) := fun _ => by kernel_rfl
theorem I25 : (Tryd.prog.info? 25).map (fun i => (i.zero, i.size, i.bytes)) = some (some (.slice none 0 0), 1, 24) := by kernel_rfl
theorem U26 : UN Tryd.prog 26 (.int .u32) := fun _ => by kernel_rfl
theorem A26 : AG Tryd.prog 26 false := fun _ => by kernel_rfl
theorem S26 : SZ Tryd.prog 26 1 := fun _ => by kernel_rfl
theorem Z26 : ZV Tryd.prog 26 (.int .u32 0) := fun _ => by kernel_rfl
theorem I26 : (Tryd.prog.info? 26).map (fun i => (i.zero, i.size, i.bytes)) = some (some (.int .u32 0), 1, 4) := by kernel_rfl
theorem A28 : AG Tryd.prog 28 true := fun _ => by kernel_rfl
theorem S28 : SZ Tryd.prog 28 8 := fun _ => by kernel_rfl
theorem Z28 : ZV Tryd.prog 28 (.agg #[.int .i64 0, .int .i64 0, .slice none 0 0, .slice none 0 0, .slice none 0 0, .slice none 0 0, .int .u32 0, .int .i64 0]) := fun _ => by kernel_rfl
theorem I28 : (Tryd.prog.info? 28).map (fun i => (i.zero, i.size, i.bytes)) = some (some (.agg #[.int .i64 0, .int .i64 0, .slice none 0 0, .slice none 0 0, .slice none 0 0, .slice none 0 0, .int .u32 0, .int .i64 0]), 8, 128) := by kernel_rfl
theorem U29 : UN Tryd.prog 29 (.int .i64) := fun _ => by kernel_rfl
theorem A29 : AG Tryd.prog 29 false := fun _ => by kernel_rfl
theorem S29 : SZ Tryd.prog 29 1 := fun _ => by kernel_rfl
theorem Z29 : ZV Tryd.prog 29 (.int .i64 0) := fun _ => by kernel_rfl
theorem I29 : (Tryd.prog.info? 29).map (fun i => (i.zero, i.size, i.bytes)) = some (some (.int .i64 0), 1, 8) := by kernel_rfl
theorem U33 : UN Tryd.prog 33 (.slice 25) := fun _ => by kernel_rfl
theorem A33 : AG Tryd.prog 33 false := fun _ => by kernel_rfl
theorem S33 : SZ Tryd.prog 33 1 := fun _ => by kernel_rfl
theorem Z33 : ZV Tryd.prog 33 (.slice none 0 0) := fun _ => by kernel_rfl
theorem I33 : (Tryd.prog.info? 33).map (fun i => (i.zero, i.size, i.bytes)) = some (some (.slice none 0 0), 1, 24) := by kernel_rfl
theorem A35 : AG Tryd.prog 35 false := fun _ => by kernel_rfl
theorem S35 : SZ Tryd.prog 35 1 := fun _ => by kernel_rfl
theorem Z35 : ZV Tryd.prog 35 (.nilFunc) := fun _ => by kernel_rfl
theorem I35 : (Tryd.prog.info? 35).map (fun i => (i.zero, i.size, i.bytes)) = some (some (.nilFunc), 1, 8) := by kernel_rfl
theorem A44 : AG Tryd.prog 44 false := fun _ => by kernel_rfl
theorem S44 : SZ Tryd.prog 44 1 := fun _ => by kernel_rfl
theorem Z44 : ZV Tryd.prog 44 (.pointer none) := fun _ => by kernel_rfl
theorem I44 : (Tryd.prog.info? 44).map (fun i => (i.zero, i.size, i.bytes)) = some (some (.pointer none), 1, 8) := by kernel_rfl
theorem U53 : UN Tryd.prog 53 (.int .u64) := fun _ => by kernel_rfl
theorem A53 : AG Tryd.prog 53 false := fun _ => by kernel_rfl
theorem S53 : SZ Tryd.prog 53 1 := fun _ => by kernel_rfl
theorem Z53 : ZV Tryd.prog 53 (.int .u64 0) := fun _ => by kernel_rfl
theorem I53 : (Tryd.prog.info? 53).map (fun i => (i.zero, i.size, i.bytes)) = some (some (.int .u64 0), 1, 8) := by kernel_rfl
theorem U54 : UN Tryd.prog 54 (.slice 3) := fun _ => by kernel_rfl
theorem A54 : AG Tryd.prog 54 false := fun _ => by kernel_rfl
theorem S54 : SZ Tryd.prog 54 1 := fun _ => by kernel_rfl
theorem Z54 : ZV Tryd.prog 54 (.slice none 0 0) := fun _ => by kernel_rfl
theorem I54 : (Tryd.prog.info? 54).map (fun i => (i.zero, i.size, i.bytes)) = some (some (.slice none 0 0), 1, 24) := by kernel_rfl
theorem A60 : AG Tryd.prog 60 false := fun _ => by kernel_rfl
theorem S60 : SZ Tryd.prog 60 1 := fun _ => by kernel_rfl
theorem Z60 : ZV Tryd.prog 60 (.nilIface) := fun _ => by kernel_rfl
theorem I60 : (Tryd.prog.info? 60).map (fun i => (i.zero, i.size, i.bytes)) = some (some (.nilIface), 1, 16) := by kernel_rfl
theorem A61 : AG Tryd.prog 61 false := fun _ => by kernel_rfl
theorem S61 : SZ Tryd.prog 61 1 := fun _ => by kernel_rfl
theorem Z61 : ZV Tryd.prog 61 (.pointer none) := fun _ => by kernel_rfl
theorem I61 : (Tryd.prog.info? 61).map (fun i => (i.zero, i.size, i.bytes)) = some (some (.pointer none), 1, 8) := by kernel_rfl
theorem A70 : AG Tryd.prog 70 true := fun _ => by kernel_rfl
theorem S70 : SZ Tryd.prog 70 4 := fun _ => by kernel_rfl
theorem Z70 : ZV Tryd.prog 70 (.agg #[.nilIface, .nilIface, .slice none 0 0, .slice none 0 0]) := fun _ => by kernel_rfl
theorem I70 : (Tryd.prog.info? 70).map (fun i => (i.zero, i.size, i.bytes)) = some (some (.agg #[.nilIface, .nilIface, .slice none 0 0, .slice none 0 0]), 4, 80) := by kernel_rfl
theorem A74 : AG Tryd.prog 74 false := fun _ => by kernel_rfl
theorem S74 : SZ Tryd.prog 74 1 := fun _ => by kernel_rfl
theorem Z74 : ZV Tryd.prog 74 (.nilIface) := fun _ => by kernel_rfl
theorem I74 : (Tryd.prog.info? 74).map (fun i => (i.zero, i.size, i.bytes)) = some (some (.nilIface), 1, 16) := by kernel_rfl
theorem A78 : AG Tryd.prog 78 true := fun _ => by kernel_rfl
theorem S78 : SZ Tryd.prog 78 2 := fun _ => by kernel_rfl
theorem Z78 : ZV Tryd.prog 78 (.agg #[.int .i64 0, .slice none 0 0]) := fun _ => by kernel_rfl
theorem I78 : (Tryd.prog.info? 78).map (fun i => (i.zero, i.size, i.bytes)) = some (some (.agg #[.int .i64 0, .slice none 0 0]), 2, 32) := by kernel_rfl
theorem U79 : UN Tryd.prog 79 (.array 16 3) := fun _ => by kernel_rfl
theorem A79 : AG Tryd.prog 79 true := fun _ => by kernel_rfl
theorem S79 : SZ Tryd.prog 79 16 := fun _ => by kernel_rfl
theorem Z79 : ZV Tryd.prog 79 (.agg #[.int .i64 0, .int .i64 0, .int .i64 0, .int .i64 0, .int .i64 0, .int .i64 0, .int .i64 0, .int .i64 0, .int .i64 0, .int .i64 0, .int .i64 0, .int .i64 0, .int .i64 0, .int .i64 0, .int .i64 0, .int .i64 0]) := fun _ => by kernel_rfl
theorem I79 : (Tryd.prog.info? 79).map (fun i => (i.zero, i.size, i.bytes)) = some (some (.agg #[.int .i64 0, .int .i64 0, .int .i64 0, .int .i64 0, .int .i64 0, .int .i64 0, .int .i64 0, .int .i64 0, .int .i64 0, .int .i64 0, .int .i64 0, .int .i64 0, .int .i64 0, .int .i64 0, .int .i64 0, .int .i64 0]), 16, 128) := by kernel_rfl
theorem U80 : UN Tryd.prog 80 (.array 3 79) := fun _ => by kernel_rfl
theorem A80 : AG Tryd.prog 80 true := fun _ => by kernel_rfl
theorem S80 : SZ Tryd.prog 80 48 := fun _ => by kernel_rfl
theorem Z80 : ZV Tryd.prog 80 (.agg #[.int .i64 0, .int .i64 0, .int .i64 0, .int .i64 0, .int .i64 0, .int .i64 0, .int .i64 0, .int .i64 0, .int .i64 0, .int .i64 0, .int .i64 0, .int .i64 0, .int .i64 0, .int .i64 0, .int .i64 0, .int .i64 0, .int .i64 0, .int .i64 0, .int .i64 0, .int .i64 0, .int .i64 0, .int .i64 0, .int .i64 0, .int .i64 0, .int .i64 0, .int .i64 0, .int .i64 0, .int .i64 0, .int .i64 0, .int .i64 0, .int .i64 0, .int .i64 0, .int .i64 0, .int .i64 0, .int .i64 0, .int .i64 0, .int .i64 0, .int .i64 0, .int .i64 0, .int .i64 0, .int .i64 0, .int .i64 0, .int .i64 0, .int .i64 0, .int .i64 0, .int .i64 0, .int .i64 0, .int .i64 0]) := fun _ => by kernel_rfl
theorem I80 : (Tryd.prog.info? 80).map (fun i => (i.zero, i.size, i.bytes)) = some (some (.agg #[.int .i64 0, .int .i64 0, .int .i64 0, .int .i64 0, .int .i64 0, .int .i64 0, .int .i64 0, .int .i64 0, .int .i64 0, .int .i64 0, .int .i64 0, .int .i64 0, .int .i64 0, .int .i64 0, .int .i64 0, .int .i64 0, .int .i64 0, .int .i64 0, .int .i64 0, .int .i64 0, .int .i64 0, .int .i64 0, .int .i64 0, .int .i64 0, .int .i64 0, .int .i64 0, .int .i64 0, .int .i64 0, .int .i64 0, .int .i64 0, .int .i64 0, .int .i64 0, .int .i64 0, .int .i64 0, .int .i64 0, .int .i64 0, .int .i64 0, .int .i64 0, .int .i64 0, .int .i64 0, .int .i64 0, .int .i64 0, .int .i64 0, .int .i64 0, .int .i64 0, .int .i64 0, .int .i64 0, .int .i64 0]), 48, 384) := by kernel_rfl
theorem U81 : UN Tryd.prog 81 (.array 4 3) := fun _ => by kernel_rfl
theorem A81 : AG Tryd.prog 81 true := fun _ => by kernel_rfl
theorem S81 : SZ Tryd.prog 81 4 := fun _ => by kernel_rfl
theorem Z81 : ZV Tryd.prog 81 (.agg #[.int .i64 0, .int .i64 0, .int .i64 0, .int .i64 0]) := fun _ => by kernel_rfl
theorem I81 : (Tryd.prog.info? 81).map (fun i => (i.zero, i.size, i.bytes)) = some (some (.agg #[.int .i64 0, .int .i64 0, .int .i64 0, .int .i64 0]), 4, 32) := by kernel_rfl
theorem U82 : UN Tryd.prog 82 (.array 3 81) := fun _ => by kernel_rfl
theorem A82 : AG Tryd.prog 82 true := fun _ => by kernel_rfl
theorem S82 : SZ Tryd.prog 82 12 := fun _ => by kernel_rfl
theorem Z82 : ZV Tryd.prog 82 (.agg #[.int .i64 0, .int .i64 0, .int .i64 0, .int .i64 0, .int .i64 0, .int .i64 0, .int .i64 0, .int .i64 0, .int .i64 0, .int .i64 0, .int .i64 0, .int .i64 0]) := fun _ => by kernel_rfl
theorem I82 : (Tryd.prog.info? 82).map (fun i => (i.zero, i.size, i.bytes)) = some (some (.agg #[.int .i64 0, .int .i64 0, .int .i64 0, .int .i64 0, .int .i64 0, .int .i64 0, .int .i64 0, .int .i64 0, .int .i64 0, .int .i64 0, .int .i64 0, .int .i64 0]), 12, 96) := by kernel_rfl
theorem U83 : UN Tryd.prog 83 (.array 3 26) := fun _ => by kernel_rfl
theorem A83 : AG Tryd.prog 83 true := fun _ => by kernel_rfl
theorem S83 : SZ Tryd.prog 83 3 := fun _ => by kernel_rfl
theorem Z83 : ZV Tryd.prog 83 (.agg #[.int .u32 0, .int .u32 0, .int .u32 0]) := fun _ => by kernel_rfl
theorem I83 : (Tryd.prog.info? 83).map (fun i => (i.zero, i.size, i.bytes)) = some (some (.agg #[.int .u32 0, .int .u32 0, .int .u32 0]), 3, 12) := by kernel_rfl
theorem U84 : UN Tryd.prog 84 (.slice 26) := fun _ => by kernel_rfl
theorem A84 : AG Tryd.prog 84 false := fun _ => by kernel_rfl
theorem S84 : SZ Tryd.prog 84 1 := fun _ => by kernel_rfl
theorem Z84 : ZV Tryd.prog 84 (.slice none 0 0) := fun _ => by kernel_rfl
theorem I84 : (Tryd.prog.info? 84).map (fun i => (i.zero, i.size, i.bytes)) = some (some (.slice none 0 0), 1, 24) := by kernel_rfl
theorem U89 : UN Tryd.prog 89 (.array 4 81) := fun _ => by kernel_rfl
theorem A89 : AG Tryd.prog 89 true := fun _ => by kernel_rfl
theorem S89 : SZ Tryd.prog 89 16 := fun _ => by kernel_rfl
theorem Z89 : ZV Tryd.prog 89 (.agg #[.int .i64 0, .int .i64 0, .int .i64 0, .int .i64 0, .int .i64 0, .int .i64 0, .int .i64 0, .int .i64 0, .int .i64 0, .int .i64 0, .int .i64 0, .int .i64 0, .int .i64 0, .int .i64 0, .int .i64 0, .int .i64 0]) := fun _ => by kernel_rfl
theorem I89 : (Tryd.prog.info? 89).map (fun i => (i.zero, i.size, i.bytes)) = some (some (.agg #[.int .i64 0, .int .i64 0, .int .i64 0, .int .i64 0, .int .i64 0, .int .i64 0, .int .i64 0, .int .i64 0, .int .i64 0, .int .i64 0, .int .i64 0, .int .i64 0, .int .i64 0, .int .i64 0, .int .i64 0, .int .i64 0]), 16, 128) := by kernel_rfl
theorem U90 : UN Tryd.prog 90 (.array 64 26) := fun _ => by kernel_rfl
theorem A90 : AG Tryd.prog 90 true := fun _ => by kernel_rfl
theorem S90 : SZ Tryd.prog 90 64 := fun _ => by kernel_rfl
theorem Z90 : ZV Tryd.prog 90 (.agg #[.int .u32 0, .int .u32 0, .int .u32 0, .int .u32 0, .int .u32 0, .int .u32 0, .int .u32 0, .int .u32 0, .int .u32 0, .int .u32 0, .int .u32 0, .int .u32 0, .int .u32 0, .int .u32 0, .int .u32 0, .int .u32 0, .int .u32 0, .int .u32 0, .int .u32 0, .int .u32 0, .int .u32 0, .int .u32 0, .int .u32 0, .int .u32 0, .int .u32 0, .int .u32 0, .int .u32 0, .int .u32 0, .int .u32 0, .int .u32 0, .int .u32 0, .int .u32 0, .int .u32 0, .int .u32 0, .int .u32 0, .int .u32 0, .int .u32 0, .int .u32 0, .int .u32 0, .int .u32 0, .int .u32 0, .int .u32 0, .int .u32 0, .int .u32 0, .int .u32 0, .int .u32 0, .int .u32 0, .int .u32 0, .int .u32 0, .int .u32 0, .int .u32 0, .int .u32 0, .int .u32 0, .int .u32 0, .int .u32 0, .int .u32 0, .int .u32 0, .int .u32 0, .int .u32 0, .int .u32 0, .int .u32 0, .int .u32 0, .int .u32 0, .int .u32 0]) := fun _ => by kernel_rfl
theorem I90 : (Tryd.prog.info? 90).map (fun i => (i.zero, i.size, i.bytes)) = some (some (.agg #[.int .u32 0, .int .u32 0, .int .u32 0, .int .u32 0, .int .u32 0, .int .u32 0, .int .u32 0, .int .u32 0, .int .u32 0, .int .u32 0, .int .u32 0, .int .u32 0, .int .u32 0, .int .u32 0, .int .u32 0, .int .u32 0, .int .u32 0, .int .u32 0, .int .u32 0, .int .u32 0, .int .u32 0, .int .u32 0, .int .u32 0, .int .u32 0, .int .u32 0, .int .u32 0, .int .u32 0, .int .u32 0, .int .u32 0, .int .u32 0, .int .u32 0, .int .u32 0, .int .u32 0, .int .u32 0, .int .u32 0, .int .u32 0, .int .u32 0, .int .u32 0, .int .u32 0, .int .u32 0, .int .u32 0, .int .u32 0, .int .u32 0, .int .u32 0, .int .u32 0, .int .u32 0, .int .u32 0, .int .u32 0, .int .u32 0, .int .u32 0, .int .u32 0, .int .u32 0, .int .u32 0, .int .u32 0, .int .u32 0, .int .u32 0, .int .u32 0, .int .u32 0, .int .u32 0, .int .u32 0, .int .u32 0, .int .u32 0, .int .u32 0, .int .u32 0]), 64, 256) := by kernel_rfl
theorem U91 : UN Tryd.prog 91 (.int .u64) := fun _ => by kernel_rfl
theorem A91 : AG Tryd.prog 91 false := fun _ => by kernel_rfl
theorem S91 : SZ Tryd.prog 91 1 := fun _ => by kernel_rfl
theorem Z91 : ZV Tryd.prog 91 (.int .u64 0) := fun _ => by kernel_rfl
theorem I91 : (Tryd.prog.info? 91).map (fun i => (i.zero, i.size, i.bytes)) = some (some (.int .u64 0), 1, 8) := by kernel_rfl
theorem U92 : UN Tryd.prog 92 (.array 80 91) := fun _ => by kernel_rfl
theorem A92 : AG Tryd.prog 92 true := fun _ => by kernel_rfl
theorem S92 : SZ Tryd.prog 92 80 := fun _ => by kernel_rfl
theorem Z92 : ZV Tryd.prog 92 (.agg #[.int .u64 0, .int .u64 0, .int .u64 0, .int .u64 0, .int .u64 0, .int .u64 0, .int .u64 0, .int .u64 0, .int .u64 0, .int .u64 0, .int .u64 0, .int .u64 0, .int .u64 0, .int .u64 0, .int .u64 0, .int .u64 0, .int .u64 0, .int .u64 0, .int .u64 0, .int .u64 0, .int .u64 0, .int .u64 0, .int .u64 0, .int .u64 0, .int .u64 0, .int .u64 0, .int .u64 0, .int .u64 0, .int .u64 0, .int .u64 0, .int .u64 0, .int .u64 0, .int .u64 0, .int .u64 0, .int .u64 0, .int .u64 0, .int .u64 0, .int .u64 0, .int .u64 0, .int .u64 0, .int .u64 0, .int .u64 0, .int .u64 0, .int .u64 0, .int .u64 0, .int .u64 0, .int .u64 0, .int .u64 0, .int .u64 0, .int .u64 0, .int .u64 0, .int .u64 0, .int .u64 0, .int .u64 0, .int .u64 0, .int .u64 0, .int .u64 0, .int .u64 0, .int .u64 0, .int .u64 0, .int .u64 0, .int .u64 0, .int .u64 0, .int .u64 0, .int .u64 0, .int .u64 0, .int .u64 0, .int .u64 0, .int .u64 0, .int .u64 0, .int .u64 0, .int .u64 0, .int .u64 0, .int .u64 0, .int .u64 0, .int .u64 0, .int .u64 0, .int .u64 0, .int .u64 0, .int .u64 0]) := fun _ => by kernel_rfl
theorem I92 : (Tryd.prog.info? 92).map (fun i => (i.zero, i.size, i.bytes)) = some (some (.agg #[.int .u64 0, .int .u64 0, .int .u64 0, .int .u64 0, .int .u64 0, .int .u64 0, .int .u64 0, .int .u64 0, .int .u64 0, .int .u64 0, .int .u64 0, .int .u64 0, .int .u64 0, .int .u64 0, .int .u64 0, .int .u64 0, .int .u64 0, .int .u64 0, .int .u64 0, .int .u64 0, .int .u64 0, .int .u64 0, .int .u64 0, .int .u64 0, .int .u64 0, .int .u64 0, .int .u64 0, .int .u64 0, .int .u64 0, .int .u64 0, .int .u64 0, .int .u64 0, .int .u64 0, .int .u64 0, .int .u64 0, .int .u64 0, .int .u64 0, .int .u64 0, .int .u64 0, .int .u64 0, .int .u64 0, .int .u64 0, .int .u64 0, .int .u64 0, .int .u64 0, .int .u64 0, .int .u64 0, .int .u64 0, .int .u64 0, .int .u64 0, .int .u64 0, .int .u64 0, .int .u64 0, .int .u64 0, .int .u64 0, .int .u64 0, .int .u64 0, .int .u64 0, .int .u64 0, .int .u64 0, .int .u64 0, .int .u64 0, .int .u64 0, .int .u64 0, .int .u64 0, .int .u64 0, .int .u64 0, .int .u64 0, .int .u64 0, .int .u64 0, .int .u64 0, .int .u64 0, .int .u64 0, .int .u64 0, .int .u64 0, .int .u64 0, .int .u64 0, .int .u64 0, .int .u64 0, .int .u64 0]), 80, 640) := by kernel_rfl
theorem U93 : UN Tryd.prog 93 (.slice 91) := fun _ => by kernel_rfl
theorem A93 : AG Tryd.prog 93 false := fun _ => by kernel_rfl
theorem S93 : SZ Tryd.prog 93 1 := fun _ => by kernel_rfl
theorem Z93 : ZV Tryd.prog 93 (.slice none 0 0) := fun _ => by kernel_rfl
theorem I93 : (Tryd.prog.info? 93).map (fun i => (i.zero, i.size, i.bytes)) = some (some (.slice none 0 0), 1, 24) := by kernel_rfl
theorem F28_1 : FO Tryd.prog 28 1 1 := fun _ _ _ => by kernel_rfl
theorem F28_2 : FO Tryd.prog 28 2 2 := fun _ _ _ => by kernel_rfl
theorem F28_3 : FO Tryd.prog 28 3 3 := fun _ _ _ => by kernel_rfl
theorem F28_4 : FO Tryd.prog 28 4 4 := fun _ _ _ => by kernel_rfl
theorem F28_5 : FO Tryd.prog 28 5 5 := fun _ _ _ => by kernel_rfl
theorem F70_0 : FO Tryd.prog 70 0 0 := fun _ _ _ => by kernel_rfl
theorem F70_1 : FO Tryd.prog 70 1 1 := fun _ _ _ => by kernel_rfl
theorem F70_2 : FO Tryd.prog 70 2 2 := fun _ _ _ => by kernel_rfl
theorem F70_3 : FO Tryd.prog 70 3 3 := fun _ _ _ => by kernel_rfl
theorem F78_0 : FO Tryd.prog 78 0 0 := fun _ _ _ => by kernel_rfl
theorem F78_1 : FO Tryd.prog 78 1 1 := fun _ _ _ => by kernel_rfl
theorem E5 : EN Tryd.prog 5 := fun _ _ => by kernel_rfl
theorem E6 : EN Tryd.prog 6 := fun _ _ => by kernel_rfl
theorem E7 : EN Tryd.prog 7 := fun _ _ => by kernel_rfl
theorem E8 : EN Tryd.prog 8 := fun _ _ => by kernel_rfl
theorem E9 : EN Tryd.prog 9 := fun _ _ => by kernel_rfl
theorem E10 : EN Tryd.prog 10 := fun _ _ => by kernel_rfl
theorem E12 : EN Tryd.prog 12 := fun _ _ => by kernel_rfl
theorem E14 : EN Tryd.prog 14 := fun _ _ => by kernel_rfl
theorem E16 : EN Tryd.prog 16 := fun _ _ => by kernel_rfl
theorem E21 : EN Tryd.prog 21 := fun _ _ => by kernel_rfl
theorem E22 : EN Tryd.prog 22 := fun _ _ => by kernel_rfl
theorem E23 : EN Tryd.prog 23 := fun _ _ => by kernel_rfl
theorem E24 : EN Tryd.prog 24 := fun _ _ => by kernel_rfl
theorem E25 : EN Tryd.prog 25 := fun _ _ => by kernel_rfl
theorem E26 : EN Tryd.prog 26 := fun _ _ => by kernel_rfl
theorem E27 : EN Tryd.prog 27 := fun _ _ => by kernel_rfl
theorem E28 : EN Tryd.prog 28 := fun _ _ => by kernel_rfl
theorem E30 : EN Tryd.prog 30 := fun _ _ => by kernel_rfl
theorem E31 : EN Tryd.prog 31 := fun _ _ => by kernel_rfl
theorem E32 : EN Tryd.prog 32 := fun _ _ => by kernel_rfl
theorem E35 : EN Tryd.prog 35 := fun _ _ => by kernel_rfl
theorem E37 : EN Tryd.prog 37 := fun _ _ => by kernel_rfl
theorem E38 : EN Tryd.prog 38 := fun _ _ => by kernel_rfl
theorem E39 : EN Tryd.prog 39 := fun _ _ => by kernel_rfl
theorem E41 : EN Tryd.prog 41 := fun _ _ => by kernel_rfl
theorem E42 : EN Tryd.prog 42 := fun _ _ => by kernel_rfl
theorem E43 : EN Tryd.prog 43 := fun _ _ => by kernel_rfl
theorem E44 : EN Tryd.prog 44 := fun _ _ => by kernel_rfl
theorem E45 : EN Tryd.prog 45 := fun _ _ => by kernel_rfl
theorem E46 : EN Tryd.prog 46 := fun _ _ => by kernel_rfl
theorem E47 : EN Tryd.prog 47 := fun _ _ => by kernel_rfl
theorem E48 : EN Tryd.prog 48 := fun _ _ => by kernel_rfl
theorem E49 : EN Tryd.prog 49 := fun _ _ => by kernel_rfl
theorem E50 : EN Tryd.prog 50 := fun _ _ => by kernel_rfl
theorem E51 : EN Tryd.prog 51 := fun _ _ => by kernel_rfl
end Go.Proofs.Qxb6500863aDoor
