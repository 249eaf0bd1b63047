/-
  Closed facts about this seat's program, by the kernel (written by program off the dump's rows).
-/
import Derived.Test.Qxb6500866aDoorRows
import Derived.Test.Qxb6500866aDoorWk3
namespace Go.Proofs.Qxb6500866aDoor
theorem U3 : UN Tryd.prog 3 (.int .i64) := fun _ => by kernel_rfl
theorem A3 : AG Tryd.prog 3 false := fun _ => by kernel_rfl
theorem S3 : SZ Tryd.prog 3 1 := fun _ => by kernel_rfl
theorem Z3 : ZV Tryd.prog 3 (.int .i64 0) := fun _ => by kernel_rfl
theorem I3 : (Tryd.prog.info? 3).map (fun i => (i.zero, i.size, i.bytes)) = some (some (.int .i64 0), 1, 8) := by kernel_rfl
theorem U5 : UN Tryd.prog 5 (.int .u8) := fun _ => by kernel_rfl
theorem A5 : AG Tryd.prog 5 false := fun _ => by kernel_rfl
theorem S5 : SZ Tryd.prog 5 1 := fun _ => by kernel_rfl
theorem Z5 : ZV Tryd.prog 5 (.int .u8 0) := fun _ => by kernel_rfl
theorem I5 : (Tryd.prog.info? 5).map (fun i => (i.zero, i.size, i.bytes)) = some (some (.int .u8 0), 1, 1) := by kernel_rfl
theorem U9 : UN Tryd.prog 9 .string := fun _ => by kernel_rfl
theorem A9 : AG Tryd.prog 9 false := fun _ => by kernel_rfl
theorem S9 : SZ Tryd.prog 9 1 := fun _ => by kernel_rfl
theorem Z9 : ZV Tryd.prog 9 (.string ByteArray.empty) := fun _ => by kernel_rfl
theorem I9 : (Tryd.prog.info? 9).map (fun i => (i.zero, i.size, i.bytes)) = some (some (.string ByteArray.empty), 1, 16) := by kernel_rfl
theorem U22 : UN Tryd.prog 22 (.slice 29) := fun _ => by kernel_rfl
theorem A22 : AG Tryd.prog 22 false := fun _ => by kernel_rfl
theorem S22 : SZ Tryd.prog 22 1 := fun _ => by kernel_rfl
theorem Z22 : ZV Tryd.prog 22 (.slice none 0 0) := fun _ => by kernel_rfl
theorem I22 : (Tryd.prog.info? 22).map (fun i => (i.zero, i.size, i.bytes)) = some (some (.slice none 0 0), 1, 24) := by kernel_rfl
theorem U25 : UN Tryd.prog 25 (.slice 5) := fun _ => by kernel_rfl
theorem A25 : AG Tryd.prog 25 false := fun _ => by kernel_rfl
theorem S25 : SZ Tryd.prog 25 1 := fun _ => by kernel_rfl
theorem Z25 : ZV Tryd.prog 25 (.slice none 0 0) := fun _ => by kernel_rfl
theorem I25 : (Tryd.prog.info? 25).map (fun i => (i.zero, i.size, i.bytes)) = some (some (.slice none 0 0), 1, 24) := by kernel_rfl
theorem U26 : UN Tryd.prog 26 (.slice 25) := fun _ => by kernel_rfl
theorem A26 : AG Tryd.prog 26 false := fun _ => by kernel_rfl
theorem S26 : SZ Tryd.prog 26 1 := fun _ => by kernel_rfl
theorem Z26 : ZV Tryd.prog 26 (.slice none 0 0) := fun _ => by kernel_rfl
theorem I26 : (Tryd.prog.info? 26).map (fun i => (i.zero, i.size, i.bytes)) = some (some (.slice none 0 0), 1, 24) := by kernel_rfl
theorem U27 : UN Tryd.prog 27 (.int .u64) := fun _ => by kernel_rfl
theorem A27 : AG Tryd.prog 27 false := fun _ => by kernel_rfl
theorem S27 : SZ Tryd.prog 27 1 := fun _ => by kernel_rfl
theorem Z27 : ZV Tryd.prog 27 (.int .u64 0) := fun _ => by kernel_rfl
theorem I27 : (Tryd.prog.info? 27).map (fun i => (i.zero, i.size, i.bytes)) = some (some (.int .u64 0), 1, 8) := by kernel_rfl
theorem A29 : AG Tryd.prog 29 true := fun _ => by kernel_rfl
theorem S29 : SZ Tryd.prog 29 5 := fun _ => by kernel_rfl
theorem Z29 : ZV Tryd.prog 29 (.agg #[.int .u8 0, .slice none 0 0, .slice none 0 0, .int .u8 0, .int .u64 0]) := fun _ => by kernel_rfl
theorem I29 : (Tryd.prog.info? 29).map (fun i => (i.zero, i.size, i.bytes)) = some (some (.agg #[.int .u8 0, .slice none 0 0, .slice none 0 0, .int .u8 0, .int .u64 0]), 5, 72) := by kernel_rfl
theorem U31 : UN Tryd.prog 31 (.array 32 5) := fun _ => by kernel_rfl
theorem A31 : AG Tryd.prog 31 true := fun _ => by kernel_rfl
theorem S31 : SZ Tryd.prog 31 32 := fun _ => by kernel_rfl
theorem Z31 : ZV Tryd.prog 31 (.agg #[.int .u8 0, .int .u8 0, .int .u8 0, .int .u8 0, .int .u8 0, .int .u8 0, .int .u8 0, .int .u8 0, .int .u8 0, .int .u8 0, .int .u8 0, .int .u8 0, .int .u8 0, .int .u8 0, .int .u8 0, .int .u8 0, .int .u8 0, .int .u8 0, .int .u8 0, .int .u8 0, .int .u8 0, .int .u8 0, .int .u8 0, .int .u8 0, .int .u8 0, .int .u8 0, .int .u8 0, .int .u8 0, .int .u8 0, .int .u8 0, .int .u8 0, .int .u8 0]) := fun _ => by kernel_rfl
theorem I31 : (Tryd.prog.info? 31).map (fun i => (i.zero, i.size, i.bytes)) = some (some (.agg #[.int .u8 0, .int .u8 0, .int .u8 0, .int .u8 0, .int .u8 0, .int .u8 0, .int .u8 0, .int .u8 0, .int .u8 0, .int .u8 0, .int .u8 0, .int .u8 0, .int .u8 0, .int .u8 0, .int .u8 0, .int .u8 0, .int .u8 0, .int .u8 0, .int .u8 0, .int .u8 0, .int .u8 0, .int .u8 0, .int .u8 0, .int .u8 0, .int .u8 0, .int .u8 0, .int .u8 0, .int .u8 0, .int .u8 0, .int .u8 0, .int .u8 0, .int .u8 0]), 32, 32) := by kernel_rfl
theorem A34 : AG Tryd.prog 34 false := fun _ => by kernel_rfl
theorem S34 : SZ Tryd.prog 34 1 := fun _ => by kernel_rfl
theorem Z34 : ZV Tryd.prog 34 (.nilIface) := fun _ => by kernel_rfl
theorem I34 : (Tryd.prog.info? 34).map (fun i => (i.zero, i.size, i.bytes)) = some (some (.nilIface), 1, 16) := by kernel_rfl
theorem U39 : UN Tryd.prog 39 (.int .u32) := fun _ => by kernel_rfl
theorem A39 : AG Tryd.prog 39 false := fun _ => by kernel_rfl
theorem S39 : SZ Tryd.prog 39 1 := fun _ => by kernel_rfl
theorem Z39 : ZV Tryd.prog 39 (.int .u32 0) := fun _ => by kernel_rfl
theorem I39 : (Tryd.prog.info? 39).map (fun i => (i.zero, i.size, i.bytes)) = some (some (.int .u32 0), 1, 4) := by kernel_rfl
theorem U40 : UN Tryd.prog 40 (.array 8 39) := fun _ => by kernel_rfl
theorem A40 : AG Tryd.prog 40 true := fun _ => by kernel_rfl
theorem S40 : SZ Tryd.prog 40 8 := fun _ => by kernel_rfl
theorem Z40 : ZV Tryd.prog 40 (.agg #[.int .u32 0, .int .u32 0, .int .u32 0, .int .u32 0, .int .u32 0, .int .u32 0, .int .u32 0, .int .u32 0]) := fun _ => by kernel_rfl
theorem I40 : (Tryd.prog.info? 40).map (fun i => (i.zero, i.size, i.bytes)) = some (some (.agg #[.int .u32 0, .int .u32 0, .int .u32 0, .int .u32 0, .int .u32 0, .int .u32 0, .int .u32 0, .int .u32 0]), 8, 32) := by kernel_rfl
theorem U41 : UN Tryd.prog 41 (.array 64 5) := fun _ => by kernel_rfl
theorem A41 : AG Tryd.prog 41 true := fun _ => by kernel_rfl
theorem S41 : SZ Tryd.prog 41 64 := fun _ => by kernel_rfl
theorem Z41 : ZV Tryd.prog 41 (.agg #[.int .u8 0, .int .u8 0, .int .u8 0, .int .u8 0, .int .u8 0, .int .u8 0, .int .u8 0, .int .u8 0, .int .u8 0, .int .u8 0, .int .u8 0, .int .u8 0, .int .u8 0, .int .u8 0, .int .u8 0, .int .u8 0, .int .u8 0, .int .u8 0, .int .u8 0, .int .u8 0, .int .u8 0, .int .u8 0, .int .u8 0, .int .u8 0, .int .u8 0, .int .u8 0, .int .u8 0, .int .u8 0, .int .u8 0, .int .u8 0, .int .u8 0, .int .u8 0, .int .u8 0, .int .u8 0, .int .u8 0, .int .u8 0, .int .u8 0, .int .u8 0, .int .u8 0, .int .u8 0, .int .u8 0, .int .u8 0, .int .u8 0, .int .u8 0, .int .u8 0, .int .u8 0, .int .u8 0, .int .u8 0, .int .u8 0, .int .u8 0, .int .u8 0, .int .u8 0, .int .u8 0, .int .u8 0, .int .u8 0, .int .u8 0, .int .u8 0, .int .u8 0, .int .u8 0, .int .u8 0, .int .u8 0, .int .u8 0, .int .u8 0, .int .u8 0]) := fun _ => by kernel_rfl
theorem I41 : (Tryd.prog.info? 41).map (fun i => (i.zero, i.size, i.bytes)) = some (some (.agg #[.int .u8 0, .int .u8 0, .int .u8 0, .int .u8 0, .int .u8 0, .int .u8 0, .int .u8 0, .int .u8 0, .int .u8 0, .int .u8 0, .int .u8 0, .int .u8 0, .int .u8 0, .int .u8 0, .int .u8 0, .int .u8 0, .int .u8 0, .int .u8 0, .int .u8 0, .int .u8 0, .int .u8 0, .int .u8 0, .int .u8 0, .int .u8 0, .int .u8 0, .int .u8 0, .int .u8 0, .int .u8 0, .int .u8 0, .int .u8 0, .int .u8 0, .int .u8 0, .int .u8 0, .int .u8 0, .int .u8 0, .int .u8 0, .int .u8 0, .int .u8 0, .int .u8 0, .int .u8 0, .int .u8 0, .int .u8 0, .int .u8 0, .int .u8 0, .int .u8 0, .int .u8 0, .int .u8 0, .int .u8 0, .int .u8 0, .int .u8 0, .int .u8 0, .int .u8 0, .int .u8 0, .int .u8 0, .int .u8 0, .int .u8 0, .int .u8 0, .int .u8 0, .int .u8 0, .int .u8 0, .int .u8 0, .int .u8 0, .int .u8 0, .int .u8 0]), 64, 64) := by kernel_rfl
theorem A43 : AG Tryd.prog 43 true := fun _ => by kernel_rfl
theorem S43 : SZ Tryd.prog 43 74 := fun _ => by kernel_rfl
theorem Z43 : ZV Tryd.prog 43 (.agg #[.int .u32 0, .int .u32 0, .int .u32 0, .int .u32 0, .int .u32 0, .int .u32 0, .int .u32 0, .int .u32 0, .int .u8 0, .int .u8 0, .int .u8 0, .int .u8 0, .int .u8 0, .int .u8 0, .int .u8 0, .int .u8 0, .int .u8 0, .int .u8 0, .int .u8 0, .int .u8 0, .int .u8 0, .int .u8 0, .int .u8 0, .int .u8 0, .int .u8 0, .int .u8 0, .int .u8 0, .int .u8 0, .int .u8 0, .int .u8 0, .int .u8 0, .int .u8 0, .int .u8 0, .int .u8 0, .int .u8 0, .int .u8 0, .int .u8 0, .int .u8 0, .int .u8 0, .int .u8 0, .int .u8 0, .int .u8 0, .int .u8 0, .int .u8 0, .int .u8 0, .int .u8 0, .int .u8 0, .int .u8 0, .int .u8 0, .int .u8 0, .int .u8 0, .int .u8 0, .int .u8 0, .int .u8 0, .int .u8 0, .int .u8 0, .int .u8 0, .int .u8 0, .int .u8 0, .int .u8 0, .int .u8 0, .int .u8 0, .int .u8 0, .int .u8 0, .int .u8 0, .int .u8 0, .int .u8 0, .int .u8 0, .int .u8 0, .int .u8 0, .int .u8 0, .int .u8 0, .int .i64 0, .int .u64 0]) := fun _ => by kernel_rfl
theorem I43 : (Tryd.prog.info? 43).map (fun i => (i.zero, i.size, i.bytes)) = some (some (.agg #[.int .u32 0, .int .u32 0, .int .u32 0, .int .u32 0, .int .u32 0, .int .u32 0, .int .u32 0, .int .u32 0, .int .u8 0, .int .u8 0, .int .u8 0, .int .u8 0, .int .u8 0, .int .u8 0, .int .u8 0, .int .u8 0, .int .u8 0, .int .u8 0, .int .u8 0, .int .u8 0, .int .u8 0, .int .u8 0, .int .u8 0, .int .u8 0, .int .u8 0, .int .u8 0, .int .u8 0, .int .u8 0, .int .u8 0, .int .u8 0, .int .u8 0, .int .u8 0, .int .u8 0, .int .u8 0, .int .u8 0, .int .u8 0, .int .u8 0, .int .u8 0, .int .u8 0, .int .u8 0, .int .u8 0, .int .u8 0, .int .u8 0, .int .u8 0, .int .u8 0, .int .u8 0, .int .u8 0, .int .u8 0, .int .u8 0, .int .u8 0, .int .u8 0, .int .u8 0, .int .u8 0, .int .u8 0, .int .u8 0, .int .u8 0, .int .u8 0, .int .u8 0, .int .u8 0, .int .u8 0, .int .u8 0, .int .u8 0, .int .u8 0, .int .u8 0, .int .u8 0, .int .u8 0, .int .u8 0, .int .u8 0, .int .u8 0, .int .u8 0, .int .u8 0, .int .u8 0, .int .i64 0, .int .u64 0]), 74, 112) := by kernel_rfl
theorem U47 : UN Tryd.prog 47 (.int .u8) := fun _ => by kernel_rfl
theorem A47 : AG Tryd.prog 47 false := fun _ => by kernel_rfl
theorem S47 : SZ Tryd.prog 47 1 := fun _ => by kernel_rfl
theorem Z47 : ZV Tryd.prog 47 (.int .u8 0) := fun _ => by kernel_rfl
theorem I47 : (Tryd.prog.info? 47).map (fun i => (i.zero, i.size, i.bytes)) = some (some (.int .u8 0), 1, 1) := by kernel_rfl
theorem U50 : UN Tryd.prog 50 (.int .u64) := fun _ => by kernel_rfl
theorem A50 : AG Tryd.prog 50 false := fun _ => by kernel_rfl
theorem S50 : SZ Tryd.prog 50 1 := fun _ => by kernel_rfl
theorem Z50 : ZV Tryd.prog 50 (.int .u64 0) := fun _ => by kernel_rfl
theorem I50 : (Tryd.prog.info? 50).map (fun i => (i.zero, i.size, i.bytes)) = some (some (.int .u64 0), 1, 8) := by kernel_rfl
theorem A53 : AG Tryd.prog 53 false := fun _ => by kernel_rfl
theorem S53 : SZ Tryd.prog 53 1 := fun _ => by kernel_rfl
theorem Z53 : ZV Tryd.prog 53 (.pointer none) := fun _ => by kernel_rfl
theorem I53 : (Tryd.prog.info? 53).map (fun i => (i.zero, i.size, i.bytes)) = some (some (.pointer none), 1, 8) := by kernel_rfl
theorem U54 : UN Tryd.prog 54 (.array 128 5) := fun _ => by kernel_rfl
theorem A54 : AG Tryd.prog 54 true := fun _ => by kernel_rfl
theorem S54 : SZ Tryd.prog 54 128 := fun _ => by kernel_rfl
theorem Z54 : ZV Tryd.prog 54 (.agg #[.int .u8 0, .int .u8 0, .int .u8 0, .int .u8 0, .int .u8 0, .int .u8 0, .int .u8 0, .int .u8 0, .int .u8 0, .int .u8 0, .int .u8 0, .int .u8 0, .int .u8 0, .int .u8 0, .int .u8 0, .int .u8 0, .int .u8 0, .int .u8 0, .int .u8 0, .int .u8 0, .int .u8 0, .int .u8 0, .int .u8 0, .int .u8 0, .int .u8 0, .int .u8 0, .int .u8 0, .int .u8 0, .int .u8 0, .int .u8 0, .int .u8 0, .int .u8 0, .int .u8 0, .int .u8 0, .int .u8 0, .int .u8 0, .int .u8 0, .int .u8 0, .int .u8 0, .int .u8 0, .int .u8 0, .int .u8 0, .int .u8 0, .int .u8 0, .int .u8 0, .int .u8 0, .int .u8 0, .int .u8 0, .int .u8 0, .int .u8 0, .int .u8 0, .int .u8 0, .int .u8 0, .int .u8 0, .int .u8 0, .int .u8 0, .int .u8 0, .int .u8 0, .int .u8 0, .int .u8 0, .int .u8 0, .int .u8 0, .int .u8 0, .int .u8 0, .int .u8 0, .int .u8 0, .int .u8 0, .int .u8 0, .int .u8 0, .int .u8 0, .int .u8 0, .int .u8 0, .int .u8 0, .int .u8 0, .int .u8 0, .int .u8 0, .int .u8 0, .int .u8 0, .int .u8 0, .int .u8 0, .int .u8 0, .int .u8 0, .int .u8 0, .int .u8 0, .int .u8 0, .int .u8 0, .int .u8 0, .int .u8 0, .int .u8 0, .int .u8 0, .int .u8 0, .int .u8 0, .int .u8 0, .int .u8 0, .int .u8 0, .int .u8 0, .int .u8 0, .int .u8 0, .int .u8 0, .int .u8 0, .int .u8 0, .int .u8 0, .int .u8 0, .int .u8 0, .int .u8 0, .int .u8 0, .int .u8 0, .int .u8 0, .int .u8 0, .int .u8 0, .int .u8 0, .int .u8 0, .int .u8 0, .int .u8 0, .int .u8 0, .int .u8 0, .int .u8 0, .int .u8 0, .int .u8 0, .int .u8 0, .int .u8 0, .int .u8 0, .int .u8 0, .int .u8 0, .int .u8 0, .int .u8 0, .int .u8 0, .int .u8 0]) := fun _ => by kernel_rfl
theorem I54 : (Tryd.prog.info? 54).map (fun i => (i.zero, i.size, i.bytes)) = some (some (.agg #[.int .u8 0, .int .u8 0, .int .u8 0, .int .u8 0, .int .u8 0, .int .u8 0, .int .u8 0, .int .u8 0, .int .u8 0, .int .u8 0, .int .u8 0, .int .u8 0, .int .u8 0, .int .u8 0, .int .u8 0, .int .u8 0, .int .u8 0, .int .u8 0, .int .u8 0, .int .u8 0, .int .u8 0, .int .u8 0, .int .u8 0, .int .u8 0, .int .u8 0, .int .u8 0, .int .u8 0, .int .u8 0, .int .u8 0, .int .u8 0, .int .u8 0, .int .u8 0, .int .u8 0, .int .u8 0, .int .u8 0, .int .u8 0, .int .u8 0, .int .u8 0, .int .u8 0, .int .u8 0, .int .u8 0, .int .u8 0, .int .u8 0, .int .u8 0, .int .u8 0, .int .u8 0, .int .u8 0, .int .u8 0, .int .u8 0, .int .u8 0, .int .u8 0, .int .u8 0, .int .u8 0, .int .u8 0, .int .u8 0, .int .u8 0, .int .u8 0, .int .u8 0, .int .u8 0, .int .u8 0, .int .u8 0, .int .u8 0, .int .u8 0, .int .u8 0, .int .u8 0, .int .u8 0, .int .u8 0, .int .u8 0, .int .u8 0, .int .u8 0, .int .u8 0, .int .u8 0, .int .u8 0, .int .u8 0, .int .u8 0, .int .u8 0, .int .u8 0, .int .u8 0, .int .u8 0, .int .u8 0, .int .u8 0, .int .u8 0, .int .u8 0, .int .u8 0, .int .u8 0, .int .u8 0, .int .u8 0, .int .u8 0, .int .u8 0, .int .u8 0, .int .u8 0, .int .u8 0, .int .u8 0, .int .u8 0, .int .u8 0, .int .u8 0, .int .u8 0, .int .u8 0, .int .u8 0, .int .u8 0, .int .u8 0, .int .u8 0, .int .u8 0, .int .u8 0, .int .u8 0, .int .u8 0, .int .u8 0, .int .u8 0, .int .u8 0, .int .u8 0, .int .u8 0, .int .u8 0, .int .u8 0, .int .u8 0, .int .u8 0, .int .u8 0, .int .u8 0, .int .u8 0, .int .u8 0, .int .u8 0, .int .u8 0, .int .u8 0, .int .u8 0, .int .u8 0, .int .u8 0, .int .u8 0, .int .u8 0, .int .u8 0]), 128, 128) := by kernel_rfl
theorem U57 : UN Tryd.prog 57 (.array 16 39) := fun _ => by kernel_rfl
theorem A57 : AG Tryd.prog 57 true := fun _ => by kernel_rfl
theorem S57 : SZ Tryd.prog 57 16 := fun _ => by kernel_rfl
theorem Z57 : ZV Tryd.prog 57 (.agg #[.int .u32 0, .int .u32 0, .int .u32 0, .int .u32 0, .int .u32 0, .int .u32 0, .int .u32 0, .int .u32 0, .int .u32 0, .int .u32 0, .int .u32 0, .int .u32 0, .int .u32 0, .int .u32 0, .int .u32 0, .int .u32 0]) := fun _ => by kernel_rfl
theorem I57 : (Tryd.prog.info? 57).map (fun i => (i.zero, i.size, i.bytes)) = some (some (.agg #[.int .u32 0, .int .u32 0, .int .u32 0, .int .u32 0, .int .u32 0, .int .u32 0, .int .u32 0, .int .u32 0, .int .u32 0, .int .u32 0, .int .u32 0, .int .u32 0, .int .u32 0, .int .u32 0, .int .u32 0, .int .u32 0]), 16, 64) := by kernel_rfl
theorem U59 : UN Tryd.prog 59 (.array 64 39) := fun _ => by kernel_rfl
theorem A59 : AG Tryd.prog 59 true := fun _ => by kernel_rfl
theorem S59 : SZ Tryd.prog 59 64 := fun _ => by kernel_rfl
theorem Z59 : ZV Tryd.prog 59 (.agg #[.int .u32 0, .int .u32 0, .int .u32 0, .int .u32 0, .int .u32 0, .int .u32 0, .int .u32 0, .int .u32 0, .int .u32 0, .int .u32 0, .int .u32 0, .int .u32 0, .int .u32 0, .int .u32 0, .int .u32 0, .int .u32 0, .int .u32 0, .int .u32 0, .int .u32 0, .int .u32 0, .int .u32 0, .int .u32 0, .int .u32 0, .int .u32 0, .int .u32 0, .int .u32 0, .int .u32 0, .int .u32 0, .int .u32 0, .int .u32 0, .int .u32 0, .int .u32 0, .int .u32 0, .int .u32 0, .int .u32 0, .int .u32 0, .int .u32 0, .int .u32 0, .int .u32 0, .int .u32 0, .int .u32 0, .int .u32 0, .int .u32 0, .int .u32 0, .int .u32 0, .int .u32 0, .int .u32 0, .int .u32 0, .int .u32 0, .int .u32 0, .int .u32 0, .int .u32 0, .int .u32 0, .int .u32 0, .int .u32 0, .int .u32 0, .int .u32 0, .int .u32 0, .int .u32 0, .int .u32 0, .int .u32 0, .int .u32 0, .int .u32 0, .int .u32 0]) := fun _ => by kernel_rfl
theorem I59 : (Tryd.prog.info? 59).map (fun i => (i.zero, i.size, i.bytes)) = some (some (.agg #[.int .u32 0, .int .u32 0, .int .u32 0, .int .u32 0, .int .u32 0, .int .u32 0, .int .u32 0, .int .u32 0, .int .u32 0, .int .u32 0, .int .u32 0, .int .u32 0, .int .u32 0, .int .u32 0, .int .u32 0, .int .u32 0, .int .u32 0, .int .u32 0, .int .u32 0, .int .u32 0, .int .u32 0, .int .u32 0, .int .u32 0, .int .u32 0, .int .u32 0, .int .u32 0, .int .u32 0, .int .u32 0, .int .u32 0, .int .u32 0, .int .u32 0, .int .u32 0, .int .u32 0, .int .u32 0, .int .u32 0, .int .u32 0, .int .u32 0, .int .u32 0, .int .u32 0, .int .u32 0, .int .u32 0, .int .u32 0, .int .u32 0, .int .u32 0, .int .u32 0, .int .u32 0, .int .u32 0, .int .u32 0, .int .u32 0, .int .u32 0, .int .u32 0, .int .u32 0, .int .u32 0, .int .u32 0, .int .u32 0, .int .u32 0, .int .u32 0, .int .u32 0, .int .u32 0, .int .u32 0, .int .u32 0, .int .u32 0, .int .u32 0, .int .u32 0]), 64, 256) := by kernel_rfl
theorem F29_1 : FO Tryd.prog 29 1 1 := fun _ _ _ => by kernel_rfl
theorem F29_2 : FO Tryd.prog 29 2 2 := fun _ _ _ => by kernel_rfl
theorem F43_0 : FO Tryd.prog 43 0 0 := fun _ _ _ => by kernel_rfl
theorem F43_1 : FO Tryd.prog 43 1 8 := fun _ _ _ => by kernel_rfl
theorem F43_2 : FO Tryd.prog 43 2 72 := fun _ _ _ => by kernel_rfl
theorem F43_3 : FO Tryd.prog 43 3 73 := fun _ _ _ => by kernel_rfl
theorem E4 : EN Tryd.prog 4 := fun _ _ => by kernel_rfl
theorem E5 : EN Tryd.prog 5 := fun _ _ => by kernel_rfl
theorem E6 : EN Tryd.prog 6 := fun _ _ => by kernel_rfl
theorem E7 : EN Tryd.prog 7 := fun _ _ => by kernel_rfl
theorem E8 : EN Tryd.prog 8 := fun _ _ => by kernel_rfl
theorem E9 : EN Tryd.prog 9 := fun _ _ => by kernel_rfl
theorem E10 : EN Tryd.prog 10 := fun _ _ => by kernel_rfl
theorem E11 : EN Tryd.prog 11 := fun _ _ => by kernel_rfl
theorem E12 : EN Tryd.prog 12 := fun _ _ => by kernel_rfl
theorem E13 : EN Tryd.prog 13 := fun _ _ => by kernel_rfl
theorem E14 : EN Tryd.prog 14 := fun _ _ => by kernel_rfl
theorem E15 : EN Tryd.prog 15 := fun _ _ => by kernel_rfl
theorem E16 : EN Tryd.prog 16 := fun _ _ => by kernel_rfl
end Go.Proofs.Qxb6500866aDoor
