/-
  Closed facts about this seat's program, by the kernel (written by program off the dump's rows).
-/
import Derived.Test.Qxb6500865aRows
import Derived.Test.Qxb6500865aWk3
namespace Go.Proofs.Qxb6500865a
theorem U3 : UN Try.prog 3 (.int .i64) := fun _ => by kernel_rfl
theorem A3 : AG Try.prog 3 false := fun _ => by kernel_rfl
theorem S3 : SZ Try.prog 3 1 := fun _ => by kernel_rfl
theorem Z3 : ZV Try.prog 3 (.int .i64 0) := fun _ => by kernel_rfl
theorem I3 : (Try.prog.info? 3).map (fun i => (i.zero, i.size, i.bytes)) = some (some (.int .i64 0), 1, 8) := by kernel_rfl
theorem U4 : UN Try.prog 4 .bool := fun _ => by kernel_rfl
theorem A4 : AG Try.prog 4 false := fun _ => by kernel_rfl
theorem S4 : SZ Try.prog 4 1 := fun _ => by kernel_rfl
theorem Z4 : ZV Try.prog 4 (.bool false) := fun _ => by kernel_rfl
theorem I4 : (Try.prog.info? 4).map (fun i => (i.zero, i.size, i.bytes)) = some (some (.bool false), 1, 1) := by kernel_rfl
theorem U5 : UN Try.prog 5 (.int .u8) := fun _ => by kernel_rfl
theorem A5 : AG Try.prog 5 false := fun _ => by kernel_rfl
theorem S5 : SZ Try.prog 5 1 := fun _ => by kernel_rfl
theorem Z5 : ZV Try.prog 5 (.int .u8 0) := fun _ => by kernel_rfl
theorem I5 : (Try.prog.info? 5).map (fun i => (i.zero, i.size, i.bytes)) = some (some (.int .u8 0), 1, 1) := by kernel_rfl
theorem U9 : UN Try.prog 9 .string := fun _ => by kernel_rfl
theorem A9 : AG Try.prog 9 false := fun _ => by kernel_rfl
theorem S9 : SZ Try.prog 9 1 := fun _ => by kernel_rfl
theorem Z9 : ZV Try.prog 9 (.string ByteArray.empty) := fun _ => by kernel_rfl
theorem I9 : (Try.prog.info? 9).map (fun i => (i.zero, i.size, i.bytes)) = some (some (.string ByteArray.empty), 1, 16) := by kernel_rfl
theorem U22 : UN Try.prog 22 (.slice 43) := fun _ => by kernel_rfl
theorem A22 : AG Try.prog 22 false := fun _ => by kernel_rfl
theorem S22 : SZ Try.prog 22 1 := fun _ => by kernel_rfl
theorem Z22 : ZV Try.prog 22 (.slice none 0 0) := fun _ => by kernel_rfl
theorem I22 : (Try.prog.info? 22).map (fun i => (i.zero, i.size, i.bytes)) = some (some (.slice none 0 0), 1, 24) := by kernel_rfl
theorem U25 : UN Try.prog 25 (.int .u8) := fun _ => by kernel_rfl
theorem A25 : AG Try.prog 25 false := fun _ => by kernel_rfl
theorem S25 : SZ Try.prog 25 1 := fun _ => by kernel_rfl
theorem Z25 : ZV Try.prog 25 (.int .u8 0) := fun _ => by kernel_rfl
theorem I25 : (Try.prog.info? 25).map (fun i => (i.zero, i.size, i.bytes)) = some (some (.int .u8 0), 1, 1) := by kernel_rfl
theorem U26 : UN Try.prog 26 (.slice 62) := fun _ => by kernel_rfl
theorem A26 : AG Try.prog 26 false := fun _ => by kernel_rfl
theorem S26 : SZ Try.prog 26 1 := fun _ => by kernel_rfl
theorem Z26 : ZV Try.prog 26 (.slice none 0 0) := fun _ => by kernel_rfl
theorem I26 : (Try.prog.info? 26).map (fun i => (i.zero, i.size, i.bytes)) = some (some (.slice none 0 0), 1, 24) := by kernel_rfl
theorem A28 : AG Try.prog 28 true := fun _ => by kernel_rfl
theorem S28 : SZ Try.prog 28 1 := fun _ => by kernel_rfl
theorem Z28 : ZV Try.prog 28 (.agg #[.slice none 0 0]) := fun _ => by kernel_rfl
theorem I28 : (Try.prog.info? 28).map (fun i => (i.zero, i.size, i.bytes)) = some (some (.agg #[.slice none 0 0]), 1, 24) := by kernel_rfl
theorem U29 : UN Try.prog 29 (.int .u64) := fun _ => by kernel_rfl
theorem A29 : AG Try.prog 29 false := fun _ => by kernel_rfl
theorem S29 : SZ Try.prog 29 1 := fun _ => by kernel_rfl
theorem Z29 : ZV Try.prog 29 (.int .u64 0) := fun _ => by kernel_rfl
theorem I29 : (Try.prog.info? 29).map (fun i => (i.zero, i.size, i.bytes)) = some (some (.int .u64 0), 1, 8) := by kernel_rfl
theorem U32 : UN Try.prog 32 (.int .u8) := fun _ => by kernel_rfl
theorem A32 : AG Try.prog 32 false := fun _ => by kernel_rfl
theorem S32 : SZ Try.prog 32 1 := fun _ => by kernel_rfl
theorem Z32 : ZV Try.prog 32 (.int .u8 0) := fun _ => by kernel_rfl
theorem I32 : (Try.prog.info? 32).map (fun i => (i.zero, i.size, i.bytes)) = some (some (.int .u8 0), 1, 1) := by kernel_rfl
theorem U33 : UN Try.prog 33 (.int .u8) := fun _ => by kernel_rfl
theorem A33 : AG Try.prog 33 false := fun _ => by kernel_rfl
theorem S33 : SZ Try.prog 33 1 := fun _ => by kernel_rfl
theorem Z33 : ZV Try.prog 33 (.int .u8 0) := fun _ => by kernel_rfl
theorem I33 : (Try.prog.info? 33).map (fun i => (i.zero, i.size, i.bytes)) = some (some (.int .u8 0), 1, 1) := by kernel_rfl
theorem U34 : UN Try.prog 34 (.int .u8) := fun _ => by kernel_rfl
theorem A34 : AG Try.prog 34 false := fun _ => by kernel_rfl
theorem S34 : SZ Try.prog 34 1 := fun _ => by kernel_rfl
theorem Z34 : ZV Try.prog 34 (.int .u8 0) := fun _ => by kernel_rfl
theorem I34 : (Try.prog.info? 34).map (fun i => (i.zero, i.size, i.bytes)) = some (some (.int .u8 0), 1, 1) := by kernel_rfl
theorem U35 : UN Try.prog 35 (.int .u8) := fun _ => by kernel_rfl
theorem A35 : AG Try.prog 35 false := fun _ => by kernel_rfl
theorem S35 : SZ Try.prog 35 1 := fun _ => by kernel_rfl
theorem Z35 : ZV Try.prog 35 (.int .u8 0) := fun _ => by kernel_rfl
theorem I35 : (Try.prog.info? 35).map (fun i => (i.zero, i.size, i.bytes)) = some (some (.int .u8 0), 1, 1) := by kernel_rfl
theorem A37 : AG Try.prog 37 true := fun _ => by kernel_rfl
theorem S37 : SZ Try.prog 37 9 := fun _ => by kernel_rfl
theorem Z37 : ZV Try.prog 37 (.agg #[.int .u8 0, .int .u8 0, .int .u8 0, .int .u8 0, .int .u8 0, .int .u64 0, .int .u8 0, .int .u64 0, .string ByteArray.empty]) := fun _ => by kernel_rfl
theorem I37 : (Try.prog.info? 37).map (fun i => (i.zero, i.size, i.bytes)) = some (some (.agg #[.int .u8 0, .int .u8 0, .int .u8 0, .int .u8 0, .int .u8 0, .int .u64 0, .int .u8 0, .int .u64 0, .string ByteArray.empty]), 9, 48) := by kernel_rfl
theorem A39 : AG Try.prog 39 true := fun _ => by kernel_rfl
theorem S39 : SZ Try.prog 39 19 := fun _ => by kernel_rfl
theorem Z39 : ZV Try.prog 39 (.agg #[.int .u8 0, .int .u8 0, .int .u8 0, .int .u64 0, .int .u64 0, .int .u8 0, .int .u8 0, .int .u8 0, .int .u64 0, .string ByteArray.empty, .int .u8 0, .int .u8 0, .int .u8 0, .int .u8 0, .int .u8 0, .int .u64 0, .int .u8 0, .int .u64 0, .string ByteArray.empty]) := fun _ => by kernel_rfl
theorem I39 : (Try.prog.info? 39).map (fun i => (i.zero, i.size, i.bytes)) = some (some (.agg #[.int .u8 0, .int .u8 0, .int .u8 0, .int .u64 0, .int .u64 0, .int .u8 0, .int .u8 0, .int .u8 0, .int .u64 0, .string ByteArray.empty, .int .u8 0, .int .u8 0, .int .u8 0, .int .u8 0, .int .u8 0, .int .u64 0, .int .u8 0, .int .u64 0, .string ByteArray.empty]), 19, 104) := by kernel_rfl
theorem A43 : AG Try.prog 43 true := fun _ => by kernel_rfl
theorem S43 : SZ Try.prog 43 36 := fun _ => by kernel_rfl
theorem Z43 : ZV Try.prog 43 (.agg #[.int .u8 0, .int .u8 0, .slice none 0 0, .int .u64 0, .int .u64 0, .int .u8 0, .int .u8 0, .int .u8 0, .int .u64 0, .int .u64 0, .int .u8 0, .int .u8 0, .int .u8 0, .int .u64 0, .string ByteArray.empty, .int .u8 0, .int .u8 0, .int .u8 0, .int .u8 0, .int .u8 0, .int .u64 0, .int .u8 0, .int .u64 0, .string ByteArray.empty, .int .u8 0, .int .u8 0, .int .u8 0, .int .u8 0, .int .u8 0, .int .u64 0, .int .u8 0, .int .u64 0, .string ByteArray.empty, .int .u8 0, .int .u8 0, .int .u64 0]) := fun _ => by kernel_rfl
theorem I43 : (Try.prog.info? 43).map (fun i => (i.zero, i.size, i.bytes)) = some (some (.agg #[.int .u8 0, .int .u8 0, .slice none 0 0, .int .u64 0, .int .u64 0, .int .u8 0, .int .u8 0, .int .u8 0, .int .u64 0, .int .u64 0, .int .u8 0, .int .u8 0, .int .u8 0, .int .u64 0, .string ByteArray.empty, .int .u8 0, .int .u8 0, .int .u8 0, .int .u8 0, .int .u8 0, .int .u64 0, .int .u8 0, .int .u64 0, .string ByteArray.empty, .int .u8 0, .int .u8 0, .int .u8 0, .int .u8 0, .int .u8 0, .int .u64 0, .int .u8 0, .int .u64 0, .string ByteArray.empty, .int .u8 0, .int .u8 0, .int .u64 0]), 36, 216) := by kernel_rfl
theorem U45 : UN Try.prog 45 (.array 8 5) := fun _ => by kernel_rfl
theorem A45 : AG Try.prog 45 true := fun _ => by kernel_rfl
theorem S45 : SZ Try.prog 45 8 := fun _ => by kernel_rfl
theorem Z45 : ZV Try.prog 45 (.agg #[.int .u8 0, .int .u8 0, .int .u8 0, .int .u8 0, .int .u8 0, .int .u8 0, .int .u8 0, .int .u8 0]) := fun _ => by kernel_rfl
theorem I45 : (Try.prog.info? 45).map (fun i => (i.zero, i.size, i.bytes)) = some (some (.agg #[.int .u8 0, .int .u8 0, .int .u8 0, .int .u8 0, .int .u8 0, .int .u8 0, .int .u8 0, .int .u8 0]), 8, 8) := by kernel_rfl
theorem A47 : AG Try.prog 47 true := fun _ => by kernel_rfl
theorem S47 : SZ Try.prog 47 9 := fun _ => by kernel_rfl
theorem Z47 : ZV Try.prog 47 (.agg #[.int .i64 0, .int .u8 0, .int .u8 0, .int .u8 0, .int .u8 0, .int .u8 0, .int .u8 0, .int .u8 0, .int .u8 0]) := fun _ => by kernel_rfl
theorem I47 : (Try.prog.info? 47).map (fun i => (i.zero, i.size, i.bytes)) = some (some (.agg #[.int .i64 0, .int .u8 0, .int .u8 0, .int .u8 0, .int .u8 0, .int .u8 0, .int .u8 0, .int .u8 0, .int .u8 0]), 9, 16) := by kernel_rfl
theorem U49 : UN Try.prog 49 (.slice 3) := fun _ => by kernel_rfl
theorem A49 : AG Try.prog 49 false := fun _ => by kernel_rfl
theorem S49 : SZ Try.prog 49 1 := fun _ => by kernel_rfl
theorem Z49 : ZV Try.prog 49 (.slice none 0 0) := fun _ => by kernel_rfl
theorem I49 : (Try.prog.info? 49).map (fun i => (i.zero, i.size, i.bytes)) = some (some (.slice none 0 0), 1, 24) := by kernel_rfl
theorem U59 : UN Try.prog 59 (.int .u8) := fun _ => by kernel_rfl
theorem A59 : AG Try.prog 59 false := fun _ => by kernel_rfl
theorem S59 : SZ Try.prog 59 1 := fun _ => by kernel_rfl
theorem Z59 : ZV Try.prog 59 (.int .u8 0) := fun _ => by kernel_rfl
theorem I59 : (Try.prog.info? 59).map (fun i => (i.zero, i.size, i.bytes)) = some (some (.int .u8 0), 1, 1) := by kernel_rfl
theorem U60 : UN Try.prog 60 (.slice 59) := fun _ => by kernel_rfl
theorem A60 : AG Try.prog 60 false := fun _ => by kernel_rfl
theorem S60 : SZ Try.prog 60 1 := fun _ => by kernel_rfl
theorem Z60 : ZV Try.prog 60 (.slice none 0 0) := fun _ => by kernel_rfl
theorem I60 : (Try.prog.info? 60).map (fun i => (i.zero, i.size, i.bytes)) = some (some (.slice none 0 0), 1, 24) := by kernel_rfl
theorem A62 : AG Try.prog 62 true := fun _ => by kernel_rfl
theorem S62 : SZ Try.prog 62 22 := fun _ => by kernel_rfl
theorem Z62 : ZV Try.prog 62 (.agg #[.int .u8 0, .int .u8 0, .int .u8 0, .int .u8 0, .int .u8 0, .int .u64 0, .int .u64 0, .int .u8 0, .int .u8 0, .int .u8 0, .int .u64 0, .string ByteArray.empty, .int .u8 0, .int .u8 0, .int .u8 0, .int .u8 0, .int .u8 0, .int .u64 0, .int .u8 0, .int .u64 0, .string ByteArray.empty, .slice none 0 0]) := fun _ => by kernel_rfl
theorem I62 : (Try.prog.info? 62).map (fun i => (i.zero, i.size, i.bytes)) = some (some (.agg #[.int .u8 0, .int .u8 0, .int .u8 0, .int .u8 0, .int .u8 0, .int .u64 0, .int .u64 0, .int .u8 0, .int .u8 0, .int .u8 0, .int .u64 0, .string ByteArray.empty, .int .u8 0, .int .u8 0, .int .u8 0, .int .u8 0, .int .u8 0, .int .u64 0, .int .u8 0, .int .u64 0, .string ByteArray.empty, .slice none 0 0]), 22, 136) := by kernel_rfl
theorem U65 : UN Try.prog 65 (.int .u8) := fun _ => by kernel_rfl
theorem A65 : AG Try.prog 65 false := fun _ => by kernel_rfl
theorem S65 : SZ Try.prog 65 1 := fun _ => by kernel_rfl
theorem Z65 : ZV Try.prog 65 (.int .u8 0) := fun _ => by kernel_rfl
theorem I65 : (Try.prog.info? 65).map (fun i => (i.zero, i.size, i.bytes)) = some (some (.int .u8 0), 1, 1) := by kernel_rfl
theorem U72 : UN Try.prog 72 (.int .u64) := fun _ => by kernel_rfl
theorem A72 : AG Try.prog 72 false := fun _ => by kernel_rfl
theorem S72 : SZ Try.prog 72 1 := fun _ => by kernel_rfl
theorem Z72 : ZV Try.prog 72 (.int .u64 0) := fun _ => by kernel_rfl
theorem I72 : (Try.prog.info? 72).map (fun i => (i.zero, i.size, i.bytes)) = some (some (.int .u64 0), 1, 8) := by kernel_rfl
theorem A73 : AG Try.prog 73 false := fun _ => by kernel_rfl
theorem S73 : SZ Try.prog 73 1 := fun _ => by kernel_rfl
theorem Z73 : ZV Try.prog 73 (.pointer none) := fun _ => by kernel_rfl
theorem I73 : (Try.prog.info? 73).map (fun i => (i.zero, i.size, i.bytes)) = some (some (.pointer none), 1, 8) := by kernel_rfl
theorem A77 : AG Try.prog 77 false := fun _ => by kernel_rfl
theorem S77 : SZ Try.prog 77 1 := fun _ => by kernel_rfl
theorem Z77 : ZV Try.prog 77 (.nilFunc) := fun _ => by kernel_rfl
theorem I77 : (Try.prog.info? 77).map (fun i => (i.zero, i.size, i.bytes)) = some (some (.nilFunc), 1, 8) := by kernel_rfl
theorem U79 : UN Try.prog 79 (.array 8 3) := fun _ => by kernel_rfl
theorem A79 : AG Try.prog 79 true := fun _ => by kernel_rfl
theorem S79 : SZ Try.prog 79 8 := fun _ => by kernel_rfl
theorem Z79 : ZV Try.prog 79 (.agg #[.int .i64 0, .int .i64 0, .int .i64 0, .int .i64 0, .int .i64 0, .int .i64 0, .int .i64 0, .int .i64 0]) := fun _ => by kernel_rfl
theorem I79 : (Try.prog.info? 79).map (fun i => (i.zero, i.size, i.bytes)) = some (some (.agg #[.int .i64 0, .int .i64 0, .int .i64 0, .int .i64 0, .int .i64 0, .int .i64 0, .int .i64 0, .int .i64 0]), 8, 64) := by kernel_rfl
theorem A81 : AG Try.prog 81 false := fun _ => by kernel_rfl
theorem S81 : SZ Try.prog 81 1 := fun _ => by kernel_rfl
theorem Z81 : ZV Try.prog 81 (.pointer none) := fun _ => by kernel_rfl
theorem I81 : (Try.prog.info? 81).map (fun i => (i.zero, i.size, i.bytes)) = some (some (.pointer none), 1, 8) := by kernel_rfl
theorem A83 : AG Try.prog 83 false := fun _ => by kernel_rfl
theorem S83 : SZ Try.prog 83 1 := fun _ => by kernel_rfl
theorem Z83 : ZV Try.prog 83 (.nilFunc) := fun _ => by kernel_rfl
theorem I83 : (Try.prog.info? 83).map (fun i => (i.zero, i.size, i.bytes)) = some (some (.nilFunc), 1, 8) := by kernel_rfl
theorem U84 : UN Try.prog 84 (.array 3 83) := fun _ => by kernel_rfl
theorem A84 : AG Try.prog 84 true := fun _ => by kernel_rfl
theorem S84 : SZ Try.prog 84 3 := fun _ => by kernel_rfl
theorem Z84 : ZV Try.prog 84 (.agg #[.nilFunc, .nilFunc, .nilFunc]) := fun _ => by kernel_rfl
theorem I84 : (Try.prog.info? 84).map (fun i => (i.zero, i.size, i.bytes)) = some (some (.agg #[.nilFunc, .nilFunc, .nilFunc]), 3, 24) := by kernel_rfl
theorem F28_0 : FO Try.prog 28 0 0 := fun _ _ _ => by kernel_rfl
theorem F37_0 : FO Try.prog 37 0 0 := fun _ _ _ => by kernel_rfl
theorem F37_1 : FO Try.prog 37 1 1 := fun _ _ _ => by kernel_rfl
theorem F37_5 : FO Try.prog 37 5 5 := fun _ _ _ => by kernel_rfl
theorem F37_6 : FO Try.prog 37 6 6 := fun _ _ _ => by kernel_rfl
theorem F37_7 : FO Try.prog 37 7 7 := fun _ _ _ => by kernel_rfl
theorem F37_8 : FO Try.prog 37 8 8 := fun _ _ _ => by kernel_rfl
theorem F39_0 : FO Try.prog 39 0 0 := fun _ _ _ => by kernel_rfl
theorem F39_1 : FO Try.prog 39 1 1 := fun _ _ _ => by kernel_rfl
theorem F39_2 : FO Try.prog 39 2 2 := fun _ _ _ => by kernel_rfl
theorem F39_3 : FO Try.prog 39 3 3 := fun _ _ _ => by kernel_rfl
theorem F39_5 : FO Try.prog 39 5 5 := fun _ _ _ => by kernel_rfl
theorem F39_6 : FO Try.prog 39 6 6 := fun _ _ _ => by kernel_rfl
theorem F39_7 : FO Try.prog 39 7 7 := fun _ _ _ => by kernel_rfl
theorem F39_8 : FO Try.prog 39 8 8 := fun _ _ _ => by kernel_rfl
theorem F39_9 : FO Try.prog 39 9 9 := fun _ _ _ => by kernel_rfl
theorem F39_10 : FO Try.prog 39 10 10 := fun _ _ _ => by kernel_rfl
theorem F43_2 : FO Try.prog 43 2 2 := fun _ _ _ => by kernel_rfl
theorem F43_4 : FO Try.prog 43 4 5 := fun _ _ _ => by kernel_rfl
theorem F43_5 : FO Try.prog 43 5 24 := fun _ _ _ => by kernel_rfl
theorem F47_0 : FO Try.prog 47 0 0 := fun _ _ _ => by kernel_rfl
theorem F47_1 : FO Try.prog 47 1 1 := fun _ _ _ => by kernel_rfl
theorem F62_0 : FO Try.prog 62 0 0 := fun _ _ _ => by kernel_rfl
theorem F62_1 : FO Try.prog 62 1 1 := fun _ _ _ => by kernel_rfl
theorem F62_2 : FO Try.prog 62 2 2 := fun _ _ _ => by kernel_rfl
theorem F62_3 : FO Try.prog 62 3 21 := fun _ _ _ => by kernel_rfl
theorem E8 : EN Try.prog 8 := fun _ _ => by kernel_rfl
theorem E9 : EN Try.prog 9 := fun _ _ => by kernel_rfl
theorem E10 : EN Try.prog 10 := fun _ _ => by kernel_rfl
theorem E11 : EN Try.prog 11 := fun _ _ => by kernel_rfl
theorem E12 : EN Try.prog 12 := fun _ _ => by kernel_rfl
theorem E13 : EN Try.prog 13 := fun _ _ => by kernel_rfl
theorem E14 : EN Try.prog 14 := fun _ _ => by kernel_rfl
theorem E15 : EN Try.prog 15 := fun _ _ => by kernel_rfl
theorem E16 : EN Try.prog 16 := fun _ _ => by kernel_rfl
theorem E17 : EN Try.prog 17 := fun _ _ => by kernel_rfl
theorem E18 : EN Try.prog 18 := fun _ _ => by kernel_rfl
theorem E19 : EN Try.prog 19 := fun _ _ => by kernel_rfl
theorem E20 : EN Try.prog 20 := fun _ _ => by kernel_rfl
theorem E21 : EN Try.prog 21 := fun _ _ => by kernel_rfl
theorem E22 : EN Try.prog 22 := fun _ _ => by kernel_rfl
theorem E23 : EN Try.prog 23 := fun _ _ => by kernel_rfl
theorem E24 : EN Try.prog 24 := fun _ _ => by kernel_rfl
theorem E25 : EN Try.prog 25 := fun _ _ => by kernel_rfl
theorem E26 : EN Try.prog 26 := fun _ _ => by kernel_rfl
theorem E27 : EN Try.prog 27 := fun _ _ => by kernel_rfl
theorem E29 : EN Try.prog 29 := fun _ _ => by kernel_rfl
theorem E30 : EN Try.prog 30 := fun _ _ => by kernel_rfl
theorem E31 : EN Try.prog 31 := fun _ _ => by kernel_rfl
theorem E32 : EN Try.prog 32 := fun _ _ => by kernel_rfl
theorem E33 : EN Try.prog 33 := fun _ _ => by kernel_rfl
theorem E34 : EN Try.prog 34 := fun _ _ => by kernel_rfl
theorem E35 : EN Try.prog 35 := fun _ _ => by kernel_rfl
theorem E36 : EN Try.prog 36 := fun _ _ => by kernel_rfl
theorem E37 : EN Try.prog 37 := fun _ _ => by kernel_rfl
theorem E38 : EN Try.prog 38 := fun _ _ => by kernel_rfl
end Go.Proofs.Qxb6500865a
