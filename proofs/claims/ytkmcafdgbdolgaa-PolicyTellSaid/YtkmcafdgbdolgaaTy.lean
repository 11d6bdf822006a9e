/-
  Facts on this seat's types, by a program (wip/tools/types.py), off the translation.
-/
import Derived.Test.YtkmcafdgbdolgaaProg
import Derived.Test.YtkmcafdgbdolgaaLe
namespace Go.Proofs.Ytkmcafdgbdolgaa.L
open Go
instance : TSz Try.prog 2 1 := ⟨by kernel_rfl⟩
instance : TBy Try.prog 2 8 := ⟨by kernel_rfl⟩
instance : TAg Try.prog 2 false := ⟨_, Try.underlying2, rfl⟩
instance : TInt Try.prog 2 .i64 := ⟨Try.underlying2⟩
instance : TZero Try.prog 2 (.int .i64 0) := ⟨by kernel_rfl⟩
instance : TSz Try.prog 3 1 := ⟨by kernel_rfl⟩
instance : TBy Try.prog 3 8 := ⟨by kernel_rfl⟩
instance : TAg Try.prog 3 false := ⟨_, Try.underlying3, rfl⟩
instance : TInt Try.prog 3 .i64 := ⟨Try.underlying3⟩
instance : TZero Try.prog 3 (.int .i64 0) := ⟨by kernel_rfl⟩
instance : TSz Try.prog 4 1 := ⟨by kernel_rfl⟩
instance : TBy Try.prog 4 1 := ⟨by kernel_rfl⟩
instance : TAg Try.prog 4 false := ⟨_, Try.underlying4, rfl⟩
instance : TBool Try.prog 4 := ⟨Try.underlying4⟩
instance : TZero Try.prog 4 (.bool false) := ⟨by kernel_rfl⟩
instance : TSz Try.prog 5 1 := ⟨by kernel_rfl⟩
instance : TBy Try.prog 5 1 := ⟨by kernel_rfl⟩
instance : TAg Try.prog 5 false := ⟨_, Try.underlying5, rfl⟩
instance : TInt Try.prog 5 .u8 := ⟨Try.underlying5⟩
instance : TZero Try.prog 5 (.int .u8 0) := ⟨by kernel_rfl⟩
instance : TSz Try.prog 6 1 := ⟨by kernel_rfl⟩
instance : TBy Try.prog 6 1 := ⟨by kernel_rfl⟩
instance : TAg Try.prog 6 false := ⟨_, Try.underlying6, rfl⟩
instance : TInt Try.prog 6 .u8 := ⟨Try.underlying6⟩
instance : TZero Try.prog 6 (.int .u8 0) := ⟨by kernel_rfl⟩
instance : TSz Try.prog 7 4 := ⟨by kernel_rfl⟩
instance : TBy Try.prog 7 24 := ⟨by kernel_rfl⟩
instance : TAg Try.prog 7 true := ⟨_, Try.underlying7, rfl⟩
instance : TFld Try.prog 7 0 0 2 := ⟨_, _, Try.underlying7, rfl, rfl, rfl⟩
instance : TFld Try.prog 7 1 1 3 := ⟨_, _, Try.underlying7, rfl, rfl, rfl⟩
instance : TFld Try.prog 7 2 2 4 := ⟨_, _, Try.underlying7, rfl, rfl, rfl⟩
instance : TFld Try.prog 7 3 3 6 := ⟨_, _, Try.underlying7, rfl, rfl, rfl⟩
instance : TPl Try.prog 7 (fun i => (#[(0, 1), (1, 1), (2, 1), (3, 1)] : Array (Nat × Nat))[i]?) := ⟨.inl ⟨_, _, Try.underlying7, fun w => by kernel_rfl, rfl⟩⟩
instance : TZero Try.prog 7 (.agg #[.int .i64 0, .int .i64 0, .bool false, .int .u8 0]) := ⟨by kernel_rfl⟩
instance : TSz Try.prog 8 4 := ⟨by kernel_rfl⟩
instance : TBy Try.prog 8 24 := ⟨by kernel_rfl⟩
instance : TAg Try.prog 8 true := ⟨_, Try.underlying8, rfl⟩
instance : TFld Try.prog 8 0 0 2 := ⟨_, _, Try.underlying8, rfl, rfl, rfl⟩
instance : TFld Try.prog 8 1 1 3 := ⟨_, _, Try.underlying8, rfl, rfl, rfl⟩
instance : TFld Try.prog 8 2 2 4 := ⟨_, _, Try.underlying8, rfl, rfl, rfl⟩
instance : TFld Try.prog 8 3 3 6 := ⟨_, _, Try.underlying8, rfl, rfl, rfl⟩
instance : TPl Try.prog 8 (fun i => (#[(0, 1), (1, 1), (2, 1), (3, 1)] : Array (Nat × Nat))[i]?) := ⟨.inl ⟨_, _, Try.underlying8, fun w => by kernel_rfl, rfl⟩⟩
instance : TZero Try.prog 8 (.agg #[.int .i64 0, .int .i64 0, .bool false, .int .u8 0]) := ⟨by kernel_rfl⟩
instance : TSz Try.prog 9 1 := ⟨by kernel_rfl⟩
instance : TBy Try.prog 9 16 := ⟨by kernel_rfl⟩
instance : TAg Try.prog 9 false := ⟨_, Try.underlying9, rfl⟩
instance : TStr Try.prog 9 := ⟨Try.underlying9⟩
instance : TZero Try.prog 9 (.string ⟨#[]⟩) := ⟨by kernel_rfl⟩
instance : TSz Try.prog 10 1 := ⟨by kernel_rfl⟩
instance : TBy Try.prog 10 16 := ⟨by kernel_rfl⟩
instance : TAg Try.prog 10 false := ⟨_, Try.underlying10, rfl⟩
instance : TStr Try.prog 10 := ⟨Try.underlying10⟩
instance : TZero Try.prog 10 (.string ⟨#[]⟩) := ⟨by kernel_rfl⟩
instance : TSz Try.prog 11 1 := ⟨by kernel_rfl⟩
instance : TBy Try.prog 11 16 := ⟨by kernel_rfl⟩
instance : TAg Try.prog 11 false := ⟨_, Try.underlying11, rfl⟩
instance : TStr Try.prog 11 := ⟨Try.underlying11⟩
instance : TZero Try.prog 11 (.string ⟨#[]⟩) := ⟨by kernel_rfl⟩
instance : TSz Try.prog 12 1 := ⟨by kernel_rfl⟩
instance : TBy Try.prog 12 8 := ⟨by kernel_rfl⟩
instance : TAg Try.prog 12 false := ⟨_, Try.underlying12, rfl⟩
instance : TInt Try.prog 12 .u64 := ⟨Try.underlying12⟩
instance : TZero Try.prog 12 (.int .u64 0) := ⟨by kernel_rfl⟩
instance : TSz Try.prog 13 2 := ⟨by kernel_rfl⟩
instance : TBy Try.prog 13 24 := ⟨by kernel_rfl⟩
instance : TAg Try.prog 13 true := ⟨_, Try.underlying13, rfl⟩
instance : TFld Try.prog 13 0 0 9 := ⟨_, _, Try.underlying13, rfl, rfl, rfl⟩
instance : TFld Try.prog 13 1 1 12 := ⟨_, _, Try.underlying13, rfl, rfl, rfl⟩
instance : TPl Try.prog 13 (fun i => (#[(0, 1), (1, 1)] : Array (Nat × Nat))[i]?) := ⟨.inl ⟨_, _, Try.underlying13, fun w => by kernel_rfl, rfl⟩⟩
instance : TZero Try.prog 13 (.agg #[.string ⟨#[]⟩, .int .u64 0]) := ⟨by kernel_rfl⟩
instance : TSz Try.prog 14 2 := ⟨by kernel_rfl⟩
instance : TBy Try.prog 14 24 := ⟨by kernel_rfl⟩
instance : TAg Try.prog 14 true := ⟨_, Try.underlying14, rfl⟩
instance : TFld Try.prog 14 0 0 9 := ⟨_, _, Try.underlying14, rfl, rfl, rfl⟩
instance : TFld Try.prog 14 1 1 12 := ⟨_, _, Try.underlying14, rfl, rfl, rfl⟩
instance : TPl Try.prog 14 (fun i => (#[(0, 1), (1, 1)] : Array (Nat × Nat))[i]?) := ⟨.inl ⟨_, _, Try.underlying14, fun w => by kernel_rfl, rfl⟩⟩
instance : TZero Try.prog 14 (.agg #[.string ⟨#[]⟩, .int .u64 0]) := ⟨by kernel_rfl⟩
instance : TSz Try.prog 15 1 := ⟨by kernel_rfl⟩
instance : TBy Try.prog 15 8 := ⟨by kernel_rfl⟩
instance : TAg Try.prog 15 false := ⟨_, Try.underlying15, rfl⟩
instance : TPtr Try.prog 15 51 := ⟨Try.underlying15⟩
instance : TZero Try.prog 15 (.pointer none) := ⟨by kernel_rfl⟩
instance : TSz Try.prog 16 1 := ⟨by kernel_rfl⟩
instance : TBy Try.prog 16 8 := ⟨by kernel_rfl⟩
instance : TAg Try.prog 16 false := ⟨_, Try.underlying16, rfl⟩
instance : TPtr Try.prog 16 54 := ⟨Try.underlying16⟩
instance : TZero Try.prog 16 (.pointer none) := ⟨by kernel_rfl⟩
instance : TSz Try.prog 17 1 := ⟨by kernel_rfl⟩
instance : TBy Try.prog 17 8 := ⟨by kernel_rfl⟩
instance : TAg Try.prog 17 false := ⟨_, Try.underlying17, rfl⟩
instance : TPtr Try.prog 17 63 := ⟨Try.underlying17⟩
instance : TZero Try.prog 17 (.pointer none) := ⟨by kernel_rfl⟩
instance : TSz Try.prog 18 1 := ⟨by kernel_rfl⟩
instance : TBy Try.prog 18 8 := ⟨by kernel_rfl⟩
instance : TAg Try.prog 18 true := ⟨_, Try.underlying18, rfl⟩
instance : TFld Try.prog 18 0 0 17 := ⟨_, _, Try.underlying18, rfl, rfl, rfl⟩
instance : TPl Try.prog 18 (fun i => (#[(0, 1)] : Array (Nat × Nat))[i]?) := ⟨.inl ⟨_, _, Try.underlying18, fun w => by kernel_rfl, rfl⟩⟩
instance : TZero Try.prog 18 (.agg #[.pointer none]) := ⟨by kernel_rfl⟩
instance : TSz Try.prog 19 1 := ⟨by kernel_rfl⟩
instance : TBy Try.prog 19 8 := ⟨by kernel_rfl⟩
instance : TAg Try.prog 19 true := ⟨_, Try.underlying19, rfl⟩
instance : TFld Try.prog 19 0 0 17 := ⟨_, _, Try.underlying19, rfl, rfl, rfl⟩
instance : TPl Try.prog 19 (fun i => (#[(0, 1)] : Array (Nat × Nat))[i]?) := ⟨.inl ⟨_, _, Try.underlying19, fun w => by kernel_rfl, rfl⟩⟩
instance : TZero Try.prog 19 (.agg #[.pointer none]) := ⟨by kernel_rfl⟩
instance : TSz Try.prog 21 1 := ⟨by kernel_rfl⟩
instance : TBy Try.prog 21 4 := ⟨by kernel_rfl⟩
instance : TAg Try.prog 21 false := ⟨_, Try.underlying21, rfl⟩
instance : TInt Try.prog 21 .i32 := ⟨Try.underlying21⟩
instance : TZero Try.prog 21 (.int .i32 0) := ⟨by kernel_rfl⟩
instance : TSz Try.prog 22 32 := ⟨by kernel_rfl⟩
instance : TBy Try.prog 22 32 := ⟨by kernel_rfl⟩
instance : TAg Try.prog 22 true := ⟨_, Try.underlying22, rfl⟩
instance : TArr Try.prog 22 32 5 := ⟨Try.underlying22⟩
instance : TPl Try.prog 22 (fun i => some (i * 1, 1)) := ⟨.inr ⟨_, _, 1, Try.underlying22, by kernel_rfl, rfl⟩⟩
instance : TZero Try.prog 22 (.agg #[.int .u8 0, .int .u8 0, .int .u8 0, .int .u8 0, .int .u8 0, .int .u8 0, .int .u8 0, .int .u8 0, .int .u8 0, .int .u8 0, .int .u8 0, .int .u8 0, .int .u8 0, .int .u8 0, .int .u8 0, .int .u8 0, .int .u8 0, .int .u8 0, .int .u8 0, .int .u8 0, .int .u8 0, .int .u8 0, .int .u8 0, .int .u8 0, .int .u8 0, .int .u8 0, .int .u8 0, .int .u8 0, .int .u8 0, .int .u8 0, .int .u8 0, .int .u8 0]) := ⟨by kernel_rfl⟩
instance : TSz Try.prog 23 2 := ⟨by kernel_rfl⟩
instance : TBy Try.prog 23 16 := ⟨by kernel_rfl⟩
instance : TAg Try.prog 23 true := ⟨_, Try.underlying23, rfl⟩
instance : TFld Try.prog 23 0 0 3 := ⟨_, _, Try.underlying23, rfl, rfl, rfl⟩
instance : TFld Try.prog 23 1 1 3 := ⟨_, _, Try.underlying23, rfl, rfl, rfl⟩
instance : TPl Try.prog 23 (fun i => (#[(0, 1), (1, 1)] : Array (Nat × Nat))[i]?) := ⟨.inl ⟨_, _, Try.underlying23, fun w => by kernel_rfl, rfl⟩⟩
instance : TZero Try.prog 23 (.agg #[.int .i64 0, .int .i64 0]) := ⟨by kernel_rfl⟩
instance : TSz Try.prog 24 2 := ⟨by kernel_rfl⟩
instance : TBy Try.prog 24 16 := ⟨by kernel_rfl⟩
instance : TAg Try.prog 24 true := ⟨_, Try.underlying24, rfl⟩
instance : TFld Try.prog 24 0 0 3 := ⟨_, _, Try.underlying24, rfl, rfl, rfl⟩
instance : TFld Try.prog 24 1 1 3 := ⟨_, _, Try.underlying24, rfl, rfl, rfl⟩
instance : TPl Try.prog 24 (fun i => (#[(0, 1), (1, 1)] : Array (Nat × Nat))[i]?) := ⟨.inl ⟨_, _, Try.underlying24, fun w => by kernel_rfl, rfl⟩⟩
instance : TZero Try.prog 24 (.agg #[.int .i64 0, .int .i64 0]) := ⟨by kernel_rfl⟩
instance : TSz Try.prog 25 37 := ⟨by kernel_rfl⟩
instance : TBy Try.prog 25 72 := ⟨by kernel_rfl⟩
instance : TAg Try.prog 25 true := ⟨_, Try.underlying25, rfl⟩
instance : TFld Try.prog 25 0 0 3 := ⟨_, _, Try.underlying25, rfl, rfl, rfl⟩
instance : TFld Try.prog 25 1 1 3 := ⟨_, _, Try.underlying25, rfl, rfl, rfl⟩
instance : TFld Try.prog 25 2 2 22 := ⟨_, _, Try.underlying25, rfl, rfl, rfl⟩
instance : TFld Try.prog 25 3 34 24 := ⟨_, _, Try.underlying25, rfl, rfl, rfl⟩
instance : TFld Try.prog 25 4 36 4 := ⟨_, _, Try.underlying25, rfl, rfl, rfl⟩
instance : TPl Try.prog 25 (fun i => (#[(0, 1), (1, 1), (2, 32), (34, 2), (36, 1)] : Array (Nat × Nat))[i]?) := ⟨.inl ⟨_, _, Try.underlying25, fun w => by kernel_rfl, rfl⟩⟩
instance : TZero Try.prog 25 (.agg #[.int .i64 0, .int .i64 0, .int .u8 0, .int .u8 0, .int .u8 0, .int .u8 0, .int .u8 0, .int .u8 0, .int .u8 0, .int .u8 0, .int .u8 0, .int .u8 0, .int .u8 0, .int .u8 0, .int .u8 0, .int .u8 0, .int .u8 0, .int .u8 0, .int .u8 0, .int .u8 0, .int .u8 0, .int .u8 0, .int .u8 0, .int .u8 0, .int .u8 0, .int .u8 0, .int .u8 0, .int .u8 0, .int .u8 0, .int .u8 0, .int .u8 0, .int .u8 0, .int .u8 0, .int .u8 0, .int .i64 0, .int .i64 0, .bool false]) := ⟨by kernel_rfl⟩
instance : TSz Try.prog 26 37 := ⟨by kernel_rfl⟩
instance : TBy Try.prog 26 72 := ⟨by kernel_rfl⟩
instance : TAg Try.prog 26 true := ⟨_, Try.underlying26, rfl⟩
instance : TFld Try.prog 26 0 0 3 := ⟨_, _, Try.underlying26, rfl, rfl, rfl⟩
instance : TFld Try.prog 26 1 1 3 := ⟨_, _, Try.underlying26, rfl, rfl, rfl⟩
instance : TFld Try.prog 26 2 2 22 := ⟨_, _, Try.underlying26, rfl, rfl, rfl⟩
instance : TFld Try.prog 26 3 34 24 := ⟨_, _, Try.underlying26, rfl, rfl, rfl⟩
instance : TFld Try.prog 26 4 36 4 := ⟨_, _, Try.underlying26, rfl, rfl, rfl⟩
instance : TPl Try.prog 26 (fun i => (#[(0, 1), (1, 1), (2, 32), (34, 2), (36, 1)] : Array (Nat × Nat))[i]?) := ⟨.inl ⟨_, _, Try.underlying26, fun w => by kernel_rfl, rfl⟩⟩
instance : TZero Try.prog 26 (.agg #[.int .i64 0, .int .i64 0, .int .u8 0, .int .u8 0, .int .u8 0, .int .u8 0, .int .u8 0, .int .u8 0, .int .u8 0, .int .u8 0, .int .u8 0, .int .u8 0, .int .u8 0, .int .u8 0, .int .u8 0, .int .u8 0, .int .u8 0, .int .u8 0, .int .u8 0, .int .u8 0, .int .u8 0, .int .u8 0, .int .u8 0, .int .u8 0, .int .u8 0, .int .u8 0, .int .u8 0, .int .u8 0, .int .u8 0, .int .u8 0, .int .u8 0, .int .u8 0, .int .u8 0, .int .u8 0, .int .i64 0, .int .i64 0, .bool false]) := ⟨by kernel_rfl⟩
instance : TSz Try.prog 27 1 := ⟨by kernel_rfl⟩
instance : TBy Try.prog 27 8 := ⟨by kernel_rfl⟩
instance : TAg Try.prog 27 false := ⟨_, Try.underlying27, rfl⟩
instance : TInt Try.prog 27 .i64 := ⟨Try.underlying27⟩
instance : TZero Try.prog 27 (.int .i64 0) := ⟨by kernel_rfl⟩
instance : TSz Try.prog 35 1 := ⟨by kernel_rfl⟩
instance : TBy Try.prog 35 4 := ⟨by kernel_rfl⟩
instance : TAg Try.prog 35 false := ⟨_, Try.underlying35, rfl⟩
instance : TInt Try.prog 35 .u32 := ⟨Try.underlying35⟩
instance : TZero Try.prog 35 (.int .u32 0) := ⟨by kernel_rfl⟩
instance : TSz Try.prog 36 4 := ⟨by kernel_rfl⟩
instance : TBy Try.prog 36 16 := ⟨by kernel_rfl⟩
instance : TAg Try.prog 36 true := ⟨_, Try.underlying36, rfl⟩
instance : TArr Try.prog 36 4 35 := ⟨Try.underlying36⟩
instance : TPl Try.prog 36 (fun i => some (i * 1, 1)) := ⟨.inr ⟨_, _, 1, Try.underlying36, by kernel_rfl, rfl⟩⟩
instance : TZero Try.prog 36 (.agg #[.int .u32 0, .int .u32 0, .int .u32 0, .int .u32 0]) := ⟨by kernel_rfl⟩
instance : TSz Try.prog 38 1 := ⟨by kernel_rfl⟩
instance : TBy Try.prog 38 24 := ⟨by kernel_rfl⟩
instance : TAg Try.prog 38 false := ⟨_, Try.underlying38, rfl⟩
instance : TSl Try.prog 38 3 := ⟨Try.underlying38⟩
instance : TZero Try.prog 38 (.slice none 0 0) := ⟨by kernel_rfl⟩
instance : TSz Try.prog 40 2 := ⟨by kernel_rfl⟩
instance : TBy Try.prog 40 8 := ⟨by kernel_rfl⟩
instance : TAg Try.prog 40 true := ⟨_, Try.underlying40, rfl⟩
instance : TArr Try.prog 40 2 35 := ⟨Try.underlying40⟩
instance : TPl Try.prog 40 (fun i => some (i * 1, 1)) := ⟨.inr ⟨_, _, 1, Try.underlying40, by kernel_rfl, rfl⟩⟩
instance : TZero Try.prog 40 (.agg #[.int .u32 0, .int .u32 0]) := ⟨by kernel_rfl⟩
instance : TSz Try.prog 42 3 := ⟨by kernel_rfl⟩
instance : TBy Try.prog 42 12 := ⟨by kernel_rfl⟩
instance : TAg Try.prog 42 true := ⟨_, Try.underlying42, rfl⟩
instance : TArr Try.prog 42 3 35 := ⟨Try.underlying42⟩
instance : TPl Try.prog 42 (fun i => some (i * 1, 1)) := ⟨.inr ⟨_, _, 1, Try.underlying42, by kernel_rfl, rfl⟩⟩
instance : TZero Try.prog 42 (.agg #[.int .u32 0, .int .u32 0, .int .u32 0]) := ⟨by kernel_rfl⟩
instance : TSz Try.prog 46 2 := ⟨by kernel_rfl⟩
instance : TBy Try.prog 46 16 := ⟨by kernel_rfl⟩
instance : TAg Try.prog 46 true := ⟨_, Try.underlying46, rfl⟩
instance : TFld Try.prog 46 0 0 4 := ⟨_, _, Try.underlying46, rfl, rfl, rfl⟩
instance : TFld Try.prog 46 1 1 27 := ⟨_, _, Try.underlying46, rfl, rfl, rfl⟩
instance : TPl Try.prog 46 (fun i => (#[(0, 1), (1, 1)] : Array (Nat × Nat))[i]?) := ⟨.inl ⟨_, _, Try.underlying46, fun w => by kernel_rfl, rfl⟩⟩
instance : TZero Try.prog 46 (.agg #[.bool false, .int .i64 0]) := ⟨by kernel_rfl⟩
instance : TSz Try.prog 47 2 := ⟨by kernel_rfl⟩
instance : TBy Try.prog 47 16 := ⟨by kernel_rfl⟩
instance : TAg Try.prog 47 true := ⟨_, Try.underlying47, rfl⟩
instance : TFld Try.prog 47 0 0 4 := ⟨_, _, Try.underlying47, rfl, rfl, rfl⟩
instance : TFld Try.prog 47 1 1 27 := ⟨_, _, Try.underlying47, rfl, rfl, rfl⟩
instance : TPl Try.prog 47 (fun i => (#[(0, 1), (1, 1)] : Array (Nat × Nat))[i]?) := ⟨.inl ⟨_, _, Try.underlying47, fun w => by kernel_rfl, rfl⟩⟩
instance : TZero Try.prog 47 (.agg #[.bool false, .int .i64 0]) := ⟨by kernel_rfl⟩
instance : TSz Try.prog 48 8 := ⟨by kernel_rfl⟩
instance : TBy Try.prog 48 64 := ⟨by kernel_rfl⟩
instance : TAg Try.prog 48 true := ⟨_, Try.underlying48, rfl⟩
instance : TArr Try.prog 48 4 47 := ⟨Try.underlying48⟩
instance : TPl Try.prog 48 (fun i => some (i * 2, 2)) := ⟨.inr ⟨_, _, 2, Try.underlying48, by kernel_rfl, rfl⟩⟩
instance : TZero Try.prog 48 (.agg #[.bool false, .int .i64 0, .bool false, .int .i64 0, .bool false, .int .i64 0, .bool false, .int .i64 0]) := ⟨by kernel_rfl⟩
instance : TSz Try.prog 50 4 := ⟨by kernel_rfl⟩
instance : TBy Try.prog 50 40 := ⟨by kernel_rfl⟩
instance : TAg Try.prog 50 true := ⟨_, Try.underlying50, rfl⟩
instance : TFld Try.prog 50 0 0 17 := ⟨_, _, Try.underlying50, rfl, rfl, rfl⟩
instance : TFld Try.prog 50 1 1 17 := ⟨_, _, Try.underlying50, rfl, rfl, rfl⟩
instance : TFld Try.prog 50 2 2 17 := ⟨_, _, Try.underlying50, rfl, rfl, rfl⟩
instance : TFld Try.prog 50 3 3 9 := ⟨_, _, Try.underlying50, rfl, rfl, rfl⟩
instance : TPl Try.prog 50 (fun i => (#[(0, 1), (1, 1), (2, 1), (3, 1)] : Array (Nat × Nat))[i]?) := ⟨.inl ⟨_, _, Try.underlying50, fun w => by kernel_rfl, rfl⟩⟩
instance : TZero Try.prog 50 (.agg #[.pointer none, .pointer none, .pointer none, .string ⟨#[]⟩]) := ⟨by kernel_rfl⟩
instance : TSz Try.prog 51 4 := ⟨by kernel_rfl⟩
instance : TBy Try.prog 51 40 := ⟨by kernel_rfl⟩
instance : TAg Try.prog 51 true := ⟨_, Try.underlying51, rfl⟩
instance : TFld Try.prog 51 0 0 17 := ⟨_, _, Try.underlying51, rfl, rfl, rfl⟩
instance : TFld Try.prog 51 1 1 17 := ⟨_, _, Try.underlying51, rfl, rfl, rfl⟩
instance : TFld Try.prog 51 2 2 17 := ⟨_, _, Try.underlying51, rfl, rfl, rfl⟩
instance : TFld Try.prog 51 3 3 9 := ⟨_, _, Try.underlying51, rfl, rfl, rfl⟩
instance : TPl Try.prog 51 (fun i => (#[(0, 1), (1, 1), (2, 1), (3, 1)] : Array (Nat × Nat))[i]?) := ⟨.inl ⟨_, _, Try.underlying51, fun w => by kernel_rfl, rfl⟩⟩
instance : TZero Try.prog 51 (.agg #[.pointer none, .pointer none, .pointer none, .string ⟨#[]⟩]) := ⟨by kernel_rfl⟩
instance : TSz Try.prog 52 0 := ⟨by kernel_rfl⟩
instance : TBy Try.prog 52 0 := ⟨by kernel_rfl⟩
instance : TAg Try.prog 52 true := ⟨_, Try.underlying52, rfl⟩
instance : TArr Try.prog 52 0 16 := ⟨Try.underlying52⟩
instance : TPl Try.prog 52 (fun i => some (i * 1, 1)) := ⟨.inr ⟨_, _, 1, Try.underlying52, by kernel_rfl, rfl⟩⟩
instance : TZero Try.prog 52 (.agg #[]) := ⟨by kernel_rfl⟩
instance : TSz Try.prog 53 0 := ⟨by kernel_rfl⟩
instance : TBy Try.prog 53 0 := ⟨by kernel_rfl⟩
instance : TAg Try.prog 53 true := ⟨_, Try.underlying53, rfl⟩
instance : TFld Try.prog 53 0 0 52 := ⟨_, _, Try.underlying53, rfl, rfl, rfl⟩
instance : TPl Try.prog 53 (fun i => (#[(0, 0)] : Array (Nat × Nat))[i]?) := ⟨.inl ⟨_, _, Try.underlying53, fun w => by kernel_rfl, rfl⟩⟩
instance : TZero Try.prog 53 (.agg #[]) := ⟨by kernel_rfl⟩
instance : TSz Try.prog 54 0 := ⟨by kernel_rfl⟩
instance : TBy Try.prog 54 0 := ⟨by kernel_rfl⟩
instance : TAg Try.prog 54 true := ⟨_, Try.underlying54, rfl⟩
instance : TFld Try.prog 54 0 0 52 := ⟨_, _, Try.underlying54, rfl, rfl, rfl⟩
instance : TPl Try.prog 54 (fun i => (#[(0, 0)] : Array (Nat × Nat))[i]?) := ⟨.inl ⟨_, _, Try.underlying54, fun w => by kernel_rfl, rfl⟩⟩
instance : TZero Try.prog 54 (.agg #[]) := ⟨by kernel_rfl⟩
instance : TSz Try.prog 56 1 := ⟨by kernel_rfl⟩
instance : TBy Try.prog 56 1 := ⟨by kernel_rfl⟩
instance : TAg Try.prog 56 false := ⟨_, Try.underlying56, rfl⟩
instance : TInt Try.prog 56 .u8 := ⟨Try.underlying56⟩
instance : TZero Try.prog 56 (.int .u8 0) := ⟨by kernel_rfl⟩
instance : TSz Try.prog 57 1 := ⟨by kernel_rfl⟩
instance : TBy Try.prog 57 1 := ⟨by kernel_rfl⟩
instance : TAg Try.prog 57 false := ⟨_, Try.underlying57, rfl⟩
instance : TInt Try.prog 57 .u8 := ⟨Try.underlying57⟩
instance : TZero Try.prog 57 (.int .u8 0) := ⟨by kernel_rfl⟩
instance : TSz Try.prog 59 1 := ⟨by kernel_rfl⟩
instance : TBy Try.prog 59 8 := ⟨by kernel_rfl⟩
instance : TAg Try.prog 59 false := ⟨_, Try.underlying59, rfl⟩
instance : TPtr Try.prog 59 5 := ⟨Try.underlying59⟩
instance : TZero Try.prog 59 (.pointer none) := ⟨by kernel_rfl⟩
instance : TSz Try.prog 60 1 := ⟨by kernel_rfl⟩
instance : TBy Try.prog 60 4 := ⟨by kernel_rfl⟩
instance : TAg Try.prog 60 false := ⟨_, Try.underlying60, rfl⟩
instance : TInt Try.prog 60 .i32 := ⟨Try.underlying60⟩
instance : TZero Try.prog 60 (.int .i32 0) := ⟨by kernel_rfl⟩
instance : TSz Try.prog 61 1 := ⟨by kernel_rfl⟩
instance : TBy Try.prog 61 4 := ⟨by kernel_rfl⟩
instance : TAg Try.prog 61 false := ⟨_, Try.underlying61, rfl⟩
instance : TInt Try.prog 61 .i32 := ⟨Try.underlying61⟩
instance : TZero Try.prog 61 (.int .i32 0) := ⟨by kernel_rfl⟩
instance : TSz Try.prog 62 11 := ⟨by kernel_rfl⟩
instance : TBy Try.prog 62 48 := ⟨by kernel_rfl⟩
instance : TAg Try.prog 62 true := ⟨_, Try.underlying62, rfl⟩
instance : TFld Try.prog 62 0 0 12 := ⟨_, _, Try.underlying62, rfl, rfl, rfl⟩
instance : TFld Try.prog 62 1 1 12 := ⟨_, _, Try.underlying62, rfl, rfl, rfl⟩
instance : TFld Try.prog 62 2 2 35 := ⟨_, _, Try.underlying62, rfl, rfl, rfl⟩
instance : TFld Try.prog 62 3 3 56 := ⟨_, _, Try.underlying62, rfl, rfl, rfl⟩
instance : TFld Try.prog 62 4 4 5 := ⟨_, _, Try.underlying62, rfl, rfl, rfl⟩
instance : TFld Try.prog 62 5 5 5 := ⟨_, _, Try.underlying62, rfl, rfl, rfl⟩
instance : TFld Try.prog 62 6 6 57 := ⟨_, _, Try.underlying62, rfl, rfl, rfl⟩
instance : TFld Try.prog 62 7 7 58 := ⟨_, _, Try.underlying62, rfl, rfl, rfl⟩
instance : TFld Try.prog 62 8 8 59 := ⟨_, _, Try.underlying62, rfl, rfl, rfl⟩
instance : TFld Try.prog 62 9 9 60 := ⟨_, _, Try.underlying62, rfl, rfl, rfl⟩
instance : TFld Try.prog 62 10 10 61 := ⟨_, _, Try.underlying62, rfl, rfl, rfl⟩
instance : TZero Try.prog 62 (.agg #[.int .u64 0, .int .u64 0, .int .u32 0, .int .u8 0, .int .u8 0, .int .u8 0, .int .u8 0, .nilFunc, .pointer none, .int .i32 0, .int .i32 0]) := ⟨by kernel_rfl⟩
instance : TSz Try.prog 63 11 := ⟨by kernel_rfl⟩
instance : TBy Try.prog 63 48 := ⟨by kernel_rfl⟩
instance : TAg Try.prog 63 true := ⟨_, Try.underlying63, rfl⟩
instance : TFld Try.prog 63 0 0 12 := ⟨_, _, Try.underlying63, rfl, rfl, rfl⟩
instance : TFld Try.prog 63 1 1 12 := ⟨_, _, Try.underlying63, rfl, rfl, rfl⟩
instance : TFld Try.prog 63 2 2 35 := ⟨_, _, Try.underlying63, rfl, rfl, rfl⟩
instance : TFld Try.prog 63 3 3 56 := ⟨_, _, Try.underlying63, rfl, rfl, rfl⟩
instance : TFld Try.prog 63 4 4 5 := ⟨_, _, Try.underlying63, rfl, rfl, rfl⟩
instance : TFld Try.prog 63 5 5 5 := ⟨_, _, Try.underlying63, rfl, rfl, rfl⟩
instance : TFld Try.prog 63 6 6 57 := ⟨_, _, Try.underlying63, rfl, rfl, rfl⟩
instance : TFld Try.prog 63 7 7 58 := ⟨_, _, Try.underlying63, rfl, rfl, rfl⟩
instance : TFld Try.prog 63 8 8 59 := ⟨_, _, Try.underlying63, rfl, rfl, rfl⟩
instance : TFld Try.prog 63 9 9 60 := ⟨_, _, Try.underlying63, rfl, rfl, rfl⟩
instance : TFld Try.prog 63 10 10 61 := ⟨_, _, Try.underlying63, rfl, rfl, rfl⟩
instance : TZero Try.prog 63 (.agg #[.int .u64 0, .int .u64 0, .int .u32 0, .int .u8 0, .int .u8 0, .int .u8 0, .int .u8 0, .nilFunc, .pointer none, .int .i32 0, .int .i32 0]) := ⟨by kernel_rfl⟩
theorem mixed : Try.prog.follows .mixedOrders = true := by kernel_rfl
end Go.Proofs.Ytkmcafdgbdolgaa.L
