/- What is known of the types: printed by a program from the translation's table of types. -/
import Derived.Test.YtmghnjahjeinnaaRows
import Derived.Test.YtmghnjahjeinnaaFrame1
namespace Go.Proofs.Ytmghnjahjeinnaa
open Go Go.Fr
instance ti2 : TI Try.prog 2 1 8 (.int .i64 0) := ⟨_, rfl, rfl, rfl, rfl⟩
instance ti3 : TI Try.prog 3 1 8 (.int .i64 0) := ⟨_, rfl, rfl, rfl, rfl⟩
instance ti4 : TI Try.prog 4 1 1 (.bool false) := ⟨_, rfl, rfl, rfl, rfl⟩
instance ti5 : TI Try.prog 5 1 1 (.int .u8 0) := ⟨_, rfl, rfl, rfl, rfl⟩
instance ti9 : TI Try.prog 9 1 16 (.string .empty) := ⟨_, rfl, rfl, rfl, rfl⟩
instance ti12 : TI Try.prog 12 1 8 (.int .u64 0) := ⟨_, rfl, rfl, rfl, rfl⟩
instance ti17 : TI Try.prog 17 1 8 (.pointer none) := ⟨_, rfl, rfl, rfl, rfl⟩
instance ti20 : TI Try.prog 20 1 16 (.nilIface) := ⟨_, rfl, rfl, rfl, rfl⟩
instance ti21 : TI Try.prog 21 1 4 (.int .i32 0) := ⟨_, rfl, rfl, rfl, rfl⟩
instance ti22 : TI Try.prog 22 1 24 (.slice none 0 0) := ⟨_, rfl, rfl, rfl, rfl⟩
instance ti23 : TI Try.prog 23 1 24 (.slice none 0 0) := ⟨_, rfl, rfl, rfl, rfl⟩
instance ti24 : TI Try.prog 24 4 64 (.agg #[(.slice none 0 0), (.slice none 0 0), (.int .i64 0), (.bool false)]) := ⟨_, rfl, rfl, rfl, rfl⟩
instance ti25 : TI Try.prog 25 4 64 (.agg #[(.slice none 0 0), (.slice none 0 0), (.int .i64 0), (.bool false)]) := ⟨_, rfl, rfl, rfl, rfl⟩
instance ti28 : TI Try.prog 28 3 40 (.agg #[(.slice none 0 0), (.int .i64 0), (.int .i64 0)]) := ⟨_, rfl, rfl, rfl, rfl⟩
instance ti29 : TI Try.prog 29 3 40 (.agg #[(.slice none 0 0), (.int .i64 0), (.int .i64 0)]) := ⟨_, rfl, rfl, rfl, rfl⟩
instance ti30 : TI Try.prog 30 1 8 (.int .i64 0) := ⟨_, rfl, rfl, rfl, rfl⟩
instance ti35 : TI Try.prog 35 1 24 (.slice none 0 0) := ⟨_, rfl, rfl, rfl, rfl⟩
instance ti47 : TI Try.prog 47 1 24 (.slice none 0 0) := ⟨_, rfl, rfl, rfl, rfl⟩
instance ti48 : TI Try.prog 48 1 8 (.int .u64 0) := ⟨_, rfl, rfl, rfl, rfl⟩
instance ti53 : TI Try.prog 53 1 24 (.slice none 0 0) := ⟨_, rfl, rfl, rfl, rfl⟩
instance ti54 : TI Try.prog 54 3 32 (.agg #[(.slice none 0 0), (.bool false), (.int .u8 0)]) := ⟨_, rfl, rfl, rfl, rfl⟩
instance ti55 : TI Try.prog 55 3 32 (.agg #[(.slice none 0 0), (.bool false), (.int .u8 0)]) := ⟨_, rfl, rfl, rfl, rfl⟩
instance ti61 : TI Try.prog 61 1 8 (.nilFunc) := ⟨_, rfl, rfl, rfl, rfl⟩
instance ti68 : TI Try.prog 68 1 8 (.int .u64 0) := ⟨_, rfl, rfl, rfl, rfl⟩
instance ti75 : TI Try.prog 75 2 32 (.agg #[(.int .i64 0), (.slice none 0 0)]) := ⟨_, rfl, rfl, rfl, rfl⟩
instance ti76 : TI Try.prog 76 2 32 (.agg #[(.int .i64 0), (.slice none 0 0)]) := ⟨_, rfl, rfl, rfl, rfl⟩
instance ti89 : TI Try.prog 89 128 128 (.agg #[(.int .u8 0), (.int .u8 0), (.int .u8 0), (.int .u8 0), (.int .u8 0), (.int .u8 0), (.int .u8 0), (.int .u8 0), (.int .u8 0), (.int .u8 0), (.int .u8 0), (.int .u8 0), (.int .u8 0), (.int .u8 0), (.int .u8 0), (.int .u8 0), (.int .u8 0), (.int .u8 0), (.int .u8 0), (.int .u8 0), (.int .u8 0), (.int .u8 0), (.int .u8 0), (.int .u8 0), (.int .u8 0), (.int .u8 0), (.int .u8 0), (.int .u8 0), (.int .u8 0), (.int .u8 0), (.int .u8 0), (.int .u8 0), (.int .u8 0), (.int .u8 0), (.int .u8 0), (.int .u8 0), (.int .u8 0), (.int .u8 0), (.int .u8 0), (.int .u8 0), (.int .u8 0), (.int .u8 0), (.int .u8 0), (.int .u8 0), (.int .u8 0), (.int .u8 0), (.int .u8 0), (.int .u8 0), (.int .u8 0), (.int .u8 0), (.int .u8 0), (.int .u8 0), (.int .u8 0), (.int .u8 0), (.int .u8 0), (.int .u8 0), (.int .u8 0), (.int .u8 0), (.int .u8 0), (.int .u8 0), (.int .u8 0), (.int .u8 0), (.int .u8 0), (.int .u8 0), (.int .u8 0), (.int .u8 0), (.int .u8 0), (.int .u8 0), (.int .u8 0), (.int .u8 0), (.int .u8 0), (.int .u8 0), (.int .u8 0), (.int .u8 0), (.int .u8 0), (.int .u8 0), (.int .u8 0), (.int .u8 0), (.int .u8 0), (.int .u8 0), (.int .u8 0), (.int .u8 0), (.int .u8 0), (.int .u8 0), (.int .u8 0), (.int .u8 0), (.int .u8 0), (.int .u8 0), (.int .u8 0), (.int .u8 0), (.int .u8 0), (.int .u8 0), (.int .u8 0), (.int .u8 0), (.int .u8 0), (.int .u8 0), (.int .u8 0), (.int .u8 0), (.int .u8 0), (.int .u8 0), (.int .u8 0), (.int .u8 0), (.int .u8 0), (.int .u8 0), (.int .u8 0), (.int .u8 0), (.int .u8 0), (.int .u8 0), (.int .u8 0), (.int .u8 0), (.int .u8 0), (.int .u8 0), (.int .u8 0), (.int .u8 0), (.int .u8 0), (.int .u8 0), (.int .u8 0), (.int .u8 0), (.int .u8 0), (.int .u8 0), (.int .u8 0), (.int .u8 0), (.int .u8 0), (.int .u8 0), (.int .u8 0), (.int .u8 0), (.int .u8 0), (.int .u8 0)]) := ⟨_, rfl, rfl, rfl, rfl⟩
instance ti91 : TI Try.prog 91 1 4 (.int .u32 0) := ⟨_, rfl, rfl, rfl, rfl⟩
instance ti112 : TI Try.prog 112 1 8 (.pointer none) := ⟨_, rfl, rfl, rfl, rfl⟩
instance ti115 : TI Try.prog 115 11 48 (.agg #[(.int .u64 0), (.int .u64 0), (.int .u32 0), (.int .u8 0), (.int .u8 0), (.int .u8 0), (.int .u8 0), .nilFunc, (.pointer none), (.int .i32 0), (.int .i32 0)]) := ⟨_, rfl, rfl, rfl, rfl⟩
end Go.Proofs.Ytmghnjahjeinnaa
