/- What is known of the types: printed by a program from the translation's table of types. -/
import Derived.Test.YtckcdokfhdckhaaRows
import Derived.Test.YtckcdokfhdckhaaFrame1
namespace Go.Proofs.Ytckcdokfhdckhaa
open Go Go.Fr
instance ti2 : TI Try.prog 2 1 8 (.int .i64 0) := ⟨_, rfl, rfl, rfl, rfl⟩
instance ti3 : TI Try.prog 3 1 8 (.int .i64 0) := ⟨_, rfl, rfl, rfl, rfl⟩
instance ti4 : TI Try.prog 4 1 1 (.bool false) := ⟨_, rfl, rfl, rfl, rfl⟩
instance ti5 : TI Try.prog 5 1 1 (.int .u8 0) := ⟨_, rfl, rfl, rfl, rfl⟩
instance ti9 : TI Try.prog 9 1 16 (.string .empty) := ⟨_, rfl, rfl, rfl, rfl⟩
instance ti12 : TI Try.prog 12 1 8 (.int .u64 0) := ⟨_, rfl, rfl, rfl, rfl⟩
instance ti17 : TI Try.prog 17 1 8 (.pointer none) := ⟨_, rfl, rfl, rfl, rfl⟩
instance ti20 : TI Try.prog 20 1 16 (.nilIface) := ⟨_, rfl, rfl, rfl, rfl⟩
instance ti21 : TI Try.prog 21 1 4 (.int .i32 0) := ⟨_, rfl, rfl, rfl, rfl⟩
instance ti22 : TI Try.prog 22 1 24 (.slice none 0 0) := ⟨_, rfl, rfl, rfl, rfl⟩
instance ti23 : TI Try.prog 23 1 24 (.slice none 0 0) := ⟨_, rfl, rfl, rfl, rfl⟩
instance ti24 : TI Try.prog 24 4 64 (.agg #[(.slice none 0 0), (.slice none 0 0), (.int .i64 0), (.bool false)]) := ⟨_, rfl, rfl, rfl, rfl⟩
instance ti25 : TI Try.prog 25 4 64 (.agg #[(.slice none 0 0), (.slice none 0 0), (.int .i64 0), (.bool false)]) := ⟨_, rfl, rfl, rfl, rfl⟩
instance ti28 : TI Try.prog 28 1 8 (.int .i64 0) := ⟨_, rfl, rfl, rfl, rfl⟩
instance ti35 : TI Try.prog 35 1 24 (.slice none 0 0) := ⟨_, rfl, rfl, rfl, rfl⟩
instance ti43 : TI Try.prog 43 1 24 (.slice none 0 0) := ⟨_, rfl, rfl, rfl, rfl⟩
instance ti44 : TI Try.prog 44 4 4 (.agg #[(.int .u8 0), (.int .u8 0), (.int .u8 0), (.int .u8 0)]) := ⟨_, rfl, rfl, rfl, rfl⟩
instance ti45 : TI Try.prog 45 3 3 (.agg #[(.bool false), (.int .u8 0), (.int .u8 0)]) := ⟨_, rfl, rfl, rfl, rfl⟩
instance ti46 : TI Try.prog 46 3 3 (.agg #[(.bool false), (.int .u8 0), (.int .u8 0)]) := ⟨_, rfl, rfl, rfl, rfl⟩
instance ti53 : TI Try.prog 53 2 32 (.agg #[(.int .i64 0), (.slice none 0 0)]) := ⟨_, rfl, rfl, rfl, rfl⟩
instance ti54 : TI Try.prog 54 2 32 (.agg #[(.int .i64 0), (.slice none 0 0)]) := ⟨_, rfl, rfl, rfl, rfl⟩
instance ti62 : TI Try.prog 62 1 8 (.nilFunc) := ⟨_, rfl, rfl, rfl, rfl⟩
instance ti66 : TI Try.prog 66 1 8 (.int .u64 0) := ⟨_, rfl, rfl, rfl, rfl⟩
instance ti73 : TI Try.prog 73 1 4 (.int .u32 0) := ⟨_, rfl, rfl, rfl, rfl⟩
instance ti76 : TI Try.prog 76 1 8 (.int .u64 0) := ⟨_, rfl, rfl, rfl, rfl⟩
instance ti89 : TI Try.prog 89 1 8 (.pointer none) := ⟨_, rfl, rfl, rfl, rfl⟩
instance ti92 : TI Try.prog 92 11 48 (.agg #[(.int .u64 0), (.int .u64 0), (.int .u32 0), (.int .u8 0), (.int .u8 0), (.int .u8 0), (.int .u8 0), .nilFunc, (.pointer none), (.int .i32 0), (.int .i32 0)]) := ⟨_, rfl, rfl, rfl, rfl⟩
end Go.Proofs.Ytckcdokfhdckhaa
