/- The types of this seat's translation, as far as the walks want them; the translation draws mixed orders. No conditions. -/
import Derived.Test.YtlmeofmhklpfdaaLtLoops
import Derived.Test.YtlmeofmhklpfdaaProg
import Derived.KernelRfl
namespace Go.Proofs.Ytlmeofmhklpfdaa
open Go.Lt
def T : Tab := [(2, ⟨.int .i64, 1, 8, .int .i64 0⟩),
  (3, ⟨.int .i64, 1, 8, .int .i64 0⟩),
  (4, ⟨.bool, 1, 1, .bool false⟩),
  (5, ⟨.int .u8, 1, 1, .int .u8 0⟩),
  (9, ⟨.string, 1, 16, .string ⟨#[]⟩⟩),
  (12, ⟨.int .u64, 1, 8, .int .u64 0⟩),
  (21, ⟨.int .i32, 1, 4, .int .i32 0⟩),
  (29, ⟨.slice 3, 1, 24, .slice none 0 0⟩),
  (32, ⟨.slice 59, 1, 24, .slice none 0 0⟩),
  (33, ⟨.slice 36, 1, 24, .slice none 0 0⟩),
  (36, ⟨.int .u64, 1, 8, .int .u64 0⟩),
  (38, ⟨.slice 4, 1, 24, .slice none 0 0⟩),
  (45, ⟨.slice 38, 1, 24, .slice none 0 0⟩),
  (48, ⟨.struct #[{ name := "Ones", type := 36, offset := 0, embedded := false, tag := "", pkgPath := "", byteOffset := 0 }, { name := "Zeros", type := 36, offset := 1, embedded := false, tag := "", pkgPath := "", byteOffset := 8 }], 2, 16, .agg #[.int .u64 0, .int .u64 0]⟩),
  (49, ⟨.struct #[{ name := "Ones", type := 36, offset := 0, embedded := false, tag := "", pkgPath := "", byteOffset := 0 }, { name := "Zeros", type := 36, offset := 1, embedded := false, tag := "", pkgPath := "", byteOffset := 8 }], 2, 16, .agg #[.int .u64 0, .int .u64 0]⟩),
  (58, ⟨.struct #[{ name := "A", type := 3, offset := 0, embedded := false, tag := "", pkgPath := "", byteOffset := 0 }, { name := "B", type := 3, offset := 1, embedded := false, tag := "", pkgPath := "", byteOffset := 8 }], 2, 16, .agg #[.int .i64 0, .int .i64 0]⟩),
  (59, ⟨.struct #[{ name := "A", type := 3, offset := 0, embedded := false, tag := "", pkgPath := "", byteOffset := 0 }, { name := "B", type := 3, offset := 1, embedded := false, tag := "", pkgPath := "", byteOffset := 8 }], 2, 16, .agg #[.int .i64 0, .int .i64 0]⟩),
  (61, ⟨.slice 29, 1, 24, .slice none 0 0⟩),
  (73, ⟨.int .i64, 1, 8, .int .i64 0⟩),
  (85, ⟨.pointer 93, 1, 8, .pointer none⟩),
  (89, ⟨.int .u64, 1, 8, .int .u64 0⟩),
  (91, ⟨.map 59 3, 1, 8, .map none⟩),
  (92, ⟨.struct #[{ name := "net", type := 32, offset := 0, embedded := false, tag := "", pkgPath := "latchet/aig", byteOffset := 0 }, { name := "gates", type := 91, offset := 1, embedded := false, tag := "", pkgPath := "latchet/aig", byteOffset := 24 }], 2, 32, .agg #[.slice none 0 0, .map none]⟩),
  (93, ⟨.struct #[{ name := "net", type := 32, offset := 0, embedded := false, tag := "", pkgPath := "latchet/aig", byteOffset := 0 }, { name := "gates", type := 91, offset := 1, embedded := false, tag := "", pkgPath := "latchet/aig", byteOffset := 24 }], 2, 32, .agg #[.slice none 0 0, .map none]⟩),
  (103, ⟨.int .u32, 1, 4, .int .u32 0⟩),
  (107, ⟨.pointer 5, 1, 8, .pointer none⟩)]
theorem tOk : OkTab Try.prog T := ⟨⟨by kernel_rfl, by kernel_rfl⟩, ⟨by kernel_rfl, by kernel_rfl⟩, ⟨by kernel_rfl, by kernel_rfl⟩, ⟨by kernel_rfl, by kernel_rfl⟩, ⟨by kernel_rfl, by kernel_rfl⟩, ⟨by kernel_rfl, by kernel_rfl⟩, ⟨by kernel_rfl, by kernel_rfl⟩, ⟨by kernel_rfl, by kernel_rfl⟩, ⟨by kernel_rfl, by kernel_rfl⟩, ⟨by kernel_rfl, by kernel_rfl⟩, ⟨by kernel_rfl, by kernel_rfl⟩, ⟨by kernel_rfl, by kernel_rfl⟩, ⟨by kernel_rfl, by kernel_rfl⟩, ⟨by kernel_rfl, by kernel_rfl⟩, ⟨by kernel_rfl, by kernel_rfl⟩, ⟨by kernel_rfl, by kernel_rfl⟩, ⟨by kernel_rfl, by kernel_rfl⟩, ⟨by kernel_rfl, by kernel_rfl⟩, ⟨by kernel_rfl, by kernel_rfl⟩, ⟨by kernel_rfl, by kernel_rfl⟩, ⟨by kernel_rfl, by kernel_rfl⟩, ⟨by kernel_rfl, by kernel_rfl⟩, ⟨by kernel_rfl, by kernel_rfl⟩, ⟨by kernel_rfl, by kernel_rfl⟩, ⟨by kernel_rfl, by kernel_rfl⟩, ⟨by kernel_rfl, by kernel_rfl⟩, trivial⟩

theorem tMix : Try.prog.follows .mixedOrders = true := by kernel_rfl
end Go.Proofs.Ytlmeofmhklpfdaa
