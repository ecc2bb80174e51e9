/- Part 2 of what the claim SigTells needs: lemmas and contracts, printed from longer texts. No conditions. -/
import Derived.Test.YtlcenenkloicjaaRows
import Derived.Lib.SmallJoins
import Derived.KernelRfl
import Derived.WalkKit
import Derived.ProofKit
import Derived.Deep.Quiet
import Derived.Deep.LoopGhost
import Derived.StillTail
import Derived.OpenShut
import Derived.ShutString
import Derived.ChangeOld
import Derived.Deep.Slices
import Derived.SizedLaws
import Derived.Laws.StructEq
import Derived.Laws.IdiomStrings
import Derived.Laws.Concat
import Derived.Test.YtlcenenkloicjaaProg
import Derived.Test.YtlcenenkloicjaaSigTellsP1
namespace Go.Proofs.Ytlcenenkloicjaa
open Go.Lt
def T : Tab := [(2, ⟨.int .i64, 1, 8, .int .i64 0⟩),
  (3, ⟨.int .i64, 1, 8, .int .i64 0⟩),
  (4, ⟨.bool, 1, 1, .bool false⟩),
  (5, ⟨.int .u8, 1, 1, .int .u8 0⟩),
  (9, ⟨.string, 1, 16, .string ⟨#[]⟩⟩),
  (12, ⟨.int .u64, 1, 8, .int .u64 0⟩),
  (21, ⟨.int .i32, 1, 4, .int .i32 0⟩),
  (22, ⟨.slice 70, 1, 24, .slice none 0 0⟩),
  (23, ⟨.int .u64, 1, 8, .int .u64 0⟩),
  (26, ⟨.slice 31, 1, 24, .slice none 0 0⟩),
  (28, ⟨.slice 33, 1, 24, .slice none 0 0⟩),
  (31, ⟨.slice 23, 1, 24, .slice none 0 0⟩),
  (33, ⟨.slice 3, 1, 24, .slice none 0 0⟩),
  (37, ⟨.slice 92, 1, 24, .slice none 0 0⟩),
  (38, ⟨.slice 94, 1, 24, .slice none 0 0⟩),
  (39, ⟨.slice 167, 1, 24, .slice none 0 0⟩),
  (40, ⟨.struct #[{ name := "Max", type := 3, offset := 0, embedded := false, tag := "", pkgPath := "", byteOffset := 0 }, { name := "Inputs", type := 33, offset := 1, embedded := false, tag := "", pkgPath := "", byteOffset := 8 }, { name := "Latches", type := 37, offset := 2, embedded := false, tag := "", pkgPath := "", byteOffset := 32 }, { name := "Outs", type := 33, offset := 3, embedded := false, tag := "", pkgPath := "", byteOffset := 56 }, { name := "Bads", type := 33, offset := 4, embedded := false, tag := "", pkgPath := "", byteOffset := 80 }, { name := "Cons", type := 33, offset := 5, embedded := false, tag := "", pkgPath := "", byteOffset := 104 }, { name := "Gates", type := 38, offset := 6, embedded := false, tag := "", pkgPath := "", byteOffset := 128 }, { name := "Symbols", type := 39, offset := 7, embedded := false, tag := "", pkgPath := "", byteOffset := 152 }, { name := "Comment", type := 9, offset := 8, embedded := false, tag := "", pkgPath := "", byteOffset := 176 }], 9, 192, .agg #[.int .i64 0, .slice none 0 0, .slice none 0 0, .slice none 0 0, .slice none 0 0, .slice none 0 0, .slice none 0 0, .slice none 0 0, .string ⟨#[]⟩]⟩),
  (41, ⟨.struct #[{ name := "Max", type := 3, offset := 0, embedded := false, tag := "", pkgPath := "", byteOffset := 0 }, { name := "Inputs", type := 33, offset := 1, embedded := false, tag := "", pkgPath := "", byteOffset := 8 }, { name := "Latches", type := 37, offset := 2, embedded := false, tag := "", pkgPath := "", byteOffset := 32 }, { name := "Outs", type := 33, offset := 3, embedded := false, tag := "", pkgPath := "", byteOffset := 56 }, { name := "Bads", type := 33, offset := 4, embedded := false, tag := "", pkgPath := "", byteOffset := 80 }, { name := "Cons", type := 33, offset := 5, embedded := false, tag := "", pkgPath := "", byteOffset := 104 }, { name := "Gates", type := 38, offset := 6, embedded := false, tag := "", pkgPath := "", byteOffset := 128 }, { name := "Symbols", type := 39, offset := 7, embedded := false, tag := "", pkgPath := "", byteOffset := 152 }, { name := "Comment", type := 9, offset := 8, embedded := false, tag := "", pkgPath := "", byteOffset := 176 }], 9, 192, .agg #[.int .i64 0, .slice none 0 0, .slice none 0 0, .slice none 0 0, .slice none 0 0, .slice none 0 0, .slice none 0 0, .slice none 0 0, .string ⟨#[]⟩]⟩),
  (42, ⟨.slice 4, 1, 24, .slice none 0 0⟩),
  (50, ⟨.pointer 104, 1, 8, .pointer none⟩),
  (56, ⟨.struct #[{ name := "Prop", type := 3, offset := 0, embedded := false, tag := "", pkgPath := "", byteOffset := 0 }, { name := "Near", type := 4, offset := 1, embedded := false, tag := "", pkgPath := "", byteOffset := 8 }, { name := "Out", type := 28, offset := 2, embedded := false, tag := "", pkgPath := "", byteOffset := 16 }, { name := "Into", type := 28, offset := 3, embedded := false, tag := "", pkgPath := "", byteOffset := 40 }], 4, 64, .agg #[.int .i64 0, .bool false, .slice none 0 0, .slice none 0 0]⟩),
  (57, ⟨.struct #[{ name := "Prop", type := 3, offset := 0, embedded := false, tag := "", pkgPath := "", byteOffset := 0 }, { name := "Near", type := 4, offset := 1, embedded := false, tag := "", pkgPath := "", byteOffset := 8 }, { name := "Out", type := 28, offset := 2, embedded := false, tag := "", pkgPath := "", byteOffset := 16 }, { name := "Into", type := 28, offset := 3, embedded := false, tag := "", pkgPath := "", byteOffset := 40 }], 4, 64, .agg #[.int .i64 0, .bool false, .slice none 0 0, .slice none 0 0]⟩),
  (69, ⟨.struct #[{ name := "A", type := 3, offset := 0, embedded := false, tag := "", pkgPath := "", byteOffset := 0 }, { name := "B", type := 3, offset := 1, embedded := false, tag := "", pkgPath := "", byteOffset := 8 }], 2, 16, .agg #[.int .i64 0, .int .i64 0]⟩),
  (70, ⟨.struct #[{ name := "A", type := 3, offset := 0, embedded := false, tag := "", pkgPath := "", byteOffset := 0 }, { name := "B", type := 3, offset := 1, embedded := false, tag := "", pkgPath := "", byteOffset := 8 }], 2, 16, .agg #[.int .i64 0, .int .i64 0]⟩),
  (71, ⟨.pointer 117, 1, 8, .pointer none⟩),
  (76, ⟨.struct #[{ name := "S", type := 23, offset := 0, embedded := false, tag := "", pkgPath := "", byteOffset := 0 }], 1, 8, .agg #[.int .u64 0]⟩),
  (77, ⟨.struct #[{ name := "S", type := 23, offset := 0, embedded := false, tag := "", pkgPath := "", byteOffset := 0 }], 1, 8, .agg #[.int .u64 0]⟩),
  (81, ⟨.map 9 3, 1, 8, .map none⟩),
  (82, ⟨.slice 87, 1, 24, .slice none 0 0⟩),
  (86, ⟨.struct #[{ name := "lits", type := 33, offset := 0, embedded := false, tag := "", pkgPath := "latchet/sig", byteOffset := 0 }, { name := "turned", type := 4, offset := 1, embedded := false, tag := "", pkgPath := "latchet/sig", byteOffset := 24 }], 2, 32, .agg #[.slice none 0 0, .bool false]⟩),
  (87, ⟨.struct #[{ name := "lits", type := 33, offset := 0, embedded := false, tag := "", pkgPath := "latchet/sig", byteOffset := 0 }, { name := "turned", type := 4, offset := 1, embedded := false, tag := "", pkgPath := "latchet/sig", byteOffset := 24 }], 2, 32, .agg #[.slice none 0 0, .bool false]⟩),
  (91, ⟨.struct #[{ name := "Lit", type := 3, offset := 0, embedded := false, tag := "", pkgPath := "", byteOffset := 0 }, { name := "Next", type := 3, offset := 1, embedded := false, tag := "", pkgPath := "", byteOffset := 8 }, { name := "Reset", type := 3, offset := 2, embedded := false, tag := "", pkgPath := "", byteOffset := 16 }], 3, 24, .agg #[.int .i64 0, .int .i64 0, .int .i64 0]⟩),
  (92, ⟨.struct #[{ name := "Lit", type := 3, offset := 0, embedded := false, tag := "", pkgPath := "", byteOffset := 0 }, { name := "Next", type := 3, offset := 1, embedded := false, tag := "", pkgPath := "", byteOffset := 8 }, { name := "Reset", type := 3, offset := 2, embedded := false, tag := "", pkgPath := "", byteOffset := 16 }], 3, 24, .agg #[.int .i64 0, .int .i64 0, .int .i64 0]⟩),
  (93, ⟨.struct #[{ name := "Lit", type := 3, offset := 0, embedded := false, tag := "", pkgPath := "", byteOffset := 0 }, { name := "A", type := 3, offset := 1, embedded := false, tag := "", pkgPath := "", byteOffset := 8 }, { name := "B", type := 3, offset := 2, embedded := false, tag := "", pkgPath := "", byteOffset := 16 }], 3, 24, .agg #[.int .i64 0, .int .i64 0, .int .i64 0]⟩),
  (94, ⟨.struct #[{ name := "Lit", type := 3, offset := 0, embedded := false, tag := "", pkgPath := "", byteOffset := 0 }, { name := "A", type := 3, offset := 1, embedded := false, tag := "", pkgPath := "", byteOffset := 8 }, { name := "B", type := 3, offset := 2, embedded := false, tag := "", pkgPath := "", byteOffset := 16 }], 3, 24, .agg #[.int .i64 0, .int .i64 0, .int .i64 0]⟩),
  (103, ⟨.struct #[{ name := "C", type := 41, offset := 0, embedded := false, tag := "", pkgPath := "", byteOffset := 0 }, { name := "N", type := 22, offset := 9, embedded := false, tag := "", pkgPath := "", byteOffset := 192 }, { name := "At", type := 33, offset := 10, embedded := false, tag := "", pkgPath := "", byteOffset := 216 }], 11, 240, .agg #[.int .i64 0, .slice none 0 0, .slice none 0 0, .slice none 0 0, .slice none 0 0, .slice none 0 0, .slice none 0 0, .slice none 0 0, .string ⟨#[]⟩, .slice none 0 0, .slice none 0 0]⟩),
  (104, ⟨.struct #[{ name := "C", type := 41, offset := 0, embedded := false, tag := "", pkgPath := "", byteOffset := 0 }, { name := "N", type := 22, offset := 9, embedded := false, tag := "", pkgPath := "", byteOffset := 192 }, { name := "At", type := 33, offset := 10, embedded := false, tag := "", pkgPath := "", byteOffset := 216 }], 11, 240, .agg #[.int .i64 0, .slice none 0 0, .slice none 0 0, .slice none 0 0, .slice none 0 0, .slice none 0 0, .slice none 0 0, .slice none 0 0, .string ⟨#[]⟩, .slice none 0 0, .slice none 0 0]⟩),
  (106, ⟨.pointer 127, 1, 8, .pointer none⟩),
  (112, ⟨.pointer 114, 1, 8, .pointer none⟩),
  (113, ⟨.struct #[{ name := "N", type := 22, offset := 0, embedded := false, tag := "", pkgPath := "", byteOffset := 0 }], 1, 24, .agg #[.slice none 0 0]⟩),
  (114, ⟨.struct #[{ name := "N", type := 22, offset := 0, embedded := false, tag := "", pkgPath := "", byteOffset := 0 }], 1, 24, .agg #[.slice none 0 0]⟩),
  (116, ⟨.struct #[{ name := "state", type := 23, offset := 0, embedded := false, tag := "", pkgPath := "latchet/rand", byteOffset := 0 }], 1, 8, .agg #[.int .u64 0]⟩),
  (117, ⟨.struct #[{ name := "state", type := 23, offset := 0, embedded := false, tag := "", pkgPath := "latchet/rand", byteOffset := 0 }], 1, 8, .agg #[.int .u64 0]⟩),
  (118, ⟨.int .u64, 1, 8, .int .u64 0⟩),
  (120, ⟨.slice 5, 1, 24, .slice none 0 0⟩),
  (121, ⟨.map 4 96, 1, 8, .map none⟩),
  (125, ⟨.map 70 3, 1, 8, .map none⟩),
  (126, ⟨.struct #[{ name := "net", type := 22, offset := 0, embedded := false, tag := "", pkgPath := "latchet/aig", byteOffset := 0 }, { name := "gates", type := 125, offset := 1, embedded := false, tag := "", pkgPath := "latchet/aig", byteOffset := 24 }], 2, 32, .agg #[.slice none 0 0, .map none]⟩),
  (127, ⟨.struct #[{ name := "net", type := 22, offset := 0, embedded := false, tag := "", pkgPath := "latchet/aig", byteOffset := 0 }, { name := "gates", type := 125, offset := 1, embedded := false, tag := "", pkgPath := "latchet/aig", byteOffset := 24 }], 2, 32, .agg #[.slice none 0 0, .map none]⟩),
  (133, ⟨.map 3 3, 1, 8, .map none⟩),
  (134, ⟨.pointer 144, 1, 8, .pointer none⟩),
  (136, ⟨.int .i64, 1, 8, .int .i64 0⟩),
  (142, ⟨.slice 149, 1, 24, .slice none 0 0⟩),
  (143, ⟨.struct #[{ name := "scores", type := 142, offset := 0, embedded := false, tag := "", pkgPath := "latchet/heap", byteOffset := 0 }, { name := "tree", type := 33, offset := 1, embedded := false, tag := "", pkgPath := "latchet/heap", byteOffset := 24 }, { name := "at", type := 33, offset := 2, embedded := false, tag := "", pkgPath := "latchet/heap", byteOffset := 48 }], 3, 72, .agg #[.slice none 0 0, .slice none 0 0, .slice none 0 0]⟩),
  (144, ⟨.struct #[{ name := "scores", type := 142, offset := 0, embedded := false, tag := "", pkgPath := "latchet/heap", byteOffset := 0 }, { name := "tree", type := 33, offset := 1, embedded := false, tag := "", pkgPath := "latchet/heap", byteOffset := 24 }, { name := "at", type := 33, offset := 2, embedded := false, tag := "", pkgPath := "latchet/heap", byteOffset := 48 }], 3, 72, .agg #[.slice none 0 0, .slice none 0 0, .slice none 0 0]⟩),
  (157, ⟨.int .u32, 1, 4, .int .u32 0⟩),
  (161, ⟨.pointer 5, 1, 8, .pointer none⟩),
  (166, ⟨.struct #[{ name := "Kind", type := 5, offset := 0, embedded := false, tag := "", pkgPath := "", byteOffset := 0 }, { name := "Index", type := 3, offset := 1, embedded := false, tag := "", pkgPath := "", byteOffset := 8 }, { name := "Name", type := 9, offset := 2, embedded := false, tag := "", pkgPath := "", byteOffset := 16 }], 3, 32, .agg #[.int .u8 0, .int .i64 0, .string ⟨#[]⟩]⟩),
  (167, ⟨.struct #[{ name := "Kind", type := 5, offset := 0, embedded := false, tag := "", pkgPath := "", byteOffset := 0 }, { name := "Index", type := 3, offset := 1, embedded := false, tag := "", pkgPath := "", byteOffset := 8 }, { name := "Name", type := 9, offset := 2, embedded := false, tag := "", pkgPath := "", byteOffset := 16 }], 3, 32, .agg #[.int .u8 0, .int .i64 0, .string ⟨#[]⟩]⟩)]
theorem tOk : OkTab Try.prog T := ⟨⟨by kernel_rfl, by kernel_rfl⟩, ⟨by kernel_rfl, by kernel_rfl⟩, ⟨by kernel_rfl, by kernel_rfl⟩, ⟨by kernel_rfl, by kernel_rfl⟩, ⟨by kernel_rfl, by kernel_rfl⟩, ⟨by kernel_rfl, by kernel_rfl⟩, ⟨by kernel_rfl, by kernel_rfl⟩, ⟨by kernel_rfl, by kernel_rfl⟩, ⟨by kernel_rfl, by kernel_rfl⟩, ⟨by kernel_rfl, by kernel_rfl⟩, ⟨by kernel_rfl, by kernel_rfl⟩, ⟨by kernel_rfl, by kernel_rfl⟩, ⟨by kernel_rfl, by kernel_rfl⟩, ⟨by kernel_rfl, by kernel_rfl⟩, ⟨by kernel_rfl, by kernel_rfl⟩, ⟨by kernel_rfl, by kernel_rfl⟩, ⟨by kernel_rfl, by kernel_rfl⟩, ⟨by kernel_rfl, by kernel_rfl⟩, ⟨by kernel_rfl, by kernel_rfl⟩, ⟨by kernel_rfl, by kernel_rfl⟩, ⟨by kernel_rfl, by kernel_rfl⟩, ⟨by kernel_rfl, by kernel_rfl⟩, ⟨by kernel_rfl, by kernel_rfl⟩, ⟨by kernel_rfl, by kernel_rfl⟩, ⟨by kernel_rfl, by kernel_rfl⟩, ⟨by kernel_rfl, by kernel_rfl⟩, ⟨by kernel_rfl, by kernel_rfl⟩, ⟨by kernel_rfl, by kernel_rfl⟩, ⟨by kernel_rfl, by kernel_rfl⟩, ⟨by kernel_rfl, by kernel_rfl⟩, ⟨by kernel_rfl, by kernel_rfl⟩, ⟨by kernel_rfl, by kernel_rfl⟩, ⟨by kernel_rfl, by kernel_rfl⟩, ⟨by kernel_rfl, by kernel_rfl⟩, ⟨by kernel_rfl, by kernel_rfl⟩, ⟨by kernel_rfl, by kernel_rfl⟩, ⟨by kernel_rfl, by kernel_rfl⟩, ⟨by kernel_rfl, by kernel_rfl⟩, ⟨by kernel_rfl, by kernel_rfl⟩, ⟨by kernel_rfl, by kernel_rfl⟩, ⟨by kernel_rfl, by kernel_rfl⟩, ⟨by kernel_rfl, by kernel_rfl⟩, ⟨by kernel_rfl, by kernel_rfl⟩, ⟨by kernel_rfl, by kernel_rfl⟩, ⟨by kernel_rfl, by kernel_rfl⟩, ⟨by kernel_rfl, by kernel_rfl⟩, ⟨by kernel_rfl, by kernel_rfl⟩, ⟨by kernel_rfl, by kernel_rfl⟩, ⟨by kernel_rfl, by kernel_rfl⟩, ⟨by kernel_rfl, by kernel_rfl⟩, ⟨by kernel_rfl, by kernel_rfl⟩, ⟨by kernel_rfl, by kernel_rfl⟩, ⟨by kernel_rfl, by kernel_rfl⟩, ⟨by kernel_rfl, by kernel_rfl⟩, ⟨by kernel_rfl, by kernel_rfl⟩, ⟨by kernel_rfl, by kernel_rfl⟩, ⟨by kernel_rfl, by kernel_rfl⟩, ⟨by kernel_rfl, by kernel_rfl⟩, ⟨by kernel_rfl, by kernel_rfl⟩, trivial⟩

theorem tMix : Try.prog.follows .mixedOrders = true := by kernel_rfl
section
open Go
variable {N : Nat} {e : Env} {w : World} {Q : Exit → Act → World → Prop} {K : Act → World → Prop} {C : World → Prop} {Kf : Act → Prop} {ops l : List Oper} {d : Nat} {tt : TypeId} {op : Op} {v : Value} {ps : String} {af : Array Edge} {g : Option (Nat × Bool)}
/-- One operation that yields a value: how, is found among what is known. -/
theorem WL.au (hg : gate ops e g = some true := by exact rfl) (hd : Nat.blt d N = true := by exact rfl) (h : Lt.YieldsIn Try.prog e (Same w) ⟨some d, op, tt, ps, af, g⟩ v := by first | (apply Yields.in; apply pev_yields tOk; exact rfl) | (apply yload tOk; exact rfl; exact rfl; exact rfl; (first | assumption | (focus (apply Ext.cell; rotate_left; assumption; exact extA; done)))) | (apply Yields.in; apply yadd; exact rfl; exact rfl; omega) | (apply Yields.in; apply ysub; exact rfl; exact rfl; omega) | (apply Yields.in; apply ymul; exact rfl; exact rfl; omega) | (apply Yields.in; apply yquo; exact rfl; exact rfl; omega) | (apply Yields.in; apply yrem; exact rfl; exact rfl; omega) | (apply yloadAgg tOk; exact rfl; exact rfl; exact rfl; (case hv => (first | assumption | (focus (apply Cells.ext; rotate_left; assumption; exact extA; done)))); exact rfl)) (k : WL Try.prog N ops.toArray l ((d, v) :: e) w Q) : WL Try.prog N ops.toArray (⟨some d, op, tt, ps, af, g⟩ :: l) e w Q := Lt.WL.step hg hd h k
theorem QL.au [Cls C w] (hg : gate ops e g = some true := by exact rfl) (hd : Nat.blt d N = true := by exact rfl) (h : Lt.YieldsIn Try.prog e C ⟨some d, op, tt, ps, af, g⟩ v := by first | (apply Yields.in; apply pev_yields tOk; exact rfl) | (apply yload tOk; exact rfl; exact rfl; exact rfl; (first | assumption | (focus (apply Ext.cell; rotate_left; assumption; exact extA; done)))) | (apply Yields.in; apply yadd; exact rfl; exact rfl; omega) | (apply Yields.in; apply ysub; exact rfl; exact rfl; omega) | (apply Yields.in; apply ymul; exact rfl; exact rfl; omega) | (apply Yields.in; apply yquo; exact rfl; exact rfl; omega) | (apply Yields.in; apply yrem; exact rfl; exact rfl; omega) | (apply yloadAgg tOk; exact rfl; exact rfl; exact rfl; (case hv => (first | assumption | (focus (apply Cells.ext; rotate_left; assumption; exact extA; done)))); exact rfl)) (k : QL Try.prog N C ops.toArray l ((d, v) :: e) Q) : QL Try.prog N C ops.toArray (⟨some d, op, tt, ps, af, g⟩ :: l) e Q := Lt.QL.step hg hd h k
theorem SL.au (hg : gate ops e g = some true := by exact rfl) (hd : Nat.blt d N = true := by exact rfl) (h : Lt.YieldsIn Try.prog e (Same w) ⟨some d, op, tt, ps, af, g⟩ v := by first | (apply Yields.in; apply pev_yields tOk; exact rfl) | (apply yload tOk; exact rfl; exact rfl; exact rfl; (first | assumption | (focus (apply Ext.cell; rotate_left; assumption; exact extA; done)))) | (apply Yields.in; apply yadd; exact rfl; exact rfl; omega) | (apply Yields.in; apply ysub; exact rfl; exact rfl; omega) | (apply Yields.in; apply ymul; exact rfl; exact rfl; omega) | (apply Yields.in; apply yquo; exact rfl; exact rfl; omega) | (apply Yields.in; apply yrem; exact rfl; exact rfl; omega) | (apply yloadAgg tOk; exact rfl; exact rfl; exact rfl; (case hv => (first | assumption | (focus (apply Cells.ext; rotate_left; assumption; exact extA; done)))); exact rfl)) (k : SL Try.prog N ops.toArray l ((d, v) :: e) w K) : SL Try.prog N ops.toArray (⟨some d, op, tt, ps, af, g⟩ :: l) e w K := Lt.SL.step hg hd h k
theorem FL.au (hg : gate ops e g = some true := by exact rfl) (hd : Nat.blt d N = true := by exact rfl) (h : Lt.YieldsIn Try.prog e C ⟨some d, op, tt, ps, af, g⟩ v := by first | (apply Yields.in; apply pev_yields tOk; exact rfl) | (apply Yields.in; apply yadd; exact rfl; exact rfl; omega) | (apply Yields.in; apply ysub; exact rfl; exact rfl; omega) | (apply Yields.in; apply ymul; exact rfl; exact rfl; omega) | (apply Yields.in; apply yquo; exact rfl; exact rfl; omega) | (apply Yields.in; apply yrem; exact rfl; exact rfl; omega)) (k : FL Try.prog N ops.toArray C l ((d, v) :: e) w Kf) : FL Try.prog N ops.toArray C (⟨some d, op, tt, ps, af, g⟩ :: l) e w Kf := Lt.FL.step hg hd h k
end
end Go.Proofs.Ytlcenenkloicjaa
namespace Go.Proofs.Ytlcenenkloicjaa
open Go Go.Lt Go.RowKit
set_option linter.unusedVariables false
set_option linter.unusedSimpArgs false
set_option maxRecDepth 20000

theorem eq_snoc {α : Type} {a b : List α} {k : Nat} {x y : α} (h : ∀ i, i < k → a[i]? = b[i]?) (hx : a[k]? = some x) (hy : b[k]? = some y) (hxy : x = y) : ∀ i, i < k + 1 → a[i]? = b[i]? := by
  intro i hi
  by_cases hik : i < k
  · exact h i hik
  · obtain rfl : i = k := by omega
    rw [hx, hy, hxy]
theorem eq_all {α : Type} {a b : List α} {k : Nat} (h : ∀ i, i < k → a[i]? = b[i]?) (hl : a.length = b.length) (hk : a.length ≤ k) : a = b := by
  apply List.ext_getElem?
  intro i
  by_cases hi : i < k
  · exact h i hi
  · rw [List.getElem?_eq_none (by omega), List.getElem?_eq_none (by omega)]
theorem ne_at {α : Type} {a b : List α} {k : Nat} {x y : α} (hx : a[k]? = some x) (hy : b[k]? = some y) (hxy : ¬ x = y) : ¬ a = b := by
  rintro rfl
  rw [hx] at hy
  exact hxy (Option.some.inj hy)

theorem ref_Ints (aa ab : Option Addr) (ca cb : Nat) (la lb : List Int) (w : World) (Ra : Row 1 encI w aa la) (Rb : Row 1 encI w ab lb) : Still Try.prog 14 [.slice aa la.length ca, .slice ab lb.length cb] w (.bool (dec (la = lb))) := by
  have hla := Ra.len
  have hlb := Rb.len
  refine Spec.of _ Try.func14 rfl Try.ntmps14 (by kernel_rfl) rfl ?_
  by_cases hlen : la.length = lb.length
  · repeat' (first
      | (apply W.condKF; exact rfl; (focus (exact dec_false (by omega); done)))
      | (show WL _ _ _ _ _ _ _; first | apply WL.nil | (refine WL.au (k := ?_)))
      | (show Z _ _ _ _ _; apply Z.then_normal)
      | (show W _ _ _ _ _ _; first | apply W.seq | apply W.region | apply W.block | apply W.skip)
      | fail)
    refine W.loop1 la.length (fun k => k ≤ la.length ∧ ∀ i, i < k → la[i]? = lb[i]?) (fun k => [(0, .slice aa la.length ca), (1, .slice ab lb.length cb), (5, .int .i64 k)]) ⟨by omega, fun i hi => by omega⟩ (fun k h => h.1) ⟨rfl, rfl, rfl, trivial⟩ ?_
    rintro k ⟨hk, heq⟩
    by_cases hlt : k < la.length
    · obtain ⟨x, hx⟩ := getI la hlt
      obtain ⟨y, hy⟩ := getI lb (show k < lb.length by omega)
      repeat' (first
        | (apply W.condKT; exact rfl; (focus (exact dec_true (by omega); done)))
        | (show WL _ _ _ _ _ _ _; first | apply WL.nil | (refine WL.au (k := ?_)))
        | (show QL _ _ _ _ _ _ _; first | apply QL.nil | (refine QL.au (k := ?_)) | (apply QL.index tOk; exact rfl; exact rfl; exact rfl; exact rfl; exact rfl; exact rfl; exact rfl; exact rfl; assumption; (exact extA); exact rfl; omega; assumption; intro b off h; have hcc := h; first | (obtain ⟨h1, h2, h3, h4, h5, h6, _⟩ := h) | (obtain ⟨h1, h2, h3, _⟩ := h) | (obtain ⟨h1, h2, _⟩ := h) | (obtain ⟨h1, _⟩ := h)))
        | (show Z _ _ _ _ _; first | apply Z.then_normal | apply Z.block_normal | apply Z.then_ret | apply Z.block_ret)
        | (show W _ _ _ _ _ _; first | apply W.seq | apply W.region | apply W.block | apply W.skip | apply W.ret | (apply W.condD; exact rfl; all_goals intro _) | (apply W.regionD tMix; kernel_rfl))
        | fail)
      · exact Z.body1 Try.results14 rfl fun m => ⟨congrArg Value.bool (dec_false (ne_at hx hy (by assumption))).symm, m, rfl⟩
      · exact Z.again1 ⟨by omega, eq_snoc heq hx hy (by omega)⟩ ⟨rfl, rfl, rfl, trivial⟩
    · repeat' (first
        | (apply W.condKF; exact rfl; (focus (exact dec_false (by omega); done)))
        | (show WL _ _ _ _ _ _ _; first | apply WL.nil | (refine WL.au (k := ?_)))
        | (show Z _ _ _ _ _; first | apply Z.then_normal | apply Z.then_exit | apply Z.block_exit)
        | (show W _ _ _ _ _ _; first | apply W.seq | apply W.region | apply W.ret | apply W.exit)
        | fail)
      exact Z.body1 Try.results14 rfl fun m => ⟨congrArg Value.bool (dec_true (eq_all heq hlen (by omega))).symm, m, rfl⟩
  · repeat' (first
      | (apply W.condKT; exact rfl; (focus (exact dec_true (by omega); done)))
      | (show WL _ _ _ _ _ _ _; first | apply WL.nil | (refine WL.au (k := ?_)))
      | (show Z _ _ _ _ _; first | apply Z.then_normal | apply Z.then_ret)
      | (show W _ _ _ _ _ _; first | apply W.seq | apply W.region | apply W.ret)
      | fail)
    exact Z.body1 Try.results14 rfl fun m => ⟨congrArg Value.bool (dec_false (fun h => hlen (by rw [h]))).symm, m, rfl⟩

def badNode (i : Nat) (x : Int × Int) : Prop := 0 ≤ x.1 ∧ (2 * (i : Int) + 1 < x.1 ∨ x.2 < 0 ∨ 2 * (i : Int) + 1 < x.2)
def GoodNet (n : List (Int × Int)) : Prop := ∀ i x, n[i]? = some x → ¬ badNode i x
theorem GoodNet.gate {n : List (Int × Int)} (h : GoodNet n) {k : Nat} {x : Int × Int} (hx : n[k]? = some x) (h0 : 0 ≤ x.1) : x.1 ≤ 2 * k + 1 ∧ 0 ≤ x.2 ∧ x.2 ≤ 2 * k + 1 := by
  have := h k x hx; unfold badNode at this; omega
open Classical in
noncomputable def check (n : List (Int × Int)) : Int := if 1048576 < n.length then 4 else if GoodNet n then 0 else 5

theorem ref07_Check (a : Option Addr) (cap : Nat) (n : List (Int × Int)) (w : World) (R : Row 2 encN w a n) : Still Try.prog 41 [.slice a n.length cap] w (.int .i64 (check n)) := by
  have hlen := R.len
  refine Spec.of _ Try.func41 rfl Try.ntmps41 (by kernel_rfl) rfl ?_
  repeat' (first
    | (show WL _ _ _ _ _ _ _; first | apply WL.nil | (refine WL.au (k := ?_)))
    | (show Z _ _ _ _ _; first | apply Z.then_normal | apply Z.then_ret)
    | (show W _ _ _ _ _ _; first | apply W.seq | apply W.region | apply W.block | apply W.skip | apply W.ret | (apply W.condD; exact rfl; all_goals intro _))
    | fail)
  · exact Z.body1 Try.results41 rfl fun m => ⟨by rw [check, if_pos (by omega)], m, rfl⟩
  · refine W.loop1 n.length (fun k => k ≤ n.length ∧ ∀ i x, i < k → n[i]? = some x → ¬ badNode i x) (fun k => [(0, .slice a n.length cap), (3, .int .i64 k)]) ⟨by omega, by intro i x hi; omega⟩ (fun k h => h.1) ⟨rfl, rfl, trivial⟩ ?_
    rintro k ⟨hk, hgood⟩
    by_cases hlt : k < n.length
    · obtain ⟨x, hx⟩ := getI n hlt
      have hnext : ¬ badNode k x → ∀ i y, i < k + 1 → n[i]? = some y → ¬ badNode i y := fun hb i y hi hy => by
          by_cases h : i < k
          · exact hgood i y h hy
          · obtain rfl : i = k := by omega
            rw [hx] at hy; cases hy; exact hb
      repeat' (first
        | (apply W.condKT; exact rfl; (focus (exact dec_true (by omega); done)))
        | (show WL _ _ _ _ _ _ _; first | apply WL.nil | (refine WL.au (k := ?_)) | (apply WL.index tOk; exact rfl; exact rfl; exact rfl; exact rfl; exact rfl; exact rfl; exact rfl; exact rfl; assumption; (exact extA); exact rfl; omega; assumption; intro b off h; have hcc := h; first | (obtain ⟨h1, h2, h3, h4, h5, h6, _⟩ := h) | (obtain ⟨h1, h2, h3, _⟩ := h) | (obtain ⟨h1, h2, _⟩ := h) | (obtain ⟨h1, _⟩ := h)) | (apply WL.guardF; exact rfl; exact rfl) | (apply WL.gD; exact rfl; exact rfl; all_goals intro _))
        | (show Z _ _ _ _ _; first | apply Z.then_normal | apply Z.block_normal | apply Z.then_ret | apply Z.block_ret)
        | (show W _ _ _ _ _ _; first | apply W.seq | apply W.region | apply W.block | apply W.skip | apply W.ret | (apply W.condT; exact rfl) | (apply W.condF; exact rfl) | (apply W.condD; exact rfl; all_goals intro _))
        | fail)
      all_goals first
        | (exfalso; omega)
        | exact Z.again1 ⟨by omega, hnext (by unfold badNode; omega)⟩ ⟨rfl, rfl, trivial⟩
        | (refine Z.body1 Try.results41 rfl fun m => ⟨?_, m, rfl⟩
           rw [check, if_neg (by omega), if_neg (fun hg => hg k x hx (by unfold badNode; omega))])
    · repeat' (first
        | (apply W.condKF; exact rfl; (focus (exact dec_false (by omega); done)))
        | (show WL _ _ _ _ _ _ _; first | apply WL.nil | (refine WL.au (k := ?_)))
        | (show Z _ _ _ _ _; first | apply Z.then_normal | apply Z.then_exit | apply Z.block_exit)
        | (show W _ _ _ _ _ _; first | apply W.seq | apply W.region | apply W.ret | apply W.exit)
        | fail)
      (refine Z.body1 Try.results41 rfl fun m => ⟨?_, m, rfl⟩
       rw [check, if_neg (by omega), if_pos (show GoodNet n from fun i x hx => hgood i x (by have := (List.getElem?_eq_some_iff.1 hx).1; omega) hx)])

theorem check_zero {n : List (Int × Int)} (h : n.length ≤ 1048576) : check n = 0 ↔ GoodNet n := by
  unfold check; rw [if_neg (by omega)]; split <;> simp_all

theorem law07_Small (a : Option Addr) (cap : Nat) (n : List (Int × Int)) (most : Int) (w : World) (R : Row 2 encN w a n) (hm : most ≤ 1048576) : Still Try.prog 7 [.slice a n.length cap, .int .i64 most] w (.bool (dec ((n.length : Int) ≤ most ∧ GoodNet n))) := by
  have hlen := R.len
  refine Spec.of _ Try.func7 rfl Try.ntmps7 (by kernel_rfl) rfl ?_
  repeat' (first
    | ((show WL _ _ _ (⟨_, .call ⟨.value (.func 41), _, _⟩, _, _, _, _⟩ :: _) _ _ _); apply WL.callS; exact rfl; exact rfl; exact rfl; exact rfl; exact ref07_Check _ _ _ _ R)
    | (show WL _ _ _ _ _ _ _; first | apply WL.nil | (refine WL.au (k := ?_)) | (apply WL.guardF; exact rfl; exact rfl) | (apply WL.gD; exact rfl; exact rfl; all_goals intro _))
    | (show Z _ _ _ _ _; apply Z.then_normal)
    | (show W _ _ _ _ _ _; first | apply W.seq | apply W.region | apply W.ret)
    | fail)
  · refine Z.body1 Try.results7 rfl fun m => ⟨congrArg Value.bool (dec_congr ?_), m, rfl⟩
    rw [check_zero (by omega)]
    exact ⟨fun h => ⟨by omega, h⟩, fun h => h.2⟩
  · exact Z.body1 Try.results7 rfl fun m => ⟨congrArg Value.bool (dec_false (fun h => by omega)).symm, m, rfl⟩

end Go.Proofs.Ytlcenenkloicjaa
namespace Go.Proofs.Ytlcenenkloicjaa
open Go Go.Lt Go.RowKit
set_option linter.unusedVariables false
set_option linter.unusedSimpArgs false
set_option maxRecDepth 20000

def wordOf (v : List (BitVec 64)) (l : Int) : BitVec 64 :=
  if l < 0 ∨ (v.length ≤ l / 2 ∧ 0 < l / 2) then 0#64
  else if l % 2 = 1 then ~~~ (if 0 < l / 2 then v.getD (l / 2).toNat 0#64 else 0#64) else (if 0 < l / 2 then v.getD (l / 2).toNat 0#64 else 0#64)
theorem sim_Word (a : Option Addr) (cap : Nat) (v : List (BitVec 64)) (l : Int) (w : World) (R : Row 1 encV w a v) (hl : inI64 l) : Still Try.prog 80 [.slice a v.length cap, .int .i64 l] w (u64 (wordOf v l)) := by
  unfold inI64 at hl
  have hlen := R.len
  by_cases h0 : l < 0
  · refine Spec.of _ Try.func80 rfl Try.ntmps80 (by kernel_rfl) rfl ?_
    repeat' (first
      | (apply WL.gT; exact rfl; exact rfl; (focus (first | exact dec_true (by omega) | exact dec_false (by omega); done)))
      | (apply WL.quow; exact rfl; exact rfl; exact rfl; exact rfl; unfold inI64; omega)
      | (show WL _ _ _ _ _ _ _; first | apply WL.nil | (refine WL.au (k := ?_)) | (apply WL.guardF; exact rfl; exact rfl))
      | (show Z _ _ _ _ _; first | apply Z.then_normal | apply Z.then_ret | apply Z.block_ret)
      | (show W _ _ _ _ _ _; first | apply W.seq | apply W.region | apply W.block | apply W.ret | (apply W.condT; exact rfl))
      | fail)
    all_goals (refine Z.body1 Try.results80 rfl fun m => ⟨?_, m, rfl⟩; rw [wordOf, if_pos (.inl h0)]; rfl)
  by_cases h1 : v.length ≤ l / 2 ∧ 0 < l / 2
  · refine Spec.of _ Try.func80 rfl Try.ntmps80 (by kernel_rfl) rfl ?_
    repeat' (first
      | (apply WL.gT; exact rfl; exact rfl; (focus (first | exact dec_true (by omega) | exact dec_false (by omega); done)))
      | (apply WL.gF; exact rfl; exact rfl; (focus (first | exact dec_true (by omega) | exact dec_false (by omega); done)))
      | (apply W.condKT; exact rfl; (focus (first | exact dec_true (by omega) | exact dec_false (by omega); done)))
      | (show WL _ _ _ _ _ _ _; first | apply WL.nil | (refine WL.au (k := ?_)))
      | (show Z _ _ _ _ _; first | apply Z.then_normal | apply Z.then_ret | apply Z.block_ret)
      | (show W _ _ _ _ _ _; first | apply W.seq | apply W.region | apply W.block | apply W.ret)
      | fail)
    exact Z.body1 Try.results80 rfl fun m => ⟨by rw [wordOf, if_pos (.inr h1)]; rfl, m, rfl⟩
  by_cases h2 : 0 < l / 2
  · obtain ⟨z, hz⟩ := getI v (show (l / 2).toNat < v.length by omega)
    refine Spec.of _ Try.func80 rfl Try.ntmps80 (by kernel_rfl) rfl ?_
    repeat' (first
      | (apply WL.gF; exact rfl; exact rfl; (focus (first | exact dec_true (by omega) | exact dec_false (by omega); done)))
      | (apply W.condKT; exact rfl; (focus (first | exact dec_true (by omega) | exact dec_false (by omega); done)))
      | (apply WL.unot; exact rfl; exact rfl; exact rfl; (first | exact rfl | exact u64_lit _ (by omega)))
      | (apply WL.and1; exact rfl; exact rfl; exact rfl; exact rfl; omega)
      | (show WL _ _ _ _ _ _ _; first | apply WL.nil | (refine WL.au (k := ?_)) | (apply WL.index tOk; exact rfl; exact rfl; exact rfl; exact rfl; exact rfl; exact rfl; exact rfl; exact rfl; assumption; (exact extA); exact rfl; omega; assumption; intro b off h; have hcc := h; first | (obtain ⟨h1, h2, h3, h4, h5, h6, _⟩ := h) | (obtain ⟨h1, h2, h3, _⟩ := h) | (obtain ⟨h1, h2, _⟩ := h) | (obtain ⟨h1, _⟩ := h)) | (apply WL.guardF; exact rfl; exact rfl))
      | (show Z _ _ _ _ _; first | apply Z.then_normal | apply Z.block_normal | apply Z.then_ret)
      | (show W _ _ _ _ _ _; first | apply W.seq | apply W.region | apply W.block | apply W.skip | apply W.ret | (apply W.condF; exact rfl) | (apply W.condD; exact rfl; all_goals intro _))
      | fail)
    all_goals (refine Z.body1 Try.results80 rfl fun m => ⟨?_, m, rfl⟩; rw [wordOf, if_neg (by omega)]; (first | rw [if_pos (by assumption)] | rw [if_neg (by assumption)]); rw [if_pos h2, getD_of hz])
  · refine Spec.of _ Try.func80 rfl Try.ntmps80 (by kernel_rfl) rfl ?_
    repeat' (first
      | (apply WL.gF; exact rfl; exact rfl; (focus (first | exact dec_true (by omega) | exact dec_false (by omega); done)))
      | (apply W.condKF; exact rfl; (focus (first | exact dec_true (by omega) | exact dec_false (by omega); done)))
      | (apply WL.unot; exact rfl; exact rfl; exact rfl; (first | exact rfl | exact u64_lit _ (by omega)))
      | (apply WL.and1; exact rfl; exact rfl; exact rfl; exact rfl; omega)
      | (show WL _ _ _ _ _ _ _; first | apply WL.nil | (refine WL.au (k := ?_)) | (apply WL.guardF; exact rfl; exact rfl) | (apply WL.gD; exact rfl; exact rfl; all_goals intro _))
      | (show Z _ _ _ _ _; first | apply Z.then_normal | apply Z.block_normal | apply Z.then_ret)
      | (show W _ _ _ _ _ _; first | apply W.seq | apply W.region | apply W.block | apply W.skip | apply W.ret | (apply W.condF; exact rfl) | (apply W.condD; exact rfl; all_goals intro _))
      | fail)
    all_goals (refine Z.body1 Try.results80 rfl fun m => ⟨?_, m, rfl⟩; rw [wordOf, if_neg (by omega)]; (first | rw [if_pos (by assumption)] | rw [if_neg (by assumption)]); rw [if_neg h2]; rfl)

end Go.Proofs.Ytlcenenkloicjaa
namespace Go.Proofs.Ytlcenenkloicjaa
open Go Go.Lt Go.RowKit
set_option linter.unusedVariables false
set_option linter.unusedSimpArgs false
set_option maxRecDepth 20000

def wstep (ins : List (BitVec 64)) (s : List (BitVec 64) × Nat) (x : Int × Int) : List (BitVec 64) × Nat :=
  if 0 ≤ x.1 then (s.1 ++ [wordOf s.1 x.1 &&& wordOf s.1 x.2], s.2) else (s.1 ++ [ins.getD s.2 0#64], s.2 + 1)
def wto (n : List (Int × Int)) (ins : List (BitVec 64)) (k : Nat) : List (BitVec 64) × Nat := (n.take k).foldl (wstep ins) ([0#64], 0)
def wvalues (n : List (Int × Int)) (ins : List (BitVec 64)) : List (BitVec 64) := (wto n ins n.length).1
theorem wto_succ {n : List (Int × Int)} {k : Nat} {x : Int × Int} (ins : List (BitVec 64)) (h : n[k]? = some x) : wto n ins (k + 1) = wstep ins (wto n ins k) x := by
  unfold wto; rw [take_succ' h, List.foldl_append]; rfl
theorem wto_len (n : List (Int × Int)) (ins : List (BitVec 64)) : ∀ k, k ≤ n.length → (wto n ins k).1.length = k + 1 ∧ (wto n ins k).2 ≤ k
  | 0, _ => by simp [wto]
  | k + 1, h => by
    obtain ⟨x, hx⟩ := getI n (show k < n.length by omega)
    have ih := wto_len n ins k (by omega)
    rw [wto_succ ins hx]; unfold wstep
    split <;> simp <;> omega

theorem sim_Words (a b : Option Addr) (cap cb : Nat) (n : List (Int × Int)) (ins : List (BitVec 64)) (w : World) (R : Row 2 encN w a n) (Rb : Row 1 encV w b ins) (hcb : ins.length ≤ cb) (hg : GoodNet n) (hn : n.length ≤ 1048576) :
    Lt.Spec Try.prog 45 [.slice a n.length cap, .slice b ins.length cb] w (IsFresh 1 encV 23 w (wvalues n ins)) := by
  have hlen := Rb.len
  refine Spec.of _ Try.func45 rfl Try.ntmps45 (by kernel_rfl) rfl ?_
  repeat' (first
    | (apply WL.makeC (w0 := w) (z := 0#64) tOk; exact rfl; exact rfl; exact rfl; exact rfl; exact rfl; exact rfl; exact rfl; exact rfl; exact rfl; exact encV_ok; exact rfl; exact rfl; (exact extA); (first | omega | (simp; omega) | (simp at *; omega)); intro gb w' hO hge hx)
    | (show WL _ _ _ _ _ _ _; first | apply WL.nil | (refine WL.au (k := ?_)))
    | (show Z _ _ _ _ _; apply Z.then_normal)
    | (show W _ _ _ _ _ _; first | apply W.seq | apply W.region | apply W.block)
    | fail)
  refine W.loopO2 n.length (fun k c cp b dp w' => k ≤ n.length ∧ Ext w w' ∧ Own 1 encV 23 w.heap.size w' c cp (wto n ins k).1 ∧ Row 1 encV w b (ins.drop (wto n ins k).2) ∧ (ins.drop (wto n ins k).2).length ≤ dp)
    (fun k c cp b dp => [(0, .slice a n.length cap), (1, .slice b (ins.drop (wto n ins k).2).length dp), (5, .slice c (wto n ins k).1.length cp), (13, .slice a n.length cap), (14, .int .i64 n.length), (15, .int .i64 k)])
    (some ⟨gb, 0, none⟩) _ b cb ⟨by omega, hx, hO, Rb, hcb⟩ (fun k c cp b dp w' h => h.1) ⟨rfl, rfl, rfl, rfl, rfl, rfl, trivial⟩ ?_
  rintro k c cp ba dp w' ⟨hk, hx', hO', Rb', hdp⟩
  have hvl := wto_len n ins k hk
  by_cases hlt : k < n.length
  · obtain ⟨x, hxn⟩ := getI n hlt
    have hs := wto_succ ins hxn
    by_cases hin : 0 ≤ x.1
    · have hgt := hg.gate hxn hin
      have e2 : (wto n ins (k + 1)).2 = (wto n ins k).2 := by rw [hs, wstep, if_pos hin]
      have e1 : (wto n ins (k + 1)).1 = (wto n ins k).1 ++ [wordOf (wto n ins k).1 x.1 &&& wordOf (wto n ins k).1 x.2] := by rw [hs, wstep, if_pos hin]
      repeat' (first
        | (apply W.condKT; exact rfl; (focus (first | exact dec_true (by omega) | exact dec_false (by omega); done)))
        | (apply QL.uand; exact rfl; exact rfl; exact rfl; exact rfl; (first | exact rfl | exact u64_lit _ (by omega)); (first | exact rfl | exact u64_lit _ (by omega)))
        | (apply WL.alloc tOk; exact rfl; exact rfl; exact rfl; intro gb w' hb hge hx)
        | (apply WL.storeB (w0 := w) tOk; exact rfl; exact rfl; exact rfl; exact rfl; assumption; (exact extA); exact rfl; exact rfl; exact rfl; (exact extA); (first | assumption | omega | (focus (apply Nat.le_trans; rotate_left; assumption; exact Below.size (by (exact extA)); done))); intro w' hb hc hX' hU; have hcc := hc; obtain ⟨h1, h2, _⟩ := hc; have hO3 := Upd.own hU (Own.ext hO' hx) (Own.blk_ne hO' hge))
        | ((show QL _ _ _ _ (⟨_, .call ⟨.value (.func 80), _, _⟩, _, _, _, _⟩ :: _) _ _); apply QL.callS; exact rfl; exact rfl; exact rfl; exact rfl; exact sim_Word _ _ _ _ _ (Own.row encV_ok (by assumption)) (by unfold inI64; omega))
        | (apply WL.lit tOk; exact rfl; exact rfl; exact rfl; exact rfl; exact rfl; exact rfl; (first | exact rfl | kernel_rfl | (simp [Instr.fill, catCells]; done)); exact rfl; intro gb w' hb hge hc hx)
        | (apply WL.append1 tOk encV_ok; exact rfl; exact rfl; exact rfl; exact rfl; exact rfl; exact rfl; exact rfl; exact rfl; exact rfl; exact rfl; assumption; (exact extA); (first | exact rfl | (focus (simp only [List.length_set]; done)) | (focus (simp; done)) | (focus (simp [*]; done)) | omega | (focus (simp only [List.length_set]; omega))); assumption; (first | exact rfl | exact (rfl : encV (_, _) = _)); exact rfl; (exact extA); (first | omega | (simp; omega) | (simp at *; omega)); intro a' cap' w' hO hX' hU hF)
        | (show WL _ _ _ _ _ _ _; first | apply WL.nil | (refine WL.au (k := ?_)) | (apply WL.index tOk; exact rfl; exact rfl; exact rfl; exact rfl; exact rfl; exact rfl; exact rfl; exact rfl; assumption; (exact extA); exact rfl; omega; assumption; intro b off h; have hcc := h; first | (obtain ⟨h1, h2, h3, h4, h5, h6, _⟩ := h) | (obtain ⟨h1, h2, h3, _⟩ := h) | (obtain ⟨h1, h2, _⟩ := h) | (obtain ⟨h1, _⟩ := h)))
        | (show QL _ _ _ _ _ _ _; first | apply QL.nil | (refine QL.au (k := ?_)))
        | (show Z _ _ _ _ _; first | apply Z.then_normal | apply Z.block_normal)
        | (show W _ _ _ _ _ _; first | apply W.seq | apply W.region | apply W.block | apply W.skip | (apply W.regionD tMix; kernel_rfl))
        | fail)
      exact Z.againO2 a' cap' ba dp ⟨by omega, hX', by rw [e1]; exact hO, by rw [e2]; exact Rb', by rw [e2]; exact hdp⟩ (by repeat' first | exact trivial | (refine And.intro ?_ ?_) | exact rfl | (rw [e1]; exact rfl) | (rw [e2]; exact rfl))
    · have e2 : (wto n ins (k + 1)).2 = (wto n ins k).2 + 1 := by rw [hs, wstep, if_neg hin]
      have e1 : (wto n ins (k + 1)).1 = (wto n ins k).1 ++ [ins.getD (wto n ins k).2 0#64] := by rw [hs, wstep, if_neg hin]
      by_cases hki : (wto n ins k).2 < ins.length
      · obtain ⟨z, hz⟩ := getI ins hki
        have hz' : (ins.drop (wto n ins k).2)[0]? = some z := by rw [List.getElem?_drop]; exact hz
        have hdl : 0 < (ins.drop (wto n ins k).2).length := by rw [List.length_drop]; omega
        rw [getD_of hz] at e1
        have e3 : (ins.drop (wto n ins k).2).drop 1 = ins.drop (wto n ins (k + 1)).2 := by rw [e2, List.drop_drop]
        repeat' (first
          | (apply W.condKT; exact rfl; (focus (first | exact dec_true (by omega) | exact dec_false (by omega); done)))
          | (apply W.condKF; exact rfl; (focus (first | exact dec_true (by omega) | exact dec_false (by omega); done)))
          | (apply WL.alloc tOk; exact rfl; exact rfl; exact rfl; intro gb w' hb hge hx)
          | (apply WL.storeB (w0 := w) tOk; exact rfl; exact rfl; exact rfl; exact rfl; assumption; (exact extA); exact rfl; exact rfl; exact rfl; (exact extA); (first | assumption | omega | (focus (apply Nat.le_trans; rotate_left; assumption; exact Below.size (by (exact extA)); done))); intro w' hb hc hX' hU; have hcc := hc; obtain ⟨h1, h2, _⟩ := hc; have hO3 := Upd.own hU (Own.ext hO' hx) (Own.blk_ne hO' hge))
          | (apply QL.sliceL tOk; exact rfl; exact rfl; exact rfl; exact rfl; exact rfl; exact rfl; exact rfl; exact rfl; assumption; (first | exact rfl | (focus (simp only [List.length_set]; done)) | (focus (simp; done)) | (focus (simp [*]; done)) | omega | (focus (simp only [List.length_set]; omega))); (first | assumption | omega); (first | omega | (simp; omega) | (simp at *; omega)); intro as' cs' hR hcs)
          | (apply WL.lit tOk; exact rfl; exact rfl; exact rfl; exact rfl; exact rfl; exact rfl; (first | exact rfl | kernel_rfl | (simp [Instr.fill, catCells]; done)); exact rfl; intro gb w' hb hge hc hx)
          | (apply WL.append1 tOk encV_ok; exact rfl; exact rfl; exact rfl; exact rfl; exact rfl; exact rfl; exact rfl; exact rfl; exact rfl; exact rfl; assumption; (exact extA); (first | exact rfl | (focus (simp only [List.length_set]; done)) | (focus (simp; done)) | (focus (simp [*]; done)) | omega | (focus (simp only [List.length_set]; omega))); assumption; (first | exact rfl | exact (rfl : encV (_, _) = _)); exact rfl; (exact extA); (first | omega | (simp; omega) | (simp at *; omega)); intro a' cap' w' hO hX' hU hF)
          | (show WL _ _ _ _ _ _ _; first | apply WL.nil | (refine WL.au (k := ?_)) | (apply WL.index tOk; exact rfl; exact rfl; exact rfl; exact rfl; exact rfl; exact rfl; exact rfl; exact rfl; assumption; (exact extA); exact rfl; omega; assumption; intro b off h; have hcc := h; first | (obtain ⟨h1, h2, h3, h4, h5, h6, _⟩ := h) | (obtain ⟨h1, h2, h3, _⟩ := h) | (obtain ⟨h1, h2, _⟩ := h) | (obtain ⟨h1, _⟩ := h)))
          | (show QL _ _ _ _ _ _ _; first | apply QL.nil | (refine QL.au (k := ?_)) | (apply QL.index tOk; exact rfl; exact rfl; exact rfl; exact rfl; exact rfl; exact rfl; exact rfl; exact rfl; assumption; (exact extA); exact rfl; omega; assumption; intro b off h; have hcc := h; first | (obtain ⟨h1, h2, h3, h4, h5, h6, _⟩ := h) | (obtain ⟨h1, h2, h3, _⟩ := h) | (obtain ⟨h1, h2, _⟩ := h) | (obtain ⟨h1, _⟩ := h)))
          | (show Z _ _ _ _ _; first | apply Z.then_normal | apply Z.block_normal)
          | (show W _ _ _ _ _ _; first | apply W.seq | apply W.region | apply W.block | apply W.skip | (apply W.regionD tMix; kernel_rfl))
          | fail)
        exact Z.againO2 a' cap' as' cs' ⟨by omega, hX', by rw [e1]; exact hO, by rw [← e3]; exact hR, by rw [← e3]; exact hcs⟩ (by repeat' first | exact trivial | (refine And.intro ?_ ?_) | exact rfl | (rw [e1]; exact rfl) | (rw [←e3]; exact rfl))
      · have hd0 : (ins.drop (wto n ins k).2).length = 0 := by rw [List.length_drop]; omega
        have e4 : ins.drop (wto n ins (k + 1)).2 = ins.drop (wto n ins k).2 := by rw [e2, List.drop_eq_nil_of_le (by omega), List.drop_eq_nil_of_le (by omega)]
        have e5 : ins.getD (wto n ins k).2 0#64 = 0#64 := by rw [List.getD, List.getElem?_eq_none (by omega)]; rfl
        rw [e5] at e1
        repeat' (first
          | (apply W.condKT; exact rfl; (focus (first | exact dec_true (by omega) | exact dec_false (by omega); done)))
          | (apply W.condKF; exact rfl; (focus (first | exact dec_true (by omega) | exact dec_false (by omega); done)))
          | (apply WL.alloc tOk; exact rfl; exact rfl; exact rfl; intro gb w' hb hge hx)
          | (apply WL.storeB (w0 := w) tOk; exact rfl; exact rfl; exact rfl; exact rfl; assumption; (exact extA); exact rfl; exact rfl; exact rfl; (exact extA); (first | assumption | omega | (focus (apply Nat.le_trans; rotate_left; assumption; exact Below.size (by (exact extA)); done))); intro w' hb hc hX' hU; have hcc := hc; obtain ⟨h1, h2, _⟩ := hc; have hO3 := Upd.own hU (Own.ext hO' hx) (Own.blk_ne hO' hge))
          | (apply WL.lit tOk; exact rfl; exact rfl; exact rfl; exact rfl; exact rfl; exact rfl; (first | exact rfl | kernel_rfl | (simp [Instr.fill, catCells]; done)); exact rfl; intro gb w' hb hge hc hx)
          | ((apply WL.append1 (z := 0#64) tOk encV_ok; exact rfl; exact rfl; exact rfl; exact rfl; exact rfl; exact rfl; exact rfl; exact rfl; exact rfl; exact rfl; assumption; (first | exact Ext.refl _ | assumption | exact Ext.trans (by assumption) (by assumption)); (first | exact rfl | omega); assumption; exact rfl; exact rfl; (first | exact Ext.refl _ | assumption | exact Ext.trans (by assumption) (by assumption)); omega; intro a' cap' w' hO hX' hU hF))
          | (show WL _ _ _ _ _ _ _; first | apply WL.nil | (refine WL.au (k := ?_)) | (apply WL.index tOk; exact rfl; exact rfl; exact rfl; exact rfl; exact rfl; exact rfl; exact rfl; exact rfl; assumption; (exact extA); exact rfl; omega; assumption; intro b off h; have hcc := h; first | (obtain ⟨h1, h2, h3, h4, h5, h6, _⟩ := h) | (obtain ⟨h1, h2, h3, _⟩ := h) | (obtain ⟨h1, h2, _⟩ := h) | (obtain ⟨h1, _⟩ := h)))
          | (show Z _ _ _ _ _; first | apply Z.then_normal | apply Z.block_normal)
          | (show W _ _ _ _ _ _; first | apply W.seq | apply W.region | apply W.block | apply W.skip)
          | fail)
        exact Z.againO2 a' cap' ba dp ⟨by omega, hX', by rw [e1]; exact hO, by rw [e4]; exact Rb', by rw [e4]; exact hdp⟩ (by repeat' first | exact trivial | (refine And.intro ?_ ?_) | exact rfl | (rw [e1]; exact rfl) | (rw [e4]; exact rfl))
  · repeat' (first
      | (apply W.condKF; exact rfl; (focus (exact dec_false (by omega); done)))
      | (show WL _ _ _ _ _ _ _; first | apply WL.nil | (refine WL.au (k := ?_)))
      | (show Z _ _ _ _ _; first | apply Z.then_normal | apply Z.then_exit | apply Z.block_exit)
      | (show W _ _ _ _ _ _; first | apply W.seq | apply W.region | apply W.ret | apply W.exit)
      | fail)
    obtain rfl : k = n.length := by omega
    exact Z.body1 Try.results45 rfl fun m => ⟨hx'.at m, c, cp, rfl, hO'⟩
end Go.Proofs.Ytlcenenkloicjaa
namespace Go.Proofs.Ytlcenenkloicjaa
open Go Go.Lt Go.RowKit
set_option linter.unusedVariables false
set_option linter.unusedSimpArgs false
set_option maxRecDepth 20000

/-- c is one of the two that the gate u has. -/
def Kid (n : List (Int × Int)) (u c : Nat) : Prop := ∃ k x, u = k + 1 ∧ n[k]? = some x ∧ 0 ≤ x.1 ∧ (c = (x.1 / 2).toNat ∨ c = (x.2 / 2).toNat)
inductive Hang (n : List (Int × Int)) : Nat → Nat → Prop
  | refl (v : Nat) : Hang n v v
  | step {u c v : Nat} : Kid n u c → Hang n c v → Hang n u v
theorem Hang.trans {n : List (Int × Int)} {u v w : Nat} (h : Hang n u v) : Hang n v w → Hang n u w := by
  induction h with
  | refl v => exact fun k => k
  | step hk _ ih => exact fun k => .step hk (ih k)
theorem Kid.lt {n : List (Int × Int)} (hg : GoodNet n) {u c : Nat} (h : Kid n u c) : c < u := by
  obtain ⟨k, x, rfl, hx, h0, hc⟩ := h
  have := hg.gate hx h0
  omega
noncomputable def sel (m : Nat) (p : Nat → Prop) : List Int := ((List.range m).filter (fun u => dec (p u))).map (fun u => ((u : Nat) : Int))
theorem sel_yes {m : Nat} {p : Nat → Prop} (h : p m) : sel (m + 1) p = sel m p ++ [(m : Int)] := by simp [sel, List.range_succ, dec_true h]
theorem sel_no {m : Nat} {p : Nat → Prop} (h : ¬ p m) : sel (m + 1) p = sel m p := by simp [sel, List.range_succ, dec_false h]
def InP (n : List (Int × Int)) (v : Nat) : Prop := ∃ x, n[v - 1]? = some x ∧ x.1 < 0
end Go.Proofs.Ytlcenenkloicjaa
namespace Go.Proofs.Ytlcenenkloicjaa
open Go Go.Lt Go.RowKit
set_option linter.unusedVariables false
set_option linter.unusedSimpArgs false
set_option maxRecDepth 20000

/-- How many inputs stand ahead of a node. -/
def cnt (n : List (Int × Int)) : Nat → Nat
  | 0 => 0
  | k + 1 => match n[k]? with | some x => if x.1 < 0 then cnt n k + 1 else cnt n k | none => cnt n k
theorem cnt_le (n : List (Int × Int)) : ∀ k, cnt n k ≤ k
  | 0 => Nat.le_refl _
  | k + 1 => by
    have := cnt_le n k
    unfold cnt
    split
    · split <;> omega
    · omega
theorem cnt_mono (n : List (Int × Int)) : ∀ {i k}, i ≤ k → cnt n i ≤ cnt n k
  | i, 0, h => by obtain rfl : i = 0 := by omega
                  exact Nat.le_refl _
  | i, k + 1, h => by
    by_cases hik : i = k + 1
    · subst hik; exact Nat.le_refl _
    · refine Nat.le_trans (cnt_mono n (show i ≤ k by omega)) ?_
      rw [cnt]
      split
      · split <;> omega
      · omega
theorem cnt_in {n : List (Int × Int)} {k : Nat} {x : Int × Int} (h : n[k]? = some x) (hx : x.1 < 0) : cnt n (k + 1) = cnt n k + 1 := by rw [cnt, h]; exact if_pos hx
theorem cnt_gate {n : List (Int × Int)} {k : Nat} {x : Int × Int} (h : n[k]? = some x) (hx : ¬ x.1 < 0) : cnt n (k + 1) = cnt n k := by rw [cnt, h]; exact if_neg hx
end Go.Proofs.Ytlcenenkloicjaa
namespace Go.Proofs.Ytlcenenkloicjaa
open Go Go.Lt Go.RowKit
set_option linter.unusedVariables false
set_option linter.unusedSimpArgs false
set_option maxRecDepth 20000

noncomputable def inTo (n : List (Int × Int)) (k : Nat) : List Int := sel (k + 1) (fun u => 1 ≤ u ∧ InP n u)
noncomputable def inputs (n : List (Int × Int)) : List Int := inTo n n.length
theorem inTo_zero (n : List (Int × Int)) : inTo n 0 = [] := by rw [inTo, sel_no (fun h => by omega)]; rfl
theorem inTo_yes {n : List (Int × Int)} {k : Nat} {x : Int × Int} (hx : n[k]? = some x) (h : x.1 < 0) : inTo n (k + 1) = inTo n k ++ [((k + 1 : Nat) : Int)] := sel_yes ⟨by omega, x, by simpa using hx, h⟩
theorem inTo_no {n : List (Int × Int)} {k : Nat} {x : Int × Int} (hx : n[k]? = some x) (h : ¬ x.1 < 0) : inTo n (k + 1) = inTo n k := sel_no (fun ⟨_, y, hy, h'⟩ => by
  rw [Nat.add_sub_cancel, hx] at hy; cases hy; exact h h')
theorem inTo_len (n : List (Int × Int)) : ∀ k, k ≤ n.length → (inTo n k).length = cnt n k
  | 0, _ => by rw [inTo_zero]; rfl
  | k + 1, h => by
    obtain ⟨x, hx⟩ := getI n (show k < n.length by omega)
    by_cases hin : x.1 < 0
    · rw [inTo_yes hx hin, cnt_in hx hin, List.length_append, inTo_len n k (by omega)]; rfl
    · rw [inTo_no hx hin, cnt_gate hx hin, inTo_len n k (by omega)]
theorem aig_Inputs (a : Option Addr) (cap : Nat) (n : List (Int × Int)) (w : World) (R : Row 2 encN w a n) (hn : n.length ≤ 1048576) :
    Lt.Spec Try.prog 43 [.slice a n.length cap] w (IsFresh 1 encI 3 w (inputs n)) := by
  refine Spec.of _ Try.func43 rfl Try.ntmps43 (by kernel_rfl) rfl ?_
  repeat' (first
    | (show WL _ _ _ _ _ _ _; first | apply WL.nil | (refine WL.au (k := ?_)))
    | (show Z _ _ _ _ _; apply Z.then_normal)
    | (show W _ _ _ _ _ _; first | apply W.seq | apply W.region | apply W.block)
    | fail)
  refine W.loopO n.length (fun k c cp w' => k ≤ n.length ∧ Ext w w' ∧ Own 1 encI 3 w.heap.size w' c cp (inTo n k))
    (fun k c cp => [(3, .slice c (inTo n k).length cp), (6, .slice a n.length cap), (7, .int .i64 n.length), (8, .int .i64 k)]) none 0 ⟨by omega, Ext.refl _, by rw [inTo_zero]; exact Own.nil⟩ (fun k c cp w' h => h.1) ⟨by rw [inTo_zero]; exact rfl, rfl, rfl, rfl, trivial⟩ ?_
  rintro k c cp w' ⟨hk, hx', hO'⟩
  have hl := inTo_len n k hk
  have hcl := cnt_le n k
  by_cases hlt : k < n.length
  · obtain ⟨x, hxn⟩ := getI n hlt
    by_cases hin : x.1 < 0
    · have e1 := inTo_yes hxn hin
      repeat' (first
        | (apply W.condKT; exact rfl; (focus (first | exact dec_true (by omega); done)))
        | (apply WL.alloc tOk; exact rfl; exact rfl; exact rfl; intro gb w' hb hge hx)
        | (apply WL.storeB (w0 := w) tOk; exact rfl; exact rfl; exact rfl; exact rfl; assumption; (exact extA); exact rfl; exact rfl; exact rfl; (exact extA); (first | assumption | omega | (focus (apply Nat.le_trans; rotate_left; assumption; exact Below.size (by (exact extA)); done))); intro w' hb hc hX' hU; have hcc := hc; obtain ⟨h1, h2, _⟩ := hc; have hO3 := Upd.own hU (Own.ext hO' hx) (Own.blk_ne hO' hge))
        | (apply WL.lit tOk; exact rfl; exact rfl; exact rfl; exact rfl; exact rfl; exact rfl; (first | exact rfl | kernel_rfl | (simp [Instr.fill, catCells]; done)); exact rfl; intro gb w' hb hge hc hx)
        | (apply WL.append1 (z := (((k + 1 : Nat) : Int))) tOk encI_ok; exact rfl; exact rfl; exact rfl; exact rfl; exact rfl; exact rfl; exact rfl; exact rfl; exact rfl; exact rfl; assumption; (exact extA); (first | exact rfl | (focus (simp only [List.length_set]; done)) | (focus (simp; done)) | (focus (simp [*]; done)) | omega | (focus (simp only [List.length_set]; omega))); (first | assumption | (refine Cells.ext ?_ (by assumption); exact extA)); exact rfl; exact rfl; (exact extA); (first | omega | (simp; omega) | (simp at *; omega)); intro a' cap' w' hO hX' hU hF)
        | (show WL _ _ _ _ _ _ _; first | apply WL.nil | (refine WL.au (k := ?_)) | (apply WL.index tOk; exact rfl; exact rfl; exact rfl; exact rfl; exact rfl; exact rfl; exact rfl; exact rfl; assumption; (exact extA); exact rfl; omega; assumption; intro b off h; have hcc := h; first | (obtain ⟨h1, h2, h3, h4, h5, h6, _⟩ := h) | (obtain ⟨h1, h2, h3, _⟩ := h) | (obtain ⟨h1, h2, _⟩ := h) | (obtain ⟨h1, _⟩ := h)))
        | (show Z _ _ _ _ _; first | apply Z.then_normal | apply Z.block_normal)
        | (show W _ _ _ _ _ _; first | apply W.seq | apply W.region | apply W.block | apply W.skip)
        | fail)
      exact Z.againO a' cap' ⟨by omega, hX', by rw [e1]; exact hO⟩ (by repeat' first | exact trivial | (refine And.intro ?_ ?_) | exact rfl | (rw [e1]; exact rfl))
    · have e1 := inTo_no hxn hin
      repeat' (first
        | (apply W.condKT; exact rfl; (focus (first | exact dec_true (by omega) | exact dec_false (by omega); done)))
        | (apply W.condKF; exact rfl; (focus (first | exact dec_true (by omega) | exact dec_false (by omega); done)))
        | (apply WL.alloc tOk; exact rfl; exact rfl; exact rfl; intro gb w' hb hge hx)
        | (apply WL.storeB (w0 := w) tOk; exact rfl; exact rfl; exact rfl; exact rfl; assumption; (exact extA); exact rfl; exact rfl; exact rfl; (exact extA); (first | assumption | omega | (focus (apply Nat.le_trans; rotate_left; assumption; exact Below.size (by (exact extA)); done))); intro w' hb hc hX' hU; have hcc := hc; obtain ⟨h1, h2, _⟩ := hc; have hO3 := Upd.own hU (Own.ext hO' hx) (Own.blk_ne hO' hge))
        | (show WL _ _ _ _ _ _ _; first | apply WL.nil | (refine WL.au (k := ?_)) | (apply WL.index tOk; exact rfl; exact rfl; exact rfl; exact rfl; exact rfl; exact rfl; exact rfl; exact rfl; assumption; (exact extA); exact rfl; omega; assumption; intro b off h; have hcc := h; first | (obtain ⟨h1, h2, h3, h4, h5, h6, _⟩ := h) | (obtain ⟨h1, h2, h3, _⟩ := h) | (obtain ⟨h1, h2, _⟩ := h) | (obtain ⟨h1, _⟩ := h)))
        | (show Z _ _ _ _ _; first | apply Z.then_normal | apply Z.block_normal)
        | (show W _ _ _ _ _ _; first | apply W.seq | apply W.region | apply W.block | apply W.skip)
        | fail)
      exact Z.againO c cp ⟨by omega, hX', by rw [e1]; exact hO3⟩ (by repeat' first | exact trivial | (refine And.intro ?_ ?_) | exact rfl | (rw [e1]; exact rfl))
  · repeat' (first
      | (apply W.condKF; exact rfl; (focus (exact dec_false (by omega); done)))
      | (show WL _ _ _ _ _ _ _; first | apply WL.nil | (refine WL.au (k := ?_)))
      | (show Z _ _ _ _ _; first | apply Z.then_normal | apply Z.then_exit | apply Z.block_exit)
      | (show W _ _ _ _ _ _; first | apply W.seq | apply W.region | apply W.ret | apply W.exit)
      | fail)
    obtain rfl : k = n.length := by omega
    exact Z.body1 Try.results43 rfl fun m => ⟨hx'.at m, c, cp, rfl, hO'⟩

end Go.Proofs.Ytlcenenkloicjaa
namespace Go.Lt
open Go.RowKit
set_option linter.unusedVariables false
set_option linter.unusedSimpArgs false

section tree
variable {P : Program} {ops : Array Oper} {C : World → Prop} {early : Nat → Bool} {K : Act → World → Prop}

def wpX (P : Program) (ops : Array Oper) (C : World → Prop) (early : Nat → Bool) (K : Act → World → Prop) : Nat → Array Bool → Act → World → Prop
  | 0, listed, a, w => Region.ready .any ops listed = [] ∧ ∀ w', Ext w w' → K a w'
  | n + 1, listed, a, w => Region.ready .any ops listed ≠ [] ∧ ∀ w', Ext w w' → ∀ i ∈ Region.ready .any ops listed,
      wpOp P ops (onlyN K) i (fun a' w'' => (C w' → early i = true → C w'') ∧ wpX P ops C early K n (listed.setIfInBounds i true) a' w'') a w'

theorem wpX_ext : ∀ {n : Nat} {listed : Array Bool} {a : Act} {w w2 : World} (_ : Ext w w2), wpX P ops C early K n listed a w → wpX P ops C early K n listed a w2
  | 0, _, _, _, _, hx, h => ⟨h.1, fun w' h' => h.2 w' (hx.trans h')⟩
  | _ + 1, _, _, _, _, hx, h => ⟨h.1, fun w' h' => h.2 w' (hx.trans h')⟩

theorem wpAny_of_X {Q : Exit → Act → World → Prop} (hQ : ∀ a w, K a w → Q .normal a w) : ∀ (fuel : Nat) (listed : Array Bool) (a : Act) (w : World), wpX P ops C early K fuel listed a w → wpAny P .any ops Q fuel listed a w
  | 0, _, _, w, h => ⟨h.1, hQ _ _ (h.2 w (Ext.refl w))⟩
  | fuel + 1, _, _, w, h => ⟨fun h0 => absurd h0 h.1, fun i hi => wpOp_mono' (fun a w hh => wpAny_of_X hQ fuel _ a w hh.2) (h.2 w (Ext.refl w) i hi)⟩

/-- The step yields v, and only makes memory. -/
def PureAt (P : Program) (s : Sem Next) (w : World) (v : Value) : Prop :=
  s.run P w = .ok (.value v) w ∨ ∃ f args, s.run P w = .ok (.enter f args) w ∧ Calls P f args w (fun x w' => x = .returned v ∧ Ext w w')

def PYields (P : Program) (ops : Array Oper) (C : World → Prop) (o : Oper) (v : Value) (a : Act) : Prop :=
  (Region.wanted o (yielded ops a.tmps) = true ∧ ∀ w, C w → PureAt P (execOp a.eval o) w v) ∨ (Region.wanted o (yielded ops a.tmps) = false ∧ v = undef)

theorem PYields.wpOp {i : Nat} {o : Oper} {v : Value} {a : Act} {w : World} {Q : Exit → Act → World → Prop} {K' : Act → World → Prop} (hi : ops[i]? = some o) (hy : PYields P ops C o v a) (hC : C w) (h : ∀ w', Ext w w' → K' (a.put o.dst v) w') : wpOp P ops Q i K' a w := by
  unfold Go.wpOp
  simp only [hi]
  rcases hy with ⟨hw, hv⟩ | ⟨hw, rfl⟩
  · simp only [hw, if_true]
    refine .inl ?_
    unfold Oper.wp
    rcases hv w hC with hv | ⟨f, args, hv, hc⟩
    · rw [hv]; exact h w (Ext.refl w)
    · rw [hv]
      refine Calls.mono hc ?_
      rintro x w' ⟨rfl, hx⟩
      exact h w' hx
  · simp only [hw, Bool.false_eq_true, if_false]; exact h w (Ext.refl w)

theorem PYields.of_same {o : Oper} {v : Value} {a a' : Act} (hy : PYields P ops C o v a) (he : execOp a'.eval o = execOp a.eval o)
    (hw : Region.wanted o (yielded ops a'.tmps) = Region.wanted o (yielded ops a.tmps)) : PYields P ops C o v a' := by
  unfold PYields at *
  rw [he, hw]
  exact hy

theorem wpOp_putX {j : Nat} {oi oj : Oper} {v : Value} {C : World → Prop} (hj : ops[j]? = some oj) (hap : oi.apart ops oj = true)
    (hsi : ∀ cs b, oi.op ≠ .select cs b) (hsj : ∀ cs b, oj.op ≠ .select cs b) {K0 K1 : Act → World → Prop} {a : Act} {w : World}
    (hy : PYields P ops C oi v a) (h : wpOp P ops (onlyN K0) j K1 (a.put oi.dst v) w) :
    wpOp P ops (onlyN K0) j (fun a' w' => PYields P ops C oi v a' ∧ K1 (a'.put oi.dst v) w') a w := by
  obtain ⟨h1, h2, h3⟩ := Oper.apart_spec hap
  have keep : ∀ u, PYields P ops C oi v (a.put oj.dst u) := fun u => hy.of_same (execOp_put oi hsi a oj.dst u h3) (wanted_put oi a oj.dst u h3)
  have swap : ∀ u, (a.put oi.dst v).put oj.dst u = (a.put oj.dst u).put oi.dst v := fun u => Act.put_comm a v u h2
  have lets : ¬ LetsOut (onlyN K0) := fun ⟨_, _, hq⟩ => hq
  unfold Go.wpOp at *
  simp only [hj] at *
  rw [wanted_put oj a oi.dst v h1] at h
  split
  · rename_i hw
    simp only [hw, if_true] at h
    rcases h with h | ⟨_, hq⟩
    · refine .inl ?_
      unfold Oper.wp at h ⊢
      rw [execOp_put oj hsj a oi.dst v h1] at h
      revert h
      generalize (execOp a.eval oj).run P w = r
      intro h
      unfold Oper.upon at h ⊢
      split at h
      · exact ⟨keep _, by rw [← swap]; exact h⟩
      · exact ⟨keep _, by rw [← swap]; exact h⟩
      · rename_i d w'
        have e1 : ({ a with defers := d :: a.defers }.put oj.dst undef).put oi.dst v = { a.put oi.dst v with defers := d :: (a.put oi.dst v).defers }.put oj.dst undef := by
          rw [Act.put_comm _ undef v (fun q hq hh => h2 q hh hq)]
          cases oi.dst <;> rfl
        have e2 : PYields P ops C oi v ({ a with defers := d :: a.defers }.put oj.dst undef) := by
          refine (keep undef).of_same ?_ ?_
          · cases oj.dst <;> rfl
          · cases oj.dst <;> rfl
        exact ⟨e2, by rw [e1]; exact h⟩
      · refine Calls.mono h fun x w'' hx => ?_
        cases x with
        | returned u => exact ⟨keep _, by rw [← swap]; exact hx⟩
        | panicked c => exact hx.elim
        | outgrown => exact (lets hx).elim
      · exact Rows.mono h fun u w'' hx => ⟨keep _, by rw [← swap]; exact hx⟩
      · exact h.elim
      · exact h
    · exact (lets hq).elim
  · rename_i hw
    simp only [hw] at h
    exact ⟨keep _, by rw [← swap]; exact h⟩

theorem wpX_first {i : Nat} {oi : Oper} {v : Value} {b : Bool} (hup : ∀ w w', C w → Ext w w' → C w') (hi : ops[i]? = some oi) (hsel : ∀ (j : Nat) (o : Oper) cs b, ops[j]? = some o → o.op ≠ .select cs b) :
    ∀ (fuel : Nat) (listed : Array Bool) (a : Act) (w : World), (b = true ∨ C w) →
      (∀ j oj, ops[j]? = some oj → j ≠ i → listed.getD j true = false → (∀ e ∈ oj.after, Region.binds .any e = true → e.on ≠ i) → oi.apart ops oj = true ∧ (b = true ∨ early j = true)) →
      i ∈ Region.ready .any ops listed → PYields P ops (fun w => b = true ∨ C w) oi v a →
      wpX P ops C early K fuel (listed.setIfInBounds i true) (a.put oi.dst v) w → wpX P ops C early K (fuel + 1) listed a w := by
  intro fuel
  induction fuel with
  | zero =>
    intro listed a w hC _ hr hy H
    refine ⟨fun h => (by rw [h] at hr; cases hr), fun w1 hx j hj => ?_⟩
    by_cases hji : j = i
    · subst hji; exact hy.wpOp hi (hC.imp id fun h => hup _ _ h hx) fun w' hx' => ⟨fun hc _ => hup _ _ hc hx', wpX_ext (hx.trans hx') H⟩
    · have := ready_mono hj hji
      rw [H.1] at this
      cases this
  | succ fuel ih =>
    intro listed a w hC hfree hr hy H
    refine ⟨fun h => (by rw [h] at hr; cases hr), fun w1 hx j hj => ?_⟩
    by_cases hji : j = i
    · subst hji; exact hy.wpOp hi (hC.imp id fun h => hup _ _ h hx) fun w' hx' => ⟨fun hc _ => hup _ _ hc hx', wpX_ext (hx.trans hx') H⟩
    · have h1 := H.2 w1 hx j (ready_mono hj hji)
      obtain ⟨hjun, oj, hoj, hall⟩ := mem_ready.1 hj
      have hnot : ∀ e ∈ oj.after, Region.binds .any e = true → e.on ≠ i := fun e he hb heq => by
        have h1 := hall e he hb
        have h0 := (mem_ready.1 hr).1
        rw [heq] at h1
        rcases Nat.lt_or_ge i listed.size with h' | h'
        · simp [h'] at h0 h1; rw [h0] at h1; cases h1
        · simp [Array.getElem?_eq_none h'] at h1
      obtain ⟨hap, hea⟩ := hfree j oj hoj hji hjun hnot
      have h2 := wpOp_putX hoj hap (fun cs b => hsel i oi cs b hi) (fun cs b => hsel j oj cs b hoj) hy h1
      have hfree' : ∀ k ok, ops[k]? = some ok → k ≠ i → (listed.setIfInBounds j true).getD k true = false →
          (∀ e ∈ ok.after, Region.binds .any e = true → e.on ≠ i) → oi.apart ops ok = true ∧ (b = true ∨ early k = true) := fun k ok hk hki hun hno => by
        refine hfree k ok hk hki ?_ hno
        by_cases hjk : j = k
        · subst hjk; exact hjun
        · rw [getD_set_ne true hjk] at hun; exact hun
      refine wpOp_mono' (fun a' w' h3 => ⟨h3.2.1, ih (listed.setIfInBounds j true) a' w' ?_ hfree' (ready_mono hr (Ne.symm hji)) h3.1 ?_⟩) h2
      · rcases hea with hb | hea
        · exact .inl hb
        · rcases hC with hb | hc
          · exact .inl hb
          · exact .inr (h3.2.1 (hup _ _ hc hx) hea)
      · rw [Array.setIfInBounds_comm _ _ hji]
        exact h3.2.2

def wpY (P : Program) (ops : Array Oper) (C : World → Prop) (early : Nat → Bool) (K : Act → World → Prop) : Strat → Act → World → Prop
  | .done, a, w => ∀ w', Ext w w' → K a w'
  | .fl b i k, a, w => ∃ o, ops[i]? = some o ∧ ∃ v, PYields P ops (fun w => b = true ∨ C w) o v a ∧ (b = true ∨ C w) ∧ wpY P ops C early K k (a.put o.dst v) w
  | .br i k more, a, w => (∃ o, ops[i]? = some o ∧ ∀ w', Ext w w' → wpList P ops (onlyN fun a' w'' => (early i = true → C w'') ∧ wpY P ops C early K k a' w'') [o] a w') ∧ wpY P ops C early K more a w
  | .stop, _, _ => True

theorem wpY_ext (hup : ∀ w w', C w → Ext w w' → C w') : ∀ {s : Strat} {a : Act} {w w2 : World} (_ : Ext w w2), wpY P ops C early K s a w → wpY P ops C early K s a w2
  | .done, _, _, _, hx, h => fun w' h' => h w' (hx.trans h')
  | .fl b i k, _, _, _, hx, ⟨o, ho, v, h1, h2, h3⟩ => ⟨o, ho, v, h1, h2.imp id fun h => hup _ _ h hx, wpY_ext hup hx h3⟩
  | .br i k more, _, _, _, hx, ⟨⟨o, ho, h1⟩, h2⟩ => ⟨⟨o, ho, fun w' h' => h1 w' (hx.trans h')⟩, wpY_ext hup hx h2⟩
  | .stop, _, _, _, _, _ => trivial

theorem stratX_all (hup : ∀ w w', C w → Ext w w' → C w') (hsel : ∀ (j : Nat) (o : Oper) cs b, ops[j]? = some o → o.op ≠ .select cs b) : ∀ (s : Strat),
    (∀ (L : Array Bool) (a : Act) (w : World), stratB ops early true s L = true → wpY P ops C early K s a w → wpX P ops C early K (slen s) L a w) ∧
    (∀ (L : Array Bool) (a : Act) (w : World) (n : Nat), stratB ops early false s L = true → (isStop s = true ∨ slen s = n + 1) → wpY P ops C early K s a w → ∀ i ∈ heads s, ∀ w', Ext w w' →
      wpOp P ops (onlyN K) i (fun a' w'' => (C w' → early i = true → C w'') ∧ wpX P ops C early K n (L.setIfInBounds i true) a' w'') a w')
  | .done => ⟨fun L a w hB h => ⟨by simpa [stratB] using hB, h⟩, fun L a w n hB => by simp [stratB] at hB⟩
  | .stop => ⟨fun L a w hB => by simp [stratB] at hB, fun L a w n hB hn h i hi => by simp [heads] at hi⟩
  | .fl b i k => by
    refine ⟨fun L a w hB h => ?_, fun L a w n hB => by simp [stratB] at hB⟩
    obtain ⟨o, ho, v, h1, h2, h3⟩ := h
    simp only [stratB, ho, Bool.true_and, Bool.and_eq_true] at hB
    obtain ⟨⟨hB1, hB2⟩, hB3⟩ := hB
    have hfree : ∀ j oj, ops[j]? = some oj → j ≠ i → L.getD j true = false → (∀ e ∈ oj.after, Region.binds .any e = true → e.on ≠ i) → o.apart ops oj = true ∧ (b = true ∨ early j = true) := by
      intro j oj hj hji hun hno
      have hjlt : j < ops.size := (Array.getElem?_eq_some_iff.1 hj).1
      have := List.all_eq_true.1 hB2 j (List.mem_range.2 hjlt)
      simp only [hj, Bool.or_eq_true, beq_iff_eq, hji, hun, Bool.false_eq_true, false_or, Bool.and_eq_true] at this
      rcases this with hw | hw
      · exfalso
        simp only [waits, hj] at hw
        obtain ⟨e, he, hb⟩ := Array.any_eq_true'.1 hw
        simp only [Bool.and_eq_true, beq_iff_eq] at hb
        exact hno e he hb.1 hb.2
      · exact hw
    exact wpX_first hup ho hsel (slen k) L a w h2 hfree (by simpa using hB1) h1 ((stratX_all hup hsel k).1 _ _ _ hB3 h3)
  | .br i k more => by
    have key : ∀ (L : Array Bool) (a : Act) (w : World), stratB ops early true k (L.setIfInBounds i true) = true →
        (∃ o, ops[i]? = some o ∧ ∀ w', Ext w w' → wpList P ops (onlyN fun a' w'' => (early i = true → C w'') ∧ wpY P ops C early K k a' w'') [o] a w') → ∀ w', Ext w w' →
        wpOp P ops (onlyN K) i (fun a' w'' => (C w' → early i = true → C w'') ∧ wpX P ops C early K (slen k) (L.setIfInBounds i true) a' w'') a w' := by
      rintro L a w hB ⟨o, ho, h⟩ w1 hx
      refine wpOp_of_list ho (h w1 hx) _ fun a' w' h' => ?_
      have h'' : (early i = true → C w') ∧ wpY P ops C early K k a' w' := h'
      exact ⟨fun _ he => h''.1 he, (stratX_all hup hsel k).1 _ _ _ hB h''.2⟩
    refine ⟨fun L a w hB h => ?_, fun L a w n hB hn h => ?_⟩
    · simp only [stratB, Bool.not_true, Bool.false_or, Bool.and_eq_true, beq_iff_eq, Bool.or_eq_true] at hB
      obtain ⟨⟨⟨hB1, hB2⟩, hB3⟩, hB4⟩ := hB
      refine ⟨by rw [hB1]; simp, fun w1 hx j hj => ?_⟩
      rw [hB1] at hj
      rcases List.mem_cons.1 hj with rfl | hj
      · exact key L a w hB3 h.1 w1 hx
      · refine (stratX_all hup hsel more).2 L a w (slen k) hB4 ?_ h.2 j hj w1 hx
        rcases hB2 with hB2 | hB2
        · exact .inl hB2
        · exact .inr (Nat.eq_of_beq_eq_true hB2)
    · simp only [stratB, Bool.not_false, Bool.true_or, Bool.true_and, Bool.and_eq_true, Bool.or_eq_true] at hB
      obtain ⟨⟨hB2, hB3⟩, hB4⟩ := hB
      have hk : slen k = n := by
        rcases hn with hn | hn
        · cases hn
        · exact Nat.succ.inj hn
      subst hk
      intro j hj w1 hx
      rcases List.mem_cons.1 hj with rfl | hj
      · exact key L a w hB3 h.1 w1 hx
      · refine (stratX_all hup hsel more).2 L a w (slen k) hB4 ?_ h.2 j hj w1 hx
        rcases hB2 with hB2 | hB2
        · exact .inl hB2
        · exact .inr (Nat.eq_of_beq_eq_true hB2)
end tree

structure SX (P : Program) (N : Nat) (l : List Oper) (w0 : World) (early : Nat → Bool) (s : Strat) (e : Env) (w : World) (Q : Exit → Act → World → Prop) : Prop where
  go : ∀ a, Fit N e a → wpY P l.toArray (Ext w0) early (fun a w => Q .normal a w) s a w
theorem ext_up (w0 : World) : ∀ w w', Ext w0 w → Ext w w' → Ext w0 w' := fun _ _ h k => h.trans k

section rules
variable {P : Program} {N : Nat} {e : Env} {w w0 : World} {Q : Exit → Act → World → Prop} {l : List Oper} {early : Nat → Bool} {s k more : Strat} {o : Oper} {i : Nat}
theorem W.regionGX {id : Nat} (s : Strat) (E : List Nat) (hm : P.follows .mixedOrders = true) (hB : (Region.noSelect l.toArray && Nat.beq (slen s) l.toArray.size && stratB l.toArray (memN E) true s (Array.replicate l.toArray.size false)) = true)
    (h : SX P N l w (memN E) s e w Q) : W P N (.region id l.toArray true) e w Q := by
  refine ⟨fun a m hf => wp_region_any hm ?_⟩
  simp only [Bool.and_eq_true] at hB
  obtain ⟨⟨hB1, hB2⟩, hB3⟩ := hB
  have hsel : ∀ (j : Nat) (o : Oper) cs b, l.toArray[j]? = some o → o.op ≠ .select cs b := fun j o cs b ho => Region.noSelect_spec hB1 j o cs b ho
  have hsz := Nat.eq_of_beq_eq_true hB2
  have key := (stratX_all (P := P) (C := Ext w) (K := fun a w => Q .normal a w) (ext_up w) hsel s).1 _ _ _ hB3 (h.go a hf)
  rw [hsz] at key
  exact wpAny_of_X (K := fun a w => Q .normal a w) (C := Ext w) (early := memN E) (fun _ _ h => h) _ _ _ _ (wpX_ext (w := w) ((Ext.refl w).at (m + 1)) key)
theorem SX.done (h : ∀ w', Ext w w' → Z N Q .normal e w') : SX P N l w0 early .done e w Q := ⟨fun a hf w' hx => (h w' hx).go a w'.drawn hf⟩
theorem SX.stop : SX P N l w0 early .stop e w Q := ⟨fun a hf => trivial⟩
theorem SX.fl0 (ho : nthO l i = some o) (h : FL P N l.toArray (fun _ => True) [o] e w (fun a => wpY P l.toArray (Ext w0) early (fun a w => Q .normal a w) k a w)) : SX P N l w0 early (.fl true i k) e w Q := by
  refine ⟨fun a hf => ⟨o, nthO_eq ho, ?_⟩⟩
  have := h.go a hf
  unfold wpFl at this
  split at this
  · rename_i hw
    obtain ⟨v, h1, h2⟩ := this
    exact ⟨v, .inl ⟨hw, fun w' _ => .inl (h1 w' trivial)⟩, .inl rfl, h2⟩
  · rename_i hw
    exact ⟨undef, .inr ⟨by simpa using hw, rfl⟩, .inl rfl, this⟩
theorem FL.nilX {opsA : Array Oper} {C' : World → Prop} (h : SX P N l w0 early k e w Q) : FL P N opsA C' [] e w (fun a => wpY P l.toArray (Ext w0) early (fun a w => Q .normal a w) k a w) := ⟨fun a hf => h.go a hf⟩
theorem SX.br (ho : nthO l i = some o) (h : ∀ w', Ext w w' → WL P N l.toArray [o] e w' (onlyN fun a' w'' => (early i = true → Ext w0 w'') ∧ wpY P l.toArray (Ext w0) early (fun a w => Q .normal a w) k a' w'')) (hm : SX P N l w0 early more e w Q) : SX P N l w0 early (.br i k more) e w Q :=
  ⟨fun a hf => ⟨⟨o, nthO_eq ho, fun w' hx => (h w' hx).go a w'.drawn hf⟩, hm.go a hf⟩⟩
theorem SX.br1 (ho : nthO l i = some o) (h : ∀ w', Ext w w' → WL P N l.toArray [o] e w' (onlyN fun a' w'' => (early i = true → Ext w0 w'') ∧ wpY P l.toArray (Ext w0) early (fun a w => Q .normal a w) k a' w'')) : SX P N l w0 early (.br i k .stop) e w Q := SX.br ho h SX.stop
theorem Z.sx (hC : early i = true → Ext w0 w) (h : SX P N l w0 early k e w Q) : Z N (onlyN fun a' w'' => (early i = true → Ext w0 w'') ∧ wpY P l.toArray (Ext w0) early (fun a w => Q .normal a w) k a' w'') .normal e w :=
  ⟨fun a m hf => ⟨fun he => (hC he).at m, wpY_ext (ext_up w0) ((Ext.refl w).at m) (h.go a hf)⟩⟩
theorem Z.sxL (hE : early i = false) (h : SX P N l w0 early k e w Q) : Z N (onlyN fun a' w'' => (early i = true → Ext w0 w'') ∧ wpY P l.toArray (Ext w0) early (fun a w => Q .normal a w) k a' w'') .normal e w := Z.sx (fun h => by rw [hE] at h; cases h) h
end rules
end Go.Lt
namespace Go.Lt
open Go.RowKit
set_option linter.unusedVariables false
section
variable {P : Program} {N : Nat} {e : Env} {w : World} {C : World → Prop} {ops : List Oper} {l : List Oper} {Kf : Act → Prop} {Q : Exit → Act → World → Prop} {T : Tab}
  {d : Nat} {tt t ty : TypeId} {ps : String} {af : Array Edge} {g : Option (Nat × Bool)} {x y : Operand} {i : TI} {el : TypeId}
theorem QL.eqNilS {q : Addr} (hT : OkTab P T) (hg : gate ops e g = some true) (hd : Nat.blt d N = true) (hx : ev e x = some (.pointer (some q))) (hy : ev e y = some (.pointer none)) (ht : tget T t = some i) (htd : i.desc = .pointer el) (k : QL P N C ops.toArray l ((d, .bool false) :: e) Q) : QL P N C ops.toArray (⟨some d, .binOp .eql t x y ty, tt, ps, af, g⟩ :: l) e Q := by
  refine QL.step hg hd ?_ k
  have := (yeqNil (P := P) (dd := some d) (ty := ty) (tt := tt) (ps := ps) (af := af) (g := g) hT hx hy ht htd)
  rw [dec_false (by simp)] at this
  exact this.in
theorem FL.eqNilS {q : Addr} (hT : OkTab P T) (hg : gate ops e g = some true) (hd : Nat.blt d N = true) (hx : ev e x = some (.pointer (some q))) (hy : ev e y = some (.pointer none)) (ht : tget T t = some i) (htd : i.desc = .pointer el) (k : FL P N ops.toArray C l ((d, .bool false) :: e) w Kf) : FL P N ops.toArray C (⟨some d, .binOp .eql t x y ty, tt, ps, af, g⟩ :: l) e w Kf := by
  refine FL.step hg hd ?_ k
  have := (yeqNil (P := P) (dd := some d) (ty := ty) (tt := tt) (ps := ps) (af := af) (g := g) hT hx hy ht htd)
  rw [dec_false (by simp)] at this
  exact this.in
end
end Go.Lt
namespace Go.Lt
open Go.RowKit
set_option linter.unusedVariables false
section
variable {P : Program} {N : Nat} {e : Env} {w : World} {T : Tab} {ti : TI}
theorem Z.bodyTC {fn : Func} {R : Value → World → Prop} {b ty : Nat} {vs : List Value} {t u : Nat} {x : Value} (hT : OkTab P T) (hr : fn.results = #[.tmp u, .cell t ty]) (hv : get e t = some (.pointer (some ⟨b, 0, none⟩))) (hx : get e u = some x)
    (ht : tget T ty = some ti) (ha : isAggD ti.desc = true) (hs : ti.size = vs.length) (hc : Cells w b 0 vs) (hR : ∀ m, R (.tuple #[x, .agg vs.toArray]) (at' w m)) :
    Z N (bodyPost P fn fun x w' => ∃ v, x = .returned v ∧ R v w') .ret e w := ⟨fun a m hf => by
  have h1 := run_isAgg' (hT.at ht) (at' w m); rw [ha] at h1
  have h3 := run_sizeOf' (hT.at ht) (at' w m); rw [hs] at h3
  have h2 := run_loadCellsFrom (P := P) (acc := #[]) (off := 0) (i := 0) (b := b) (hc.ext ((Ext.refl w).at m))
  refine bodyPost_ret (v := .tuple #[x, .agg vs.toArray]) ?_ hf.defers ⟨_, rfl, hR m⟩
  have h4 := hf.slots _ _ hv
  have h5 := hf.slots _ _ hx
  simp [results, hr, Array.getD_eq_getD_getElem?, h4, h5, asAddr, loadVar, h1, h3, loadCells, h2]⟩
end
end Go.Lt
namespace Go.Proofs.Ytlcenenkloicjaa
open Go Go.Lt Go.RowKit
set_option linter.unusedVariables false
set_option linter.unusedSimpArgs false
set_option maxRecDepth 20000

theorem UpdAt {B : Nat} {a : Option Addr} {w w' : World} (h : Upd B a w w') (m : Nat) : Upd B a w (at' w' m) := ⟨⟨h.grown.os, h.grown.tape, h.grown.output, h.grown.size, h.grown.block⟩, h.from'⟩
theorem rand_New (s : BitVec 64) (w : World) : Lt.Spec Try.prog 42 [u64 s] w (fun v w' => Ext w w' ∧ ∃ g, v = .pointer (some ⟨g, 0, none⟩) ∧ w.heap.size ≤ g ∧ w'.heap[g]? = some (.cells #[u64 s] 117 (0, 0))) := by
  refine Spec.of _ Try.func42 rfl Try.ntmps42 (by kernel_rfl) rfl ?_
  repeat' (first
    | (apply WL.build tOk; exact rfl; exact rfl; exact rfl; exact rfl; exact rfl; exact rfl; exact rfl; kernel_rfl)
    | (apply WL.box; exact rfl; exact rfl; exact rfl; intro gb w' hb hge hc hx; have hcc := hc; (first | (obtain ⟨h1, h2, h3, _⟩ := hc) | (obtain ⟨h1, h2, _⟩ := hc)))
    | (show WL _ _ _ _ _ _ _; first | apply WL.nil | (refine WL.au (k := ?_)))
    | (show Z _ _ _ _ _; apply Z.then_normal)
    | (show W _ _ _ _ _ _; first | apply W.seq | apply W.region | apply W.ret)
    | fail)
  exact Z.body1 Try.results42 rfl fun m => ⟨hx.at m, gb, rfl, hge, hb⟩
theorem rand_Next (g : Nat) (s : BitVec 64) (w0 w : World) (hX0 : Ext w0 w) (hg : w0.heap.size ≤ g) (hb : w.heap[g]? = some (.cells #[u64 s] 117 (0, 0))) :
    Lt.Spec Try.prog 44 [.pointer (some ⟨g, 0, none⟩)] w (fun v w' => v = u64 (rmix (s + rC)) ∧ Ext w0 w' ∧ w'.heap[g]? = some (.cells #[u64 (s + rC)] 117 (0, 0)) ∧ Upd g (some ⟨g, 0, none⟩) w w') := by
  obtain ⟨c1, _⟩ := cells_heap hb
  refine Spec.of _ Try.func44 rfl Try.ntmps44 (by kernel_rfl) rfl ?_
  repeat' (first
    | (apply WL.nilc; exact rfl; exact rfl; exact rfl)
    | (apply WL.eqNilS tOk; exact rfl; exact rfl; exact rfl; exact rfl; exact rfl; exact rfl)
    | (apply WL.uxor; exact rfl; exact rfl; exact rfl; exact rfl; (first | exact rfl | exact u64_lit _ (by omega)); (first | exact rfl | exact u64_lit _ (by omega)))
    | (apply WL.uadd; exact rfl; exact rfl; exact rfl; exact rfl; (first | exact rfl | exact u64_lit _ (by omega)); (first | exact rfl | exact u64_lit _ (by omega)))
    | (apply WL.umul; exact rfl; exact rfl; exact rfl; exact rfl; (first | exact rfl | exact u64_lit _ (by omega)); (first | exact rfl | exact u64_lit _ (by omega)))
    | (apply WL.ushr; exact rfl; exact rfl; exact rfl; exact rfl; (first | exact rfl | exact u64_lit _ (by omega)); omega)
    | (apply WL.storeB (w0 := w0) tOk; exact rfl; exact rfl; exact rfl; exact rfl; assumption; (exact extA); exact rfl; exact rfl; exact rfl; (exact extA); (first | assumption | omega | (focus (apply Nat.le_trans; rotate_left; assumption; exact Below.size (by (exact extA)); done))); intro w' hb hc hX' hU; have hcc := hc; obtain ⟨h1, h2, _⟩ := hc)
    | (show WL _ _ _ _ _ _ _; first | apply WL.nil | (refine WL.au (k := ?_)))
    | (show Z _ _ _ _ _; apply Z.then_normal)
    | (show W _ _ _ _ _ _; first | apply W.seq | apply W.region | apply W.skip | apply W.ret | (apply W.condF; exact rfl))
    | fail)
  exact Z.body1 Try.results44 rfl fun m => ⟨rfl, Ext.at (by assumption) m, by assumption, UpdAt (by assumption) m⟩
theorem apart_eq (a b : BitVec 64) : (a ||| b) - (a &&& b) = a ^^^ b := by
  have h : (a &&& b) + (a ^^^ b) = a ||| b := by
    rw [BitVec.add_eq_or_of_and_eq_zero]
    · ext i hi; simp; cases a[i] <;> cases b[i] <;> rfl
    · ext i hi; simp; cases a[i] <;> cases b[i] <;> simp
  rw [← h, BitVec.add_comm, BitVec.add_sub_cancel]
theorem ref04_apart (a b : BitVec 64) (w : World) : Still Try.prog 81 [u64 a, u64 b] w (u64 (a ^^^ b)) := by
  refine Spec.of _ Try.func81 rfl Try.ntmps81 (by kernel_rfl) rfl ?_
  repeat' (first
    | (apply WL.usub; exact rfl; exact rfl; exact rfl; exact rfl; (first | exact rfl | exact u64_lit _ (by omega)); (first | exact rfl | exact u64_lit _ (by omega)))
    | (apply WL.uand; exact rfl; exact rfl; exact rfl; exact rfl; (first | exact rfl | exact u64_lit _ (by omega)); (first | exact rfl | exact u64_lit _ (by omega)))
    | (apply WL.uor; exact rfl; exact rfl; exact rfl; exact rfl; (first | exact rfl | exact u64_lit _ (by omega)); (first | exact rfl | exact u64_lit _ (by omega)))
    | (show WL _ _ _ _ _ _ _; first | apply WL.nil | (refine WL.au (k := ?_)))
    | (show Z _ _ _ _ _; apply Z.then_normal)
    | (show W _ _ _ _ _ _; first | apply W.seq | apply W.region | apply W.ret)
    | fail)
  exact Z.body1 Try.results81 rfl fun m => ⟨by rw [apart_eq], m, rfl⟩
theorem shr_quo (s : BitVec 64) : s / BitVec.ofInt 64 1073741824 = s >>> (30 : Int).toNat ∧ s / BitVec.ofInt 64 134217728 = s >>> (27 : Int).toNat ∧ s / BitVec.ofInt 64 2147483648 = s >>> (31 : Int).toNat := by
  refine ⟨?_, ?_, ?_⟩ <;> (apply BitVec.eq_of_toNat_eq; rw [BitVec.toNat_udiv, BitVec.toNat_ushiftRight, Nat.shiftRight_eq_div_pow]; rfl)
theorem ref04_Next (s : BitVec 64) (w : World) : Pure Try.prog 46 [.agg #[u64 s]] w (.tuple #[u64 (rmix (s + rC)), .agg #[u64 (s + rC)]]) := by
  obtain ⟨q1, q2, q3⟩ := shr_quo (s + rC)
  refine Spec.of _ Try.func46 rfl Try.ntmps46 (by kernel_rfl) rfl ?_
  repeat' (first
    | (apply WL.box; exact rfl; exact rfl; exact rfl; intro gb w' hb hge hc hx; have hcc := hc; (first | (obtain ⟨h1, h2, h3, _⟩ := hc) | (obtain ⟨h1, h2, _⟩ := hc)); (obtain ⟨g1, rfl⟩ : ∃ x, x = gb := ⟨_, rfl⟩; obtain ⟨w1, rfl⟩ : ∃ x, x = w' := ⟨_, rfl⟩))
    | (apply WL.alloc tOk; exact rfl; exact rfl; exact rfl; intro gb w' hb hge hx; (obtain ⟨g3, rfl⟩ : ∃ x, x = gb := ⟨_, rfl⟩; obtain ⟨w3, rfl⟩ : ∃ x, x = w' := ⟨_, rfl⟩))
    | (apply WL.build tOk; exact rfl; exact rfl; exact rfl; exact rfl; exact rfl; exact rfl; exact rfl; kernel_rfl)
    | (apply WL.uadd; exact rfl; exact rfl; exact rfl; exact rfl; (first | exact rfl | exact u64_lit _ (by omega)); (first | exact rfl | exact u64_lit _ (by omega)))
    | (apply WL.umul; exact rfl; exact rfl; exact rfl; exact rfl; (first | exact rfl | exact u64_lit _ (by omega)); (first | exact rfl | exact u64_lit _ (by omega)))
    | (apply WL.uquo; exact rfl; exact rfl; exact rfl; exact rfl; (first | exact rfl | exact u64_lit _ (by omega)); (first | exact rfl | exact u64_lit _ (by omega)); omega)
    | ((show WL _ _ _ (⟨_, .call ⟨.value (.func 81), _, _⟩, _, _, _, _⟩ :: _) _ _ _); apply WL.callS; exact rfl; exact rfl; exact rfl; exact rfl; exact ref04_apart _ _ _)
    | (apply WL.storeB (w0 := w1) tOk; exact rfl; exact rfl; exact rfl; exact rfl; assumption; (exact extA); exact rfl; exact rfl; exact rfl; (exact extA); (first | assumption | omega | (focus (apply Nat.le_trans; rotate_left; assumption; exact Below.size (by (exact extA)); done))); intro w' hb hc hX' hU; have hcc := hc; obtain ⟨h1, h2, _⟩ := hc)
    | (show WL _ _ _ _ _ _ _; first | apply WL.nil | (refine WL.au (k := ?_)))
    | (show Z _ _ _ _ _; apply Z.then_normal)
    | (show W _ _ _ _ _ _; first | apply W.seq | apply W.region | apply W.ret)
    | fail)
  refine Z.bodyTC tOk Try.results46 rfl rfl rfl rfl rfl hcc fun m => ⟨?_, Ext.at (by (exact extA)) m⟩
  unfold rmix
  have e3 : ∀ z : BitVec 64, z / BitVec.ofInt 64 2147483648 = z >>> (31 : Int).toNat := fun z => (shr_quo z).2.2
  have e2 : ∀ z : BitVec 64, z / BitVec.ofInt 64 134217728 = z >>> (27 : Int).toNat := fun z => (shr_quo z).2.1
  have e1 : ∀ z : BitVec 64, z / BitVec.ofInt 64 1073741824 = z >>> (30 : Int).toNat := fun z => (shr_quo z).1
  simp only [e1, e2, e3]
  rfl
theorem all_sub (y : BitVec 64) : BitVec.ofInt 64 18446744073709551615 - y = ~~~ y := by
  have h : BitVec.ofInt 64 18446744073709551615 = BitVec.allOnes 64 := by decide
  rw [h, ← BitVec.allOnes_sub_eq_not]
theorem toNat_iff (x y : BitVec 64) : ((x.toNat : Nat) : Int) = ((y.toNat : Nat) : Int) ↔ x = y := ⟨fun h => BitVec.eq_of_toNat_eq (by omega), fun h => by rw [h]⟩
abbrev eqR : BitVec 64 → BitVec 64 → Prop := fun x y => x = y
abbrev noR : BitVec 64 → BitVec 64 → Prop := fun x y => x = ~~~ y
theorem ref30_Same (a b : Option Addr) (ca cb : Nat) (A B : List (BitVec 64)) (w : World) (Ra : Row 1 encV w a A) (Rb : Row 1 encV w b B) : Still Try.prog 16 [.slice a A.length ca, .slice b B.length cb] w (.tuple #[.bool (dec (sameP A B)), .bool (dec (notP A B))]) := by
  have ha := Ra.len
  have hb := Rb.len
  have z1 : dec (uptoP eqR A B 0) = true := dec_true uptoP_zero
  have z2 : dec (uptoP noR A B 0) = true := dec_true uptoP_zero
  refine Spec.of _ Try.func16 rfl Try.ntmps16 (by kernel_rfl) rfl ?_
  repeat' (first
    | (show WL _ _ _ _ _ _ _; first | apply WL.nil | (refine WL.au (k := ?_)))
    | (show Z _ _ _ _ _; apply Z.then_normal)
    | (show W _ _ _ _ _ _; first | apply W.seq | apply W.region | apply W.block)
    | fail)
  refine W.loop1 (min A.length B.length) (fun k => k ≤ min A.length B.length) (fun k => [(0, .slice a A.length ca), (1, .slice b B.length cb), (6, .bool (dec (uptoP eqR A B k))), (7, .bool (dec (uptoP noR A B k))), (8, .int .i64 k)]) (Nat.zero_le _) (fun k h => h) (by repeat' first | exact trivial | (refine And.intro ?_ ?_) | exact rfl | (rw [z1]; exact rfl) | (rw [z2]; exact rfl)) ?_
  rintro k hk
  by_cases hlt : k < A.length ∧ k < B.length
  · obtain ⟨x, hx⟩ := getI A hlt.1
    obtain ⟨y, hy⟩ := getI B hlt.2
    by_cases hs : uptoP eqR A B k
    · have e8 : dec (uptoP eqR A B (k + 1)) = dec (((x.toNat : Nat) : Int) = ((y.toNat : Nat) : Int)) := dec_congr ((uptoP_succ hs hx hy).trans (toNat_iff x y).symm)
      rw [dec_true hs]
      by_cases hn : uptoP noR A B k
      · have e9 : dec (uptoP noR A B (k + 1)) = dec (((x.toNat : Nat) : Int) = (((BitVec.ofInt 64 18446744073709551615 - y).toNat : Nat) : Int)) := dec_congr ((uptoP_succ hn hx hy).trans (by rw [all_sub]; exact (toNat_iff x (~~~ y)).symm))
        rw [dec_true hn]
        repeat' (first
          | (apply WL.gT; exact rfl; exact rfl; (focus (exact dec_true (by omega); done)))
          | (apply W.condKT; exact rfl; (focus (exact dec_true (by omega); done)))
          | (apply QL.usub; exact rfl; exact rfl; exact rfl; exact rfl; (first | exact rfl | exact u64_lit _ (by omega)); (first | exact rfl | exact u64_lit _ (by omega)))
          | (show WL _ _ _ _ _ _ _; first | apply WL.nil | (refine WL.au (k := ?_)))
          | (show QL _ _ _ _ _ _ _; first | apply QL.nil | (refine QL.au (k := ?_)) | (apply QL.index tOk; exact rfl; exact rfl; exact rfl; exact rfl; exact rfl; exact rfl; exact rfl; exact rfl; assumption; (exact extA); exact rfl; omega; assumption; intro b off h; have hcc := h; first | (obtain ⟨h1, h2, h3, h4, h5, h6, _⟩ := h) | (obtain ⟨h1, h2, h3, _⟩ := h) | (obtain ⟨h1, h2, _⟩ := h) | (obtain ⟨h1, _⟩ := h)))
          | (show Z _ _ _ _ _; first | apply Z.then_normal | apply Z.block_normal)
          | (show W _ _ _ _ _ _; first | apply W.seq | apply W.region | apply W.block | apply W.skip | (apply W.regionD tMix; kernel_rfl))
          | fail)
        exact Z.again1 (by omega) (by repeat' first | exact trivial | (refine And.intro ?_ ?_) | exact rfl | (rw [e8]; exact rfl) | (rw [e9]; exact rfl))
      · have e9 : dec (uptoP noR A B (k + 1)) = false := dec_false (uptoP_no hn)
        rw [dec_false hn]
        repeat' (first
          | (apply WL.gT; exact rfl; exact rfl; (focus (exact dec_true (by omega); done)))
          | (apply W.condKT; exact rfl; (focus (exact dec_true (by omega); done)))
          | (show WL _ _ _ _ _ _ _; first | apply WL.nil | (refine WL.au (k := ?_)))
          | (show QL _ _ _ _ _ _ _; first | apply QL.nil | (refine QL.au (k := ?_)) | (apply QL.index tOk; exact rfl; exact rfl; exact rfl; exact rfl; exact rfl; exact rfl; exact rfl; exact rfl; assumption; (exact extA); exact rfl; omega; assumption; intro b off h; have hcc := h; first | (obtain ⟨h1, h2, h3, h4, h5, h6, _⟩ := h) | (obtain ⟨h1, h2, h3, _⟩ := h) | (obtain ⟨h1, h2, _⟩ := h) | (obtain ⟨h1, _⟩ := h)) | (apply QL.guardF; exact rfl; exact rfl))
          | (show Z _ _ _ _ _; first | apply Z.then_normal | apply Z.block_normal)
          | (show W _ _ _ _ _ _; first | apply W.seq | apply W.region | apply W.block | apply W.skip | (apply W.regionD tMix; kernel_rfl))
          | fail)
        exact Z.again1 (by omega) (by repeat' first | exact trivial | (refine And.intro ?_ ?_) | exact rfl | (rw [e8]; exact rfl) | (rw [e9]; exact rfl))
    · have e8 : dec (uptoP eqR A B (k + 1)) = false := dec_false (uptoP_no hs)
      rw [dec_false hs]
      by_cases hn : uptoP noR A B k
      · have e9 : dec (uptoP noR A B (k + 1)) = dec (((x.toNat : Nat) : Int) = (((BitVec.ofInt 64 18446744073709551615 - y).toNat : Nat) : Int)) := dec_congr ((uptoP_succ hn hx hy).trans (by rw [all_sub]; exact (toNat_iff x (~~~ y)).symm))
        rw [dec_true hn]
        repeat' (first
          | (apply WL.gT; exact rfl; exact rfl; (focus (exact dec_true (by omega); done)))
          | (apply W.condKT; exact rfl; (focus (exact dec_true (by omega); done)))
          | (apply QL.usub; exact rfl; exact rfl; exact rfl; exact rfl; (first | exact rfl | exact u64_lit _ (by omega)); (first | exact rfl | exact u64_lit _ (by omega)))
          | (show WL _ _ _ _ _ _ _; first | apply WL.nil | (refine WL.au (k := ?_)))
          | (show QL _ _ _ _ _ _ _; first | apply QL.nil | (refine QL.au (k := ?_)) | (apply QL.index tOk; exact rfl; exact rfl; exact rfl; exact rfl; exact rfl; exact rfl; exact rfl; exact rfl; assumption; (exact extA); exact rfl; omega; assumption; intro b off h; have hcc := h; first | (obtain ⟨h1, h2, h3, h4, h5, h6, _⟩ := h) | (obtain ⟨h1, h2, h3, _⟩ := h) | (obtain ⟨h1, h2, _⟩ := h) | (obtain ⟨h1, _⟩ := h)) | (apply QL.guardF; exact rfl; exact rfl))
          | (show Z _ _ _ _ _; first | apply Z.then_normal | apply Z.block_normal)
          | (show W _ _ _ _ _ _; first | apply W.seq | apply W.region | apply W.block | apply W.skip | (apply W.regionD tMix; kernel_rfl))
          | fail)
        exact Z.again1 (by omega) (by repeat' first | exact trivial | (refine And.intro ?_ ?_) | exact rfl | (rw [e8]; exact rfl) | (rw [e9]; exact rfl))
      · have e9 : dec (uptoP noR A B (k + 1)) = false := dec_false (uptoP_no hn)
        rw [dec_false hn]
        repeat' (first
          | (apply WL.gT; exact rfl; exact rfl; (focus (exact dec_true (by omega); done)))
          | (apply W.condKT; exact rfl; (focus (exact dec_true (by omega); done)))
          | (show WL _ _ _ _ _ _ _; first | apply WL.nil | (refine WL.au (k := ?_)))
          | (show QL _ _ _ _ _ _ _; first | apply QL.nil | (refine QL.au (k := ?_)) | (apply QL.guardF; exact rfl; exact rfl))
          | (show Z _ _ _ _ _; first | apply Z.then_normal | apply Z.block_normal)
          | (show W _ _ _ _ _ _; first | apply W.seq | apply W.region | apply W.block | apply W.skip | (apply W.regionD tMix; kernel_rfl))
          | fail)
        exact Z.again1 (by omega) (by repeat' first | exact trivial | (refine And.intro ?_ ?_) | exact rfl | (rw [e8]; exact rfl) | (rw [e9]; exact rfl))
  · have e1 : dec (uptoP eqR A B k) = dec (sameP A B) := dec_congr (uptoP_all (by omega))
    have e2 : dec (uptoP noR A B k) = dec (notP A B) := dec_congr (uptoP_all (by omega))
    rw [e1, e2]
    repeat' (first
      | (apply W.condKF; exact rfl; (focus (first | exact dec_false (by omega) | exact dec_true (by omega); done)))
      | (show WL _ _ _ _ _ _ _; first | apply WL.nil | (refine WL.au (k := ?_)) | (apply WL.guardF; exact rfl; exact rfl) | (apply WL.gD; exact rfl; exact rfl; all_goals intro _))
      | (show Z _ _ _ _ _; first | apply Z.then_normal | apply Z.then_exit | apply Z.block_exit)
      | (show W _ _ _ _ _ _; first | apply W.seq | apply W.region | apply W.ret | apply W.exit | (apply W.condF; exact rfl))
      | fail)
    all_goals exact Z.body2 Try.results16 rfl rfl fun m => ⟨rfl, m, rfl⟩
end Go.Proofs.Ytlcenenkloicjaa
namespace Go.Proofs.Ytlcenenkloicjaa
open Go Go.Lt Go.RowKit
set_option linter.unusedVariables false
set_option linter.unusedSimpArgs false
set_option maxRecDepth 20000

theorem ref30_Words (a b : Option Addr) (ca cb : Nat) (A B : List (BitVec 64)) (w : World) (Ra : Row 1 encV w a A) (Rb : Row 1 encV w b B) : Still Try.prog 13 [.slice a A.length ca, .slice b B.length cb] w (.bool (dec (A = B))) := by
  have ha := Ra.len
  have hb := Rb.len
  by_cases hl : A.length = B.length
  rotate_left
  · refine Spec.of _ Try.func13 rfl Try.ntmps13 (by kernel_rfl) rfl ?_
    repeat' (first
      | (apply W.condKT; exact rfl; (focus (exact dec_true (by omega); done)))
      | (show WL _ _ _ _ _ _ _; first | apply WL.nil | (refine WL.au (k := ?_)))
      | (show Z _ _ _ _ _; first | apply Z.then_normal | apply Z.then_ret)
      | (show W _ _ _ _ _ _; first | apply W.seq | apply W.region | apply W.ret)
      | fail)
    exact Z.body1 Try.results13 rfl fun m => ⟨congrArg Value.bool (dec_false (fun h => hl (by rw [h]))).symm, m, rfl⟩
  refine Spec.of _ Try.func13 rfl Try.ntmps13 (by kernel_rfl) rfl ?_
  repeat' (first
    | (apply W.condKF; exact rfl; (focus (exact dec_false (by omega); done)))
    | (show WL _ _ _ _ _ _ _; first | apply WL.nil | (refine WL.au (k := ?_)))
    | (show Z _ _ _ _ _; apply Z.then_normal)
    | (show W _ _ _ _ _ _; first | apply W.seq | apply W.region | apply W.block | apply W.skip)
    | fail)
  refine W.loop1 A.length (fun k => k ≤ A.length ∧ uptoP eqR A B k) (fun k => [(0, .slice a A.length ca), (1, .slice b B.length cb), (5, .int .i64 k)]) ⟨Nat.zero_le _, uptoP_zero⟩ (fun k h => h.1) (by repeat' first | exact trivial | (refine And.intro ?_ ?_) | exact rfl) ?_
  rintro k ⟨hk, hu⟩
  by_cases hlt : k < A.length
  · obtain ⟨x, hx⟩ := getI A hlt
    obtain ⟨y, hy⟩ := getI B (show k < B.length by omega)
    have e0 := uptoP_succ hu hx hy
    have e1 := toNat_iff x y
    by_cases hi : x = y
    · repeat' (first
        | (apply W.condKT; exact rfl; (focus (first | exact dec_true (by omega) | exact dec_false (fun h => h (e1.2 hi)); done)))
        | (apply W.condKF; exact rfl; (focus (first | exact dec_true (by omega) | exact dec_false (fun h => h (e1.2 hi)); done)))
        | (show WL _ _ _ _ _ _ _; first | apply WL.nil | (refine WL.au (k := ?_)))
        | (show QL _ _ _ _ _ _ _; first | apply QL.nil | (refine QL.au (k := ?_)) | (apply QL.index tOk; exact rfl; exact rfl; exact rfl; exact rfl; exact rfl; exact rfl; exact rfl; exact rfl; assumption; (exact extA); exact rfl; omega; assumption; intro b off h; have hcc := h; first | (obtain ⟨h1, h2, h3, h4, h5, h6, _⟩ := h) | (obtain ⟨h1, h2, h3, _⟩ := h) | (obtain ⟨h1, h2, _⟩ := h) | (obtain ⟨h1, _⟩ := h)))
        | (show Z _ _ _ _ _; first | apply Z.then_normal | apply Z.block_normal)
        | (show W _ _ _ _ _ _; first | apply W.seq | apply W.region | apply W.block | apply W.skip | (apply W.regionD tMix; kernel_rfl))
        | fail)
      exact Z.again1 ⟨by omega, e0.2 hi⟩ (by repeat' first | exact trivial | (refine And.intro ?_ ?_) | exact rfl)
    · repeat' (first
        | (apply W.condKT; exact rfl; (focus (first | exact dec_true (by omega) | exact dec_true (fun h => hi (e1.1 h)); done)))
        | (show WL _ _ _ _ _ _ _; first | apply WL.nil | (refine WL.au (k := ?_)))
        | (show QL _ _ _ _ _ _ _; first | apply QL.nil | (refine QL.au (k := ?_)) | (apply QL.index tOk; exact rfl; exact rfl; exact rfl; exact rfl; exact rfl; exact rfl; exact rfl; exact rfl; assumption; (exact extA); exact rfl; omega; assumption; intro b off h; have hcc := h; first | (obtain ⟨h1, h2, h3, h4, h5, h6, _⟩ := h) | (obtain ⟨h1, h2, h3, _⟩ := h) | (obtain ⟨h1, h2, _⟩ := h) | (obtain ⟨h1, _⟩ := h)))
        | (show Z _ _ _ _ _; first | apply Z.then_normal | apply Z.then_ret | apply Z.block_ret)
        | (show W _ _ _ _ _ _; first | apply W.seq | apply W.region | apply W.block | apply W.skip | apply W.ret | (apply W.regionD tMix; kernel_rfl))
        | fail)
      exact Z.body1 Try.results13 rfl fun m => ⟨congrArg Value.bool (dec_false (fun h => hi (by rw [h, hy] at hx; exact (Option.some.inj hx).symm))).symm, m, rfl⟩
  · repeat' (first
      | (apply W.condKF; exact rfl; (focus (exact dec_false (by omega); done)))
      | (show WL _ _ _ _ _ _ _; first | apply WL.nil | (refine WL.au (k := ?_)))
      | (show Z _ _ _ _ _; first | apply Z.then_normal | apply Z.then_exit | apply Z.block_exit)
      | (show W _ _ _ _ _ _; first | apply W.seq | apply W.region | apply W.ret | apply W.exit)
      | fail)
    exact Z.body1 Try.results13 rfl fun m => ⟨congrArg Value.bool (dec_true ((sameP_eq hl).1 ((uptoP_all (by omega)).1 hu))).symm, m, rfl⟩
theorem and1_bit (x : BitVec 64) : (((x &&& BitVec.ofInt 64 1).toNat : Nat) : Int) = 1 ↔ x.getLsbD 0 = true := by
  have h : x &&& BitVec.ofInt 64 1 = if x.getLsbD 0 = true then 1#64 else 0#64 := by
    apply BitVec.eq_of_getLsbD_eq
    intro i hi
    rw [BitVec.getLsbD_and, show BitVec.ofInt 64 1 = 1#64 from rfl, BitVec.getLsbD_one]
    by_cases h0 : i = 0
    · subst h0; cases hb : x.getLsbD 0 <;> simp
    · cases hb : x.getLsbD 0 <;> simp [h0, BitVec.getLsbD_one]
  rw [h]
  cases hb : x.getLsbD 0 <;> simp
theorem take_get {α : Type} {l : List α} {k : Nat} {x : α} (h : l[k]? = some x) : l.take (k + 1) = l.take k ++ [x] := take_succ' h
theorem bytesL_app (l : List (BitVec 64)) (x : BitVec 64) : bytesL (l ++ [x]) = bytesL l ++ bytesW x 8 := by unfold bytesL; rw [List.flatMap_append]; simp
theorem norm_get {A : List (BitVec 64)} {k : Nat} {x : BitVec 64} (h : A[k]? = some x) : (normW A)[k]? = some (if turnedW A = true then ~~~ x else x) := by
  unfold normW
  split
  · rw [List.getElem?_map, h]; rfl
  · exact h
set_option maxHeartbeats 1000000 in
theorem sig_key (a : Option Addr) (ca : Nat) (A : List (BitVec 64)) (w : World) (Ra : Row 1 encV w a A) (hA : A.length ≤ 1048576) : Pure Try.prog 48 [.slice a A.length ca] w (.tuple #[.string (keyS A), .bool (turnedW A)]) := by
  have ha := Ra.len
  obtain ⟨tb, htb⟩ : ∃ b, b = turnedW A := ⟨_, rfl⟩
  have hN : ∀ (k : Nat) (x : BitVec 64), A[k]? = some x → (normW A)[k]? = some (if tb = true then ~~~ x else x) := fun k x h => by rw [htb]; exact norm_get h
  have hNl := normW_len A
  have key : A.length = 0 ∧ tb = false ∨ ∃ x, A[0]? = some x ∧ tb = dec ((((x &&& BitVec.ofInt 64 1).toNat : Nat) : Int) = 1) := by
    cases A with
    | nil => exact .inl ⟨rfl, htb⟩
    | cons x r =>
      refine .inr ⟨x, rfl, ?_⟩
      rw [htb]
      show x.getLsbD 0 = _
      cases hb : x.getLsbD 0 with
      | true => exact (dec_true ((and1_bit x).2 hb)).symm
      | false => exact (dec_false (fun h => by rw [(and1_bit x).1 h] at hb; cases hb)).symm
  rw [← htb]
  have hk0 : ((normW A).take 0) = [] := rfl
  refine Spec.of _ Try.func48 rfl Try.ntmps48 (by kernel_rfl) rfl ?_
  rcases key with ⟨h0, e4⟩ | ⟨x0, hx0, e4⟩
  case' inl =>
    repeat' (first
      | (apply WL.gF; exact rfl; exact rfl; (focus (first | exact dec_false (by omega); done)))
      | (show WL _ _ _ _ _ _ _; first | apply WL.nil | (refine WL.au (k := ?_)) | (apply WL.guardF; exact rfl; exact rfl))
      | (show Z _ _ _ _ _; apply Z.then_normal)
      | (show W _ _ _ _ _ _; first | apply W.seq | apply W.region | apply W.block)
      | fail)
  case' inr =>
    have hpos := lt_of_get hx0
    repeat' (first
      | (apply WL.gT; exact rfl; exact rfl; (focus (first | exact dec_true (by omega); done)))
      | (apply WL.uand; exact rfl; exact rfl; exact rfl; exact rfl; (first | exact rfl | exact u64_lit _ (by omega)); (first | exact rfl | exact u64_lit _ (by omega)))
      | (show WL _ _ _ _ _ _ _; first | apply WL.nil | (refine WL.au (k := ?_)) | (apply WL.index tOk; exact rfl; exact rfl; exact rfl; exact rfl; exact rfl; exact rfl; exact rfl; exact rfl; assumption; (exact extA); exact rfl; omega; assumption; intro b off h; have hcc := h; first | (obtain ⟨h1, h2, h3, h4, h5, h6, _⟩ := h) | (obtain ⟨h1, h2, h3, _⟩ := h) | (obtain ⟨h1, h2, _⟩ := h) | (obtain ⟨h1, _⟩ := h)))
      | (show Z _ _ _ _ _; apply Z.then_normal)
      | (show W _ _ _ _ _ _; first | apply W.seq | apply W.region | apply W.block)
      | fail)
  all_goals
    refine W.loopO A.length (fun k b cp w' => k ≤ A.length ∧ Ext w w' ∧ Own 1 enc8 5 w.heap.size w' b cp (bytesL ((normW A).take k)))
      (fun k b cp => [(4, .bool tb), (5, .slice b (bytesL ((normW A).take k)).length cp), (19, .slice a A.length ca), (20, .int .i64 (A.length : Nat)), (21, .int .i64 k)]) none 0 ⟨Nat.zero_le _, Ext.refl _, Own.nil⟩ (fun k a cp w' h => h.1) (by repeat' first | exact trivial | (refine And.intro ?_ ?_) | exact rfl | (rw [e4]; exact rfl)) ?_
    rintro k bb cp w1 ⟨hk, hX1, hO1⟩
    have hbl := bytesL_len ((normW A).take k)
    rw [List.length_take] at hbl
    by_cases hlt : k < A.length
    · obtain ⟨x, hx⟩ := getI A hlt
      have hnk := hN k x hx
      obtain ⟨z, hz⟩ : ∃ z, z = (if tb = true then ~~~ x else x) := ⟨_, rfl⟩
      rw [← hz] at hnk
      have R1 := Ra.ext hX1
      have e1 := take_get hnk
      repeat' (first
        | (apply W.condKT; exact rfl; (focus (exact dec_true (by omega); done)))
        | (apply WL.unot; exact rfl; exact rfl; exact rfl; (first | exact rfl | exact u64_lit _ (by omega)))
        | (show WL _ _ _ _ _ _ _; first | apply WL.nil | (refine WL.au (k := ?_)) | (apply WL.index tOk; exact rfl; exact rfl; exact rfl; exact rfl; exact rfl; exact rfl; exact rfl; exact rfl; assumption; (exact extA); exact rfl; omega; assumption; intro b off h; have hcc := h; first | (obtain ⟨h1, h2, h3, h4, h5, h6, _⟩ := h) | (obtain ⟨h1, h2, h3, _⟩ := h) | (obtain ⟨h1, h2, _⟩ := h) | (obtain ⟨h1, _⟩ := h)))
        | (show Z _ _ _ _ _; apply Z.then_normal)
        | (show W _ _ _ _ _ _; first | apply W.seq | apply W.region | apply W.block | apply W.skip | (apply W.condB; exact rfl; all_goals intro _))
        | fail)
      all_goals
        first
        | (have e7 : z = ~~~ x := by rw [hz, if_pos (by assumption)])
        | (have e7 : z = x := by rw [hz, show tb = false by assumption]; rfl)
        refine W.loopO 8 (fun j b cp w' => j ≤ 8 ∧ Ext w w' ∧ Own 1 enc8 5 w.heap.size w' b cp (bytesL ((normW A).take k) ++ bytesW z j))
          (fun j b cp => [(4, .bool tb), (5, .slice b (bytesL ((normW A).take k) ++ bytesW z j).length cp), (7, u64 z), (19, .slice a A.length ca), (20, .int .i64 (A.length : Nat)), (21, .int .i64 k), (28, .int .i64 j)]) bb cp ⟨Nat.zero_le _, hX1, by rw [show bytesW z 0 = [] from rfl, List.append_nil]; exact hO1⟩ (fun k a cp w' h => h.1) (by rw [show bytesW z 0 = [] from rfl, List.append_nil]; exact (by repeat' first | exact trivial | (refine And.intro ?_ ?_) | exact rfl | (rw [e7]; exact rfl))) ?_
        clear hO1
        rintro j bb cp w2 ⟨hj, hX2, hO2⟩
        have hbl2 : (bytesL ((normW A).take k) ++ bytesW z j).length = 8 * min k (normW A).length + j := by rw [List.length_append, hbl, bytesW_len]
        by_cases hj8 : j < 8
        · have hz8 : enc8 (byteW z j) = [.int .u8 (IntKind.u8.wrap ((z >>> (8 * (j : Int)).toNat).toNat : Int))] := by
            rw [show (8 * (j : Int)).toNat = 8 * j by omega, ← byteW_val]
          repeat' (first
            | (apply W.condKT; exact rfl; (focus (exact dec_true (by omega); done)))
            | (apply WL.ushr; exact rfl; exact rfl; exact rfl; exact rfl; (first | exact rfl | exact u64_lit _ (by omega)); omega)
            | (apply WL.lit tOk; exact rfl; exact rfl; exact rfl; exact rfl; exact rfl; exact rfl; (first | exact rfl | kernel_rfl | (simp [Instr.fill, catCells]; done)); exact rfl; intro gb w' hb hge hc hx)
            | ((apply WL.append1 (z := byteW z j) tOk enc8k_ok; exact rfl; exact rfl; exact rfl; exact rfl; exact rfl; exact rfl; exact rfl; exact rfl; exact rfl; exact rfl; exact hO2; exact (by (exact extA)); exact rfl; assumption; exact hz8; exact rfl; exact (by (exact extA)); omega; intro a' cap' w' hO hX' hU hF))
            | (show WL _ _ _ _ _ _ _; first | apply WL.nil | (refine WL.au (k := ?_)))
            | (show Z _ _ _ _ _; first | apply Z.then_normal | apply Z.block_normal)
            | (show W _ _ _ _ _ _; first | apply W.seq | apply W.region | apply W.block | apply W.skip)
            | fail)
          have e2 : bytesL ((normW A).take k) ++ bytesW z j ++ [byteW z j] = bytesL ((normW A).take k) ++ bytesW z (j + 1) := by rw [bytesW_succ, List.append_assoc]
          exact Z.againO a' cap' ⟨by omega, hX', by rw [← e2]; exact hO⟩ (by repeat' first | exact trivial | (refine And.intro ?_ ?_) | exact rfl | (rw [←e2]; exact rfl))
        · obtain rfl : j = 8 := by omega
          have e2 : bytesL ((normW A).take k) ++ bytesW z 8 = bytesL ((normW A).take (k + 1)) := by rw [e1, bytesL_app]
          repeat' (first
            | (apply W.condKF; exact rfl; (focus (exact dec_false (by omega); done)))
            | (show WL _ _ _ _ _ _ _; first | apply WL.nil | (refine WL.au (k := ?_)))
            | (show Z _ _ _ _ _; first | apply Z.then_normal | apply Z.block_normal | apply Z.then_exit | apply Z.block_exit)
            | (show W _ _ _ _ _ _; first | apply W.seq | apply W.region | apply W.exit)
            | fail)
          exact Z.againO bb cp ⟨by omega, hX2, by rw [← e2]; exact hO2⟩ (by repeat' first | exact trivial | (refine And.intro ?_ ?_) | exact rfl | (rw [←e2]; exact rfl))
    · obtain rfl : k = A.length := by omega
      rw [List.take_of_length_le (by omega)] at hO1
      rw [List.take_of_length_le (by omega)]
      have R8 := hO1.row enc8k_ok
      repeat' (first
        | (apply W.condKF; exact rfl; (focus (exact dec_false (by omega); done)))
        | (apply WL.convS tOk; exact rfl; exact rfl; exact rfl; exact rfl; exact rfl; exact rfl; exact rfl; exact rfl; exact rfl; assumption; (exact extA); (first | exact rfl | (focus (simp only [List.length_set]; done)) | (focus (simp; done)) | (focus (simp [*]; done)) | omega | (focus (simp only [List.length_set]; omega))))
        | (show WL _ _ _ _ _ _ _; first | apply WL.nil | (refine WL.au (k := ?_)))
        | (show Z _ _ _ _ _; first | apply Z.then_normal | apply Z.then_exit | apply Z.block_exit)
        | (show W _ _ _ _ _ _; first | apply W.seq | apply W.region | apply W.ret | apply W.exit)
        | fail)
      exact Z.body2 Try.results48 rfl rfl fun m => ⟨rfl, Ext.at hX1 m⟩
end Go.Proofs.Ytlcenenkloicjaa
namespace Go.Lt
open Go.RowKit
set_option linter.unusedVariables false

theorem OwnRR.nil {α : Type} {s : Nat} {enc : α → List Value} {el elO B : Nat} {w : World} {a : Option Addr} {cap : Nat} (h : Own 1 encRow elO B w a cap ([] : List (RowV α))) : OwnRR s enc el elO B w a cap [] :=
  ⟨h, fun i r hr => by simp at hr, fun i r hr => by simp at hr, fun i j r q hr => by simp at hr⟩
/-- Rows told, and one more that is not put behind yet. -/
structure RR1 {α : Type} (s : Nat) (enc : α → List Value) (el elO B : Nat) (w : World) (a : Option Addr) (cap : Nat) (rs : List (RowV α)) (b : Option Addr) (dp : Nat) (S : List α) : Prop where
  rr : OwnRR s enc el elO B w a cap rs
  own : Own s enc el B w b dp S
  apartO : blk b = none ∨ blk b ≠ blk a
  apart : ∀ (i : Nat) (q : RowV α), rs[i]? = some q → blk q.1 = none ∨ blk q.1 ≠ blk b
section
variable {α : Type} {s : Nat} {enc : α → List Value} {el elO B : Nat} {w w1 w2 w3 : World} {a a' b : Option Addr} {cap cap' dp : Nat} {rs : List (RowV α)} {S : List α}
theorem RR1.ext (h : RR1 s enc el elO B w a cap rs b dp S) (hx : Ext w w1) : RR1 s enc el elO B w1 a cap rs b dp S := ⟨h.rr.ext hx, h.own.ext hx, h.apartO, h.apart⟩
theorem RR1.new (h : OwnRR s enc el elO B w1 a cap rs) (hx : Ext w1 w2) (hO : Own s enc el w1.heap.size w2 b dp S) (hB : B ≤ w1.heap.size) : RR1 s enc el elO B w2 a cap rs b dp S := by
  refine ⟨h.ext hx, hO.base hB, ?_, fun i q hq => ?_⟩
  · cases hb : blk b with
    | none => exact .inl rfl
    | some k =>
      refine .inr fun he => ?_
      have h1 := (hO.blk_lt k hb).1
      have h2 := (h.outer.blk_lt k he.symm).2
      omega
  · cases hb : blk q.1 with
    | none => exact .inl rfl
    | some k =>
      refine .inr fun he => ?_
      have h1 := ((h.inner i q hq).blk_lt k hb).2
      have h2 := (hO.blk_lt k he.symm).1
      omega
theorem RR1.first {g c0 : Nat} (hO : Own s enc el B w b dp S) (h : Own 1 encRow elO B w (some ⟨g, 0, none⟩) c0 ([] : List (RowV α))) (hg : ∀ k, blk b = some k → k ≠ g) : RR1 s enc el elO B w (some ⟨g, 0, none⟩) c0 [] b dp S := by
  refine ⟨OwnRR.nil h, hO, ?_, fun i q hq => by simp at hq⟩
  cases hb : blk b with
  | none => exact .inl rfl
  | some k =>
    refine .inr fun he => hg k hb ?_
    simp only [blk, Option.map_some, Option.some.injEq] at he; exact he
theorem RR1.push (h : RR1 s enc el elO B w2 a cap rs b dp S) (hU : Upd B a w2 w3) (hO : Own 1 encRow elO B w3 a' cap' (rs ++ [(b, dp, S)])) (hF : blk a' = blk a ∨ ∃ k, blk a' = some k ∧ w2.heap.size ≤ k) : OwnRR s enc el elO B w3 a' cap' (rs ++ [(b, dp, S)]) := by
  obtain ⟨hr, ho, hA, hI⟩ := h
  have get : ∀ (i : Nat) (q : RowV α), (rs ++ [(b, dp, S)])[i]? = some q → (i < rs.length ∧ rs[i]? = some q) ∨ (i = rs.length ∧ q = (b, dp, S)) := fun i q hq => by
    by_cases hi : i < rs.length
    · rw [List.getElem?_append_left hi] at hq; exact .inl ⟨hi, hq⟩
    · rw [List.getElem?_append_right (by omega)] at hq
      have h0 := lt_of_get hq
      simp at h0
      have h1 : i - rs.length = 0 := by omega
      rw [h1] at hq
      simp at hq
      exact .inr ⟨by omega, hq.symm⟩
  have lt2 : ∀ (i : Nat) (q : RowV α) (k : Nat), (rs ++ [(b, dp, S)])[i]? = some q → blk q.1 = some k → k < w2.heap.size := fun i q k hq hk => by
    rcases get i q hq with ⟨_, hq⟩ | ⟨_, rfl⟩
    · exact ((hr.inner i q hq).blk_lt k hk).2
    · exact (ho.blk_lt k hk).2
  have apA : ∀ (i : Nat) (q : RowV α), (rs ++ [(b, dp, S)])[i]? = some q → blk q.1 = none ∨ blk q.1 ≠ blk a := fun i q hq => by
    rcases get i q hq with ⟨_, hq⟩ | ⟨_, rfl⟩
    · exact hr.apartO i q hq
    · exact hA
  refine ⟨hO, fun i q hq => ?_, fun i q hq => ?_, fun i j q p h1 h2 hne => ?_⟩
  · rcases get i q hq with ⟨_, hq'⟩ | ⟨_, rfl⟩
    · exact hU.own (hr.inner i q hq') (hr.apartO i q hq')
    · exact hU.own ho hA
  · rcases hF with hF | ⟨k, hk, hle⟩
    · rw [hF]; exact apA i q hq
    · cases hb : blk q.1 with
      | none => exact .inl rfl
      | some b =>
        refine .inr fun he => ?_
        have := lt2 i q b hq hb
        rw [hk] at he
        have := Option.some.inj he
        omega
  · rcases get i q h1 with ⟨_, h1'⟩ | ⟨rfl, rfl⟩
    · rcases get j p h2 with ⟨_, h2'⟩ | ⟨rfl, rfl⟩
      · exact hr.apart i j q p h1' h2' hne
      · exact hI i q h1'
    · rcases get j p h2 with ⟨_, h2'⟩ | ⟨rfl, rfl⟩
      · show blk b = none ∨ blk b ≠ blk p.1
        cases hb : blk b with
        | none => exact .inl rfl
        | some k =>
          refine .inr fun he => ?_
          rcases hI j p h2' with h3 | h3
          · rw [h3] at he; cases he
          · exact h3 (by rw [hb]; exact he.symm)
      · exact absurd rfl hne
end
theorem OwnRR.base {α : Type} {s : Nat} {enc : α → List Value} {el elO B C : Nat} {w : World} {a : Option Addr} {cap : Nat} {rs : List (RowV α)} (h : OwnRR s enc el elO C w a cap rs) (hB : B ≤ C) : OwnRR s enc el elO B w a cap rs := ⟨h.outer.base hB, fun i r hr => (h.inner i r hr).base hB, h.apartO, h.apart⟩
theorem OwnRR.row {α : Type} {s : Nat} {enc : α → List Value} {el elO B : Nat} {w : World} {a : Option Addr} {cap : Nat} {rs : List (RowV α)} (h : OwnRR s enc el elO B w a cap rs) (hE : Enc s enc) {i : Nat} {r : RowV α} (hr : rs[i]? = some r) : Row s enc w r.1 r.2.2 := (h.inner i r hr).row hE
theorem OwnRR.at {α : Type} {s : Nat} {enc : α → List Value} {el elO B : Nat} {w : World} {a : Option Addr} {cap : Nat} {rs : List (RowV α)} (h : OwnRR s enc el elO B w a cap rs) (m : Nat) : OwnRR s enc el elO B (at' w m) a cap rs := h.ext ((Ext.refl w).at m)
end Go.Lt
namespace Go.Proofs.Ytlcenenkloicjaa
open Go Go.Lt Go.RowKit
set_option linter.unusedVariables false
set_option linter.unusedSimpArgs false
set_option maxRecDepth 20000

/-- What was there is as it was: along a chain. -/
theorem extF {a b : World} (h : Ext a b := by repeat (first | assumption | exact Ext.refl _ | refine Ext.trans (by assumption) ?_)) : Ext a b := h
section
variable (n : List (Int × Int)) (s : BitVec 64)
/-- What the variables are in the j-th round. -/
def wrd (j : Nat) : List (BitVec 64) := wvalues n (rrow s (j * cnt n n.length) (cnt n n.length))
/-- What variable v looks like, behind j rounds. -/
def colV (j v : Nat) : List (BitVec 64) := (List.range j).map fun i => (wrd n s i).getD v 0#64
def colC (j q v : Nat) : List (BitVec 64) := colV n s (if v < q then j + 1 else j) v
def sigsV (wc : Nat) : List (List (BitVec 64)) := tab (n.length + 1) (colV n s wc)
end
section
variable {n : List (Int × Int)} {s : BitVec 64}
theorem wrd_len (j : Nat) : (wrd n s j).length = n.length + 1 := (wto_len n _ n.length (Nat.le_refl _)).1
theorem colV_succ {j v : Nat} {x : BitVec 64} (h : (wrd n s j)[v]? = some x) : colV n s (j + 1) v = colV n s j v ++ [x] := by
  unfold colV; rw [List.range_succ, List.map_append]; congr 1
  simp [List.getD, h]
theorem colV_len (j v : Nat) : (colV n s j v).length = j := by unfold colV; rw [List.length_map, List.length_range]
theorem colC_len (j q v : Nat) : (colC n s j q v).length ≤ j + 1 := by unfold colC; rw [colV_len]; split <;> omega
theorem colC_yes {j v : Nat} {x : BitVec 64} (h : (wrd n s j)[v]? = some x) : colC n s j (v + 1) v = colC n s j v v ++ [x] := by
  unfold colC; rw [if_pos (by omega), if_neg (by omega)]; exact colV_succ h
theorem colC_other {j q v : Nat} (h : v ≠ q) : colC n s j (q + 1) v = colC n s j q v := by
  unfold colC
  by_cases h1 : v < q
  · rw [if_pos h1, if_pos (by omega)]
  · rw [if_neg h1, if_neg (by omega)]
theorem colC_next {j q v : Nat} (h : v < q) : colC n s j q v = colC n s (j + 1) 0 v := by unfold colC; rw [if_pos h, if_neg (by omega)]
/-- What is drawn of a round, when k are drawn. -/
def drT (s : BitVec 64) (b m k : Nat) : List (BitVec 64) := tab m (fun u => if u < k then rval s (b + u) else 0#64)
theorem drT_len (s : BitVec 64) (b m k : Nat) : (drT s b m k).length = m := tab_len _ _
theorem drT_start (s : BitVec 64) (b m : Nat) : List.replicate m 0#64 = drT s b m 0 := by rw [tab_rep]; exact tab_congr fun u hu => (if_neg (by omega)).symm
theorem drT_get {b m k : Nat} (h : k < m) : (drT s b m k)[k]? = some 0#64 := by unfold drT; rw [tab_get _ h, if_neg (by omega)]
theorem drT_set {b m k : Nat} (h : k < m) : (drT s b m k).set k (rval s (b + k)) = drT s b m (k + 1) := by
  refine tab_set fun u hu => ?_
  by_cases h1 : u = k
  · subst h1; rw [if_pos rfl, if_pos (by omega)]
  · rw [if_neg h1]
    by_cases h2 : u < k
    · rw [if_pos h2, if_pos (by omega)]
    · rw [if_neg h2, if_neg (by omega)]
theorem drT_all (s : BitVec 64) (b m : Nat) : drT s b m m = rrow s b m := by
  refine (tab_eq (l := rrow s b m) (rrow_len s b m) fun u x hx => ?_).symm
  have hu := lt_of_get hx
  rw [rrow_len] at hu
  rw [rrow_get hu] at hx
  rw [if_pos hu]; exact Option.some.inj hx
end
/-- Rows of words, and a variable beside them. -/
structure SgAt (w0 w : World) (gc : Nat) (cs : Array Value) (ty : Nat) (gB : Nat) (rs : List (RowV (BitVec 64))) : Prop where
  cell : w.heap[gc]? = some (.cells cs ty (0, 0))
  rr : OwnRR 1 encV 23 31 w0.heap.size w (some ⟨gB, 0, none⟩) rs.length rs
  lc : w0.heap.size ≤ gc
  neO : gB ≠ gc
  neI : ∀ (i : Nat) (r : RowV (BitVec 64)) (k : Nat), rs[i]? = some r → blk r.1 = some k → k ≠ gc
section
variable {w0 wA w w1 w2 : World} {gc gB B : Nat} {cs cs' : Array Value} {ty : Nat} {rs : List (RowV (BitVec 64))}
theorem SgAt.ext (h : SgAt w0 w gc cs ty gB rs) (hx : Ext w w1) : SgAt w0 w1 gc cs ty gB rs :=
  ⟨by rw [hx.block gc (heap_lt h.cell)]; exact h.cell, h.rr.ext hx, h.lc, h.neO, h.neI⟩
theorem SgAt.putC (h : SgAt w0 w gc cs ty gB rs) (hU : Upd B (some ⟨gc, 0, none⟩) w w1) (hc : w1.heap[gc]? = some (.cells cs' ty (0, 0))) : SgAt w0 w1 gc cs' ty gB rs := by
  refine ⟨hc, h.rr.kept hU (.inr fun he => h.neO (Option.some.inj he)) (fun i r hr => ?_), h.lc, h.neO, h.neI⟩
  cases hb : blk r.1 with
  | none => exact .inl rfl
  | some k => exact .inr fun he => h.neI i r k hr hb (Option.some.inj he)
theorem SgAt.new {cs0 : Array Value} {g : Nat} (hA : SgAt w0 wA gc cs0 ty gB rs) (h : SgAt w0 w gc cs ty gB rs) (hU : Upd B (some ⟨g, 0, none⟩) w w1) (hg : wA.heap.size ≤ g) : SgAt w0 w1 gc cs ty gB rs := by
  have h2 := heap_lt hA.cell
  have h3 := (hA.rr.outer.blk_lt gB rfl).2
  refine ⟨?_, h.rr.kept hU (.inr fun he => by have h4 := Option.some.inj he; simp only at h4; omega) (fun i r hr => ?_), h.lc, h.neO, h.neI⟩
  · rw [hU.grown.block gc (heap_lt h.cell) (fun he => by have h4 := Option.some.inj he; simp only at h4; omega)]; exact h.cell
  · cases hb : blk r.1 with
    | none => exact .inl rfl
    | some k =>
      refine .inr fun he => ?_
      have h4 := ((hA.rr.inner i r hr).blk_lt k hb).2
      have h5 := Option.some.inj he
      simp only at h5; omega
theorem SgAt.putB {k cap' : Nat} {l' : List (BitVec 64)} {r : RowV (BitVec 64)} {a' : Option Addr} (h : SgAt w0 w gc cs ty gB rs) (hr : rs[k]? = some r) (hU : Upd w0.heap.size r.1 w w1) (hF : blk a' = blk r.1 ∨ ∃ q, blk a' = some q ∧ w.heap.size ≤ q)
    (hO1 : Own 1 encV 23 w0.heap.size w1 a' cap' l') (hU2 : Upd w0.heap.size (some ⟨gB, 0, none⟩) w1 w2) (hO2 : Own 1 encRow 31 w0.heap.size w2 (some ⟨gB, 0, none⟩) rs.length (rs.set k (a', cap', l'))) : SgAt w0 w2 gc cs ty gB (rs.set k (a', cap', l')) := by
  have hcb := heap_lt h.cell
  have hc1 : w1.heap[gc]? = some (.cells cs ty (0, 0)) := by
    rw [hU.grown.block gc hcb (fun he => (h.neI k r gc hr (by first | exact he | exact he.symm)) rfl)]; exact h.cell
  have hc2 : w2.heap[gc]? = some (.cells cs ty (0, 0)) := by
    rw [hU2.grown.block gc (heap_lt hc1) (fun he => by have h1 := Option.some.inj he; have h2 := h.neO; simp only at h1; omega)]; exact hc1
  have el : (rs.set k (a', cap', l')).length = rs.length := List.length_set
  refine ⟨hc2, ?_, h.lc, h.neO, fun j q z hq hz => ?_⟩
  · rw [el]; exact h.rr.step hr hU hF hO1 hU2 hO2
  · rw [List.getElem?_set] at hq
    by_cases hj : k = j
    · subst hj
      rw [if_pos rfl, if_pos (lt_of_get hr)] at hq
      rw [← Option.some.inj hq] at hz
      rcases hF with hF | ⟨y, hy, hle⟩
      · exact h.neI k r z hr (by rw [← hF]; exact hz)
      · have hzz : blk a' = some z := hz
        rw [hy] at hzz
        have := Option.some.inj hzz
        omega
    · rw [if_neg hj] at hq
      exact h.neI j q z hq hz
end
theorem rowset {rs : List (RowV (BitVec 64))} {i : Nat} {f g : Nat → List (BitVec 64)} {q : RowV (BitVec 64)} (hc : ∀ v r, rs[v]? = some r → r.2.2 = f v) (hi : i < rs.length) (hq : q.2.2 = g i) (ho : ∀ v, v ≠ i → g v = f v) : ∀ v r, (rs.set i q)[v]? = some r → r.2.2 = g v := by
  intro v r hr
  rw [List.getElem?_set] at hr
  by_cases h : i = v
  · subst h
    rw [if_pos rfl, if_pos hi] at hr
    rw [← Option.some.inj hr]; exact hq
  · rw [if_neg h] at hr
    rw [ho v (fun hh => h hh.symm)]; exact hc v r hr
theorem apset {rs : List (RowV (BitVec 64))} {i : Nat} {q r : RowV (BitVec 64)} {S : Option Nat} {m : Nat} (h : ∀ (v : Nat) (r : RowV (BitVec 64)), rs[v]? = some r → blk r.1 = none ∨ blk r.1 ≠ S) (hr : rs[i]? = some r) (hF : blk q.1 = blk r.1 ∨ ∃ k, blk q.1 = some k ∧ m ≤ k) (hS : ∀ k, S = some k → k < m) : ∀ (v : Nat) (p : RowV (BitVec 64)), (rs.set i q)[v]? = some p → blk p.1 = none ∨ blk p.1 ≠ S := by
  intro v p hp
  rw [List.getElem?_set] at hp
  by_cases hv : i = v
  · subst hv
    rw [if_pos rfl, if_pos (lt_of_get hr)] at hp
    obtain rfl := Option.some.inj hp
    rcases hF with hF | ⟨k, hk, hle⟩
    · rw [hF]; exact h i r hr
    · refine .inr fun he => ?_
      rw [hk] at he
      have := hS k he.symm
      omega
  · rw [if_neg hv] at hp; exact h v p hp
theorem apsymm {a b : Option Nat} (h : a = none ∨ a ≠ b) (hb : b ≠ none) : b = none ∨ b ≠ a := by
  rcases h with h | h
  · exact .inr fun he => hb (by rw [he, h])
  · exact .inr fun he => h he.symm
theorem apsymm' {a b : Option Nat} (h : a = none ∨ a ≠ b) : b = none ∨ b ≠ a := by
  cases b with
  | none => exact .inl rfl
  | some k => exact apsymm h (by simp)
abbrev zV : RowV (BitVec 64) := (none, 0, [])
set_option maxHeartbeats 8000000 in
theorem sig_Sigs (ra : Option Addr) (cap : Nat) (n : List (Int × Int)) (s : BitVec 64) (words : Int) (w : World) (R : Row 2 encN w ra n) (hg : GoodNet n) (hn : n.length ≤ 1048576) (wc : Nat) (hW : min (max words 0) 64 = (wc : Int)) :
    Lt.Spec Try.prog 9 [.slice ra n.length cap, u64 s, .int .i64 words] w (IsFreshRR 1 encV 23 31 w (sigsV n s wc)) := by
  refine Spec.of _ Try.func9 rfl Try.ntmps9 (by kernel_rfl) rfl ?_
  have en1 : ((n.length : Int) + 1).toNat = n.length + 1 := by omega
  obtain ⟨m, hm⟩ : ∃ m, m = cnt n n.length := ⟨_, rfl⟩
  have hil : (inputs n).length = m := by rw [hm]; exact inTo_len n n.length (Nat.le_refl _)
  have hml : m ≤ n.length := by rw [hm]; exact cnt_le n n.length
  have hrow : ∀ j, wrd n s j = wvalues n (rrow s (j * m) m) := fun j => by rw [hm]; rfl
  have erl : (List.replicate (n.length + 1) zV).length = n.length + 1 := List.length_replicate
  repeat' (first
    | (apply WL.min; exact rfl; exact rfl; exact rfl; exact rfl)
    | (apply WL.max; exact rfl; exact rfl; exact rfl; exact rfl)
    | (show W _ _ (.region 1 _ _) _ _ _; apply W.regionGX (.fl true 0 (.fl true 1 (.fl true 2 (.fl true 4 (.fl true 6 (.br 3 (.br 5 (.br 7 (.fl true 8 (.fl true 9 (.fl true 10 .done))) .stop) .stop) (.br 5 (.br 3 (.br 7 (.fl true 8 (.fl true 9 (.fl true 10 .done))) .stop) (.br 7 (.br 3 (.fl true 8 (.fl true 9 (.fl true 10 .done))) .stop) .stop)) .stop))))))) [] tMix; kernel_rfl)
    | ((apply WL.makeC (w0 := w) (z := zV) tOk; exact rfl; exact rfl; exact rfl; exact rfl; exact rfl; exact rfl; exact rfl; exact rfl; exact rfl; exact encRow_ok; exact rfl; exact rfl; exact (by (exact extA)); omega; intro gO wO hOO hgeO hxO))
    | (((show WL _ _ _ (⟨_, .call ⟨.value (.func 42), _, _⟩, _, _, _, _⟩ :: _) _ _ _); apply WL.call; exact rfl; exact rfl; exact rfl; exact rfl; exact rand_New s _; rintro v' wN ⟨hxN, gr, rfl, hgeN, hcN⟩))
    | ((show WL _ _ _ (⟨_, .call ⟨.value (.func 43), _, _⟩, _, _, _, _⟩ :: _) _ _ _); apply WL.call; exact rfl; exact rfl; exact rfl; exact rfl; exact aig_Inputs _ _ n _ (R.ext (by (exact extA))) hn; rintro v' w' ⟨hx, a', cap', rfl, hO⟩)
    | (show SX _ _ _ _ _ _ _ _ _; first | (apply SX.done; intro w' hx) | (apply SX.fl0; exact rfl) | (apply SX.br1; exact rfl; intro w' hx) | (apply SX.br; exact rfl; (intro w' hx)))
    | (show FL _ _ _ _ _ _ _ _; apply FL.nilX)
    | (show FL _ _ _ _ _ _ _ _; (refine FL.au (k := ?_)))
    | (show Z _ _ _ _ _; (apply Z.sxL; exact rfl))
    | (show WL _ _ _ _ _ _ _; first | apply WL.nil | (refine WL.au (k := ?_)))
    | (show Z _ _ _ _ _; apply Z.then_normal)
    | (show W _ _ _ _ _ _; first | apply W.seq | apply W.region | apply W.block)
    | fail)
  all_goals
    have q1 : w.heap.size ≤ gr := Nat.le_trans (Below.size extF) hgeN
    have hXN : Ext wN w' := extF
    have hXO : Ext wO w' := extF
    have hX1 : Ext w w' := extF
    have q2 : gO ≠ gr := by
      intro he
      rcases (hOO.ext hXO).2 with ⟨h1, _⟩ | ⟨g, c, cur, h1, _, h3, _⟩
      · simp at h1
      · simp only [Value.slice.injEq, Option.some.injEq, Addr.mk.injEq] at h1
        rw [← h1.1.1, he, hXN.block gr (heap_lt hcN), hcN] at h3
        simp at h3
    rw [en1] at hOO ⊢
    rw [hil]
    have hSg : SgAt w w' gr #[u64 (rst s (0 * m))] 117 gO (List.replicate (n.length + 1) zV) := by
      refine ⟨by rw [hXN.block gr (heap_lt hcN), Nat.zero_mul]; exact hcN, ?_, q1, q2, fun i r k hr hk => ?_⟩
      · rw [erl]; exact OwnRR.start (hOO.ext hXO)
      · rw [List.getElem?_replicate] at hr
        split at hr
        · rw [← Option.some.inj hr] at hk; cases hk
        · cases hr
    obtain ⟨w1, rfl⟩ : ∃ x, x = w' := ⟨_, rfl⟩; obtain ⟨aI, rfl⟩ : ∃ x, x = a' := ⟨_, rfl⟩; obtain ⟨cI, rfl⟩ : ∃ x, x = cap' := ⟨_, rfl⟩
    clear hOO hcN hO hgeO hgeN hXN hXO
    refine W.loopW wc (fun j w' => j ≤ wc ∧ Ext w w' ∧ ∃ rs : List (RowV (BitVec 64)), SgAt w w' gr #[u64 (rst s (j * m))] 117 gO rs ∧ rs.length = n.length + 1 ∧ ∀ (v : Nat) r, rs[v]? = some r → r.2.2 = colC n s j 0 v)
      (fun j => [(0, .slice ra n.length cap), (7, .slice (some ⟨gO, 0, none⟩) (n.length + 1) (n.length + 1)), (8, .pointer (some ⟨gr, 0, none⟩)), (9, .slice aI m cI), (24, .int .i64 (wc : Int)), (25, .int .i64 j)]) ⟨Nat.zero_le _, hX1, _, hSg, erl, fun v r hr => ?_⟩ (fun k w' h => h.1) (by repeat' first | exact trivial | (refine And.intro ?_ ?_) | exact rfl | (rw [hW]; exact rfl) | (rw [erl]; exact rfl)) ?_
    · rw [List.getElem?_replicate] at hr
      split at hr
      · rw [← Option.some.inj hr]; rfl
      · cases hr
    clear hSg
    rintro j w2 ⟨hj, hX2, rs, hS, hrl, hrv⟩
    by_cases hlt : j < wc
    · have hjw : wc ≤ 64 := by omega
      repeat' (first
        | (apply W.condKT; exact rfl; (focus (exact dec_true (by omega); done)))
        | (apply WL.makeC (w0 := w2) (z := 0#64) tOk; exact rfl; exact rfl; exact rfl; exact rfl; exact rfl; exact rfl; exact rfl; exact rfl; exact rfl; exact encV_ok; exact rfl; exact rfl; (exact extA); (first | omega | (simp; omega) | (simp at *; omega)); intro gb w' hO hge hx)
        | (show WL _ _ _ _ _ _ _; first | apply WL.nil | (refine WL.au (k := ?_)))
        | (show Z _ _ _ _ _; apply Z.then_normal)
        | (show W _ _ _ _ _ _; first | apply W.seq | apply W.region | apply W.block | apply W.skip)
        | fail)
      have em : ((m : Nat) : Int).toNat = m := Int.toNat_natCast _
      rw [em] at hO ⊢
      rw [drT_start s (j * m)] at hO
      obtain ⟨gd, rfl⟩ : ∃ x, x = gb := ⟨_, rfl⟩; obtain ⟨w3, rfl⟩ : ∃ x, x = w' := ⟨_, rfl⟩
      have hX3 : Ext w2 w3 := hx
      have hsz := Below.size hX2
      have hne : blk (some ⟨gd, 0, none⟩ : Option Addr) ≠ blk (some ⟨gr, 0, none⟩ : Option Addr) := fun he => by
        have h1 := heap_lt hS.cell
        have h2 := Option.some.inj he
        simp only at h2; omega
      have eml : (List.replicate m 0#64).length = m := List.length_replicate
      have e00 : j * m + 0 = j * m := Nat.add_zero _
      refine W.loopW m (fun k w' => k ≤ m ∧ Ext w w' ∧ SgAt w w' gr #[u64 (rst s (j * m + k))] 117 gO rs ∧ Own 1 encV 23 w.heap.size w' (some ⟨gd, 0, none⟩) m (drT s (j * m) m k))
        (fun k => [(0, .slice ra n.length cap), (7, .slice (some ⟨gO, 0, none⟩) (n.length + 1) (n.length + 1)), (8, .pointer (some ⟨gr, 0, none⟩)), (9, .slice aI m cI), (24, .int .i64 (wc : Int)), (25, .int .i64 j), (10, .slice (some ⟨gd, 0, none⟩) m m), (30, .slice (some ⟨gd, 0, none⟩) m m), (31, .int .i64 (m : Nat)), (32, .int .i64 k)]) ⟨Nat.zero_le _, hX2.trans hX3, hS.ext hX3, hO.base hsz⟩ (fun k w' h => h.1) (by repeat' first | exact trivial | (refine And.intro ?_ ?_) | exact rfl | (rw [eml]; exact rfl)) ?_
      clear hO
      rintro k w4 ⟨hk, hX4, hS4, hO4⟩
      have hdl := drT_len s (j * m) m k
      by_cases hlk : k < m
      · have hz := drT_get (s := s) (b := j * m) hlk
        repeat' (first
          | (apply W.condKT; exact rfl; (focus (exact dec_true (by omega); done)))
          | (((show WL _ _ _ (⟨_, .call ⟨.value (.func 44), _, _⟩, _, _, _, _⟩ :: _) _ _ _); apply WL.call; exact rfl; exact rfl; exact rfl; exact rfl; exact rand_Next gr _ w _ hX4 hS4.lc hS4.cell; rintro v' w5 ⟨rfl, hX5, hc5, hU5⟩; have hS5 := hS4.putC hU5 hc5; have hO5 := hU5.own hO4 (.inr hne)))
          | (apply WL.indexO tOk; exact rfl; exact rfl; exact rfl; exact rfl; exact rfl; exact rfl; exact rfl; exact rfl; assumption; (exact extA); exact encV_ok; (first | exact rfl | (focus (simp only [List.length_set]; done)) | (focus (simp; done)) | (focus (simp [*]; done)) | omega | (focus (simp only [List.length_set]; omega))); omega; assumption; intro gb ha hc; cases ha; have hcc := hc; first | (obtain ⟨h1, h2, h3, _⟩ := hc) | (obtain ⟨h1, h2, _⟩ := hc) | (obtain ⟨h1, _⟩ := hc))
          | (apply WL.storeO tOk; exact rfl; exact rfl; exact rfl; exact rfl; assumption; (exact extA); exact rfl; exact rfl; exact rfl; exact encV_ok; assumption; exact rfl; (exact extA); intro w' hO hX' hU)
          | (show WL _ _ _ _ _ _ _; first | apply WL.nil | (refine WL.au (k := ?_)))
          | (show Z _ _ _ _ _; first | apply Z.then_normal | apply Z.block_normal)
          | (show W _ _ _ _ _ _; first | apply W.seq | apply W.region | apply W.block | apply W.skip)
          | fail)
        rw [Int.toNat_natCast, show rmix (rst s (j * m + k) + rC) = rval s (j * m + k) from rfl, drT_set hlk] at hO
        exact Z.againW ⟨by omega, hX', SgAt.new hS hS5 hU (by omega), hO⟩ (by repeat' first | exact trivial | (refine And.intro ?_ ?_) | exact rfl)
      · obtain rfl : k = m := by omega
        rw [drT_all] at hO4
        have hrl9 := rrow_len s (j * k) k
        have RD := hO4.row encV_ok
        repeat' (first
          | (apply W.condKF; exact rfl; (focus (exact dec_false (by omega); done)))
          | (((show WL _ _ _ (⟨_, .call ⟨.value (.func 45), _, _⟩, _, _, _, _⟩ :: _) _ _ _); apply WL.call; exact rfl; exact rfl; exact rfl; exact rfl; exact (show Lt.Spec _ _ _ _ _ by have h := sim_Words ra (some ⟨gd, 0, none⟩) cap k n (rrow s (j * k) k) _ (R.ext hX4) RD (by omega) hg hn; rw [hrl9] at h; exact h); rintro v' w' ⟨hx, aW, cW, rfl, hOW⟩))
          | (show WL _ _ _ _ _ _ _; first | apply WL.nil | (refine WL.au (k := ?_)))
          | (show Z _ _ _ _ _; first | apply Z.then_normal | apply Z.then_exit | apply Z.block_exit)
          | (show W _ _ _ _ _ _; first | apply W.seq | apply W.region | apply W.block | apply W.exit)
          | fail)
        rw [← hrow j] at hOW ⊢
        have hwl := wrd_len (n := n) (s := s) j
        obtain ⟨w5, rfl⟩ : ∃ x, x = w' := ⟨_, rfl⟩
        have hX5 : Ext w4 w5 := hx
        have hS5 := hS4.ext hX5
        have hWb : ∀ q, blk aW = some q → w4.heap.size ≤ q := fun q hq => (hOW.blk_lt q hq).1
        have hrj : rst s (j * k + k) = rst s ((j + 1) * k) := by rw [Nat.succ_mul]
        rw [hrj] at hS5
        have hOW0 := hOW.base (Below.size hX4)
        have hapW : ∀ (v : Nat) (r : RowV (BitVec 64)), rs[v]? = some r → blk r.1 = none ∨ blk r.1 ≠ blk aW := fun v r hr => by
          cases hb : blk r.1 with
          | none => exact .inl rfl
          | some q =>
            refine .inr fun he => ?_
            have h3 := hWb q he.symm
            have h4 := ((hS4.rr.inner v r hr).blk_lt q hb).2
            omega
        have hgOW : blk aW ≠ some gO := fun he => by have h3 := hWb gO he; have h4 := (hS4.rr.outer.blk_lt gO rfl).2; omega
        clear hS4 hOW hO4 RD
        refine W.loopW (n.length + 1) (fun q w' => q ≤ n.length + 1 ∧ Ext w w' ∧ ∃ rs : List (RowV (BitVec 64)), SgAt w w' gr #[u64 (rst s ((j + 1) * k))] 117 gO rs ∧ rs.length = n.length + 1 ∧ (∀ (v : Nat) r, rs[v]? = some r → r.2.2 = colC n s j q v) ∧ Own 1 encV 23 w.heap.size w' aW cW (wrd n s j) ∧ ∀ (v : Nat) (r : RowV (BitVec 64)), rs[v]? = some r → blk r.1 = none ∨ blk r.1 ≠ blk aW)
          (fun q => [(0, .slice ra n.length cap), (7, .slice (some ⟨gO, 0, none⟩) (n.length + 1) (n.length + 1)), (8, .pointer (some ⟨gr, 0, none⟩)), (9, .slice aI k cI), (24, .int .i64 (wc : Int)), (25, .int .i64 j), (43, .slice aW (wrd n s j).length cW), (44, .int .i64 ((wrd n s j).length : Nat)), (45, .int .i64 q)]) ⟨Nat.zero_le _, hX4.trans hX5, rs, hS5, hrl, hrv, hOW0, hapW⟩ (fun k w' h => h.1) (by repeat' first | exact trivial | (refine And.intro ?_ ?_) | exact rfl) ?_
        clear hS5 hOW0 hapW
        clear hS hrv hrl
        clear rs
        rintro q w6 ⟨hq, hX6, rs, hS, hrl, hrv, hOW, hap⟩
        by_cases hlq : q < n.length + 1
        · obtain ⟨x, hxq⟩ := getI (wrd n s j) (show q < (wrd n s j).length by omega)
          obtain ⟨r, hr⟩ := getI rs (show q < rs.length by omega)
          have hrlen : r.2.2.length ≤ j + 1 := by rw [hrv q r hr]; exact colC_len j q q
          have hOut : Own 1 encRow 31 w.heap.size w6 (some ⟨gO, 0, none⟩) (n.length + 1) rs := by have := hS.rr.outer; rwa [hrl] at this
          have hIn := hS.rr.inner q r hr
          have hnO := hS.rr.outNe hr
          repeat' (first
            | (apply W.condKT; exact rfl; (focus (exact dec_true (by omega); done)))
            | (apply WL.indexO tOk; exact rfl; exact rfl; exact rfl; exact rfl; exact rfl; exact rfl; exact rfl; exact rfl; assumption; (exact extA); exact encV_ok; (first | exact rfl | (focus (simp only [List.length_set]; done)) | (focus (simp; done)) | (focus (simp [*]; done)) | omega | (focus (simp only [List.length_set]; omega))); omega; assumption; intro gb ha hc; cases ha; have hcc := hc; first | (obtain ⟨h1, h2, h3, _⟩ := hc) | (obtain ⟨h1, h2, _⟩ := hc) | (obtain ⟨h1, _⟩ := hc))
            | (apply WL.indexO tOk; exact rfl; exact rfl; exact rfl; exact rfl; exact rfl; exact rfl; exact rfl; exact rfl; assumption; (exact extA); exact encRow_ok; (first | exact rfl | (focus (simp only [List.length_set]; done)) | (focus (simp; done)) | (focus (simp [*]; done)) | omega | (focus (simp only [List.length_set]; omega))); omega; assumption; intro gb ha hc; cases ha; have hcc := hc; first | (obtain ⟨h1, h2, h3, _⟩ := hc) | (obtain ⟨h1, h2, _⟩ := hc) | (obtain ⟨h1, _⟩ := hc))
            | (apply WL.lit tOk; exact rfl; exact rfl; exact rfl; exact rfl; exact rfl; exact rfl; (first | exact rfl | kernel_rfl | (simp [Instr.fill, catCells]; done)); exact rfl; intro gb w' hb hge hc hx)
            | ((apply WL.append1 (z := x) tOk encV_ok; exact rfl; exact rfl; exact rfl; exact rfl; exact rfl; exact rfl; exact rfl; exact rfl; exact rfl; exact rfl; exact hIn; exact (by (exact extA)); exact rfl; assumption; exact rfl; exact rfl; exact (by (exact extA)); omega; intro a4 cap4 w4 hO4 hX4 hU4 hF4))
            | (show WL _ _ _ _ _ _ _; first | apply WL.nil | (refine WL.au (k := ?_)))
            | (show Z _ _ _ _ _; apply Z.then_normal)
            | (show W _ _ _ _ _ _; first | apply W.seq | apply W.region | apply W.block | apply W.skip)
            | fail)
          have hXL : Ext w6 w' := (by (exact extA))
          obtain ⟨wL, rfl⟩ : ∃ x, x = w' := ⟨_, rfl⟩
          have hOut9 := hU4.own (hOut.ext hXL) hnO
          repeat' (first
            | (apply WL.indexO tOk; exact rfl; exact rfl; exact rfl; exact rfl; exact rfl; exact rfl; exact rfl; exact rfl; assumption; (exact extA); exact encRow_ok; (first | exact rfl | (focus (simp only [List.length_set]; done)) | (focus (simp; done)) | (focus (simp [*]; done)) | omega | (focus (simp only [List.length_set]; omega))); omega; assumption; intro gb ha hc; cases ha; have hcc := hc; first | (obtain ⟨h1, h2, h3, _⟩ := hc) | (obtain ⟨h1, h2, _⟩ := hc) | (obtain ⟨h1, _⟩ := hc))
            | ((apply WL.storeO (z' := ((a4, cap4, r.2.2 ++ [x]) : RowV (BitVec 64))) tOk; exact rfl; exact rfl; exact rfl; exact rfl; exact hOut9; exact (by (exact extA)); exact rfl; exact rfl; exact rfl; exact encRow_ok; assumption; exact rfl; exact (by (exact extA)); intro w5 hO5 hX5 hU5))
            | (show WL _ _ _ _ _ _ _; first | apply WL.nil | (refine WL.au (k := ?_)))
            | (show Z _ _ _ _ _; first | apply Z.then_normal | apply Z.block_normal)
            | (show W _ _ _ _ _ _; apply W.region)
            | fail)
          have hOW9 := hU5.own (hU4.own (hOW.ext hXL) (apsymm' (hap q r hr))) (.inr hgOW)
          rw [Int.toNat_natCast] at hO5
          have hKf := (hS.ext hXL).putB hr hU4 hF4 hO4 hU5 (by rw [hrl]; exact hO5)
          refine Z.againW ⟨by omega, hX5, _, hKf, by rw [List.length_set]; exact hrl, rowset (g := colC n s j (q + 1)) hrv (by omega) ?_ (fun v hv => colC_other hv), hOW9, apset hap hr hF4 (fun k hk => by have h5 := ((hOW.ext hXL).blk_lt k hk).2; omega)⟩ (by repeat' first | exact trivial | (refine And.intro ?_ ?_) | exact rfl)
          show r.2.2 ++ _ = _
          rw [hrv q r hr, colC_yes hxq]
        · obtain rfl : q = n.length + 1 := by omega
          repeat' (first
            | (apply W.condKF; exact rfl; (focus (exact dec_false (by omega); done)))
            | (show WL _ _ _ _ _ _ _; first | apply WL.nil | (refine WL.au (k := ?_)))
            | (show Z _ _ _ _ _; first | apply Z.then_normal | apply Z.block_normal | apply Z.then_exit | apply Z.block_exit)
            | (show W _ _ _ _ _ _; first | apply W.seq | apply W.region | apply W.exit)
            | fail)
          exact Z.againW ⟨by omega, hX6, rs, hS, hrl, fun v r hr => by rw [hrv v r hr]; exact colC_next (by have := lt_of_get hr; omega)⟩ (by repeat' first | exact trivial | (refine And.intro ?_ ?_) | exact rfl)
    · obtain rfl : j = wc := by omega
      repeat' (first
        | (apply W.condKF; exact rfl; (focus (exact dec_false (by omega); done)))
        | (show WL _ _ _ _ _ _ _; first | apply WL.nil | (refine WL.au (k := ?_)))
        | (show Z _ _ _ _ _; first | apply Z.then_normal | apply Z.then_exit | apply Z.block_exit)
        | (show W _ _ _ _ _ _; first | apply W.seq | apply W.region | apply W.ret | apply W.exit)
        | fail)
      refine Z.body1 Try.results9 rfl fun m => ⟨Ext.at hX2 m, _, n.length + 1, rs, by rw [hrl], by rw [← hrl]; exact hS.rr.at m, ?_⟩
      unfold sigsV
      refine tab_eq (by rw [List.length_map, hrl]) fun u x hx => ?_
      rw [List.getElem?_map] at hx
      cases hr : rs[u]? with
      | none => rw [hr] at hx; cases hx
      | some r =>
        rw [hr] at hx
        rw [← Option.some.inj hx]
        show colV n s j u = r.2.2
        rw [hrv u r hr]
        unfold colC; rw [if_neg (by omega)]
end Go.Proofs.Ytlcenenkloicjaa
namespace Go.Lt
open Go.RowKit
set_option linter.unusedVariables false

theorem Row.keep {α : Type} {s : Nat} {enc : α → List Value} {w w' : World} {a : Option Addr} {l : List α} (h : Row s enc w a l) (hb : ∀ k, blk a = some k → w'.heap[k]? = w.heap[k]?) : Row s enc w' a l := by
  refine ⟨h.len, fun i x hx => ?_⟩
  obtain ⟨b, off, h1, h2⟩ := h.elem i x hx
  refine ⟨b, off, h1, ?_⟩
  have e := hb b (by rw [h1]; rfl)
  have key : ∀ (L : List Value) (o : Nat), Cells w b o L → Cells w' b o L := by
    intro L
    induction L with
    | nil => intro o _; trivial
    | cons u r ih =>
      intro o hc
      refine ⟨?_, ih _ hc.2⟩
      have h3 := hc.1
      simp only [World.cell?] at h3 ⊢
      rw [e]; exact h3
  exact key _ _ h2
def pfro (k : Nat) (v : Option Obj) : Piece := ⟨some k, fun w => w.heap[k]? = v, fun h hb => by rw [hb k rfl]; exact h⟩
/-- The blocks from b on, as they are in w. -/
def frz (b : Nat) (w : World) : List Piece := (List.range (w.heap.size - b)).map fun i => pfro (b + i) (w.heap[b + i]?)
theorem frz_get {b : Nat} {w : World} {i : Nat} {p : Piece} (h : (frz b w)[i]? = some p) : b + i < w.heap.size ∧ p = pfro (b + i) (w.heap[b + i]?) := by
  unfold frz at h
  rw [List.getElem?_map] at h
  obtain ⟨j, hj, rfl⟩ := Option.map_eq_some_iff.1 h
  obtain ⟨h1, h2⟩ := List.getElem?_eq_some_iff.1 hj
  simp at h1 h2
  subst h2
  exact ⟨by omega, rfl⟩
theorem get_app {α : Type} {l r : List α} {i : Nat} {x : α} (h : (l ++ r)[i]? = some x) : l[i]? = some x ∨ (l.length ≤ i ∧ r[i - l.length]? = some x) := by
  by_cases hi : i < l.length
  · rw [List.getElem?_append_left hi] at h; exact .inl h
  · rw [List.getElem?_append_right (by omega)] at h; exact .inr ⟨by omega, h⟩
theorem Sep.freeze {B : Nat} {w1 w2 : World} {ps : List Piece} (hS : Sep B w1 ps) (hx : Ext w1 w2) (hB : B ≤ w1.heap.size) : Sep B w2 (ps ++ frz w1.heap.size w2) := by
  have hS' := hS.ext hx
  refine ⟨fun i p h => ?_, fun i j p q h1 h2 hne => ?_⟩
  · rcases get_app h with h | ⟨_, h⟩
    · exact hS'.holds i p h
    · obtain ⟨h1, rfl⟩ := frz_get h
      exact ⟨rfl, fun k hk => by cases hk; exact ⟨by omega, h1⟩⟩
  · have old : ∀ (i : Nat) (p : Piece) (k : Nat), ps[i]? = some p → p.b = some k → k < w1.heap.size := fun i p k h hk => ((hS.holds i p h).2 k hk).2
    rcases get_app h1 with h1 | ⟨l1, h1⟩
    · rcases get_app h2 with h2 | ⟨l2, h2⟩
      · exact hS.apart i j p q h1 h2 hne
      · obtain ⟨_, rfl⟩ := frz_get h2
        cases hb : p.b with
        | none => exact .inl rfl
        | some k => exact .inr fun he => by have e2 := Option.some.inj he; have := old i p k h1 hb; omega
    · obtain ⟨_, rfl⟩ := frz_get h1
      rcases get_app h2 with h2 | ⟨l2, h2⟩
      · exact .inr fun he => by have := old j q _ h2 he.symm; omega
      · obtain ⟨_, rfl⟩ := frz_get h2
        exact .inr fun he => by have e2 := Option.some.inj he; omega
theorem Sep.frozen {B b : Nat} {w w2 : World} {ps : List Piece} (hS : Sep B w (ps ++ frz b w2)) {k : Nat} (h1 : b ≤ k) (h2 : k < w2.heap.size) : w.heap[k]? = w2.heap[k]? := by
  have h : (ps ++ frz b w2)[ps.length + (k - b)]? = some (pfro k (w2.heap[k]?)) := by
    rw [List.getElem?_append_right (by omega), Nat.add_sub_cancel_left]
    unfold frz
    rw [List.getElem?_map, List.getElem?_range (by omega)]
    simp [show b + (k - b) = k by omega]
  exact (hS.holds _ _ h).1
theorem OwnRR.keep {α : Type} {s : Nat} {enc : α → List Value} {el elO B : Nat} {w w' : World} {a : Option Addr} {cap : Nat} {rs : List (RowV α)} (h : OwnRR s enc el elO B w a cap rs) (hb : ∀ k, B ≤ k → k < w.heap.size → w'.heap[k]? = w.heap[k]?) : OwnRR s enc el elO B w' a cap rs :=
  ⟨h.outer.keep fun k hk => hb k (h.outer.blk_lt k hk).1 (h.outer.blk_lt k hk).2, fun i r hr => (h.inner i r hr).keep fun k hk => hb k ((h.inner i r hr).blk_lt k hk).1 ((h.inner i r hr).blk_lt k hk).2, h.apartO, h.apart⟩
end Go.Lt
namespace Go.Proofs.Ytlcenenkloicjaa
open Go Go.Lt Go.RowKit
set_option linter.unusedVariables false
set_option linter.unusedSimpArgs false
set_option maxRecDepth 20000

theorem SgAt.newA {w0 wA w w1 : World} {gc gB B : Nat} {cs cs0 : Array Value} {ty : Nat} {rs : List (RowV (BitVec 64))} {a : Option Addr} (hA : SgAt w0 wA gc cs0 ty gB rs) (h : SgAt w0 w gc cs ty gB rs) (hU : Upd B a w w1) (hg : ∀ q, blk a = some q → wA.heap.size ≤ q) : SgAt w0 w1 gc cs ty gB rs := by
  have h2 := heap_lt hA.cell
  have h3 := (hA.rr.outer.blk_lt gB rfl).2
  refine ⟨?_, h.rr.kept hU (.inr fun he => by have := hg gB he.symm; omega) (fun i r hr => ?_), h.lc, h.neO, h.neI⟩
  · rw [hU.grown.block gc (heap_lt h.cell) (fun he => by have := hg gc (by first | exact he | exact he.symm); omega)]; exact h.cell
  · cases hb : blk r.1 with
    | none => exact .inl rfl
    | some k =>
      refine .inr fun he => ?_
      have h4 := ((hA.rr.inner i r hr).blk_lt k hb).2
      have := hg k he.symm
      omega
theorem UpdHeap {B g : Nat} {a : Option Addr} {w w1 : World} {v : Obj} (h : Upd B a w w1) (hb : w.heap[g]? = some v) (hne : blk a ≠ some g) : w1.heap[g]? = some v := by
  rw [h.grown.block g (heap_lt hb) (fun he => hne (by first | exact he | exact he.symm))]; exact hb
theorem ne_newS {a a' : Option Addr} {g m : Nat} (h : blk a ≠ some g) (hF : blk a' = blk a ∨ ∃ k, blk a' = some k ∧ m ≤ k) (hg : g < m) : blk a' ≠ some g := by
  rcases hF with hF | ⟨k, hF, hk⟩
  · rw [hF]; exact h
  · rw [hF]; intro he; cases he; omega
theorem blk_from {a a' : Option Addr} {b m : Nat} (h : ∀ q, blk a = some q → b ≤ q) (hF : blk a' = blk a ∨ ∃ k, blk a' = some k ∧ m ≤ k) (hm : b ≤ m) : ∀ q, blk a' = some q → b ≤ q := by
  intro q hq
  rcases hF with hF | ⟨k, hk, hle⟩
  · exact h q (by rw [← hF]; exact hq)
  · rw [hk] at hq; cases hq; omega
theorem blk_sub (a : Option Addr) (c i s : Nat) : blk (subA a c i s) = blk a := by
  unfold subA
  split
  · rfl
  · cases a with
    | none => rfl
    | some x => simp only [blk, Option.map_some, Addr.add]; split <;> rfl
theorem wto_head (n : List (Int × Int)) (ins : List (BitVec 64)) : ∀ k, k ≤ n.length → (wto n ins k).1[0]? = some 0#64
  | 0, _ => rfl
  | k + 1, h => by
    obtain ⟨x, hx⟩ := getI n (show k < n.length by omega)
    have ih := wto_head n ins k (by omega)
    have hl := (wto_len n ins k (by omega)).1
    rw [wto_succ ins hx]
    unfold wstep
    split <;> (rw [List.getElem?_append_left (by omega)]; exact ih)
theorem wto_cnt (n : List (Int × Int)) (ins : List (BitVec 64)) : ∀ k, k ≤ n.length → (wto n ins k).2 = cnt n k
  | 0, _ => rfl
  | k + 1, h => by
    obtain ⟨x, hx⟩ := getI n (show k < n.length by omega)
    rw [wto_succ ins hx, wstep]
    split
    · rw [cnt_gate hx (by omega), ← wto_cnt n ins k (by omega)]
    · rw [cnt_in hx (by omega), ← wto_cnt n ins k (by omega)]
theorem word_of {v : List (BitVec 64)} {l : Int} {x : BitVec 64} (h0 : 0 ≤ l) (hv : v[0]? = some 0#64) (hx : v[(l / 2).toNat]? = some x) : wordOf v l = if l % 2 = 1 then ~~~ x else x := by
  have hlt := lt_of_get hx
  unfold wordOf
  rw [if_neg (by omega)]
  by_cases h : 0 < l / 2
  · simp only [if_pos h, getD_of hx]
  · simp only [if_neg h]
    have e : l / 2 = 0 := by omega
    rw [e] at hx
    rw [show ((0 : Int)).toNat = 0 from rfl, hv] at hx
    rw [← Option.some.inj hx]
theorem ref30_word (a : Option Addr) (cap : Nat) (v : List (BitVec 64)) (l : Int) (w : World) (R : Row 1 encV w a v) (h0 : 0 ≤ l) (h8 : l ≤ 9223372036854775807) (hl : (l / 2).toNat < v.length) (hv : v[0]? = some 0#64) : Still Try.prog 47 [.slice a v.length cap, .int .i64 l] w (u64 (wordOf v l)) := by
  have hlen := R.len
  obtain ⟨x, hx⟩ := getI v hl
  rw [word_of h0 hv hx]
  by_cases h1 : l % 2 = 1
  · rw [if_pos h1, ← all_sub]
    refine Spec.of _ Try.func47 rfl Try.ntmps47 (by kernel_rfl) rfl ?_
    repeat' (first
      | (apply W.condKT; exact rfl; (focus (exact dec_true h1; done)))
      | (apply WL.usub; exact rfl; exact rfl; exact rfl; exact rfl; (first | exact rfl | exact u64_lit _ (by omega)); (first | exact rfl | exact u64_lit _ (by omega)))
      | (show WL _ _ _ _ _ _ _; first | apply WL.nil | (refine WL.au (k := ?_)) | (apply WL.index tOk; exact rfl; exact rfl; exact rfl; exact rfl; exact rfl; exact rfl; exact rfl; exact rfl; assumption; (exact extA); exact rfl; omega; assumption; intro b off h; have hcc := h; first | (obtain ⟨h1, h2, h3, h4, h5, h6, _⟩ := h) | (obtain ⟨h1, h2, h3, _⟩ := h) | (obtain ⟨h1, h2, _⟩ := h) | (obtain ⟨h1, _⟩ := h)))
      | (show Z _ _ _ _ _; first | apply Z.then_normal | apply Z.then_ret)
      | (show W _ _ _ _ _ _; first | apply W.seq | apply W.region | apply W.ret)
      | fail)
    exact Z.body1 Try.results47 rfl fun m => ⟨rfl, m, rfl⟩
  · rw [if_neg h1]
    refine Spec.of _ Try.func47 rfl Try.ntmps47 (by kernel_rfl) rfl ?_
    repeat' (first
      | (apply W.condKF; exact rfl; (focus (exact dec_false h1; done)))
      | (show WL _ _ _ _ _ _ _; first | apply WL.nil | (refine WL.au (k := ?_)) | (apply WL.index tOk; exact rfl; exact rfl; exact rfl; exact rfl; exact rfl; exact rfl; exact rfl; exact rfl; assumption; (exact extA); exact rfl; omega; assumption; intro b off h; have hcc := h; first | (obtain ⟨h1, h2, h3, h4, h5, h6, _⟩ := h) | (obtain ⟨h1, h2, h3, _⟩ := h) | (obtain ⟨h1, h2, _⟩ := h) | (obtain ⟨h1, _⟩ := h)))
      | (show Z _ _ _ _ _; apply Z.then_normal)
      | (show W _ _ _ _ _ _; first | apply W.seq | apply W.region | apply W.skip | apply W.ret)
      | fail)
    exact Z.body1 Try.results47 rfl fun m => ⟨rfl, m, rfl⟩
set_option maxHeartbeats 8000000 in
theorem ref30_Sigs (ra : Option Addr) (cap : Nat) (n : List (Int × Int)) (s : BitVec 64) (words : Int) (w : World) (R : Row 2 encN w ra n) (hg : GoodNet n) (hn : n.length ≤ 1048576) (hwd : inI64 words) (wc : Nat) (hW : min (max words 0) 64 = (wc : Int)) :
    Lt.Spec Try.prog 10 [.slice ra n.length cap, u64 s, .int .i64 words] w (IsFreshRR 1 encV 23 31 w (sigsV n s wc)) := by
  unfold inI64 at hwd
  have en1 : ((n.length : Int) + 1).toNat = n.length + 1 := by omega
  obtain ⟨m, hm⟩ : ∃ m, m = cnt n n.length := ⟨_, rfl⟩
  have hml : m ≤ n.length := by rw [hm]; exact cnt_le n n.length
  have hrow : ∀ j, wrd n s j = wvalues n (rrow s (j * m) m) := fun j => by rw [hm]; rfl
  have erl : (List.replicate (n.length + 1) zV).length = n.length + 1 := List.length_replicate
  obtain ⟨wd, hwd1⟩ : ∃ wd, wd = (if 64 < words then 64 else words) := ⟨_, rfl⟩
  have hjw : ∀ j : Nat, (j : Int) < wd ↔ j < wc := fun j => by rw [hwd1]; split <;> omega
  have hwc : wc ≤ 64 := by omega
  refine Spec.of _ Try.func10 rfl Try.ntmps10 (by kernel_rfl) rfl ?_
  repeat' (first
    | (apply WL.build tOk; exact rfl; exact rfl; exact rfl; exact rfl; exact rfl; exact rfl; exact rfl; kernel_rfl)
    | ((apply WL.makeC (w0 := w) (z := zV) tOk; exact rfl; exact rfl; exact rfl; exact rfl; exact rfl; exact rfl; exact rfl; exact rfl; exact rfl; exact encRow_ok; exact rfl; exact rfl; exact (by (exact extA)); omega; intro gO wO hOO hgeO hxO))
    | (apply WL.alloc tOk; exact rfl; exact rfl; exact rfl; intro gb w' hb hge hx; (obtain ⟨gS, rfl⟩ : ∃ x, x = gb := ⟨_, rfl⟩; obtain ⟨w8, rfl⟩ : ∃ x, x = w' := ⟨_, rfl⟩))
    | (apply WL.storeB (w0 := wO) tOk; exact rfl; exact rfl; exact rfl; exact rfl; assumption; (exact extA); exact rfl; exact rfl; exact rfl; (exact extA); (first | assumption | omega | (focus (apply Nat.le_trans; rotate_left; assumption; exact Below.size (by (exact extA)); done))); intro w' hb hc hX' hU; have hcc := hc; obtain ⟨h1, h2, _⟩ := hc)
    | (show WL _ _ _ _ _ _ _; first | apply WL.nil | (refine WL.au (k := ?_)))
    | (show Z _ _ _ _ _; apply Z.then_normal)
    | (show W _ _ _ _ _ _; first | apply W.seq | apply W.region | apply W.block | apply W.skip | (apply W.condD; exact rfl; all_goals intro _))
    | fail)
  all_goals
    rw [en1] at hOO ⊢
    have hXw : Ext w w' := hxO.trans extF
    have hSg : SgAt w w' gS #[u64 (rst s (0 * m))] 77 gO (List.replicate (n.length + 1) zV) := by
      have hXO : Ext wO w' := extF
      have z0 := (hOO.blk_lt gO rfl).2
      have z1 := Below.size hxO
      refine ⟨by rw [Nat.zero_mul]; exact hb, ?_, by omega, by omega, fun i r k hr hk => ?_⟩
      · rw [erl]; exact OwnRR.start (hOO.ext hXO)
      · rw [List.getElem?_replicate] at hr
        split at hr
        · rw [← Option.some.inj hr] at hk; cases hk
        · cases hr
    obtain ⟨w1, rfl⟩ : ∃ x, x = w' := ⟨_, rfl⟩
    first
    | (have e2 : wd = 64 := by rw [hwd1, if_pos (by assumption)])
    | (have e2 : wd = words := by rw [hwd1, if_neg (by assumption)])
    refine W.loopW wc (fun j w' => j ≤ wc ∧ Ext w w' ∧ ∃ rs : List (RowV (BitVec 64)), SgAt w w' gS #[u64 (rst s (j * m))] 77 gO rs ∧ rs.length = n.length + 1 ∧ ∀ (v : Nat) r, rs[v]? = some r → r.2.2 = colC n s j 0 v)
      (fun j => [(0, .slice ra n.length cap), (2, .int .i64 wd), (7, .slice (some ⟨gO, 0, none⟩) (n.length + 1) (n.length + 1)), (8, .pointer (some ⟨gS, 0, none⟩)), (9, .int .i64 j)]) ⟨Nat.zero_le _, hXw, _, hSg, erl, fun v r hr => ?_⟩ (fun k w' h => h.1) (by repeat' first | exact trivial | (refine And.intro ?_ ?_) | exact rfl | (rw [e2]; exact rfl) | (rw [erl]; exact rfl)) ?_
    · rw [List.getElem?_replicate] at hr
      split at hr
      · rw [← Option.some.inj hr]; rfl
      · cases hr
    clear hSg e2
    rintro j w2 ⟨hj, hX2, rs, hS, hrl, hrv⟩
    by_cases hlt : j < wc
    · have hjl := (hjw j).2 hlt
      repeat' (first
        | (apply W.condKT; exact rfl; (focus (exact dec_true hjl; done)))
        | (apply WL.lit tOk; exact rfl; exact rfl; exact rfl; exact rfl; exact rfl; exact rfl; (first | exact rfl | kernel_rfl | (simp [Instr.fill, catCells]; done)); exact rfl; intro gb w' hb hge hc hx; have hO := Own.of_block ([0#64]) encV_ok hb hge rfl; (obtain ⟨gV, rfl⟩ : ∃ x, x = gb := ⟨_, rfl⟩; obtain ⟨w3, rfl⟩ : ∃ x, x = w' := ⟨_, rfl⟩; obtain ⟨hx3, rfl⟩ : ∃ x, x = hx := ⟨_, rfl⟩; obtain ⟨hgV, rfl⟩ : ∃ x, x = hge := ⟨_, rfl⟩; have hOV := hO; clear hO))
        | (apply WL.lit (len := 0) tOk; exact rfl; exact rfl; exact rfl; exact rfl; exact rfl; exact rfl; (first | exact rfl | kernel_rfl | (simp [Instr.fill, catCells]; done)); exact rfl; intro gb w' hb hge hc hx; have hO0 := Own.of_block0 (enc := encV) (s := 1) hb hge; (obtain ⟨gD, rfl⟩ : ∃ x, x = gb := ⟨_, rfl⟩; obtain ⟨w4, rfl⟩ : ∃ x, x = w' := ⟨_, rfl⟩; obtain ⟨hx4, rfl⟩ : ∃ x, x = hx := ⟨_, rfl⟩; obtain ⟨hOD, rfl⟩ : ∃ x, x = hO0 := ⟨_, rfl⟩; obtain ⟨hgD, rfl⟩ : ∃ x, x = hge := ⟨_, rfl⟩))
        | (show WL _ _ _ _ _ _ _; first | apply WL.nil | (refine WL.au (k := ?_)))
        | (show Z _ _ _ _ _; apply Z.then_normal)
        | (show W _ _ _ _ _ _; first | apply W.seq | apply W.region | apply W.block | apply W.skip)
        | fail)
      have hsz2 := Below.size hX2
      have hs3 := Below.size hx3
      have hX4 : Ext w w4 := hX2.trans (hx3.trans hx4)
      have hS4 := hS.ext (hx3.trans hx4)
      have hgSw := heap_lt hS.cell
      have hlcS := hS.lc
      have hs4 : w2.heap.size ≤ w4.heap.size := Below.size (hx3.trans hx4)
      have hgSV : gV ≠ gS := by omega
      have hgOw := (hS.rr.outer.blk_lt gO rfl).2
      have hgVw := (hOV.blk_lt gV rfl).2
      have hbV2 : ∀ q, blk (some ⟨gV, 0, none⟩ : Option Addr) = some q → w2.heap.size ≤ q := fun q hq => by cases hq; exact hgV
      refine W.loopO n.length (fun i aD cD w' => i ≤ n.length ∧ Ext w w' ∧ w2.heap.size ≤ w'.heap.size ∧ SgAt w w' gS #[u64 (rst s (j * m + cnt n i))] 77 gO rs ∧ Own 1 encV 23 w.heap.size w' aD cD (rrow s (j * m) (cnt n i)) ∧ (∀ q, blk aD = some q → w2.heap.size ≤ q) ∧ Own 1 encV 23 w.heap.size w' (some ⟨gV, 0, none⟩) 1 [0#64] ∧ blk aD ≠ some gV)
        (fun i aD cD => [(0, .slice ra n.length cap), (2, .int .i64 wd), (7, .slice (some ⟨gO, 0, none⟩) (n.length + 1) (n.length + 1)), (8, .pointer (some ⟨gS, 0, none⟩)), (9, .int .i64 j), (10, .slice (some ⟨gV, 0, none⟩) 1 1), (11, .slice aD (rrow s (j * m) (cnt n i)).length cD), (12, .int .i64 i)]) (some ⟨gD, 0, none⟩) 0 ⟨Nat.zero_le _, hX4, hs4, hS4, hOD.base (by omega), fun q hq => by have h1 := Option.some.inj hq; simp only at h1; omega, (hOV.ext hx4).base hsz2, fun he => by have h1 := Option.some.inj he; simp only at h1; omega⟩ (fun k a cp w' h => h.1) (by repeat' first | exact trivial | (refine And.intro ?_ ?_) | exact rfl) ?_
      clear hOD hOV hS4
      rintro i aD cD w5 ⟨hi, hX5, hs5, hS5, hOD5, hDb, hOV5, hDV⟩
      have hcl := cnt_le n i
      have hrl5 := rrow_len s (j * m) (cnt n i)
      by_cases hil : i < n.length
      · obtain ⟨x, hxn⟩ := getI n hil
        have R5 := R.ext hX5
        by_cases hin : x.1 < 0
        · have e1 := cnt_in hxn hin
          have e2 : rrow s (j * m) (cnt n (i + 1)) = rrow s (j * m) (cnt n i) ++ [rval s (j * m + cnt n i)] := by rw [e1, rrow_succ]
          have e3 : rst s (j * m + cnt n (i + 1)) = rst s (j * m + cnt n i) + rC := by rw [e1]; rfl
          obtain ⟨c1, c2⟩ := cells_heap hS5.cell
          have hcS : Cells w5 gS 0 [u64 (rst s (j * m + cnt n i))] := ⟨c1, trivial⟩
          repeat' (first
            | (apply W.condKT; exact rfl; (focus (exact dec_true (by omega); done)))
            | ((show WL _ _ _ (⟨_, .call ⟨.value (.func 46), _, _⟩, _, _, _, _⟩ :: _) _ _ _); apply WL.callP; exact rfl; exact rfl; exact rfl; exact rfl; exact ref04_Next _ _; intro w' hx)
            | (apply WL.alloc tOk; exact rfl; exact rfl; exact rfl; intro gb w' hb hge hx; (obtain ⟨gN, rfl⟩ : ∃ x, x = gb := ⟨_, rfl⟩; obtain ⟨wN, rfl⟩ : ∃ x, x = w' := ⟨_, rfl⟩; obtain ⟨hgN, rfl⟩ : ∃ x, x = hge := ⟨_, rfl⟩))
            | (apply WL.storeB (w0 := w5) tOk; exact rfl; exact rfl; exact rfl; exact rfl; assumption; (exact extA); exact rfl; exact rfl; exact rfl; (exact extA); (first | assumption | omega | (focus (apply Nat.le_trans; rotate_left; assumption; exact Below.size (by (exact extA)); done))); intro w' hb hc hX' hU; have hcc := hc; obtain ⟨h1, h2, _⟩ := hc; (obtain ⟨wM, rfl⟩ : ∃ x, x = w' := ⟨_, rfl⟩; obtain ⟨hbN, rfl⟩ : ∃ x, x = hb := ⟨_, rfl⟩; obtain ⟨hXM, rfl⟩ : ∃ x, x = hX' := ⟨_, rfl⟩; obtain ⟨hUM, rfl⟩ : ∃ x, x = hU := ⟨_, rfl⟩; obtain ⟨hcN, rfl⟩ : ∃ x, x = hcc := ⟨_, rfl⟩))
            | (show WL _ _ _ _ _ _ _; first | apply WL.nil | (refine WL.au (k := ?_)) | (apply WL.index tOk; exact rfl; exact rfl; exact rfl; exact rfl; exact rfl; exact rfl; exact rfl; exact rfl; assumption; (exact extA); exact rfl; omega; assumption; intro b off h; have hcc := h; first | (obtain ⟨h1, h2, h3, h4, h5, h6, _⟩ := h) | (obtain ⟨h1, h2, h3, _⟩ := h) | (obtain ⟨h1, h2, _⟩ := h) | (obtain ⟨h1, _⟩ := h)))
            | (show Z _ _ _ _ _; apply Z.then_normal)
            | (show W _ _ _ _ _ _; first | apply W.seq | apply W.region | apply W.block | apply W.skip)
            | fail)
          have hSM := hS5.ext hXM
          have hODM := hOD5.ext hXM
          have hNg : wM.heap.size > gN := heap_lt hbN
          have h5N : w5.heap.size ≤ gN := Nat.le_trans (Below.size (by (exact extA))) hgN
          have hDN : blk aD ≠ some gN := fun he => by have := (hOD5.blk_lt gN he).2; omega
          repeat' (first
            | (show W _ _ (.region 14 _ _) _ _ _; apply W.regionGB (.fl true 0 (.fl true 1 (.br 2 (.br 3 (.fl true 5 (.br 4 (.br 6 .done .stop) .stop)) (.br 4 (.br 3 (.fl true 5 (.br 6 .done .stop)) .stop) .stop)) (.br 4 (.br 2 (.br 3 (.fl true 5 (.br 6 .done .stop)) .stop) .stop) .stop)))) [] (none) tMix; kernel_rfl)
            | (apply WL.lit tOk; exact rfl; exact rfl; exact rfl; exact rfl; exact rfl; exact rfl; (first | exact rfl | kernel_rfl | (simp [Instr.fill, catCells]; done)); exact rfl; intro gb w' hb hge hc hx; (obtain ⟨wL, rfl⟩ : ∃ x, x = w' := ⟨_, rfl⟩; obtain ⟨hxL, rfl⟩ : ∃ x, x = hx := ⟨_, rfl⟩))
            | ((apply WL.append1 (z := rval s (j * m + cnt n i)) tOk encV_ok; exact rfl; exact rfl; exact rfl; exact rfl; exact rfl; exact rfl; exact rfl; exact rfl; exact rfl; exact rfl; exact hODM; exact (by (exact extA)); exact rfl; assumption; exact rfl; exact rfl; exact (by (exact extA)); omega; intro aE cE wE hOE hXE hUE hFE; have hSE := SgAt.newA hS (hSM.ext hxL) hUE hDb; have hbE := UpdHeap hUE (Ext.heap hxL hbN) hDN; have hcE := (cells_heap hbE); have hSc := hSE.cell))
            | (apply WL.storeB (w0 := w) tOk; exact rfl; exact rfl; exact rfl; exact rfl; assumption; (exact extA); exact rfl; exact rfl; exact rfl; (exact extA); (first | assumption | omega | (focus (apply Nat.le_trans; rotate_left; assumption; exact Below.size (by (exact extA)); done))); intro w' hb hc hX' hU; have hcc := hc; obtain ⟨h1, h2, _⟩ := hc)
            | (show WL _ _ _ _ _ _ _; first | apply WL.nil | (refine WL.au (k := ?_)))
            | (show SG _ _ _ _ _ _ _ _ _; first | apply SG.done | (apply SG.fl0; exact rfl) | (apply SG.br1; exact rfl) | (apply SG.br; exact rfl))
            | (show FL _ _ _ _ _ _ _ _; first | apply FL.nilS | (refine FL.au (k := ?_)))
            | (show Z _ _ _ _ _; (apply Z.sgL; exact rfl))
            | (show Z _ _ _ _ _; first | apply Z.then_normal | apply Z.block_normal)
            | (show W _ _ _ _ _ _; apply W.region)
            | fail)
          all_goals
            have z5 := (hOV5.blk_lt gV rfl).2
            have z6 := Below.size (show Ext w5 wL from extF)
            have z7 := hUE.size
            have z8 := hU.size
            have hDb' := blk_from hDb hFE (by omega)
            have hE1 : blk aE ≠ some gS := fun he => by have := hDb' gS he; omega
            have hE2 : blk aE ≠ some gV := ne_newS hDV hFE (by omega)
            exact Z.againO aE cE ⟨by omega, hX', by omega, by rw [e3]; exact hSE.putC hU hb, by rw [e2]; exact hU.own hOE (.inr hE1), hDb', hU.own (hUE.own (hOV5.ext extF) (.inr fun h => hDV h.symm)) (.inr fun h => hgSV (Option.some.inj h)), hE2⟩ (by repeat' first | exact trivial | (refine And.intro ?_ ?_) | exact rfl | (rw [e2]; exact rfl))
        · have e1 := cnt_gate hxn hin
          repeat' (first
            | (apply W.condKT; exact rfl; (focus (first | exact dec_true (by omega) | exact dec_false (by omega); done)))
            | (apply W.condKF; exact rfl; (focus (first | exact dec_true (by omega) | exact dec_false (by omega); done)))
            | (show WL _ _ _ _ _ _ _; first | apply WL.nil | (refine WL.au (k := ?_)) | (apply WL.index tOk; exact rfl; exact rfl; exact rfl; exact rfl; exact rfl; exact rfl; exact rfl; exact rfl; assumption; (exact extA); exact rfl; omega; assumption; intro b off h; have hcc := h; first | (obtain ⟨h1, h2, h3, h4, h5, h6, _⟩ := h) | (obtain ⟨h1, h2, h3, _⟩ := h) | (obtain ⟨h1, h2, _⟩ := h) | (obtain ⟨h1, _⟩ := h)))
            | (show Z _ _ _ _ _; first | apply Z.then_normal | apply Z.block_normal)
            | (show W _ _ _ _ _ _; first | apply W.seq | apply W.region | apply W.block | apply W.skip)
            | fail)
          exact Z.againO aD cD ⟨by omega, hX5, hs5, by rw [e1]; exact hS5, by rw [e1]; exact hOD5, hDb, hOV5, hDV⟩ (by repeat' first | exact trivial | (refine And.intro ?_ ?_) | exact rfl | (rw [e1]; exact rfl))
      obtain rfl : i = n.length := by omega
      rw [← hm] at hS5 hOD5 hrl5
      rw [← hm]
      repeat' (first
        | (apply W.condKF; exact rfl; (focus (exact dec_false (by omega); done)))
        | (show WL _ _ _ _ _ _ _; first | apply WL.nil | (refine WL.au (k := ?_)))
        | (show Z _ _ _ _ _; first | apply Z.then_normal | apply Z.then_exit | apply Z.block_exit)
        | (show W _ _ _ _ _ _; first | apply W.seq | apply W.region | apply W.block | apply W.exit)
        | fail)
      obtain ⟨Dr, hDr⟩ : ∃ Dr, Dr = rrow s (j * m) m := ⟨_, rfl⟩
      rw [← hDr] at hOD5 hrl5 ⊢
      have hwe : wrd n s j = (wto n Dr n.length).1 := by rw [hrow j, hDr]; rfl
      have hVD0 : blk (some ⟨gV, 0, none⟩ : Option Addr) ≠ none := by simp [blk]
      refine W.loopO2 n.length (fun i aV cV aD cD w' => i ≤ n.length ∧ Ext w w' ∧ w2.heap.size ≤ w'.heap.size ∧ SgAt w w' gS #[u64 (rst s (j * m + m))] 77 gO rs ∧ Own 1 encV 23 w.heap.size w' aV cV (wto n Dr i).1 ∧ (∀ q, blk aV = some q → w2.heap.size ≤ q) ∧ Row 1 encV w' aD (Dr.drop (wto n Dr i).2) ∧ (Dr.drop (wto n Dr i).2).length ≤ cD ∧ (∀ q, blk aD = some q → blk aV ≠ some q ∧ q < w'.heap.size))
        (fun i aV cV aD cD => [(0, .slice ra n.length cap), (2, .int .i64 wd), (7, .slice (some ⟨gO, 0, none⟩) (n.length + 1) (n.length + 1)), (8, .pointer (some ⟨gS, 0, none⟩)), (9, .int .i64 j), (10, .slice aV (wto n Dr i).1.length cV), (11, .slice aD (Dr.drop (wto n Dr i).2).length cD), (15, .int .i64 i)]) (some ⟨gV, 0, none⟩) 1 aD cD ⟨Nat.zero_le _, hX5, hs5, hS5, hOV5, hbV2, hOD5.row encV_ok, hOD5.capLe, fun q hq => ⟨fun he => hDV (by rw [hq, ← he]; rfl), (hOD5.blk_lt q hq).2⟩⟩ (fun k a cp b dp w' h => h.1) (by repeat' first | exact trivial | (refine And.intro ?_ ?_) | exact rfl) ?_
      clear hS5 hOD5 hOV5 hbV2
      clear hDb hDV hrl5
      clear aD cD
      rintro i aV cV aD cD w6 ⟨hi, hX6, hs6, hS6, hOV, hVb, RD, hcD, hVD⟩
      have hvl := wto_len n Dr i hi
      have hcn := wto_cnt n Dr i hi
      have R6 := R.ext hX6
      by_cases hil : i < n.length
      · obtain ⟨x, hxn⟩ := getI n hil
        have hs := wto_succ Dr hxn
        by_cases hin : x.1 < 0
        · have e2 : (wto n Dr (i + 1)).2 = (wto n Dr i).2 + 1 := by rw [hs, wstep, if_neg (by omega)]
          have hci := cnt_in hxn hin
          have hcm := cnt_mono n (show i + 1 ≤ n.length by omega)
          have hDl : Dr.length = m := by rw [hDr]; exact rrow_len s (j * m) m
          obtain ⟨z, hz⟩ := getI Dr (show (wto n Dr i).2 < Dr.length by omega)
          have e1 : (wto n Dr (i + 1)).1 = (wto n Dr i).1 ++ [z] := by rw [hs, wstep, if_neg (by omega), getD_of hz]
          have hz' : (Dr.drop (wto n Dr i).2)[0]? = some z := by rw [List.getElem?_drop]; exact hz
          have hdl : 0 < (Dr.drop (wto n Dr i).2).length := by rw [List.length_drop]; omega
          have e3 : (Dr.drop (wto n Dr i).2).length - (1 : Int).toNat = (Dr.drop (wto n Dr (i + 1)).2).length := by rw [List.length_drop, List.length_drop, e2]; show _ - 1 = _; omega
          repeat' (first
            | (apply W.condKT; exact rfl; (focus (first | exact dec_true (by omega); done)))
            | (show W _ _ (.region 19 _ _) _ _ _; apply W.regionGB (.fl true 0 (.fl true 1 (.fl true 2 (.fl true 6 (.fl true 7 (.br 3 (.br 4 (.br 5 (.fl true 8 (.fl true 9 .done)) .stop) .stop) .stop)))))) [] (none) tMix; kernel_rfl)
            | (apply FL.sliceL0 tOk; exact rfl; exact rfl; exact rfl; exact rfl; exact rfl; exact rfl; exact rfl; exact rfl; omega)
            | (apply WL.lit tOk; exact rfl; exact rfl; exact rfl; exact rfl; exact rfl; exact rfl; (first | exact rfl | kernel_rfl | (simp [Instr.fill, catCells]; done)); exact rfl; intro gb w' hb hge hc hx; (obtain ⟨wL, rfl⟩ : ∃ x, x = w' := ⟨_, rfl⟩; obtain ⟨hxL, rfl⟩ : ∃ x, x = hx := ⟨_, rfl⟩))
            | (apply WL.append1 tOk encV_ok; exact rfl; exact rfl; exact rfl; exact rfl; exact rfl; exact rfl; exact rfl; exact rfl; exact rfl; exact rfl; assumption; (exact extA); (first | exact rfl | (focus (simp only [List.length_set]; done)) | (focus (simp; done)) | (focus (simp [*]; done)) | omega | (focus (simp only [List.length_set]; omega))); assumption; (first | exact rfl | exact (rfl : encV (_, _) = _)); exact rfl; (exact extA); (first | omega | (simp; omega) | (simp at *; omega)); intro a' cap' w' hO hX' hU hF)
            | (show WL _ _ _ _ _ _ _; first | apply WL.nil | (refine WL.au (k := ?_)) | (apply WL.index tOk; exact rfl; exact rfl; exact rfl; exact rfl; exact rfl; exact rfl; exact rfl; exact rfl; assumption; (exact extA); exact rfl; omega; assumption; intro b off h; have hcc := h; first | (obtain ⟨h1, h2, h3, h4, h5, h6, _⟩ := h) | (obtain ⟨h1, h2, h3, _⟩ := h) | (obtain ⟨h1, h2, _⟩ := h) | (obtain ⟨h1, _⟩ := h)))
            | (show SG _ _ _ _ _ _ _ _ _; first | apply SG.done | (apply SG.fl0; exact rfl) | (apply SG.br1; exact rfl))
            | (show FL _ _ _ _ _ _ _ _; first | apply FL.nilS | (refine FL.au (k := ?_)) | (apply FL.index tOk; exact rfl; exact rfl; exact rfl; exact rfl; exact rfl; exact rfl; exact rfl; exact rfl; assumption; (exact extA); exact rfl; omega; assumption; exact List.cons_ne_nil _ _; intro b off h hbl; have hcc := h; first | (obtain ⟨h1, h2, h3, h4, h5, h6, _⟩ := h) | (obtain ⟨h1, h2, h3, _⟩ := h) | (obtain ⟨h1, h2, _⟩ := h) | (obtain ⟨h1, _⟩ := h)))
            | (show Z _ _ _ _ _; (apply Z.sgL; exact rfl))
            | (show Z _ _ _ _ _; first | apply Z.then_normal | apply Z.block_normal)
            | (show W _ _ _ _ _ _; first | apply W.seq | apply W.region | apply W.block | apply W.skip)
            | fail)
          have z6 := Below.size hxL
          have z7 := hU.size
          have RD2 : Row 1 encV w6 (subA aD cD (1 : Int).toNat 1) (Dr.drop (wto n Dr (i + 1)).2) := by rw [e2, ← List.drop_drop]; exact RD.dropAt 1 cD hcD
          have hbs := blk_sub aD cD (1 : Int).toNat 1
          have RD3 := (RD2.ext hxL).keep (w' := w') (fun k hk => hU.grown.block k (by rw [hbs] at hk; have := (hVD k hk).2; omega) (fun he => by rw [hbs] at hk; exact (hVD k hk).1 (by first | exact he | exact he.symm)))
          refine Z.againO2 a' cap' (subA aD cD (1 : Int).toNat 1) (cD - (1 : Int).toNat) ⟨by omega, hX', by omega, SgAt.newA hS (hS6.ext hxL) hU hVb, by rw [e1]; exact hO, blk_from hVb hF (by omega), RD3, by rw [← e3]; exact Nat.sub_le_sub_right hcD _, fun q hq => ?_⟩ (by repeat' first | exact trivial | (refine And.intro ?_ ?_) | exact rfl | (rw [e1]; exact rfl) | (rw [←e3]; exact rfl))
          rw [hbs] at hq
          have hv := hVD q hq
          exact ⟨ne_newS hv.1 hF (by omega), by omega⟩
        · have hgt := hg.gate hxn (by omega)
          have e2 : (wto n Dr (i + 1)).2 = (wto n Dr i).2 := by rw [hs, wstep, if_pos (by omega)]
          have e1 : (wto n Dr (i + 1)).1 = (wto n Dr i).1 ++ [wordOf (wto n Dr i).1 x.1 &&& wordOf (wto n Dr i).1 x.2] := by rw [hs, wstep, if_pos (by omega)]
          have hv0 := wto_head n Dr i hi
          have RV := hOV.row encV_ok
          repeat' (first
            | (apply W.condKT; exact rfl; (focus (first | exact dec_true (by omega) | exact dec_false (by omega); done)))
            | (apply W.condKF; exact rfl; (focus (first | exact dec_true (by omega) | exact dec_false (by omega); done)))
            | (apply WL.uand; exact rfl; exact rfl; exact rfl; exact rfl; (first | exact rfl | exact u64_lit _ (by omega)); (first | exact rfl | exact u64_lit _ (by omega)))
            | (show W _ _ (.region 20 _ _) _ _ _; apply W.regionGB (.fl true 0 (.fl true 1 (.fl true 2 (.fl true 3 (.fl true 4 (.fl true 5 (.fl true 8 (.fl true 9 (.fl true 10 (.fl true 11 (.fl true 12 (.br 6 (.br 7 (.br 13 (.br 14 (.br 15 (.br 16 (.br 17 (.fl true 18 .done) .stop) .stop) .stop) .stop) .stop) (.br 13 (.br 7 (.br 14 (.br 15 (.br 16 (.br 17 (.fl true 18 .done) .stop) .stop) .stop) .stop) .stop) .stop)) (.br 13 (.br 6 (.br 7 (.br 14 (.br 15 (.br 16 (.br 17 (.fl true 18 .done) .stop) .stop) .stop) .stop) .stop) .stop) .stop))))))))))))) [] (none) tMix; kernel_rfl)
            | ((show WL _ _ _ (⟨_, .call ⟨.value (.func 47), _, _⟩, _, _, _, _⟩ :: _) _ _ _); apply WL.callS; exact rfl; exact rfl; exact rfl; exact rfl; exact ref30_word aV cV (wto n Dr i).1 x.1 _ RV (by omega) (by omega) (by omega) hv0)
            | ((show WL _ _ _ (⟨_, .call ⟨.value (.func 47), _, _⟩, _, _, _, _⟩ :: _) _ _ _); apply WL.callS; exact rfl; exact rfl; exact rfl; exact rfl; exact ref30_word aV cV (wto n Dr i).1 x.2 _ RV (by omega) (by omega) (by omega) hv0)
            | (apply WL.lit tOk; exact rfl; exact rfl; exact rfl; exact rfl; exact rfl; exact rfl; (first | exact rfl | kernel_rfl | (simp [Instr.fill, catCells]; done)); exact rfl; intro gb w' hb hge hc hx; (obtain ⟨wL, rfl⟩ : ∃ x, x = w' := ⟨_, rfl⟩; obtain ⟨hxL, rfl⟩ : ∃ x, x = hx := ⟨_, rfl⟩))
            | (apply WL.append1 tOk encV_ok; exact rfl; exact rfl; exact rfl; exact rfl; exact rfl; exact rfl; exact rfl; exact rfl; exact rfl; exact rfl; assumption; (exact extA); (first | exact rfl | (focus (simp only [List.length_set]; done)) | (focus (simp; done)) | (focus (simp [*]; done)) | omega | (focus (simp only [List.length_set]; omega))); assumption; (first | exact rfl | exact (rfl : encV (_, _) = _)); exact rfl; (exact extA); (first | omega | (simp; omega) | (simp at *; omega)); intro a' cap' w' hO hX' hU hF)
            | (show WL _ _ _ _ _ _ _; first | apply WL.nil | (refine WL.au (k := ?_)) | (apply WL.index tOk; exact rfl; exact rfl; exact rfl; exact rfl; exact rfl; exact rfl; exact rfl; exact rfl; assumption; (exact extA); exact rfl; omega; assumption; intro b off h; have hcc := h; first | (obtain ⟨h1, h2, h3, h4, h5, h6, _⟩ := h) | (obtain ⟨h1, h2, h3, _⟩ := h) | (obtain ⟨h1, h2, _⟩ := h) | (obtain ⟨h1, _⟩ := h)))
            | (show SG _ _ _ _ _ _ _ _ _; first | apply SG.done | (apply SG.fl0; exact rfl) | (apply SG.br1; exact rfl) | (apply SG.br; exact rfl))
            | (show FL _ _ _ _ _ _ _ _; first | apply FL.nilS | (refine FL.au (k := ?_)) | (apply FL.index tOk; exact rfl; exact rfl; exact rfl; exact rfl; exact rfl; exact rfl; exact rfl; exact rfl; assumption; (exact extA); exact rfl; omega; assumption; exact List.cons_ne_nil _ _; intro b off h hbl; have hcc := h; first | (obtain ⟨h1, h2, h3, h4, h5, h6, _⟩ := h) | (obtain ⟨h1, h2, h3, _⟩ := h) | (obtain ⟨h1, h2, _⟩ := h) | (obtain ⟨h1, _⟩ := h)))
            | (show Z _ _ _ _ _; (apply Z.sgL; exact rfl))
            | (show Z _ _ _ _ _; first | apply Z.then_normal | apply Z.block_normal)
            | (show W _ _ _ _ _ _; first | apply W.seq | apply W.region | apply W.block | apply W.skip)
            | fail)
          all_goals
            have z6 := Below.size hxL
            have z7 := hU.size
            have RD2 : Row 1 encV w6 aD (Dr.drop (wto n Dr (i + 1)).2) := by rw [e2]; exact RD
            have RD3 := (RD2.ext hxL).keep (w' := w') (fun k hk => hU.grown.block k (by have := (hVD k hk).2; omega) (fun he => (hVD k hk).1 (by first | exact he | exact he.symm)))
            exact Z.againO2 a' cap' aD cD ⟨by omega, hX', by omega, SgAt.newA hS (hS6.ext hxL) hU hVb, by rw [e1]; exact hO, blk_from hVb hF (by omega), RD3, by rw [e2]; exact hcD, fun q hq => ⟨ne_newS (hVD q hq).1 hF (by have := (hVD q hq).2; omega), by have := (hVD q hq).2; omega⟩⟩ (by repeat' first | exact trivial | (refine And.intro ?_ ?_) | exact rfl | (rw [e1]; exact rfl) | (rw [e2]; exact rfl))
      obtain rfl : i = n.length := by omega
      rw [← hwe] at hOV ⊢
      have hwl := wrd_len (n := n) (s := s) j
      have hrj : rst s (j * m + m) = rst s ((j + 1) * m) := by rw [Nat.succ_mul]
      rw [hrj] at hS6
      have hapV : ∀ (v : Nat) (r : RowV (BitVec 64)), rs[v]? = some r → blk r.1 = none ∨ blk r.1 ≠ blk aV := fun v r hr => by
        cases hb : blk r.1 with
        | none => exact .inl rfl
        | some q =>
          refine .inr fun he => ?_
          have h3 := hVb q he.symm
          have h4 := ((hS.rr.inner v r hr).blk_lt q hb).2
          omega
      have hgOV : blk aV ≠ some gO := fun he => by have := hVb gO he; omega
      repeat' (first
        | (apply W.condKF; exact rfl; (focus (exact dec_false (by omega); done)))
        | (show WL _ _ _ _ _ _ _; first | apply WL.nil | (refine WL.au (k := ?_)))
        | (show Z _ _ _ _ _; first | apply Z.then_normal | apply Z.then_exit | apply Z.block_exit)
        | (show W _ _ _ _ _ _; first | apply W.seq | apply W.region | apply W.block | apply W.exit)
        | fail)
      refine W.loopW (n.length + 1) (fun q w' => q ≤ n.length + 1 ∧ Ext w w' ∧ ∃ rs : List (RowV (BitVec 64)), SgAt w w' gS #[u64 (rst s ((j + 1) * m))] 77 gO rs ∧ rs.length = n.length + 1 ∧ (∀ (v : Nat) r, rs[v]? = some r → r.2.2 = colC n s j q v) ∧ Own 1 encV 23 w.heap.size w' aV cV (wrd n s j) ∧ ∀ (v : Nat) (r : RowV (BitVec 64)), rs[v]? = some r → blk r.1 = none ∨ blk r.1 ≠ blk aV)
        (fun q => [(0, .slice ra n.length cap), (2, .int .i64 wd), (7, .slice (some ⟨gO, 0, none⟩) (n.length + 1) (n.length + 1)), (8, .pointer (some ⟨gS, 0, none⟩)), (9, .int .i64 j), (10, .slice aV (wrd n s j).length cV), (16, .int .i64 q)]) ⟨Nat.zero_le _, hX6, rs, hS6, hrl, hrv, hOV, hapV⟩ (fun k w' h => h.1) (by repeat' first | exact trivial | (refine And.intro ?_ ?_) | exact rfl) ?_
      clear hS6 hOV hapV
      clear hS hrv hrl
      clear rs
      rintro q w7 ⟨hq, hX7, rs, hS, hrl, hrv, hOV, hap⟩
      by_cases hlq : q < n.length + 1
      · obtain ⟨x, hxq⟩ := getI (wrd n s j) (show q < (wrd n s j).length by omega)
        obtain ⟨r, hr⟩ := getI rs (show q < rs.length by omega)
        have hrlen : r.2.2.length ≤ j + 1 := by rw [hrv q r hr]; exact colC_len j q q
        have hOut : Own 1 encRow 31 w.heap.size w7 (some ⟨gO, 0, none⟩) (n.length + 1) rs := by have := hS.rr.outer; rwa [hrl] at this
        have hIn := hS.rr.inner q r hr
        have hnO := hS.rr.outNe hr
        repeat' (first
          | (apply W.condKT; exact rfl; (focus (exact dec_true (by omega); done)))
          | (show W _ _ (.region 24 _ _) _ _ _; apply W.regionGB (.fl true 0 (.fl true 1 (.fl true 2 (.fl true 3 (.fl true 4 (.fl true 6 (.fl true 7 (.fl true 8 (.br 5 (.br 9 (.br 10 (.br 11 (.fl true 12 (.br 13 .done .stop)) .stop) .stop) .stop) (.br 9 (.br 5 (.br 10 (.br 11 (.fl true 12 (.br 13 .done .stop)) .stop) .stop) (.br 10 (.br 5 (.br 11 (.fl true 12 (.br 13 .done .stop)) .stop) .stop) .stop)) .stop)))))))))) [] (none) tMix; kernel_rfl)
          | (apply FL.indexO tOk; exact rfl; exact rfl; exact rfl; exact rfl; exact rfl; exact rfl; exact rfl; exact rfl; assumption; (exact extA); exact encV_ok; (first | exact rfl | (focus (simp only [List.length_set]; done)) | (focus (simp; done)) | (focus (simp [*]; done)) | omega | (focus (simp only [List.length_set]; omega))); omega; assumption; intro gb ha hc; cases ha; have hcc := hc; first | (obtain ⟨h1, h2, h3, _⟩ := hc) | (obtain ⟨h1, h2, _⟩ := hc) | (obtain ⟨h1, _⟩ := hc))
          | (apply FL.indexO tOk; exact rfl; exact rfl; exact rfl; exact rfl; exact rfl; exact rfl; exact rfl; exact rfl; assumption; (exact extA); exact encRow_ok; (first | exact rfl | (focus (simp only [List.length_set]; done)) | (focus (simp; done)) | (focus (simp [*]; done)) | omega | (focus (simp only [List.length_set]; omega))); omega; assumption; intro gb ha hc; cases ha; have hcc := hc; first | (obtain ⟨h1, h2, h3, _⟩ := hc) | (obtain ⟨h1, h2, _⟩ := hc) | (obtain ⟨h1, _⟩ := hc))
          | (apply WL.lit tOk; exact rfl; exact rfl; exact rfl; exact rfl; exact rfl; exact rfl; (first | exact rfl | kernel_rfl | (simp [Instr.fill, catCells]; done)); exact rfl; intro gb w' hb hge hc hx; (obtain ⟨wL, rfl⟩ : ∃ x, x = w' := ⟨_, rfl⟩; obtain ⟨hxL, rfl⟩ : ∃ x, x = hx := ⟨_, rfl⟩))
          | ((apply WL.append1 (z := x) tOk encV_ok; exact rfl; exact rfl; exact rfl; exact rfl; exact rfl; exact rfl; exact rfl; exact rfl; exact rfl; exact rfl; exact hIn; exact (by (exact extA)); exact rfl; assumption; exact rfl; exact rfl; exact (by (exact extA)); omega; intro a4 cap4 w4 hO4 hX4 hU4 hF4; have hOut9 := hU4.own (hOut.ext hxL) hnO))
          | ((apply WL.storeO (z' := ((a4, cap4, r.2.2 ++ [x]) : RowV (BitVec 64))) tOk; exact rfl; exact rfl; exact rfl; exact rfl; exact hOut9; exact (by (exact extA)); exact rfl; exact rfl; exact rfl; exact encRow_ok; assumption; exact rfl; exact (by (exact extA)); intro w5 hO5 hX5 hU5))
          | (show WL _ _ _ _ _ _ _; first | apply WL.nil | (refine WL.au (k := ?_)))
          | (show SG _ _ _ _ _ _ _ _ _; first | apply SG.done | (apply SG.fl0; exact rfl) | (apply SG.br1; exact rfl) | (apply SG.br; exact rfl))
          | (show FL _ _ _ _ _ _ _ _; first | apply FL.nilS | (refine FL.au (k := ?_)))
          | (show Z _ _ _ _ _; (apply Z.sgL; exact rfl))
          | (show Z _ _ _ _ _; first | apply Z.then_normal | apply Z.block_normal)
          | (show W _ _ _ _ _ _; first | apply W.seq | apply W.region | apply W.block | apply W.skip)
          | fail)
        all_goals
          have hXL : Ext w7 wL := extF
          have hOW9 := hU5.own (hU4.own (hOV.ext hXL) (apsymm' (hap q r hr))) (.inr hgOV)
          rw [Int.toNat_natCast] at hO5
          have hKf := (hS.ext hXL).putB hr hU4 hF4 hO4 hU5 (by rw [hrl]; exact hO5)
          refine Z.againW ⟨by omega, hX5, _, hKf, by rw [List.length_set]; exact hrl, rowset (g := colC n s j (q + 1)) hrv (by omega) ?_ (fun v hv => colC_other hv), hOW9, apset hap hr hF4 (fun k hk => by have h5 := ((hOV.ext hXL).blk_lt k hk).2; omega)⟩ (by repeat' first | exact trivial | (refine And.intro ?_ ?_) | exact rfl)
          show r.2.2 ++ _ = _
          rw [hrv q r hr, colC_yes hxq]
      · obtain rfl : q = n.length + 1 := by omega
        repeat' (first
          | (apply W.condKF; exact rfl; (focus (exact dec_false (by omega); done)))
          | (show WL _ _ _ _ _ _ _; first | apply WL.nil | (refine WL.au (k := ?_)))
          | (show Z _ _ _ _ _; first | apply Z.then_normal | apply Z.block_normal | apply Z.then_exit | apply Z.block_exit)
          | (show W _ _ _ _ _ _; first | apply W.seq | apply W.region | apply W.exit)
          | fail)
        exact Z.againW ⟨by omega, hX7, rs, hS, hrl, fun v r hr => by rw [hrv v r hr]; exact colC_next (by have := lt_of_get hr; omega)⟩ (by repeat' first | exact trivial | (refine And.intro ?_ ?_) | exact rfl)
    · obtain rfl : j = wc := by omega
      have hjl : ¬ ((j : Nat) : Int) < wd := fun h => hlt ((hjw j).1 h)
      repeat' (first
        | (apply W.condKF; exact rfl; (focus (exact dec_false hjl; done)))
        | (show WL _ _ _ _ _ _ _; first | apply WL.nil | (refine WL.au (k := ?_)))
        | (show Z _ _ _ _ _; first | apply Z.then_normal | apply Z.then_exit | apply Z.block_exit)
        | (show W _ _ _ _ _ _; first | apply W.seq | apply W.region | apply W.ret | apply W.exit)
        | fail)
      refine Z.body1 Try.results10 rfl fun m => ⟨Ext.at hX2 m, _, n.length + 1, rs, by rw [hrl], by rw [← hrl]; exact hS.rr.at m, ?_⟩
      unfold sigsV
      refine tab_eq (by rw [List.length_map, hrl]) fun u x hx => ?_
      rw [List.getElem?_map] at hx
      cases hr : rs[u]? with
      | none => rw [hr] at hx; cases hx
      | some r =>
        rw [hr] at hx
        rw [← Option.some.inj hx]
        show colV n s j u = r.2.2
        rw [hrv u r hr]
        unfold colC; rw [if_neg (by omega)]
end Go.Proofs.Ytlcenenkloicjaa
namespace Go.Proofs.Ytlcenenkloicjaa
open Go Go.Lt Go.RowKit
set_option linter.unusedVariables false
set_option linter.unusedSimpArgs false
set_option maxRecDepth 20000

section
variable {κ : Type} [DecidableEq κ] (K : Nat → κ) (T : Nat → Bool)
def litC (v u : Nat) : Int := 2 * (u : Int) + (if T u = T v then 0 else 1)
def clsC (v m : Nat) : List Int := ((List.range m).filter fun u => decide (v ≤ u) && decide (K u = K v)).map (litC T v)
def frsC (m : Nat) : List Nat := (List.range m).filter fun v => (List.range v).all fun u => decide (K u ≠ K v)
def outF (f : List Nat) (m : Nat) : List (List Int) := (f.map fun v => clsC K T v m).filter fun c => decide (1 < c.length)
def outC (m : Nat) : List (List Int) := outF K T (frsC K m) m
def grpF (f : List Nat) (m : Nat) : List (List Int × Bool) := f.map fun v => (clsC K T v m, T v)
end
section
variable {κ : Type} [DecidableEq κ] {K : Nat → κ} {T : Nat → Bool}
theorem litC_self (v : Nat) : litC T v v = 2 * (v : Int) := by unfold litC; rw [if_pos rfl]; omega
theorem frs_mem {m v : Nat} : v ∈ frsC K m ↔ v < m ∧ ∀ u, u < v → K u ≠ K v := by
  unfold frsC
  rw [List.mem_filter, List.mem_range, List.all_eq_true]
  constructor
  · rintro ⟨h1, h2⟩
    exact ⟨h1, fun u hu => of_decide_eq_true (h2 u (List.mem_range.2 hu))⟩
  · rintro ⟨h1, h2⟩
    exact ⟨h1, fun u hu => decide_eq_true (h2 u (List.mem_range.1 hu))⟩
theorem frs_new {m : Nat} (h : ∀ u, u < m → K u ≠ K m) : frsC K (m + 1) = frsC K m ++ [m] := by
  unfold frsC
  rw [List.range_succ, List.filter_append]
  congr 1
  rw [List.filter_cons_of_pos]
  · rfl
  · rw [List.all_eq_true]; exact fun u hu => decide_eq_true (h u (List.mem_range.1 hu))
theorem frs_old {m : Nat} (h : ¬ ∀ u, u < m → K u ≠ K m) : frsC K (m + 1) = frsC K m := by
  unfold frsC
  rw [List.range_succ, List.filter_append, List.filter_cons_of_neg]
  · simp
  · intro hh
    rw [List.all_eq_true] at hh
    exact h fun u hu => of_decide_eq_true (hh u (List.mem_range.2 hu))
theorem frs_len (m : Nat) : (frsC K m).length ≤ m := by
  have := List.length_filter_le (fun v => (List.range v).all fun u => decide (K u ≠ K v)) (List.range m)
  rw [List.length_range] at this; exact this
theorem cls_len (v m : Nat) : (clsC K T v m).length ≤ m := by
  unfold clsC; rw [List.length_map]
  have := List.length_filter_le (fun u => decide (v ≤ u) && decide (K u = K v)) (List.range m)
  rw [List.length_range] at this; exact this
theorem cls_other {v m : Nat} (h : K m ≠ K v) : clsC K T v (m + 1) = clsC K T v m := by
  unfold clsC
  rw [List.range_succ, List.filter_append, List.filter_cons_of_neg]
  · simp
  · simp [h]
theorem cls_same {v m : Nat} (hv : v ≤ m) (h : K m = K v) : clsC K T v (m + 1) = clsC K T v m ++ [litC T v m] := by
  unfold clsC
  rw [List.range_succ, List.filter_append, List.map_append]
  congr 1
  rw [List.filter_cons_of_pos]
  · rfl
  · simp [h, hv]
theorem cls_none (m : Nat) : clsC K T m m = [] := by
  unfold clsC
  rw [List.filter_eq_nil_iff.2]
  · rfl
  · intro u hu
    have := List.mem_range.1 hu
    have h1 : ¬ m ≤ u := by omega
    simp [h1]
theorem cls_first (m : Nat) : clsC K T m (m + 1) = [2 * (m : Int)] := by rw [cls_same (Nat.le_refl _) rfl, cls_none, litC_self]; rfl
/-- The first of those that look like m. -/
theorem frs_find (m : Nat) : ∃ v, v ∈ frsC K (m + 1) ∧ K v = K m := by
  have key : ∀ n, ∀ u, u ≤ n → u ≤ m → K u = K m → ∃ v, v ∈ frsC K (m + 1) ∧ K v = K m := by
    intro n
    induction n with
    | zero =>
      intro u hu hm hk
      exact ⟨u, frs_mem.2 ⟨by omega, fun x hx => by omega⟩, hk⟩
    | succ n ih =>
      intro u hu hm hk
      by_cases h : ∀ x, x < u → K x ≠ K u
      · exact ⟨u, frs_mem.2 ⟨by omega, h⟩, hk⟩
      · obtain ⟨x, hx⟩ := Classical.not_forall.1 h
        obtain ⟨hx1, hx2⟩ := Classical.not_imp.1 hx
        have hx3 : K x = K u := Classical.not_not.1 hx2
        exact ih x (by omega) (by omega) (hx3.trans hk)
  exact key m m (Nat.le_refl _) (Nat.le_refl _) rfl
theorem frs_uniq {m v u : Nat} (hv : v ∈ frsC K m) (hu : u ∈ frsC K m) (h : K v = K u) : v = u := by
  have h1 := (frs_mem.1 hv).2
  have h2 := (frs_mem.1 hu).2
  rcases Nat.lt_trichotomy v u with q | q | q
  · exact absurd h (h2 v q)
  · exact q
  · exact absurd h.symm (h1 u q)
theorem frs_nodup (m : Nat) : (frsC K m).Nodup := List.Pairwise.filter _ List.nodup_range
theorem frs_idx {m i j v u : Nat} (hi : (frsC K m)[i]? = some v) (hj : (frsC K m)[j]? = some u) (h : K v = K u) : i = j := by
  have e := frs_uniq (List.mem_of_getElem? hi) (List.mem_of_getElem? hj) h
  subst e
  obtain ⟨h1, h2⟩ := List.getElem?_eq_some_iff.1 hi
  obtain ⟨h3, h4⟩ := List.getElem?_eq_some_iff.1 hj
  exact (List.getElem_inj (h₀ := h1) (h₁ := h3) (frs_nodup m)).1 (by rw [h2, h4])
theorem grp_new (m : Nat) : grpF K T (frsC K m ++ [m]) m = grpF K T (frsC K m) m ++ [([], T m)] := by
  unfold grpF; rw [List.map_append]; simp [cls_none]
theorem grp_set {m i v : Nat} (hi : (frsC K (m + 1))[i]? = some v) (h : K v = K m) : (grpF K T (frsC K (m + 1)) m).set i (clsC K T v m ++ [litC T v m], T v) = grpF K T (frsC K (m + 1)) (m + 1) := by
  apply List.ext_getElem?
  intro j
  unfold grpF
  rw [List.getElem?_set, List.length_map, List.getElem?_map, List.getElem?_map]
  by_cases hij : i = j
  · subst hij
    rw [if_pos rfl, if_pos (lt_of_get hi), hi]
    have hv := (frs_mem.1 (List.mem_of_getElem? hi)).1
    simp [cls_same (K := K) (T := T) (show v ≤ m by omega) h.symm]
  · rw [if_neg hij]
    cases hj : (frsC K (m + 1))[j]? with
    | none => rfl
    | some u =>
      have hne : K m ≠ K u := fun e => hij (frs_idx hi hj (h.trans e))
      simp [cls_other (K := K) (T := T) hne]
theorem grp_get {f : List Nat} {m i v : Nat} (hi : f[i]? = some v) : (grpF K T f m)[i]? = some (clsC K T v m, T v) := by unfold grpF; rw [List.getElem?_map, hi]; rfl
theorem grp_len (f : List Nat) (m : Nat) : (grpF K T f m).length = f.length := List.length_map _
/-- Those of the first k groups that have more than one. -/
def outG {β : Type} (len : β → Nat) (l : List β) (k : Nat) : List β := (l.take k).filter fun g => decide (1 < len g)
theorem outG_yes {β : Type} {len : β → Nat} {l : List β} {k : Nat} {g : β} (hg : l[k]? = some g) (h : 1 < len g) : outG len l (k + 1) = outG len l k ++ [g] := by
  unfold outG; rw [take_succ' hg, List.filter_append]; simp [h]
theorem outG_no {β : Type} {len : β → Nat} {l : List β} {k : Nat} {g : β} (hg : l[k]? = some g) (h : ¬ 1 < len g) : outG len l (k + 1) = outG len l k := by
  unfold outG; rw [take_succ' hg, List.filter_append]; simp [h]
theorem outG_len {β : Type} (len : β → Nat) (l : List β) (k : Nat) : (outG len l k).length ≤ k := by
  have h1 := List.length_filter_le (fun g => decide (1 < len g)) (l.take k)
  have h2 := List.length_take_le k l
  unfold outG; omega
theorem outG_all {β : Type} (len : β → Nat) (l : List β) : outG len l l.length = l.filter fun g => decide (1 < len g) := by unfold outG; rw [List.take_length]
theorem outG_map {β : Type} {f : List Nat} {m : Nat} {l : List β} {val : β → List Int × Bool} {len : β → Nat} (hl : l.map val = grpF K T f m) (hlen : ∀ g, len g = (val g).1.length) : (l.filter fun g => decide (1 < len g)).map (fun g => (val g).1) = outF K T f m := by
  unfold outF
  have e : (f.map fun v => clsC K T v m) = (l.map fun g => (val g).1) := by
    have h1 := congrArg (List.map Prod.fst) hl
    unfold grpF at h1
    rw [List.map_map, List.map_map] at h1
    exact h1.symm
  rw [e, List.filter_map]
  congr 1
  apply List.filter_congr
  intro g _
  simp [hlen]

variable {ω : Type} (kk : Nat → ω)
def mapF : List Nat → Nat → List (ω × Int)
  | [], _ => []
  | v :: r, i => (kk v, (i : Int)) :: mapF r (i + 1)
theorem mapF_app (f : List Nat) (m : Nat) : ∀ i, mapF kk (f ++ [m]) i = mapF kk f i ++ [(kk m, ((i + f.length : Nat) : Int))] := by
  induction f with
  | nil => intro i; rfl
  | cons v r ih =>
    intro i
    show (kk v, (i : Int)) :: mapF kk (r ++ [m]) (i + 1) = _
    rw [ih (i + 1), List.length_cons, show i + 1 + r.length = i + (r.length + 1) by omega]; rfl
theorem mapF_none (a : ω) (f : List Nat) (h : ∀ v ∈ f, a ≠ kk v) : ∀ i, mget a (mapF kk f i) = none := by
  induction f with
  | nil => intro i; rfl
  | cons v r ih =>
    intro i
    show (bif dec (a = kk v) then some (i : Int) else mget a (mapF kk r (i + 1))) = none
    rw [dec_false (h v (List.mem_cons_self ..))]
    exact ih (fun u hu => h u (List.mem_cons_of_mem _ hu)) (i + 1)
theorem mapF_some (a : ω) (f : List Nat) : ∀ (i j v : Nat), f[j]? = some v → a = kk v → (∀ q u, q < j → f[q]? = some u → a ≠ kk u) → mget a (mapF kk f i) = some (((i + j : Nat) : Int)) := by
  induction f with
  | nil => intro i j v h; simp at h
  | cons x r ih =>
    intro i j v h ha hn
    show (bif dec (a = kk x) then some (i : Int) else mget a (mapF kk r (i + 1))) = _
    cases j with
    | zero => simp at h; subst h; rw [dec_true ha]; rfl
    | succ j =>
      rw [dec_false (hn 0 x (by omega) rfl)]
      rw [cond_false, ih (i + 1) j v (by simpa using h) ha (fun q u hq hu => hn (q + 1) u (by omega) (by simpa using hu))]
      congr 2; omega

end
section
variable {κ : Type} {K : Nat → κ}
noncomputable def inT (K : Nat → κ) (N v : Nat) : List Bool := tab N (fun x => dec (∃ w, w < v ∧ w < x ∧ K w = K x))
noncomputable def inU (K : Nat → κ) (N v u : Nat) : List Bool := tab N (fun x => dec ((∃ w, w < v ∧ w < x ∧ K w = K x) ∨ (v < x ∧ x < u ∧ K v = K x)))
theorem inT_len (N v : Nat) : (inT K N v).length = N := tab_len _ _
theorem inU_len (N v u : Nat) : (inU K N v u).length = N := tab_len _ _
theorem inT_start (N : Nat) : List.replicate N false = inT K N 0 := by
  rw [tab_rep]; exact tab_congr fun x hx => (dec_false fun ⟨w, h, _⟩ => by omega).symm
theorem inT_get {N v : Nat} (h : v < N) : (inT K N v)[v]? = some (dec (¬ ∀ u, u < v → K u ≠ K v)) := by
  unfold inT; rw [tab_get _ h]
  congr 1
  refine dec_congr ⟨fun ⟨w, h1, _, h3⟩ hh => hh w h1 h3, fun hh => ?_⟩
  obtain ⟨x, hx⟩ := Classical.not_forall.1 hh
  obtain ⟨hx1, hx2⟩ := Classical.not_imp.1 hx
  exact ⟨x, hx1, hx1, Classical.not_not.1 hx2⟩
theorem inT_skip {N v : Nat} (h : ¬ ∀ u, u < v → K u ≠ K v) : inT K N v = inT K N (v + 1) := by
  obtain ⟨y, hy⟩ := Classical.not_forall.1 h
  obtain ⟨hy1, hy2⟩ := Classical.not_imp.1 hy
  have hy3 : K y = K v := Classical.not_not.1 hy2
  refine tab_congr fun x hx => dec_congr ⟨fun ⟨w, h1, h2, h3⟩ => ⟨w, by omega, h2, h3⟩, fun ⟨w, h1, h2, h3⟩ => ?_⟩
  by_cases e : w = v
  · subst e; exact ⟨y, hy1, by omega, hy3.trans h3⟩
  · exact ⟨w, by omega, h2, h3⟩
theorem inU_start (N v : Nat) : inT K N v = inU K N v (v + 1) := tab_congr fun x hx => dec_congr ⟨.inl, fun h => h.resolve_right fun ⟨h1, h2, _⟩ => by omega⟩
theorem inU_end (N v : Nat) : inU K N v N = inT K N (v + 1) := tab_congr fun x hx => dec_congr ⟨fun h => by
    rcases h with ⟨w, h1, h2, h3⟩ | ⟨h1, h2, h3⟩
    · exact ⟨w, by omega, h2, h3⟩
    · exact ⟨v, by omega, h1, h3⟩, fun ⟨w, h1, h2, h3⟩ => by
    by_cases e : w = v
    · subst e; exact .inr ⟨h2, hx, h3⟩
    · exact .inl ⟨w, by omega, h2, h3⟩⟩
theorem inU_get {N v u : Nat} (h : u < N) : (inU K N v u)[u]? = some (dec (∃ w, w < v ∧ w < u ∧ K w = K u)) := by
  unfold inU; rw [tab_get _ h]
  congr 1
  exact dec_congr ⟨fun h => h.resolve_right fun ⟨_, h2, _⟩ => by omega, .inl⟩
theorem inU_no {N v u : Nat} (h : (∃ w, w < v ∧ w < u ∧ K w = K u) ∨ K v ≠ K u) : inU K N v u = inU K N v (u + 1) := by
  refine tab_congr fun x hx => dec_congr ⟨fun hh => hh.imp id fun ⟨h1, h2, h3⟩ => ⟨h1, by omega, h3⟩, fun hh => ?_⟩
  rcases hh with hh | ⟨h1, h2, h3⟩
  · exact .inl hh
  · by_cases e : x = u
    · subst e
      rcases h with h | h
      · exact .inl h
      · exact absurd h3 h
    · exact .inr ⟨h1, by omega, h3⟩
theorem inU_yes {N v u : Nat} (hu : v < u) (h : K v = K u) : (inU K N v u).set u true = inU K N v (u + 1) := by
  refine tab_set fun x hx => ?_
  by_cases e : x = u
  · subst e; rw [if_pos rfl]; exact dec_true (.inr ⟨hu, by omega, h⟩)
  · rw [if_neg e]
    exact dec_congr ⟨fun hh => hh.imp id fun ⟨h1, h2, h3⟩ => ⟨h1, by omega, h3⟩, fun hh => hh.imp id fun ⟨h1, h2, h3⟩ => ⟨h1, by omega, h3⟩⟩
/-- What looks like an earlier one, does not look like a first one. -/
theorem in_other {v u : Nat} (hv : ∀ x, x < v → K x ≠ K v) (h : ∃ w, w < v ∧ w < u ∧ K w = K u) : K u ≠ K v := by
  obtain ⟨w, h1, _, h3⟩ := h
  intro e; exact hv w h1 (h3.trans e)
end
section
variable {κ : Type} [DecidableEq κ] {K : Nat → κ} {T : Nat → Bool}
theorem outF_app (f : List Nat) (v m : Nat) : outF K T (f ++ [v]) m = outF K T f m ++ (if 1 < (clsC K T v m).length then [clsC K T v m] else []) := by
  unfold outF
  rw [List.map_append, List.filter_append]
  congr 1
  by_cases h : 1 < (clsC K T v m).length
  · rw [if_pos h]; simp [h]
  · rw [if_neg h]; simp [h]
theorem outF_len (f : List Nat) (m : Nat) : (outF K T f m).length ≤ f.length := by
  have := List.length_filter_le (fun c => decide (1 < c.length)) (f.map fun v => clsC K T v m)
  rw [List.length_map] at this; exact this
end
end Go.Proofs.Ytlcenenkloicjaa
namespace Go.Lt
open Go.RowKit
set_option linter.unusedVariables false
set_option linter.unusedSimpArgs false
section
variable {P : Program} {T : Tab} {N : Nat} {e : Env} {w : World} {Q : Exit → Act → World → Prop} {ops : List Oper} {l : List Oper}
  {tt t el : TypeId} {ps : String} {af : Array Edge} {g : Option (Nat × Bool)} {α : Type} {s : Nat} {enc : α → List Value} {B : Nat} {ei : TI}
theorem take_set_le {β : Type} (L : List β) (k M : Nat) (v : β) (h : k < M) : (L.set k v).take M = (L.take M).set k v := by
  apply List.ext_getElem?
  intro i
  simp only [List.getElem?_take, List.getElem?_set, List.length_take]
  split <;> split <;> (try split) <;> (try rfl) <;> (try omega) <;> simp_all <;> omega
theorem WL.storeOF {x y : Operand} {gb q i cap : Nat} {v u : Value} {xs : List α} {z z' : α} {wo w0 : World} (p r : List Value) (hT : OkTab P T) (hg : gate ops e g = some true)
    (hx : ev e x = some (.pointer (some ⟨gb, q, none⟩))) (hy : ev e y = some v) (ht : tget T t = some ei)
    (ho : Own s enc el B wo (some ⟨gb, 0, none⟩) cap xs) (hwo : Ext wo w) (hq : q = i * s + p.length) (hzo : enc z = p ++ u :: r) (hzn : enc z' = p ++ v :: r) (hv : v.cells.toList = [v]) (hs : ei.size = 1) (hE : Enc s enc) (hz : xs[i]? = some z) (hB : w0.heap.size = B) (hX : Ext w0 w)
    (k : ∀ w', Own s enc el B w' (some ⟨gb, 0, none⟩) cap (xs.set i z') → Ext w0 w' → Upd B (some ⟨gb, 0, none⟩) w w' → WL P N ops.toArray l e w' Q) :
    WL P N ops.toArray (⟨none, .store t x y, tt, ps, af, g⟩ :: l) e w Q := by
  subst hq
  have hi : i < xs.length := (List.getElem?_eq_some_iff.1 hz).1
  have ho' := ho.ext hwo
  have hO := ho'
  rcases ho'.2 with ⟨h1, _⟩ | ⟨g', c', cur, h1, h2, h3, h4, h5, h6, h7⟩
  · simp at h1
  simp only [Value.slice.injEq, Option.some.injEq, Addr.mk.injEq, and_true, true_and] at h1
  obtain ⟨rfl, rfl⟩ := h1
  have hps : p.length < s := by have := hE.len z; rw [hzo] at this; simp at this; omega
  have hvs : v.cells.size = 1 := by have := congrArg List.length hv; simpa using this
  have hle : i * s + s ≤ xs.length * s := by rw [← Nat.succ_mul]; exact Nat.mul_le_mul_right s hi
  have hle2 : xs.length * s ≤ cap * s := Nat.mul_le_mul_right s h4
  have hone : ∀ u ∈ v.cells.toList, u.oneCell' = true := fun u hu => hE.one z' u (by rw [hv] at hu; rw [hzn]; simp at hu; subst hu; simp)
  refine WL.effN (w' := fun m => (at' w m).setRow gb (cur.toList.take (i * s + p.length) ++ v.cells.toList ++ cur.toList.drop (i * s + p.length + v.cells.size)).toArray) hg ?_ (fun m => ?_)
  · intro ρ hρ m
    have hr := run_storeVar' (hT.at ht) gb (i * s + p.length) el cur (at' w m) v h3 (hvs.trans hs.symm) (by rw [hvs, h6]; omega) hone
    simp [execOp, hρ _ _ hx, hρ _ _ hy, Instr.storeAt, Instr.sureAddr, hr]
  · have hU : Upd B (some ⟨gb, 0, none⟩) w ((at' w m).setRow gb (cur.toList.take (i * s + p.length) ++ v.cells.toList ++ cur.toList.drop (i * s + p.length + v.cells.size)).toArray) :=
      ⟨⟨rfl, rfl, rfl, by simp [World.setRow], fun k hk hne => setRow_other (at' w m) gb k _ (fun hh => hne (by rw [hh]; rfl))⟩, fun k hk => (hO.blk_lt k hk).1⟩
    refine k _ ?_ (hU.ext hX (Nat.le_of_eq hB)) hU
    have h8 : cur.toList.length = cap * s := by simpa using h6
    have hcl : i * s + p.length < cur.toList.length := by omega
    have hset : cur.toList.take (i * s + p.length) ++ v.cells.toList ++ cur.toList.drop (i * s + p.length + v.cells.size) = cur.toList.set (i * s + p.length) v := by
      rw [hv, hvs, List.set_eq_take_append_cons_drop, if_pos hcl]; simp
    refine ⟨by rw [length_flatMap' hE.len], .inr ⟨gb, cap, _, rfl, h2, setRow_heap (at' w m) gb cur _ el _ h3, by simpa using h4, h5, ?_, ?_⟩⟩
    · rw [hset]; simp [h6]
    · simp only [List.length_set]
      rw [hset, take_set_le _ _ _ _ (by omega), h7]
      exact set_flatMap' hE.len xs i z z' hz p r u v hzo hzn
end
end Go.Lt
namespace Go.Lt
open Go.RowKit
set_option linter.unusedVariables false
theorem Sep.cons_iff {B : Nat} {w : World} {p : Piece} {ps : List Piece} : Sep B w (p :: ps) ↔ (p.P w ∧ ∀ k, p.b = some k → B ≤ k ∧ k < w.heap.size) ∧ (∀ q ∈ ps, p.b = none ∨ p.b ≠ q.b) ∧ (∀ q ∈ ps, q.b = none ∨ q.b ≠ p.b) ∧ Sep B w ps := by
  constructor
  · intro h
    refine ⟨h.holds 0 p rfl, fun q hq => ?_, fun q hq => ?_, ⟨fun i q hi => h.holds (i + 1) q hi, fun i j q r h1 h2 hne => h.apart (i + 1) (j + 1) q r h1 h2 (by omega)⟩⟩
    · obtain ⟨i, hi⟩ := List.mem_iff_getElem?.1 hq
      exact h.apart 0 (i + 1) p q rfl hi (by omega)
    · obtain ⟨i, hi⟩ := List.mem_iff_getElem?.1 hq
      exact h.apart (i + 1) 0 q p hi rfl (by omega)
  · rintro ⟨h1, h2, h3, h4⟩
    refine ⟨fun i q hi => ?_, fun i j q r hi hj hne => ?_⟩
    · cases i with
      | zero => cases hi; exact h1
      | succ i => exact h4.holds i q hi
    · cases i with
      | zero =>
        cases hi
        cases j with
        | zero => exact absurd rfl hne
        | succ j => exact h2 r (List.mem_of_getElem? (i := j) hj)
      | succ i =>
        cases j with
        | zero => cases hj; exact h3 q (List.mem_of_getElem? (i := i) hi)
        | succ j => exact h4.apart i j q r hi hj (by omega)
theorem Sep.ofPerm {B : Nat} {w : World} {ps qs : List Piece} (hp : ps.Perm qs) : Sep B w ps → Sep B w qs := by
  induction hp with
  | nil => exact id
  | cons x hp ih =>
    intro h
    obtain ⟨h1, h2, h3, h4⟩ := Sep.cons_iff.1 h
    exact Sep.cons_iff.2 ⟨h1, fun q hq => h2 q (hp.mem_iff.2 hq), fun q hq => h3 q (hp.mem_iff.2 hq), ih h4⟩
  | swap x y l =>
    intro h
    obtain ⟨h1, h2, h3, h4⟩ := Sep.cons_iff.1 h
    obtain ⟨k1, k2, k3, k4⟩ := Sep.cons_iff.1 h4
    refine Sep.cons_iff.2 ⟨k1, fun q hq => ?_, fun q hq => ?_, Sep.cons_iff.2 ⟨h1, fun q hq => h2 q (List.mem_cons_of_mem _ hq), fun q hq => h3 q (List.mem_cons_of_mem _ hq), k4⟩⟩
    · rcases List.mem_cons.1 hq with rfl | hq
      · exact h3 x (List.mem_cons_self ..)
      · exact k2 q hq
    · rcases List.mem_cons.1 hq with rfl | hq
      · exact h2 x (List.mem_cons_self ..)
      · exact k3 q hq
  | trans _ _ ih1 ih2 => exact fun h => ih2 (ih1 h)
end Go.Lt
namespace Go.Proofs.Ytlcenenkloicjaa
open Go Go.Lt Go.RowKit
set_option linter.unusedVariables false
set_option linter.unusedSimpArgs false
set_option maxRecDepth 20000

abbrev GrpV := RowV Int × Bool
abbrev encG : GrpV → List Value := fun g => [.slice g.1.1 g.1.2.2.length g.1.2.1, .bool g.2]
theorem encG_ok : Enc 2 encG := ⟨fun _ => rfl, fun x u hu => by simp at hu; rcases hu with rfl | rfl <;> rfl, by decide⟩
abbrev kvS : ByteArray → Value := fun s => .string s
abbrev vvS : Int → Value := fun n => .int .i64 n
theorem keyS_ok : KeyF Try.prog 9 kvS := keyF_str Try.underlying9
abbrev grV : GrpV → List Int × Bool := fun g => (g.1.2.2, g.2)
abbrev grP (B : Nat) : GrpV → Piece := fun g => prow 1 encI 3 B g.1.1 g.1.2.1 g.1.2.2
theorem look2F {P : Program} {N : Nat} {e : Env} {w : World} {Q : Exit → Act → World → Prop} {ops : List Oper} {l : List Oper} {T : Tab} {d : Nat} {tt t : TypeId} {ps : String} {af : Array Edge} {g : Option (Nat × Bool)} {x y : Operand} {ti ei : TI} {κ ν : Type} {kt et : TypeId} {kv : κ → Value} {vv : ν → Value} {L : List (κ × ν)} {a : κ} {r : Nat}
    (hT : OkTab P T) (hk : KeyF P kt kv) (hg : gate ops e g = some true) (hd : Nat.blt d N = true) (hx : ev e x = some (.map (some r))) (hy : ev e y = some (kv a)) (ht : tget T t = some ti) (htd : ti.desc = .map kt et) (he : tget T et = some ei) (hM : MapIs kv vv w r L)
    (k : WL P N ops.toArray l ((d, .tuple #[((mget a L).map vv).getD ei.zero, .bool (mget a L).isSome]) :: e) w Q) : WL P N ops.toArray (⟨some d, .lookup t x y true, tt, ps, af, g⟩ :: l) e w Q :=
  WL.step hg hd (ylookupF (C := Same w) hT hk hx hy ht htd he hM true) k
/-- What lies in memory: the map, the groups, their lists. -/
def clP (B r : Nat) (L : List (ByteArray × Int)) (a : Option Addr) (cap : Nat) (gs : List GrpV) (rest : List Piece) : List Piece :=
  (pmap kvS vvS r L :: prow 2 encG 87 B a cap gs :: gs.map (grP B)) ++ rest
section
variable {B B' r : Nat} {w w' w1 : World} {L L' : List (ByteArray × Int)} {a a' : Option Addr} {cap cap' : Nat} {gs : List GrpV} {rest : List Piece}
theorem clP_put (hS : Lt.Sep B w (clP B r L a cap gs rest)) (hU : Upd B' (some ⟨r, 0, none⟩) w w') (h : MapIs kvS vvS w' r L') (hB : B ≤ w.heap.size) : Lt.Sep B w' (clP B r L' a cap gs rest) :=
  Sep.updMap (i := 0) rfl hU h hS (Ext.refl _) hB
theorem clP_grp {t : Bool} (hS : Lt.Sep B w (clP B r L a cap gs rest)) (hx : Ext w w1) (hU : Upd B a w1 w') (hO : Own 2 encG 87 B w' a' cap' (gs ++ [((none, 0, []), t)])) (hF : blk a' = blk a ∨ ∃ k, blk a' = some k ∧ w1.heap.size ≤ k) (hB : B ≤ w1.heap.size) : Lt.Sep B w' (clP B r L a' cap' (gs ++ [((none, 0, []), t)]) rest) := by
  have h1 := Sep.updRow (i := 1) rfl hU hO hF hS hx hB
  have h2 : Lt.Sep B w' (prow 1 encI 3 B none 0 [] :: ((pmap kvS vvS r L :: prow 2 encG 87 B a' cap' (gs ++ [((none, 0, []), t)]) :: gs.map (grP B)) ++ rest)) :=
    Sep.cons_iff.2 ⟨⟨Own.nil, fun k hk => by cases hk⟩, fun q _ => .inl rfl, fun q _ => by
      cases hb : q.b with
      | none => exact .inl rfl
      | some k => exact .inr (by simp [prow, blk]), h1⟩
  refine Sep.ofPerm ?_ h2
  unfold clP
  rw [List.map_append]
  rw [show (pmap kvS vvS r L :: prow 2 encG 87 B a' cap' (gs ++ [((none, 0, []), t)]) :: (gs.map (grP B) ++ [((none, 0, []), t)].map (grP B))) ++ rest = (pmap kvS vvS r L :: prow 2 encG 87 B a' cap' (gs ++ [((none, 0, []), t)]) :: gs.map (grP B)) ++ (prow 1 encI 3 B none 0 [] :: rest) by simp]
  exact List.perm_middle.symm
theorem clP_at {i : Nat} {g : GrpV} (hg : gs[i]? = some g) : (clP B r L a cap gs rest)[i + 2]? = some (prow 1 encI 3 B g.1.1 g.1.2.1 g.1.2.2) := by
  show ((gs.map (grP B)) ++ rest)[i]? = _
  rw [List.getElem?_append_left (by rw [List.length_map]; exact lt_of_get hg), List.getElem?_map, hg]; rfl
theorem clP_in (hS : Lt.Sep B w (clP B r L a cap gs rest)) {i : Nat} {g : GrpV} (hg : gs[i]? = some g) : Own 1 encI 3 B w g.1.1 g.1.2.1 g.1.2.2 :=
  hS.row (i := i + 2) (clP_at hg)
theorem clP_set {w2 w3 : World} {i : Nat} {g : GrpV} {b : Option Addr} {dp : Nat} {l : List Int} (hS : Lt.Sep B w (clP B r L a cap gs rest)) (hg : gs[i]? = some g) (hx : Ext w w1) (hU : Upd B g.1.1 w1 w2) (hO : Own 1 encI 3 B w2 b dp l) (hF : blk b = blk g.1.1 ∨ ∃ k, blk b = some k ∧ w1.heap.size ≤ k) (hB : B ≤ w1.heap.size) :
    Own 2 encG 87 B w2 a cap gs ∧ (∀ (B2 : Nat), Upd B2 a w2 w3 → Own 2 encG 87 B w3 a cap (gs.set i ((b, dp, l), g.2)) → Lt.Sep B w3 (clP B r L a cap (gs.set i ((b, dp, l), g.2)) rest)) := by
  have h1 := Sep.updRow (i := i + 2) (clP_at hg) hU hO hF hS hx hB
  have e1 : (clP B r L a cap gs rest).set (i + 2) (prow 1 encI 3 B b dp l) = (pmap kvS vvS r L :: prow 2 encG 87 B a cap gs :: (gs.set i ((b, dp, l), g.2)).map (grP B)) ++ rest := by
    show pmap kvS vvS r L :: prow 2 encG 87 B a cap gs :: ((gs.map (grP B)) ++ rest).set i (prow 1 encI 3 B b dp l) = _
    rw [List.set_append_left _ _ (by rw [List.length_map]; exact lt_of_get hg), List.map_set]; rfl
  rw [e1] at h1
  refine ⟨h1.row (i := 1) rfl, fun B2 hU2 hO2 => ?_⟩
  exact h1.upd (i := 1) (p' := prow 2 encG 87 B a cap (gs.set i ((b, dp, l), g.2))) rfl hU2.grown hO2 (.inl rfl) (Nat.le_trans hB hU.size)
end
section
variable (n : List (Int × Int)) (s : BitVec 64) (wc : Nat)
def rowS (v : Nat) : List (BitVec 64) := (sigsV n s wc).getD v []
def keyK (v : Nat) : List (BitVec 64) := normW (rowS n s wc v)
def trnT (v : Nat) : Bool := turnedW (rowS n s wc v)
def kkS (v : Nat) : ByteArray := keyS (rowS n s wc v)
def clsV : List (List Int) := outC (keyK n s wc) (trnT n s wc) (n.length + 1)
end
theorem kk_iff {n : List (Int × Int)} {s : BitVec 64} {wc u v : Nat} : kkS n s wc u = kkS n s wc v ↔ keyK n s wc u = keyK n s wc v := keyS_iff
/-- A list of lists that was made. -/
def IsLists (w : World) (L : List (List Int)) (v : Value) (w' : World) : Prop := Ext w w' ∧ ∃ a cp, ∃ ks : List (RowV Int), v = .slice a ks.length cp ∧ Row 1 encRow w' a ks ∧ (∀ r ∈ ks, Row 1 encI w' r.1 r.2.2) ∧ ks.map (fun r => r.2.2) = L
set_option maxHeartbeats 8000000 in
theorem sig_Classes (ra : Option Addr) (cap : Nat) (n : List (Int × Int)) (s : BitVec 64) (words : Int) (w : World) (R : Row 2 encN w ra n) (hg : GoodNet n) (hn : n.length ≤ 1048576) (wc : Nat) (hW : min (max words 0) 64 = (wc : Int)) :
    Lt.Spec Try.prog 11 [.slice ra n.length cap, u64 s, .int .i64 words] w (IsLists w (clsV n s wc)) := by
  refine Spec.of _ Try.func11 rfl Try.ntmps11 (by kernel_rfl) rfl ?_
  repeat' (first
    | ((apply WL.makeMap (kv := kvS) (vv := vvS); exact rfl; exact rfl; intro rm w1 hM1 hge1 hx1))
    | (((show WL _ _ _ (⟨_, .call ⟨.value (.func 9), _, _⟩, _, _, _, _⟩ :: _) _ _ _); apply WL.call; exact rfl; exact rfl; exact rfl; exact rfl; exact sig_Sigs ra cap n s words _ (R.ext (by (exact extA))) hg hn wc hW; rintro v' w2 ⟨hx2, aS, cS, sg, rfl, hRR, hsg⟩))
    | (show WL _ _ _ _ _ _ _; first | apply WL.nil | (refine WL.au (k := ?_)))
    | (show Z _ _ _ _ _; apply Z.then_normal)
    | (show W _ _ _ _ _ _; first | apply W.seq | apply W.region | apply W.block)
    | fail)
  obtain ⟨K, hK⟩ : ∃ K, K = keyK n s wc := ⟨_, rfl⟩
  obtain ⟨T, hT⟩ : ∃ T, T = trnT n s wc := ⟨_, rfl⟩
  obtain ⟨kk, hkk⟩ : ∃ kk, kk = kkS n s wc := ⟨_, rfl⟩
  have hkki : ∀ u v, kk u = kk v ↔ K u = K v := fun u v => by rw [hkk, hK]; exact kk_iff
  have hsl : sg.length = n.length + 1 := by have := congrArg List.length hsg; rw [List.length_map] at this; rw [this]; exact tab_len _ _
  have RS2 : Row 1 encRow w2 aS sg := hRR.outer.row encRow_ok
  have hrow : ∀ (v : Nat) (q : RowV (BitVec 64)), sg[v]? = some q → q.2.2 = rowS n s wc v ∧ q.2.2.length ≤ 64 := fun v q hq => by
    have e1 : (sg.map fun r => r.2.2)[v]? = some q.2.2 := by rw [List.getElem?_map, hq]; rfl
    rw [hsg] at e1
    have e2 := getD_of (d := []) e1
    refine ⟨e2.symm, ?_⟩
    have hv := lt_of_get e1
    rw [show (sigsV n s wc).length = n.length + 1 from tab_len _ _] at hv
    unfold sigsV at e1
    rw [tab_get _ hv] at e1
    rw [← Option.some.inj e1, colV_len]; omega
  have hS0 : Lt.Sep w.heap.size w2 (clP w.heap.size rm (mapF kk (frsC K 0) 0) none 0 [] (frz w1.heap.size w2)) := by
    have h1 := Sep.newMap (B := w.heap.size) Sep.none' hx1 hM1 hge1 (Nat.le_refl _)
    have h2 : Lt.Sep w.heap.size w2 ([pmap kvS vvS rm []] ++ frz w1.heap.size w2) := h1.freeze hx2 (Below.size hx1)
    have h3 : Lt.Sep w.heap.size w2 (prow 2 encG 87 w.heap.size none 0 [] :: ([pmap kvS vvS rm []] ++ frz w1.heap.size w2)) := Sep.cons_iff.2 ⟨⟨Own.nil, fun k hk => by cases hk⟩, fun q _ => .inl rfl, fun q _ => by
      cases hb : q.b with
      | none => exact .inl rfl
      | some k => exact .inr (by simp [prow, blk]), h2⟩
    exact Sep.ofPerm (List.Perm.swap ..) h3
  have hX2 : Ext w w2 := hx1.trans hx2
  have ef0 : (frsC K 0).length = 0 := rfl
  clear hM1 hge1
  refine W.loopO (n.length + 1) (fun m a cp w' => m ≤ n.length + 1 ∧ Ext w w' ∧ ∃ gs : List GrpV, Lt.Sep w.heap.size w' (clP w.heap.size rm (mapF kk (frsC K m) 0) a cp gs (frz w1.heap.size w2)) ∧ gs.map grV = grpF K T (frsC K m) m)
    (fun m a cp => [(7, .map (some rm)), (8, .slice a (frsC K m).length cp), (23, .slice aS sg.length cS), (24, .int .i64 (sg.length : Nat)), (25, .int .i64 m)]) none 0 ⟨Nat.zero_le _, hX2, [], hS0, rfl⟩ (fun k a cp w' h => h.1) (by repeat' first | exact trivial | (refine And.intro ?_ ?_) | exact rfl | (rw [ef0]; exact rfl)) ?_
  clear hS0
  rintro m aG cG w3 ⟨hm, hX3, gs, hS, hgs⟩
  have hgl : gs.length = (frsC K m).length := by have := congrArg List.length hgs; rwa [List.length_map, grp_len] at this
  have hfl := frs_len (K := K) m
  have hX03 : Ext w w3 := hX3
  have hRR3 : OwnRR 1 encV 23 31 w1.heap.size w3 aS cS sg := hRR.keep (fun k h1 h2 => Sep.frozen hS h1 h2)
  have RS3 := hRR3.outer.row encRow_ok
  by_cases hlt : m < n.length + 1
  · obtain ⟨q, hq⟩ := getI sg (show m < sg.length by omega)
    obtain ⟨hqv, hql⟩ := hrow m q hq
    have hqR := (hRR3.inner m q hq).row encV_ok
    have hkm : keyS q.2.2 = kk m := by rw [hkk, hqv]; rfl
    have htm : turnedW q.2.2 = T m := by rw [hT, hqv]; rfl
    have hkey : Pure Try.prog 48 [.slice q.1 q.2.2.length q.2.1] w3 (.tuple #[.string (kk m), .bool (T m)]) := by
      have h := sig_key q.1 q.2.1 q.2.2 w3 hqR (by omega)
      rw [hkm, htm] at h; exact h
    obtain ⟨v, hvf, hKv⟩ := frs_find (K := K) m
    obtain ⟨i, hi⟩ := List.mem_iff_getElem?.1 hvf
    repeat' (first
      | (show WL _ _ _ _ _ _ _; first | apply WL.nil | (refine WL.au (k := ?_)))
      | (show Z _ _ _ _ _; apply Z.then_normal)
      | (show W _ _ _ _ _ _; first | apply W.seq | apply W.region)
      | fail)
    refine W.condKT rfl (dec_true (by omega)) ?_
    repeat' (first
      | (apply WL.callP; exact rfl; exact rfl; exact rfl; exact rfl; exact hkey; intro w' hx; (obtain ⟨w4, rfl⟩ : ∃ x, x = w' := ⟨_, rfl⟩; obtain ⟨hx4, rfl⟩ : ∃ x, x = hx := ⟨_, rfl⟩; have hS4 := hS.ext hx4; have hM4 := Sep.map (i := 0) hS4 rfl))
      | ((apply look2F tOk keyS_ok; exact rfl; exact rfl; exact rfl; exact rfl; exact rfl; exact rfl; exact rfl; exact hM4))
      | (show WL _ _ _ _ _ _ _; first | apply WL.nil | (refine WL.au (k := ?_)) | (apply WL.index tOk; exact rfl; exact rfl; exact rfl; exact rfl; exact rfl; exact rfl; exact rfl; exact rfl; assumption; (exact extA); exact rfl; omega; assumption; intro b off h; have hcc := h; first | (obtain ⟨h1, h2, h3, h4, h5, h6, _⟩ := h) | (obtain ⟨h1, h2, h3, _⟩ := h) | (obtain ⟨h1, h2, _⟩ := h) | (obtain ⟨h1, _⟩ := h)))
      | (show Z _ _ _ _ _; apply Z.then_normal)
      | (show W _ _ _ _ _ _; first | apply W.seq | apply W.region | apply W.block | apply W.skip)
      | fail)
    have hz4 := Below.size (hX03.trans hx4)
    have hrm := (Sep.lt (i := 0) (k := rm) hS4 rfl rfl).1
    have hX4 : Ext w w4 := hX03.trans hx4
    refine W.cutT (σ := (Option Addr × Nat) × World) (fun s => Ext w s.2 ∧ ∃ gs : List GrpV, Lt.Sep w.heap.size s.2 (clP w.heap.size rm (mapF kk (frsC K (m + 1)) 0) s.1.1 s.1.2 gs (frz w1.heap.size w2)) ∧ gs.map grV = grpF K T (frsC K (m + 1)) m)
      (fun s => [(7, .map (some rm)), (8, .slice s.1.1 (frsC K (m + 1)).length s.1.2), (9, .int .i64 m), (12, .bool (T m)), (13, .int .i64 i), (23, .slice aS sg.length cS), (24, .int .i64 (sg.length : Nat)), (25, .int .i64 m)]) (fun s => s.2) ?_ ?_
    · by_cases hnew : ∀ u, u < m → K u ≠ K m
      · have efn := frs_new (K := K) hnew
        have hmg : mget (kk m) (mapF kk (frsC K m) 0) = none := mapF_none kk _ _ (fun u hu he => hnew u (frs_mem.1 hu).1 ((hkki m u).1 he).symm) 0
        have hil : i = (frsC K m).length := frs_idx hi (show (frsC K (m + 1))[(frsC K m).length]? = some m by rw [efn, List.getElem?_append_right (Nat.le_refl _)]; simp) hKv
        refine W.condKT rfl (by rw [hmg]; rfl) ?_
        repeat' (first
          | ((apply WL.mapPutF (B := 0) (w0 := w) (vv := vvS) tOk keyS_ok; exact rfl; exact rfl; exact rfl; exact rfl; exact rfl; exact rfl; exact hM4; exact (by (exact extA)); exact hrm; intro w5 hM5 hX5 hU5))
          | (apply WL.build tOk; exact rfl; exact rfl; exact rfl; exact rfl; exact rfl; exact rfl; exact rfl; kernel_rfl)
          | (apply WL.lit tOk; exact rfl; exact rfl; exact rfl; exact rfl; exact rfl; exact rfl; (first | exact rfl | kernel_rfl | (simp [Instr.fill, catCells]; done)); exact rfl; intro gb w' hb hge hc hx; (obtain ⟨wL, rfl⟩ : ∃ x, x = w' := ⟨_, rfl⟩; obtain ⟨hxL, rfl⟩ : ∃ x, x = hx := ⟨_, rfl⟩; have hS5 := clP_put hS4 hU5 hM5 hz4; have hG5 := Sep.row (i := 1) hS5 rfl))
          | ((apply WL.append1 (z := (((none, 0, []), T m) : GrpV)) tOk encG_ok; exact rfl; exact rfl; exact rfl; exact rfl; exact rfl; exact rfl; exact rfl; exact rfl; exact rfl; exact rfl; exact hG5; exact (by (exact extA)); exact hgl; assumption; exact rfl; exact rfl; exact (by (exact extA)); omega; intro a4 cap4 w6 hO6 hX6 hU6 hF6))
          | (show WL _ _ _ _ _ _ _; first | apply WL.nil | (refine WL.au (k := ?_)))
          | (show Z _ _ _ _ _; apply Z.then_normal)
          | (show W _ _ _ _ _ _; first | apply W.seq | apply W.region)
          | fail)
        rw [hmg] at hS5
        have hS6 := clP_grp (t := T m) hS5 hxL hU6 hO6 hF6 (Nat.le_trans (Below.size hX5) (Below.size hxL))
        have eL : mapF kk (frsC K m) 0 ++ [(kk m, ((frsC K m).length : Int))] = mapF kk (frsC K (m + 1)) 0 := by rw [efn, mapF_app]; simp
        have ei : ((frsC K m).length : Int) = ((i : Nat) : Int) := by rw [hil]
        have eg : (gs ++ [(((none, 0, []), T m) : GrpV)]).length = (frsC K (m + 1)).length := by rw [efn, List.length_append, hgl, List.length_append]; rfl
        have hS7 : Lt.Sep w.heap.size w6 (clP w.heap.size rm (mapF kk (frsC K (m + 1)) 0) a4 cap4 (gs ++ [(((none, 0, []), T m) : GrpV)]) (frz w1.heap.size w2)) := by
          rw [← eL]; exact hS6
        refine Z.cut ((a4, cap4), w6) ⟨hX6, _, hS7, ?_⟩ (by repeat' first | exact trivial | (refine And.intro ?_ ?_) | exact rfl | (rw [eg]; exact rfl) | (rw [ei]; exact rfl)) rfl
        rw [List.map_append, hgs, efn, grp_new]; rfl
      · have efn := frs_old (K := K) hnew
        have hmg : mget (kk m) (mapF kk (frsC K m) 0) = some (((0 + i : Nat) : Int)) := mapF_some kk (kk m) (frsC K m) 0 i v (by rw [← efn]; exact hi) ((hkki m v).2 hKv.symm) (fun q u hq hu he => by
          rw [← efn] at hu
          have := frs_idx hu hi (((hkki m u).1 he).symm.trans hKv.symm)
          omega)
        have e13 : ((mget (kk m) (mapF kk (frsC K m) 0)).map vvS).getD (.int .i64 0) = .int .i64 (i : Int) := by rw [hmg, Nat.zero_add]; rfl
        refine W.condKF rfl (by rw [hmg]; rfl) ?_
        repeat' (first
          | (show W _ _ _ _ _ _; apply W.skip)
          | fail)
        refine Z.cut ((aG, cG), w4) ⟨hX4, gs, by rw [efn]; exact hS4, by rw [efn]; exact hgs⟩ (by repeat' first | exact trivial | (refine And.intro ?_ ?_) | exact rfl | (rw [efn]; exact rfl) | (rw [e13]; exact rfl)) rfl
    · rintro ⟨⟨aH, cH⟩, w7⟩ ⟨hX7, gs7, hS7, hgs7⟩
      have hgl7 : gs7.length = (frsC K (m + 1)).length := by have := congrArg List.length hgs7; rwa [List.length_map, grp_len] at this
      obtain ⟨g, hg⟩ := getI gs7 (show i < gs7.length by rw [hgl7]; exact lt_of_get hi)
      have hgv : grV g = (clsC K T v m, T v) := by
        have h1 := congrArg (fun l => l[i]?) hgs7
        simp only [List.getElem?_map, hg, Option.map_some, grp_get hi, Option.some.injEq] at h1
        exact h1
      have hg2 : g.2 = T v := congrArg Prod.snd hgv
      have hg1 : g.1.2.2 = clsC K T v m := congrArg Prod.fst hgv
      have hgn : g.1.2.2.length ≤ m := by rw [hg1]; exact cls_len v m
      have hOG : Own 2 encG 87 w.heap.size w7 aH cH gs7 := Sep.row (i := 1) hS7 rfl
      have hin := clP_in hS7 hg
      have hz7 := Below.size hX7
      have hsl9 : sg.length ≤ 1048577 := by omega
      by_cases htt : T m = T v
      · skip
        have e9 : litC T v m = 2 * (m : Int) := by unfold litC; rw [if_pos htt]; omega
        repeat' (first
          | (apply W.condKF; exact rfl; (focus (first | exact dec_false (fun h => h (htt.trans hg2.symm)); done)))
          | (apply WL.indexO tOk; exact rfl; exact rfl; exact rfl; exact rfl; exact rfl; exact rfl; exact rfl; exact rfl; assumption; (exact extA); exact encG_ok; (first | exact rfl | (focus (simp only [List.length_set]; done)) | (focus (simp; done)) | (focus (simp [*]; done)) | omega | (focus (simp only [List.length_set]; omega))); omega; assumption; intro gb ha hc; cases ha; have hcc := hc; first | (obtain ⟨h1, h2, h3, _⟩ := hc) | (obtain ⟨h1, h2, _⟩ := hc) | (obtain ⟨h1, _⟩ := hc))
          | (apply WL.lit tOk; exact rfl; exact rfl; exact rfl; exact rfl; exact rfl; exact rfl; (first | exact rfl | kernel_rfl | (simp [Instr.fill, catCells]; done)); exact rfl; intro gb w' hb hge hc hx; (obtain ⟨wL, rfl⟩ : ∃ x, x = w' := ⟨_, rfl⟩; obtain ⟨hxL, rfl⟩ : ∃ x, x = hx := ⟨_, rfl⟩))
          | ((apply WL.append1 (z := 2 * (m : Int)) tOk encI_ok; exact rfl; exact rfl; exact rfl; exact rfl; exact rfl; exact rfl; exact rfl; exact rfl; exact rfl; exact rfl; exact hin; exact (by (exact extA)); exact rfl; assumption; exact rfl; exact rfl; exact (by (exact extA)); omega; intro a4 cap4 w8 hO8 hX8 hU8 hF8; have hOG8 := (clP_set (w3 := w8) hS7 hg hxL hU8 hO8 hF8 (Nat.le_trans hz7 (Below.size hxL))).1))
          | ((apply WL.storeOF (z := g) (z' := (((a4, cap4, g.1.2.2 ++ [2 * (m : Int)]), g.2) : GrpV)) [] [.bool g.2] tOk; exact rfl; exact rfl; exact rfl; exact rfl; exact hOG8; exact (by (exact extA)); exact rfl; exact rfl; exact rfl; exact rfl; exact rfl; exact encG_ok; exact hg; exact rfl; exact (by (exact extA)); intro w9 hO9 hX9 hU9))
          | (show WL _ _ _ _ _ _ _; first | apply WL.nil | (refine WL.au (k := ?_)))
          | (show Z _ _ _ _ _; first | apply Z.then_normal | apply Z.block_normal)
          | (show W _ _ _ _ _ _; first | apply W.seq | apply W.region | apply W.skip)
          | fail)
        have hS9 := (clP_set (w3 := w9) hS7 hg hxL hU8 hO8 hF8 (Nat.le_trans hz7 (Below.size hxL))).2 _ hU9 hO9
        refine Z.againO _ _ ⟨by omega, hX9, _, hS9, ?_⟩ ⟨rfl, rfl, rfl, rfl, rfl, trivial⟩
        rw [List.map_set, hgs7]
        have e8 : grV ((a4, cap4, g.1.2.2 ++ [2 * (m : Int)]), g.2) = (clsC K T v m ++ [litC T v m], T v) := by rw [e9, ← hg1, ← hg2]
        rw [e8, grp_set hi hKv]
      · skip
        have e9 : litC T v m = 2 * (m : Int) + 1 := by unfold litC; rw [if_neg htt]
        repeat' (first
          | (apply W.condKT; exact rfl; (focus (first | exact dec_true (fun h => htt (h.trans hg2)); done)))
          | (apply WL.indexO tOk; exact rfl; exact rfl; exact rfl; exact rfl; exact rfl; exact rfl; exact rfl; exact rfl; assumption; (exact extA); exact encG_ok; (first | exact rfl | (focus (simp only [List.length_set]; done)) | (focus (simp; done)) | (focus (simp [*]; done)) | omega | (focus (simp only [List.length_set]; omega))); omega; assumption; intro gb ha hc; cases ha; have hcc := hc; first | (obtain ⟨h1, h2, h3, _⟩ := hc) | (obtain ⟨h1, h2, _⟩ := hc) | (obtain ⟨h1, _⟩ := hc))
          | (apply WL.lit tOk; exact rfl; exact rfl; exact rfl; exact rfl; exact rfl; exact rfl; (first | exact rfl | kernel_rfl | (simp [Instr.fill, catCells]; done)); exact rfl; intro gb w' hb hge hc hx; (obtain ⟨wL, rfl⟩ : ∃ x, x = w' := ⟨_, rfl⟩; obtain ⟨hxL, rfl⟩ : ∃ x, x = hx := ⟨_, rfl⟩))
          | ((apply WL.append1 (z := 2 * (m : Int) + 1) tOk encI_ok; exact rfl; exact rfl; exact rfl; exact rfl; exact rfl; exact rfl; exact rfl; exact rfl; exact rfl; exact rfl; exact hin; exact (by (exact extA)); exact rfl; assumption; exact rfl; exact rfl; exact (by (exact extA)); omega; intro a4 cap4 w8 hO8 hX8 hU8 hF8; have hOG8 := (clP_set (w3 := w8) hS7 hg hxL hU8 hO8 hF8 (Nat.le_trans hz7 (Below.size hxL))).1))
          | ((apply WL.storeOF (z := g) (z' := (((a4, cap4, g.1.2.2 ++ [2 * (m : Int) + 1]), g.2) : GrpV)) [] [.bool g.2] tOk; exact rfl; exact rfl; exact rfl; exact rfl; exact hOG8; exact (by (exact extA)); exact rfl; exact rfl; exact rfl; exact rfl; exact rfl; exact encG_ok; exact hg; exact rfl; exact (by (exact extA)); intro w9 hO9 hX9 hU9))
          | (show WL _ _ _ _ _ _ _; first | apply WL.nil | (refine WL.au (k := ?_)))
          | (show Z _ _ _ _ _; first | apply Z.then_normal | apply Z.block_normal)
          | (show W _ _ _ _ _ _; first | apply W.seq | apply W.region)
          | fail)
        have hS9 := (clP_set (w3 := w9) hS7 hg hxL hU8 hO8 hF8 (Nat.le_trans hz7 (Below.size hxL))).2 _ hU9 hO9
        refine Z.againO _ _ ⟨by omega, hX9, _, hS9, ?_⟩ ⟨rfl, rfl, rfl, rfl, rfl, trivial⟩
        rw [List.map_set, hgs7]
        have e8 : grV ((a4, cap4, g.1.2.2 ++ [2 * (m : Int) + 1]), g.2) = (clsC K T v m ++ [litC T v m], T v) := by rw [e9, ← hg1, ← hg2]
        rw [e8, grp_set hi hKv]
  · obtain rfl : m = n.length + 1 := by omega
    repeat' (first
      | (apply W.condKF; exact rfl; (focus (exact dec_false (by omega); done)))
      | (show WL _ _ _ _ _ _ _; first | apply WL.nil | (refine WL.au (k := ?_)))
      | (show Z _ _ _ _ _; first | apply Z.then_normal | apply Z.then_exit | apply Z.block_exit)
      | (show W _ _ _ _ _ _; first | apply W.seq | apply W.region | apply W.block | apply W.exit)
      | fail)
    have RG : Row 2 encG w3 aG gs := (Sep.row (i := 1) hS rfl).row encG_ok
    have hlen9 : ∀ (k : Nat), ((outG (fun g : GrpV => g.1.2.2.length) gs k).map (fun g => g.1)).length = (outG (fun g : GrpV => g.1.2.2.length) gs k).length := fun k => List.length_map _
    refine W.loopO gs.length (fun k a cp w' => k ≤ gs.length ∧ Ext w3 w' ∧ Own 1 encRow 33 w3.heap.size w' a cp ((outG (fun g : GrpV => g.1.2.2.length) gs k).map (fun g => g.1)))
      (fun k a cp => [(16, .slice a ((outG (fun g : GrpV => g.1.2.2.length) gs k).map (fun g => g.1)).length cp), (77, .slice aG gs.length cG), (78, .int .i64 (gs.length : Nat)), (79, .int .i64 k)]) none 0 ⟨Nat.zero_le _, Ext.refl _, Own.nil⟩ (fun k a cp w' h => h.1) (by repeat' first | exact trivial | (refine And.intro ?_ ?_) | exact rfl | (rw [hgl]; exact rfl)) ?_
    rintro k aO cO w5 ⟨hk, hX5, hO5⟩
    have hol := outG_len (fun g : GrpV => g.1.2.2.length) gs k
    have hml := hlen9 k
    by_cases hlk : k < gs.length
    · obtain ⟨g, hg⟩ := getI gs hlk
      have RG5 := RG.ext hX5
      have hgsl : gs.length ≤ 1048577 := by omega
      by_cases hgt : 1 < g.1.2.2.length
      · have e1 : (outG (fun g : GrpV => g.1.2.2.length) gs (k + 1)).map (fun g => g.1) = (outG (fun g : GrpV => g.1.2.2.length) gs k).map (fun g => g.1) ++ [g.1] := by rw [outG_yes hg hgt, List.map_append]; rfl
        repeat' (first
          | (apply W.condKT; exact rfl; (focus (exact dec_true (by omega); done)))
          | (apply WL.alloc tOk; exact rfl; exact rfl; exact rfl; intro gb w' hb hge hx; (obtain ⟨gA, rfl⟩ : ∃ x, x = gb := ⟨_, rfl⟩; obtain ⟨wA, rfl⟩ : ∃ x, x = w' := ⟨_, rfl⟩; obtain ⟨hxA, rfl⟩ : ∃ x, x = hx := ⟨_, rfl⟩; obtain ⟨hgA, rfl⟩ : ∃ x, x = hge := ⟨_, rfl⟩))
          | (apply WL.storeB (w0 := w5) tOk; exact rfl; exact rfl; exact rfl; exact rfl; assumption; (exact extA); exact rfl; exact rfl; exact rfl; (exact extA); (first | assumption | omega | (focus (apply Nat.le_trans; rotate_left; assumption; exact Below.size (by (exact extA)); done))); intro w' hb hc hX' hU; have hcc := hc; obtain ⟨h1, h2, _⟩ := hc; (have hO3 := Upd.own hU (Own.ext hO5 hxA) (Own.blk_ne hO5 hgA)))
          | (apply WL.lit tOk; exact rfl; exact rfl; exact rfl; exact rfl; exact rfl; exact rfl; (first | exact rfl | kernel_rfl | (simp [Instr.fill, catCells]; done)); exact rfl; intro gb w' hb hge hc hx)
          | (apply WL.append1 (z := ((g.1 : RowV Int))) tOk encRow_ok; exact rfl; exact rfl; exact rfl; exact rfl; exact rfl; exact rfl; exact rfl; exact rfl; exact rfl; exact rfl; assumption; (exact extA); (first | exact rfl | (focus (simp only [List.length_set]; done)) | (focus (simp; done)) | (focus (simp [*]; done)) | omega | (focus (simp only [List.length_set]; omega))); (first | assumption | (refine Cells.ext ?_ (by assumption); exact extA)); exact rfl; exact rfl; (exact extA); (first | omega | (simp; omega) | (simp at *; omega)); intro a' cap' w' hO hX' hU hF)
          | (show WL _ _ _ _ _ _ _; first | apply WL.nil | (refine WL.au (k := ?_)) | (apply WL.index tOk; exact rfl; exact rfl; exact rfl; exact rfl; exact rfl; exact rfl; exact rfl; exact rfl; assumption; (exact extA); exact rfl; omega; assumption; intro b off h; have hcc := h; first | (obtain ⟨h1, h2, h3, h4, h5, h6, _⟩ := h) | (obtain ⟨h1, h2, h3, _⟩ := h) | (obtain ⟨h1, h2, _⟩ := h) | (obtain ⟨h1, _⟩ := h)))
          | (show Z _ _ _ _ _; first | apply Z.then_normal | apply Z.block_normal)
          | (show W _ _ _ _ _ _; first | apply W.seq | apply W.region | apply W.block | apply W.skip)
          | fail)
        exact Z.againO a' cap' ⟨by omega, hX', by rw [e1]; exact hO⟩ (by repeat' first | exact trivial | (refine And.intro ?_ ?_) | exact rfl | (rw [e1]; exact rfl))
      · have e1 : outG (fun g : GrpV => g.1.2.2.length) gs (k + 1) = outG (fun g : GrpV => g.1.2.2.length) gs k := outG_no hg hgt
        repeat' (first
          | (apply W.condKT; exact rfl; (focus (first | exact dec_true (by omega) | exact dec_false (by omega); done)))
          | (apply W.condKF; exact rfl; (focus (first | exact dec_true (by omega) | exact dec_false (by omega); done)))
          | (apply WL.alloc tOk; exact rfl; exact rfl; exact rfl; intro gb w' hb hge hx; (obtain ⟨gA, rfl⟩ : ∃ x, x = gb := ⟨_, rfl⟩; obtain ⟨wA, rfl⟩ : ∃ x, x = w' := ⟨_, rfl⟩; obtain ⟨hxA, rfl⟩ : ∃ x, x = hx := ⟨_, rfl⟩; obtain ⟨hgA, rfl⟩ : ∃ x, x = hge := ⟨_, rfl⟩))
          | (apply WL.storeB (w0 := w5) tOk; exact rfl; exact rfl; exact rfl; exact rfl; assumption; (exact extA); exact rfl; exact rfl; exact rfl; (exact extA); (first | assumption | omega | (focus (apply Nat.le_trans; rotate_left; assumption; exact Below.size (by (exact extA)); done))); intro w' hb hc hX' hU; have hcc := hc; obtain ⟨h1, h2, _⟩ := hc; (have hO3 := Upd.own hU (Own.ext hO5 hxA) (Own.blk_ne hO5 hgA)))
          | (show WL _ _ _ _ _ _ _; first | apply WL.nil | (refine WL.au (k := ?_)) | (apply WL.index tOk; exact rfl; exact rfl; exact rfl; exact rfl; exact rfl; exact rfl; exact rfl; exact rfl; assumption; (exact extA); exact rfl; omega; assumption; intro b off h; have hcc := h; first | (obtain ⟨h1, h2, h3, h4, h5, h6, _⟩ := h) | (obtain ⟨h1, h2, h3, _⟩ := h) | (obtain ⟨h1, h2, _⟩ := h) | (obtain ⟨h1, _⟩ := h)))
          | (show Z _ _ _ _ _; first | apply Z.then_normal | apply Z.block_normal)
          | (show W _ _ _ _ _ _; first | apply W.seq | apply W.region | apply W.block | apply W.skip)
          | fail)
        exact Z.againO aO cO ⟨by omega, hX5.trans (by (exact extA)), by rw [e1]; exact hO3⟩ (by repeat' first | exact trivial | (refine And.intro ?_ ?_) | exact rfl | (rw [e1]; exact rfl))
    · obtain rfl : k = gs.length := by omega
      repeat' (first
        | (apply W.condKF; exact rfl; (focus (exact dec_false (by omega); done)))
        | (show WL _ _ _ _ _ _ _; first | apply WL.nil | (refine WL.au (k := ?_)))
        | (show Z _ _ _ _ _; first | apply Z.then_normal | apply Z.then_exit | apply Z.block_exit)
        | (show W _ _ _ _ _ _; first | apply W.seq | apply W.region | apply W.ret | apply W.exit)
        | fail)
      refine Z.body1 Try.results11 rfl fun m => ⟨Ext.at (hX3.trans hX5) m, aO, cO, _, rfl, (hO5.row encRow_ok).ext ((Ext.refl _).at m), fun r hr => ?_, ?_⟩
      · obtain ⟨g, hg, rfl⟩ := List.mem_map.1 hr
        unfold outG at hg
        have hg2 := List.mem_of_mem_take (List.mem_filter.1 hg).1
        obtain ⟨i, hi⟩ := List.mem_iff_getElem?.1 hg2
        exact ((clP_in hS hi).row encI_ok).ext (hX5.at m)
      · rw [outG_all, List.map_map]
        have := outG_map (K := K) (T := T) (f := frsC K (n.length + 1)) (m := n.length + 1) (l := gs) (val := grV) (len := fun g : GrpV => g.1.2.2.length) hgs (fun g => rfl)
        rw [hK, hT] at this
        exact this
end Go.Proofs.Ytlcenenkloicjaa
namespace Go.Proofs.Ytlcenenkloicjaa
open Go Go.Lt Go.RowKit
set_option linter.unusedVariables false
set_option linter.unusedSimpArgs false
set_option maxRecDepth 20000

abbrev encRI : RowV Int → List Value := encRow
abbrev roP (B : Nat) : RowV Int → Piece := fun g => prow 1 encI 3 B g.1 g.2.1 g.2.2
def rcP (B : Nat) (a : Option Addr) (cap : Nat) (os : List (RowV Int)) (gI : Nat) (N : Nat) (I : List Bool) (rest : List Piece) : List Piece :=
  (prow 1 encRow 33 B a cap os :: prow 1 encB 4 B (some ⟨gI, 0, none⟩) N I :: os.map (roP B)) ++ rest
theorem rc_push {B gI N : Nat} {w w' w1 : World} {a a' c : Option Addr} {cap cap' cc : Nat} {os : List (RowV Int)} {I : List Bool} {cl : List Int} {rest : List Piece}
    (hS : Lt.Sep B w (prow 1 encI 3 B c cc cl :: rcP B a cap os gI N I rest)) (hx : Ext w w1) (hU : Upd B a w1 w') (hO : Own 1 encRow 33 B w' a' cap' (os ++ [((c, cc, cl) : RowV Int)])) (hF : blk a' = blk a ∨ ∃ k, blk a' = some k ∧ w1.heap.size ≤ k) (hB : B ≤ w1.heap.size) :
    Lt.Sep B w' (rcP B a' cap' (os ++ [((c, cc, cl) : RowV Int)]) gI N I rest) := by
  have h1 := Sep.updRow (i := 1) rfl hU hO hF hS hx hB
  refine Sep.ofPerm ?_ h1
  show (prow 1 encI 3 B c cc cl :: ((prow 1 encRow 33 B a' cap' (os ++ [((c, cc, cl) : RowV Int)]) :: prow 1 encB 4 B (some ⟨gI, 0, none⟩) N I :: os.map (roP B)) ++ rest)).Perm _
  unfold rcP
  rw [List.map_append]
  rw [show (prow 1 encRow 33 B a' cap' (os ++ [((c, cc, cl) : RowV Int)]) :: prow 1 encB 4 B (some ⟨gI, 0, none⟩) N I :: (os.map (roP B) ++ [((c, cc, cl) : RowV Int)].map (roP B))) ++ rest = (prow 1 encRow 33 B a' cap' (os ++ [((c, cc, cl) : RowV Int)]) :: prow 1 encB 4 B (some ⟨gI, 0, none⟩) N I :: os.map (roP B)) ++ (prow 1 encI 3 B c cc cl :: rest) by simp]
  exact List.perm_middle.symm
theorem rc_in {B gI N : Nat} {w : World} {a : Option Addr} {cap : Nat} {os : List (RowV Int)} {I : List Bool} {rest : List Piece} (hS : Lt.Sep B w (rcP B a cap os gI N I rest)) {i : Nat} {g : RowV Int} (hg : os[i]? = some g) : Own 1 encI 3 B w g.1 g.2.1 g.2.2 :=
  hS.row (i := i + 2) (by
    show ((os.map (roP B)) ++ rest)[i]? = _
    rw [List.getElem?_append_left (by rw [List.length_map]; exact lt_of_get hg), List.getElem?_map, hg]; rfl)
theorem rows_eq {n : List (Int × Int)} {s : BitVec 64} {wc u v : Nat} (hu : u < n.length + 1) (hv : v < n.length + 1) : (rowS n s wc u).length = (rowS n s wc v).length := by
  have h : ∀ x, x < n.length + 1 → (rowS n s wc x).length = wc := fun x hx => by
    unfold rowS sigsV; rw [tab_getD _ _ hx, colV_len]
  rw [h u hu, h v hv]
set_option maxHeartbeats 8000000 in
theorem ref30_Classes (ra : Option Addr) (cap : Nat) (n : List (Int × Int)) (s : BitVec 64) (words : Int) (w : World) (R : Row 2 encN w ra n) (hg : GoodNet n) (hn : n.length ≤ 1048576) (hwd : inI64 words) (wc : Nat) (hW : min (max words 0) 64 = (wc : Int)) :
    Lt.Spec Try.prog 12 [.slice ra n.length cap, u64 s, .int .i64 words] w (IsLists w (clsV n s wc)) := by
  refine Spec.of _ Try.func12 rfl Try.ntmps12 (by kernel_rfl) rfl ?_
  repeat' (first
    | (apply WL.lit (len := 0) tOk; exact rfl; exact rfl; exact rfl; exact rfl; exact rfl; exact rfl; (first | exact rfl | kernel_rfl | (simp [Instr.fill, catCells]; done)); exact rfl; intro gb w' hb hge hc hx; have hO0 := Own.of_block0 (enc := encRI) (s := 1) hb hge; (obtain ⟨g7, rfl⟩ : ∃ x, x = gb := ⟨_, rfl⟩; obtain ⟨w1, rfl⟩ : ∃ x, x = w' := ⟨_, rfl⟩; obtain ⟨hx1, rfl⟩ : ∃ x, x = hx := ⟨_, rfl⟩; obtain ⟨hge7, rfl⟩ : ∃ x, x = hge := ⟨_, rfl⟩; obtain ⟨hO7, rfl⟩ : ∃ x, x = hO0 := ⟨_, rfl⟩))
    | (((show WL _ _ _ (⟨_, .call ⟨.value (.func 10), _, _⟩, _, _, _, _⟩ :: _) _ _ _); apply WL.call; exact rfl; exact rfl; exact rfl; exact rfl; exact ref30_Sigs ra cap n s words _ (R.ext (by (exact extA))) hg hn hwd wc hW; rintro v' w2 ⟨hx2, aS, cS, sg, rfl, hRR, hsg⟩; have hsl0 : sg.length = n.length + 1 := (by have := congrArg List.length hsg; rw [List.length_map] at this; rw [this]; exact tab_len _ _)))
    | (apply WL.make (w0 := w2) tOk; exact rfl; exact rfl; exact rfl; exact rfl; exact rfl; exact rfl; exact rfl; exact rfl; exact rfl; exact encB_ok; exact rfl; exact rfl; (exact extA); (first | omega | (simp; omega) | (simp at *; omega)); intro gb w' hO hge hx; (obtain ⟨gI, rfl⟩ : ∃ x, x = gb := ⟨_, rfl⟩; obtain ⟨w3, rfl⟩ : ∃ x, x = w' := ⟨_, rfl⟩; obtain ⟨hx3, rfl⟩ : ∃ x, x = hx := ⟨_, rfl⟩; obtain ⟨hgeI, rfl⟩ : ∃ x, x = hge := ⟨_, rfl⟩; obtain ⟨hOI, rfl⟩ : ∃ x, x = hO := ⟨_, rfl⟩))
    | (show WL _ _ _ _ _ _ _; first | apply WL.nil | (refine WL.au (k := ?_)))
    | (show Z _ _ _ _ _; apply Z.then_normal)
    | (show W _ _ _ _ _ _; first | apply W.seq | apply W.region | apply W.block)
    | fail)
  obtain ⟨K, hK⟩ : ∃ K, K = keyK n s wc := ⟨_, rfl⟩
  obtain ⟨T, hT⟩ : ∃ T, T = trnT n s wc := ⟨_, rfl⟩
  obtain ⟨nn, hnn⟩ : ∃ nn, nn = n.length + 1 := ⟨_, rfl⟩
  have hsl : sg.length = nn := by rw [hsl0, hnn]
  have hrow : ∀ (v : Nat) (q : RowV (BitVec 64)), sg[v]? = some q → q.2.2 = rowS n s wc v := fun v q hq => by
    have e1 : (sg.map fun r => r.2.2)[v]? = some q.2.2 := by rw [List.getElem?_map, hq]; rfl
    rw [hsg] at e1
    exact (getD_of (d := []) e1).symm
  have hX2 : Ext w w2 := hx1.trans hx2
  have et : ((nn : Nat) : Int).toNat = nn := Int.toNat_natCast _
  rw [hsl, et] at hOI
  rw [hsl, et]
  rw [inT_start (K := K)] at hOI
  have hS0 : Lt.Sep w.heap.size w3 (rcP w.heap.size (some ⟨g7, 0, none⟩) 0 [] gI nn (inT K nn 0) (frz w1.heap.size w2)) := by
    have h1 : Lt.Sep w.heap.size w1 [prow 1 encRow 33 w.heap.size (some ⟨g7, 0, none⟩) 0 []] := Sep.newRow' Sep.none' hx1 hO7 (Nat.le_refl _)
    have h2 := h1.freeze hx2 (Below.size hx1)
    have h3 := Sep.newRow' h2 hx3 hOI (Below.size hX2)
    exact Sep.ofPerm (List.Perm.swap ..) h3
  clear hO7 hOI
  have ef0 : (outF K T (frsC K 0) nn).length = 0 := rfl
  have erl : (List.replicate nn false).length = nn := List.length_replicate
  refine W.loopO nn (fun v a cp w' => v ≤ nn ∧ Ext w w' ∧ ∃ os : List (RowV Int), Lt.Sep w.heap.size w' (rcP w.heap.size a cp os gI nn (inT K nn v) (frz w1.heap.size w2)) ∧ os.map (fun r => r.2.2) = outF K T (frsC K v) nn)
    (fun v a cp => [(7, .slice a (outF K T (frsC K v) nn).length cp), (8, .slice aS sg.length cS), (9, .slice (some ⟨gI, 0, none⟩) nn nn), (10, .int .i64 v)]) (some ⟨g7, 0, none⟩) 0 ⟨Nat.zero_le _, hX2.trans hx3, [], hS0, rfl⟩ (fun k a cp w' h => h.1) (by repeat' first | exact trivial | (refine And.intro ?_ ?_) | exact rfl | (rw [ef0]; exact rfl) | (rw [hsl]; exact rfl) | (rw [erl]; exact rfl)) ?_
  clear hS0
  rintro v aO cO w4 ⟨hv, hX4, os, hS, hos⟩
  have hol : os.length = (outF K T (frsC K v) nn).length := by have := congrArg List.length hos; rwa [List.length_map] at this
  have hofl := outF_len (K := K) (T := T) (frsC K v) nn
  have hfl := frs_len (K := K) v
  have hz4 := Below.size hX4
  by_cases hlt : v < nn
  · obtain ⟨q, hq⟩ := getI sg (show v < sg.length by omega)
    have hqv := hrow v q hq
    have hOIv : Own 1 encB 4 w.heap.size w4 (some ⟨gI, 0, none⟩) nn (inT K nn v) := Sep.row (i := 1) hS rfl
    have hIl := inT_len (K := K) nn v
    have hIg := inT_get (K := K) hlt
    by_cases hfst : ∀ u, u < v → K u ≠ K v
    rotate_left
    · rw [dec_true hfst] at hIg
      repeat' (first
        | (apply W.condKT; exact rfl; (focus (exact dec_true (by omega); done)))
        | (apply WL.indexO tOk; exact rfl; exact rfl; exact rfl; exact rfl; exact rfl; exact rfl; exact rfl; exact rfl; assumption; (exact extA); exact encB_ok; (first | exact rfl | (focus (simp only [List.length_set]; done)) | (focus (simp; done)) | (focus (simp [*]; done)) | omega | (focus (simp only [List.length_set]; omega))); omega; assumption; intro gb ha hc; cases ha; have hcc := hc; first | (obtain ⟨h1, h2, h3, _⟩ := hc) | (obtain ⟨h1, h2, _⟩ := hc) | (obtain ⟨h1, _⟩ := hc))
        | (show WL _ _ _ _ _ _ _; first | apply WL.nil | (refine WL.au (k := ?_)))
        | (show Z _ _ _ _ _; first | apply Z.then_normal | apply Z.then_exit | apply Z.block_exit)
        | (show W _ _ _ _ _ _; first | apply W.seq | apply W.region | apply W.block | apply W.skip | apply W.exit | (apply W.condT; exact rfl))
        | fail)
      exact Z.againO aO cO ⟨by omega, hX4, os, by rw [← inT_skip hfst]; exact hS, by rw [frs_old hfst]; exact hos⟩ (by rw [frs_old hfst]; exact (by repeat' first | exact trivial | (refine And.intro ?_ ?_) | exact rfl))
    rw [dec_false (fun h => h hfst)] at hIg
    have efn := frs_new (K := K) hfst
    repeat' (first
      | (apply W.condKT; exact rfl; (focus (exact dec_true (by omega); done)))
      | (apply WL.indexO tOk; exact rfl; exact rfl; exact rfl; exact rfl; exact rfl; exact rfl; exact rfl; exact rfl; assumption; (exact extA); exact encB_ok; (first | exact rfl | (focus (simp only [List.length_set]; done)) | (focus (simp; done)) | (focus (simp [*]; done)) | omega | (focus (simp only [List.length_set]; omega))); omega; assumption; intro gb ha hc; cases ha; have hcc := hc; first | (obtain ⟨h1, h2, h3, _⟩ := hc) | (obtain ⟨h1, h2, _⟩ := hc) | (obtain ⟨h1, _⟩ := hc))
      | (apply WL.lit tOk; exact rfl; exact rfl; exact rfl; exact rfl; exact rfl; exact rfl; (first | exact rfl | kernel_rfl | (simp [Instr.fill, catCells]; done)); exact rfl; intro gb w' hb hge hc hx; have hO := Own.of_block ([2 * (v : Int)]) encI_ok hb hge rfl; (obtain ⟨gC, rfl⟩ : ∃ x, x = gb := ⟨_, rfl⟩; obtain ⟨w5, rfl⟩ : ∃ x, x = w' := ⟨_, rfl⟩; obtain ⟨hx5, rfl⟩ : ∃ x, x = hx := ⟨_, rfl⟩; obtain ⟨hgeC, rfl⟩ : ∃ x, x = hge := ⟨_, rfl⟩))
      | (show WL _ _ _ _ _ _ _; first | apply WL.nil | (refine WL.au (k := ?_)))
      | (show Z _ _ _ _ _; apply Z.then_normal)
      | (show W _ _ _ _ _ _; first | apply W.seq | apply W.region | apply W.block | apply W.skip | (apply W.condF; exact rfl))
      | fail)
    have hX5 : Ext w w5 := hX4.trans hx5
    have hS5 : Lt.Sep w.heap.size w5 (prow 1 encI 3 w.heap.size (some ⟨gC, 0, none⟩) 1 (clsC K T v (v + 1)) :: rcP w.heap.size aO cO os gI nn (inU K nn v (v + 1)) (frz w1.heap.size w2)) := by
      rw [← inU_start, cls_first]
      exact Sep.newRow' hS hx5 hO hz4
    have ec1 : (clsC K T v (v + 1 + 0)).length = 1 := by rw [Nat.add_zero, cls_first]; rfl
    have evv : (v : Int) + 1 = ((v + 1 + 0 : Nat) : Int) := by omega
    clear hO hOIv hIl hIg
    refine W.loopO nn (fun j c cc w' => v + 1 + j ≤ nn ∧ Ext w w' ∧ Lt.Sep w.heap.size w' (prow 1 encI 3 w.heap.size c cc (clsC K T v (v + 1 + j)) :: rcP w.heap.size aO cO os gI nn (inU K nn v (v + 1 + j)) (frz w1.heap.size w2)))
      (fun j c cc => [(7, .slice aO (outF K T (frsC K v) nn).length cO), (8, .slice aS sg.length cS), (9, .slice (some ⟨gI, 0, none⟩) nn nn), (10, .int .i64 v), (11, .slice c (clsC K T v (v + 1 + j)).length cc), (12, .int .i64 ((v + 1 + j : Nat) : Int))]) (some ⟨gC, 0, none⟩) 1 ⟨by omega, hX5, hS5⟩ (fun k a cp w' h => by omega) (by repeat' first | exact trivial | (refine And.intro ?_ ?_) | exact rfl | (rw [ec1]; exact rfl) | (rw [evv]; exact rfl)) ?_
    clear hS5
    rintro j c cc w6 ⟨hj, hX6, hS6⟩
    obtain ⟨u, hu⟩ : ∃ u, u = v + 1 + j := ⟨_, rfl⟩
    have hu1 : v + 1 + (j + 1) = u + 1 := by omega
    rw [← hu] at hj hS6 ⊢
    have hIl := inU_len (K := K) nn v u
    have hcl := cls_len (K := K) (T := T) v u
    have hOI6 : Own 1 encB 4 w.heap.size w6 (some ⟨gI, 0, none⟩) nn (inU K nn v u) := Sep.row (i := 2) hS6 rfl
    have hOC6 : Own 1 encI 3 w.heap.size w6 c cc (clsC K T v u) := Sep.row (i := 0) hS6 rfl
    have hz6 := Below.size hX6
    have hfr : OwnRR 1 encV 23 31 w1.heap.size w6 aS cS sg := hRR.keep (fun k h1 h2 => Sep.frozen (ps := prow 1 encI 3 w.heap.size c cc (clsC K T v u) :: prow 1 encRow 33 w.heap.size aO cO os :: prow 1 encB 4 w.heap.size (some ⟨gI, 0, none⟩) nn (inU K nn v u) :: os.map (roP w.heap.size)) hS6 h1 h2)
    have RS6 := hfr.outer.row encRow_ok
    by_cases hlu : u < nn
    · obtain ⟨p, hp⟩ := getI sg (show u < sg.length by omega)
      have hpv := hrow u p hp
      have hIg := inU_get (K := K) (v := v) hlu
      have hll : q.2.2.length = p.2.2.length := by rw [hqv, hpv]; exact rows_eq (by omega) (by omega)
      have hsm := sameP_eq hll
      have hno := notP_eq hll
      have hKu : K v = K u ↔ q.2.2 = p.2.2 ∨ q.2.2 = p.2.2.map (~~~ ·) := by rw [hK, hqv, hpv]; exact norm_iff
      have hTu : K v = K u → (T v = T u ↔ q.2.2 = p.2.2) := fun h => by rw [hK] at h; rw [hT, hqv, hpv]; exact turned_iff h
      have hcall : Still Try.prog 16 [.slice q.1 q.2.2.length q.2.1, .slice p.1 p.2.2.length p.2.1] w6 (.tuple #[.bool (dec (sameP q.2.2 p.2.2)), .bool (dec (notP q.2.2 p.2.2))]) := ref30_Same _ _ _ _ _ _ w6 ((hfr.inner v q hq).row encV_ok) ((hfr.inner u p hp).row encV_ok)
      by_cases hin : ∃ x, x < v ∧ x < u ∧ K x = K u
      · rw [dec_true hin] at hIg
        have e1 : clsC K T v (u + 1) = clsC K T v u := cls_other (in_other hfst hin)
        have e2 : inU K nn v u = inU K nn v (u + 1) := inU_no (.inl hin)
        repeat' (first
          | (apply W.condKT; exact rfl; (focus (exact dec_true (by omega); done)))
          | (apply QL.callS; exact rfl; exact rfl; exact rfl; exact rfl; exact hcall)
          | (apply WL.indexO tOk; exact rfl; exact rfl; exact rfl; exact rfl; exact rfl; exact rfl; exact rfl; exact rfl; assumption; (exact extA); exact encB_ok; (first | exact rfl | (focus (simp only [List.length_set]; done)) | (focus (simp; done)) | (focus (simp [*]; done)) | omega | (focus (simp only [List.length_set]; omega))); omega; assumption; intro gb ha hc; cases ha; have hcc := hc; first | (obtain ⟨h1, h2, h3, _⟩ := hc) | (obtain ⟨h1, h2, _⟩ := hc) | (obtain ⟨h1, _⟩ := hc))
          | (show WL _ _ _ _ _ _ _; first | apply WL.nil | (refine WL.au (k := ?_)) | (apply WL.guardF; exact rfl; exact rfl))
          | (show QL _ _ _ _ _ _ _; first | apply QL.nil | (refine QL.au (k := ?_)) | (apply QL.index tOk; exact rfl; exact rfl; exact rfl; exact rfl; exact rfl; exact rfl; exact rfl; exact rfl; assumption; (exact extA); exact rfl; omega; assumption; intro b off h; have hcc := h; first | (obtain ⟨h1, h2, h3, h4, h5, h6, _⟩ := h) | (obtain ⟨h1, h2, h3, _⟩ := h) | (obtain ⟨h1, h2, _⟩ := h) | (obtain ⟨h1, _⟩ := h)))
          | (show Z _ _ _ _ _; first | apply Z.then_normal | apply Z.then_exit | apply Z.block_exit)
          | (show W _ _ _ _ _ _; first | apply W.seq | apply W.region | apply W.block | apply W.skip | apply W.exit | (apply W.condT; exact rfl) | (apply W.regionD tMix; kernel_rfl))
          | fail)
        exact Z.againO c cc ⟨by omega, hX6, by rw [hu1, e1, ← e2]; exact hS6⟩ (by rw [hu1, e1]; exact (by repeat' first | exact trivial | (refine And.intro ?_ ?_) | exact rfl))
      rw [dec_false hin] at hIg
      by_cases hKK : K v = K u
      rotate_left
      · have q1 : ¬ sameP q.2.2 p.2.2 := fun h => hKK (hKu.2 (.inl (hsm.1 h)))
        have q2 : ¬ notP q.2.2 p.2.2 := fun h => hKK (hKu.2 (.inr (hno.1 h)))
        have e1 : clsC K T v (u + 1) = clsC K T v u := cls_other (fun h => hKK h.symm)
        have e2 : inU K nn v u = inU K nn v (u + 1) := inU_no (.inr hKK)
        repeat' (first
          | (apply WL.gT; exact rfl; exact rfl; (focus (first | exact dec_true (by omega) | (rw [dec_false q1]; rfl) | (rw [dec_false q2]; rfl); done)))
          | (apply W.condKT; exact rfl; (focus (first | exact dec_true (by omega) | (rw [dec_false q1]; rfl) | (rw [dec_false q2]; rfl); done)))
          | (apply QL.callS; exact rfl; exact rfl; exact rfl; exact rfl; exact hcall)
          | (apply WL.indexO tOk; exact rfl; exact rfl; exact rfl; exact rfl; exact rfl; exact rfl; exact rfl; exact rfl; assumption; (exact extA); exact encB_ok; (first | exact rfl | (focus (simp only [List.length_set]; done)) | (focus (simp; done)) | (focus (simp [*]; done)) | omega | (focus (simp only [List.length_set]; omega))); omega; assumption; intro gb ha hc; cases ha; have hcc := hc; first | (obtain ⟨h1, h2, h3, _⟩ := hc) | (obtain ⟨h1, h2, _⟩ := hc) | (obtain ⟨h1, _⟩ := hc))
          | (show WL _ _ _ _ _ _ _; first | apply WL.nil | (refine WL.au (k := ?_)))
          | (show QL _ _ _ _ _ _ _; first | apply QL.nil | (refine QL.au (k := ?_)) | (apply QL.index tOk; exact rfl; exact rfl; exact rfl; exact rfl; exact rfl; exact rfl; exact rfl; exact rfl; assumption; (exact extA); exact rfl; omega; assumption; intro b off h; have hcc := h; first | (obtain ⟨h1, h2, h3, h4, h5, h6, _⟩ := h) | (obtain ⟨h1, h2, h3, _⟩ := h) | (obtain ⟨h1, h2, _⟩ := h) | (obtain ⟨h1, _⟩ := h)))
          | (show Z _ _ _ _ _; first | apply Z.then_normal | apply Z.then_exit | apply Z.block_exit)
          | (show W _ _ _ _ _ _; first | apply W.seq | apply W.region | apply W.block | apply W.skip | apply W.exit | (apply W.regionD tMix; kernel_rfl))
          | fail)
        exact Z.againO c cc ⟨by omega, hX6, by rw [hu1, e1, ← e2]; exact hS6⟩ (by rw [hu1, e1]; exact (by repeat' first | exact trivial | (refine And.intro ?_ ?_) | exact rfl))
      have e2 : (inU K nn v u).set u true = inU K nn v (u + 1) := inU_yes (by omega) hKK
      have e1 : clsC K T v (u + 1) = clsC K T v u ++ [litC T v u] := cls_same (by omega) hKK.symm
      by_cases hsam : q.2.2 = p.2.2
      · have q1 := hsm.2 hsam
        have e3 : litC T v u = 2 * (u : Int) := by unfold litC; rw [if_pos ((hTu hKK).2 hsam).symm]; omega
        rw [e3] at e1
        repeat' (first
          | (apply WL.gF; exact rfl; exact rfl; (focus (first | exact dec_true (by omega) | exact dec_true q1 | (rw [dec_true q1]; rfl); done)))
          | (apply W.condKT; exact rfl; (focus (first | exact dec_true (by omega) | exact dec_true q1 | (rw [dec_true q1]; rfl); done)))
          | (apply QL.callS; exact rfl; exact rfl; exact rfl; exact rfl; exact hcall)
          | (apply WL.indexO tOk; exact rfl; exact rfl; exact rfl; exact rfl; exact rfl; exact rfl; exact rfl; exact rfl; assumption; (exact extA); exact encB_ok; (first | exact rfl | (focus (simp only [List.length_set]; done)) | (focus (simp; done)) | (focus (simp [*]; done)) | omega | (focus (simp only [List.length_set]; omega))); omega; assumption; intro gb ha hc; cases ha; have hcc := hc; first | (obtain ⟨h1, h2, h3, _⟩ := hc) | (obtain ⟨h1, h2, _⟩ := hc) | (obtain ⟨h1, _⟩ := hc))
          | (apply WL.storeO tOk; exact rfl; exact rfl; exact rfl; exact rfl; assumption; (exact extA); exact rfl; exact rfl; exact rfl; exact encB_ok; assumption; exact rfl; (exact extA); intro w' hO hX' hU; (rw [Int.toNat_natCast, e2] at hO; have hS7 : Lt.Sep w.heap.size w' (prow 1 encI 3 w.heap.size c cc (clsC K T v u) :: rcP w.heap.size aO cO os gI nn (inU K nn v (u + 1)) (frz w1.heap.size w2)) := Sep.updRow (i := 2) rfl hU hO (.inl rfl) hS6 (Ext.refl _) hz6; have hOC7 := Sep.row (i := 0) hS7 rfl; obtain ⟨w7, rfl⟩ : ∃ x, x = w' := ⟨_, rfl⟩; obtain ⟨hX7, rfl⟩ : ∃ x, x = hX' := ⟨_, rfl⟩; have hz7 := Below.size hX7))
          | (apply WL.lit tOk; exact rfl; exact rfl; exact rfl; exact rfl; exact rfl; exact rfl; (first | exact rfl | kernel_rfl | (simp [Instr.fill, catCells]; done)); exact rfl; intro gb w' hb hge hc hx; (obtain ⟨wL, rfl⟩ : ∃ x, x = w' := ⟨_, rfl⟩; obtain ⟨hxL, rfl⟩ : ∃ x, x = hx := ⟨_, rfl⟩))
          | ((apply WL.append1 (z := 2 * (u : Int)) tOk encI_ok; exact rfl; exact rfl; exact rfl; exact rfl; exact rfl; exact rfl; exact rfl; exact rfl; exact rfl; exact rfl; exact hOC7; exact (by (exact extA)); exact rfl; assumption; exact rfl; exact rfl; exact (by (exact extA)); omega; intro a4 cap4 w8 hO8 hX8 hU8 hF8))
          | (show WL _ _ _ _ _ _ _; first | apply WL.nil | (refine WL.au (k := ?_)) | (apply WL.guardF; exact rfl; exact rfl))
          | (show QL _ _ _ _ _ _ _; first | apply QL.nil | (refine QL.au (k := ?_)) | (apply QL.index tOk; exact rfl; exact rfl; exact rfl; exact rfl; exact rfl; exact rfl; exact rfl; exact rfl; assumption; (exact extA); exact rfl; omega; assumption; intro b off h; have hcc := h; first | (obtain ⟨h1, h2, h3, h4, h5, h6, _⟩ := h) | (obtain ⟨h1, h2, h3, _⟩ := h) | (obtain ⟨h1, h2, _⟩ := h) | (obtain ⟨h1, _⟩ := h)))
          | (show Z _ _ _ _ _; first | apply Z.then_normal | apply Z.block_normal)
          | (show W _ _ _ _ _ _; first | apply W.seq | apply W.region | apply W.block | apply W.skip | (apply W.condF; exact rfl) | (apply W.regionD tMix; kernel_rfl))
          | fail)
        have hS8 : Lt.Sep w.heap.size w8 (prow 1 encI 3 w.heap.size a4 cap4 (clsC K T v u ++ [2 * (u : Int)]) :: rcP w.heap.size aO cO os gI nn (inU K nn v (u + 1)) (frz w1.heap.size w2)) := Sep.updRow (i := 0) rfl hU8 hO8 hF8 hS7 hxL (Nat.le_trans hz7 (Below.size hxL))
        exact Z.againO a4 cap4 ⟨by omega, hX8, by rw [hu1, e1]; exact hS8⟩ (by rw [hu1, e1]; exact (by repeat' first | exact trivial | (refine And.intro ?_ ?_) | exact rfl))
      · have q1 : ¬ sameP q.2.2 p.2.2 := fun h => hsam (hsm.1 h)
        have q2 : notP q.2.2 p.2.2 := hno.2 ((hKu.1 hKK).resolve_left hsam)
        have e3 : litC T v u = 2 * (u : Int) + 1 := by unfold litC; rw [if_neg (fun h => hsam ((hTu hKK).1 h.symm))]
        rw [e3] at e1
        repeat' (first
          | (apply WL.gT; exact rfl; exact rfl; (focus (first | exact dec_true (by omega) | exact dec_false q1 | (rw [dec_false q1]; rfl) | (rw [dec_true q2]; rfl); done)))
          | (apply W.condKT; exact rfl; (focus (first | exact dec_true (by omega) | exact dec_false q1 | (rw [dec_false q1]; rfl) | (rw [dec_true q2]; rfl); done)))
          | (apply W.condKF; exact rfl; (focus (first | exact dec_true (by omega) | exact dec_false q1 | (rw [dec_false q1]; rfl) | (rw [dec_true q2]; rfl); done)))
          | (apply QL.callS; exact rfl; exact rfl; exact rfl; exact rfl; exact hcall)
          | (apply WL.indexO tOk; exact rfl; exact rfl; exact rfl; exact rfl; exact rfl; exact rfl; exact rfl; exact rfl; assumption; (exact extA); exact encB_ok; (first | exact rfl | (focus (simp only [List.length_set]; done)) | (focus (simp; done)) | (focus (simp [*]; done)) | omega | (focus (simp only [List.length_set]; omega))); omega; assumption; intro gb ha hc; cases ha; have hcc := hc; first | (obtain ⟨h1, h2, h3, _⟩ := hc) | (obtain ⟨h1, h2, _⟩ := hc) | (obtain ⟨h1, _⟩ := hc))
          | (apply WL.storeO tOk; exact rfl; exact rfl; exact rfl; exact rfl; assumption; (exact extA); exact rfl; exact rfl; exact rfl; exact encB_ok; assumption; exact rfl; (exact extA); intro w' hO hX' hU; (rw [Int.toNat_natCast, e2] at hO; have hS7 : Lt.Sep w.heap.size w' (prow 1 encI 3 w.heap.size c cc (clsC K T v u) :: rcP w.heap.size aO cO os gI nn (inU K nn v (u + 1)) (frz w1.heap.size w2)) := Sep.updRow (i := 2) rfl hU hO (.inl rfl) hS6 (Ext.refl _) hz6; have hOC7 := Sep.row (i := 0) hS7 rfl; obtain ⟨w7, rfl⟩ : ∃ x, x = w' := ⟨_, rfl⟩; obtain ⟨hX7, rfl⟩ : ∃ x, x = hX' := ⟨_, rfl⟩; have hz7 := Below.size hX7))
          | (apply WL.lit tOk; exact rfl; exact rfl; exact rfl; exact rfl; exact rfl; exact rfl; (first | exact rfl | kernel_rfl | (simp [Instr.fill, catCells]; done)); exact rfl; intro gb w' hb hge hc hx; (obtain ⟨wL, rfl⟩ : ∃ x, x = w' := ⟨_, rfl⟩; obtain ⟨hxL, rfl⟩ : ∃ x, x = hx := ⟨_, rfl⟩))
          | ((apply WL.append1 (z := 2 * (u : Int) + 1) tOk encI_ok; exact rfl; exact rfl; exact rfl; exact rfl; exact rfl; exact rfl; exact rfl; exact rfl; exact rfl; exact rfl; exact hOC7; exact (by (exact extA)); exact rfl; assumption; exact rfl; exact rfl; exact (by (exact extA)); omega; intro a4 cap4 w8 hO8 hX8 hU8 hF8))
          | (show WL _ _ _ _ _ _ _; first | apply WL.nil | (refine WL.au (k := ?_)))
          | (show QL _ _ _ _ _ _ _; first | apply QL.nil | (refine QL.au (k := ?_)) | (apply QL.index tOk; exact rfl; exact rfl; exact rfl; exact rfl; exact rfl; exact rfl; exact rfl; exact rfl; assumption; (exact extA); exact rfl; omega; assumption; intro b off h; have hcc := h; first | (obtain ⟨h1, h2, h3, h4, h5, h6, _⟩ := h) | (obtain ⟨h1, h2, h3, _⟩ := h) | (obtain ⟨h1, h2, _⟩ := h) | (obtain ⟨h1, _⟩ := h)))
          | (show Z _ _ _ _ _; first | apply Z.then_normal | apply Z.block_normal)
          | (show W _ _ _ _ _ _; first | apply W.seq | apply W.region | apply W.block | apply W.skip | (apply W.regionD tMix; kernel_rfl))
          | fail)
        have hS8 : Lt.Sep w.heap.size w8 (prow 1 encI 3 w.heap.size a4 cap4 (clsC K T v u ++ [2 * (u : Int) + 1]) :: rcP w.heap.size aO cO os gI nn (inU K nn v (u + 1)) (frz w1.heap.size w2)) := Sep.updRow (i := 0) rfl hU8 hO8 hF8 hS7 hxL (Nat.le_trans hz7 (Below.size hxL))
        exact Z.againO a4 cap4 ⟨by omega, hX8, by rw [hu1, e1]; exact hS8⟩ (by rw [hu1, e1]; exact (by repeat' first | exact trivial | (refine And.intro ?_ ?_) | exact rfl))
    · obtain rfl : u = nn := by omega
      rw [inU_end] at hS6
      have hOo : Own 1 encRow 33 w.heap.size w6 aO cO os := Sep.row (i := 1) hS6 rfl
      have hap := outF_app (K := K) (T := T) (frsC K v) v u
      by_cases hgt : 1 < (clsC K T v u).length
      · rw [if_pos hgt] at hap
        repeat' (first
          | (apply W.condKT; exact rfl; (focus (first | exact dec_false (by omega) | exact dec_true (by omega); done)))
          | (apply W.condKF; exact rfl; (focus (first | exact dec_false (by omega) | exact dec_true (by omega); done)))
          | (apply WL.lit tOk; exact rfl; exact rfl; exact rfl; exact rfl; exact rfl; exact rfl; (first | exact rfl | kernel_rfl | (simp [Instr.fill, catCells]; done)); exact rfl; intro gb w' hb hge hc hx; (obtain ⟨wL, rfl⟩ : ∃ x, x = w' := ⟨_, rfl⟩; obtain ⟨hxL, rfl⟩ : ∃ x, x = hx := ⟨_, rfl⟩))
          | ((apply WL.append1 (z := ((c, cc, clsC K T v u) : RowV Int)) tOk encRow_ok; exact rfl; exact rfl; exact rfl; exact rfl; exact rfl; exact rfl; exact rfl; exact rfl; exact rfl; exact rfl; exact hOo; exact (by (exact extA)); exact hol; assumption; exact rfl; exact rfl; exact (by (exact extA)); omega; intro a4 cap4 w8 hO8 hX8 hU8 hF8))
          | (show WL _ _ _ _ _ _ _; first | apply WL.nil | (refine WL.au (k := ?_)))
          | (show Z _ _ _ _ _; first | apply Z.then_normal | apply Z.block_normal | apply Z.then_exit | apply Z.block_exit)
          | (show W _ _ _ _ _ _; first | apply W.seq | apply W.region | apply W.exit)
          | fail)
        have hS8 := rc_push hS6 hxL hU8 hO8 hF8 (Nat.le_trans hz6 (Below.size hxL))
        have e9 : (os ++ [((c, cc, clsC K T v u) : RowV Int)]).length = (outF K T (frsC K (v + 1)) u).length := by rw [efn, hap, List.length_append, List.length_append, hol]; rfl
        exact Z.againO a4 cap4 ⟨by omega, hX8, _, hS8, by rw [efn, hap, List.map_append, hos]; rfl⟩ (by repeat' first | exact trivial | (refine And.intro ?_ ?_) | exact rfl | (rw [e9]; exact rfl))
      · rw [if_neg hgt, List.append_nil] at hap
        repeat' (first
          | (apply W.condKF; exact rfl; (focus (first | exact dec_false (by omega); done)))
          | (show WL _ _ _ _ _ _ _; first | apply WL.nil | (refine WL.au (k := ?_)))
          | (show Z _ _ _ _ _; first | apply Z.then_normal | apply Z.block_normal | apply Z.then_exit | apply Z.block_exit)
          | (show W _ _ _ _ _ _; first | apply W.seq | apply W.region | apply W.skip | apply W.exit)
          | fail)
        exact Z.againO aO cO ⟨by omega, hX6, os, hS6.drop 1, by rw [efn, hap]; exact hos⟩ (by rw [efn, hap]; exact (by repeat' first | exact trivial | (refine And.intro ?_ ?_) | exact rfl))
  · obtain rfl : v = nn := by omega
    repeat' (first
      | (apply W.condKF; exact rfl; (focus (exact dec_false (by omega); done)))
      | (show WL _ _ _ _ _ _ _; first | apply WL.nil | (refine WL.au (k := ?_)))
      | (show Z _ _ _ _ _; first | apply Z.then_normal | apply Z.then_exit | apply Z.block_exit)
      | (show W _ _ _ _ _ _; first | apply W.seq | apply W.region | apply W.ret | apply W.exit)
      | fail)
    refine Z.body1 Try.results12 rfl fun m => ⟨Ext.at hX4 m, aO, cO, os, by rw [hol], ((Sep.row (i := 0) hS rfl).row encRow_ok).ext ((Ext.refl _).at m), fun r hr => ?_, ?_⟩
    · obtain ⟨i, hi⟩ := List.mem_iff_getElem?.1 hr
      exact ((rc_in hS hi).row encI_ok).ext ((Ext.refl _).at m)
    · rw [hos, hK, hT, hnn]; rfl
end Go.Proofs.Ytlcenenkloicjaa
