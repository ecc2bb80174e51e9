/- Rules for arrays that lie in a block, and for masks. Generic over the program. No conditions. -/
import Derived.Test.YtfkdlepemiepdaaLtMore2
import Derived.Test.YtfkdlepemiepdaaLtLift
import Derived.Lib.SmallJoins
namespace Go.Lt
open Go.RowKit
set_option linter.unusedVariables false
set_option linter.unusedSimpArgs false

section arr
variable {P : Program} {T : Tab} {e : Env} {dd : Option Tmp} {t tt ty : TypeId} {x y : Operand} {ps : String} {af : Array Edge} {g : Option (Nat × Bool)}
theorem yindexA (hT : OkTab P T) {b off n s : Nat} {k : IntKind} {i : Int} {ti ei : TI} {el : TypeId}
    (hx : ev e x = some (.pointer (some ⟨b, off, none⟩))) (hy : ev e y = some (.int k i)) (ht : tget T t = some ti) (hd : ti.desc = .array n el) (he : tget T el = some ei) (hs : ei.size = s)
    (h0 : 0 ≤ i ∧ i < n) : Yields P e ⟨dd, .indexAddr t x y, tt, ps, af, g⟩ (.pointer (some ⟨b, off + i.toNat * s, none⟩)) := by
  intro ρ hρ w'
  have h1 := run_underlying' (hT.at ht); rw [hd] at h1
  have h2 := run_sizeOf' (hT.at he); rw [hs] at h2
  simp [execOp, hρ _ _ hx, hρ _ _ hy, Instr.indexAt, Instr.sureAddr, asIntOf, h1, h2, h0, Addr_add_none]
theorem mask_le (a : Int) : 0 ≤ IntKind.i64.wrap (BitVec.ofInt IntKind.i64.bits a &&& BitVec.ofInt IntKind.i64.bits 1023).toNat ∧ IntKind.i64.wrap (BitVec.ofInt IntKind.i64.bits a &&& BitVec.ofInt IntKind.i64.bits 1023).toNat ≤ 1023 := by
  show 0 ≤ IntKind.i64.wrap (BitVec.ofInt 64 a &&& BitVec.ofInt 64 1023).toNat ∧ IntKind.i64.wrap (BitVec.ofInt 64 a &&& BitVec.ofInt 64 1023).toNat ≤ 1023
  have h : (BitVec.ofInt 64 a &&& BitVec.ofInt 64 1023).toNat ≤ 1023 := by
    rw [BitVec.toNat_and]; exact Nat.le_trans Nat.and_le_right (by decide)
  rw [IntWalk.i64_in _ (by omega)]
  omega
theorem ymask {a : Int} (hx : ev e x = some (.int .i64 a)) (hy : ev e y = some (.int .i64 1023)) : ∃ r : Int, 0 ≤ r ∧ r ≤ 1023 ∧ Yields P e ⟨dd, .binOp .and t x y ty, tt, ps, af, g⟩ (.int .i64 r) :=
  ⟨_, (mask_le a).1, (mask_le a).2, Yields.bin (P := P) (d := dd) (op := .and) (t := t) (ty := ty) (tt := tt) (ps := ps) (af := af) (g := g) hx hy (v := .int .i64 (IntKind.i64.wrap (BitVec.ofInt IntKind.i64.bits a &&& BitVec.ofInt IntKind.i64.bits 1023).toNat)) rfl⟩
end arr
section rules
variable {P : Program} {N : Nat} {e : Env} {w : World} {Q : Exit → Act → World → Prop} {C : World → Prop} {ops : List Oper} {l : List Oper} {T : Tab}
  {d : Nat} {tt t ty : TypeId} {ps : String} {af : Array Edge} {g : Option (Nat × Bool)} {x y : Operand}
theorem WL.indexA (hT : OkTab P T) {b off n s : Nat} {k : IntKind} {i : Int} {ti ei : TI} {el : TypeId} (hg : gate ops e g = some true) (hd : Nat.blt d N = true)
    (hx : ev e x = some (.pointer (some ⟨b, off, none⟩))) (hy : ev e y = some (.int k i)) (ht : tget T t = some ti) (htd : ti.desc = .array n el) (he : tget T el = some ei) (hs : ei.size = s) (h0 : 0 ≤ i ∧ i < n)
    (k : WL P N ops.toArray l ((d, .pointer (some ⟨b, off + i.toNat * s, none⟩)) :: e) w Q) : WL P N ops.toArray (⟨some d, .indexAddr t x y, tt, ps, af, g⟩ :: l) e w Q := WL.step hg hd (yindexA hT hx hy ht htd he hs h0).in k
theorem QL.indexA (hT : OkTab P T) {b off n s : Nat} {k : IntKind} {i : Int} {ti ei : TI} {el : TypeId} (hg : gate ops e g = some true) (hd : Nat.blt d N = true)
    (hx : ev e x = some (.pointer (some ⟨b, off, none⟩))) (hy : ev e y = some (.int k i)) (ht : tget T t = some ti) (htd : ti.desc = .array n el) (he : tget T el = some ei) (hs : ei.size = s) (h0 : 0 ≤ i ∧ i < n)
    (k : QL P N C ops.toArray l ((d, .pointer (some ⟨b, off + i.toNat * s, none⟩)) :: e) Q) : QL P N C ops.toArray (⟨some d, .indexAddr t x y, tt, ps, af, g⟩ :: l) e Q := QL.step hg hd (yindexA hT hx hy ht htd he hs h0).in k
theorem WL.mask {a : Int} (hg : gate ops e g = some true) (hd : Nat.blt d N = true) (hx : ev e x = some (.int .i64 a)) (hy : ev e y = some (.int .i64 1023))
    (k : ∀ r : Int, 0 ≤ r → r ≤ 1023 → WL P N ops.toArray l ((d, .int .i64 r) :: e) w Q) : WL P N ops.toArray (⟨some d, .binOp .and t x y ty, tt, ps, af, g⟩ :: l) e w Q := by
  obtain ⟨r, h0, h1, hy'⟩ := ymask (P := P) (dd := some d) (t := t) (ty := ty) (tt := tt) (ps := ps) (af := af) (g := g) hx hy
  exact WL.step hg hd hy'.in (k r h0 h1)
theorem QL.mask {a : Int} (hg : gate ops e g = some true) (hd : Nat.blt d N = true) (hx : ev e x = some (.int .i64 a)) (hy : ev e y = some (.int .i64 1023))
    (k : ∀ r : Int, 0 ≤ r → r ≤ 1023 → QL P N C ops.toArray l ((d, .int .i64 r) :: e) Q) : QL P N C ops.toArray (⟨some d, .binOp .and t x y ty, tt, ps, af, g⟩ :: l) e Q := by
  obtain ⟨r, h0, h1, hy'⟩ := ymask (P := P) (dd := some d) (t := t) (ty := ty) (tt := tt) (ps := ps) (af := af) (g := g) hx hy
  exact QL.step hg hd hy'.in (k r h0 h1)
end rules

section lift
variable {H : Type} {enc : TypeId × Value → H} {P : Program} {w : World} {base : Nat} {spare : Nat → Bool} {held : Bool}
/-- An array of three numbers, opened. -/
theorem open_arr3 {r : Reach} {b0 : Nat} {t el : TypeId} {v : Value} {d : DataW H} {p : List MemPlace} (ht : P.underlying t = some (.array 3 el)) (he : P.underlying el = some (.int .i64)) (hC : P.cellsOf t = 3) (hce : P.cellsOf el = 1)
    (hv : Value.okWide P w r b0 t v) (h : DataW.Trod enc P w base spare held t v d p) :
    ∃ n0 n1 n2 : Int, v = .agg #[.int .i64 n0, .int .i64 n1, .int .i64 n2] := by
  unfold Value.okWide at hv
  rw [ht] at hv
  obtain ⟨cs, rfl, hsz, _⟩ := hv
  obtain ⟨c0, c1, c2, rfl⟩ := Go.Joins.array3 (hsz.trans hC)
  obtain ⟨fuel, hf⟩ := h
  obtain ⟨xs, m, _, _, _, hl, hx⟩ := DataW.trod_array ht hf
  rw [hce] at hx
  have get : ∀ i (hi : i < 3) (c : Value), (((Value.agg #[c0, c1, c2]).cells.toList.drop (i * 1)).take 1) = [c] → ∃ n : Int, c = .int .i64 n := by
    intro i hi c hc
    have h1 := hx i hi
    rw [hc] at h1
    obtain ⟨y, hy⟩ := getI xs (show i < xs.length by omega)
    rw [hy] at h1
    obtain ⟨n, hn, _⟩ := reads_int (P := P) he _ _ _ _ _ _ _ _ h1
    simp only [List.cons.injEq, and_true] at hn
    exact ⟨n, hn⟩
  obtain ⟨n0, rfl⟩ := get 0 (by decide) c0 rfl
  obtain ⟨n1, rfl⟩ := get 1 (by decide) c1 rfl
  obtain ⟨n2, rfl⟩ := get 2 (by decide) c2 rfl
  exact ⟨n0, n1, n2, rfl⟩
end lift
end Go.Lt
