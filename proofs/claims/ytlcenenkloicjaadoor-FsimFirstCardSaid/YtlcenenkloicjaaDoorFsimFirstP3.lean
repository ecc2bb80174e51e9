/- FsimFirst: the first test that shows each fault, of any tests. The row lists the table that counts a word's lowest zeros, which is tied to the program's text. -/
import Derived.Test.YtlcenenkloicjaaDoorRows
import Derived.Lib.SmallJoins
import Derived.KernelRfl
import Derived.Test.YtlcenenkloicjaaDoorTie
import Derived.Test.YtlcenenkloicjaaDoorCards
import Derived.WalkKit
import Derived.ProofKit
import Derived.Deep.Quiet
import Derived.Deep.LoopGhost
import Derived.StillTail
import Derived.Test.YtlcenenkloicjaaDoorProg
import Derived.OpenShut
import Derived.ShutString
import Derived.ChangeOld
import Derived.Deep.Slices
import Derived.SizedLaws
import Derived.Laws.StructEq
import Derived.Laws.Externs
import Derived.MapKept
import Derived.Lib.LaidTab
import Derived.LaidMore
import Derived.LaidOnce
import Derived.SevenTiedAt
import Derived.MakeChecks
import Derived.Test.YtlcenenkloicjaaDoorFsimFirstP2
namespace Go.Proofs.YtlcenenkloicjaaDoor
open Go Go.Lt Go.RowKit
set_option linter.unusedVariables false
set_option linter.unusedSimpArgs false
set_option maxRecDepth 20000

theorem vto_ins {a b : List Bool} (h : ∀ q, a.getD q false = b.getD q false) (n : List (Int × Int)) (k : Nat) : vto n a k = vto n b k := by
  unfold vto
  have e : vstep a = vstep b := by
    funext s x; unfold vstep; rw [h]
  rw [e]
theorem values_ins {a b : List Bool} (h : ∀ q, a.getD q false = b.getD q false) (n : List (Int × Int)) : values n a = values n b := by unfold values; rw [vto_ins h]
theorem det_ins {n : List (Int × Int)} {outs : List Int} {v p : Int} {o : Bool} {a b : List Bool} (h : ∀ q, a.getD q false = b.getD q false) : detP n outs v p o a ↔ detP n outs v p o b := by
  unfold detP outsF outsV
  rw [values_ins h, values_ins h]
noncomputable def dB (n : List (Int × Int)) (outs : List Int) (v p : Int) (o : Bool) (r : BRow) : Bool := dec (detP n outs v p o r.2.2)
theorem pack_row {rs : List BRow} (hl : rs.length ≤ 64) {i : Nat} {r : BRow} (h : rs[i]? = some r) (q : Nat) : (bitsOf (pack rs) i).getD q false = r.2.2.getD q false := by
  have hlt := (List.getElem?_eq_some_iff.1 h).1
  rw [getD_bits]
  show ((packTo rs (min rs.length 64)).getD q 0#64).getLsbD i = _
  rw [pack_bit rs q i (by omega) (min rs.length 64) (by omega), decide_eq_true (by omega), Bool.true_and, getD_of h]
/-- The word of a chunk of tests, without the lanes beyond its last one. -/
noncomputable def wordC (n : List (Int × Int)) (outs : List Int) (v p : Int) (o : Bool) (ck : List BRow) : BitVec 64 :=
  if ck.length < 64 then fwords n outs v p o (pack ck) &&& (1#64 <<< ck.length - 1#64) else fwords n outs v p o (pack ck)
theorem low_mask {m : Nat} (hm : m < 64) (i : Nat) : (1#64 <<< m - 1#64).getLsbD i = decide (i < m) := by
  have h1 : (1#64 <<< m - 1#64).toNat = 2 ^ m - 1 := by
    have h2 : (1#64 <<< m).toNat = 2 ^ m := by
      rw [BitVec.toNat_shiftLeft, Nat.shiftLeft_eq]
      have : 2 ^ m < 2 ^ 64 := Nat.pow_lt_pow_right (by decide) hm
      rw [show (1#64).toNat = 1 from rfl, Nat.one_mul, Nat.mod_eq_of_lt this]
    have h3 : 1 ≤ 2 ^ m := Nat.one_le_two_pow
    rw [BitVec.toNat_sub_of_le (by rw [BitVec.le_def, h2]; exact h3), h2]; rfl
  unfold BitVec.getLsbD
  rw [h1, Nat.testBit_two_pow_sub_one]
theorem wordC_bit {n : List (Int × Int)} {outs : List Int} {v p : Int} {o : Bool} (hg : GoodNet n) (hk : ∀ l ∈ outs, 0 ≤ l ∧ l ≤ 2 * (n.length : Int) + 1) {ck : List BRow} (hl : ck.length ≤ 64) (i : Nat) :
    (wordC n outs v p o ck).getLsbD i = (decide (i < ck.length) && dB n outs v p o (ck.getD i (none, 0, []))) := by
  have hin : ∀ i, i < ck.length → (fwords n outs v p o (pack ck)).getLsbD i = dB n outs v p o (ck.getD i (none, 0, [])) := fun i hi => by
    obtain ⟨r, hr⟩ := getI ck hi
    rw [fwords_bit hg hk _ (by omega), List.getD, hr]
    exact dec_congr (det_ins (fun q => pack_row hl hr q))
  unfold wordC
  split
  · rename_i h64
    rw [BitVec.getLsbD_and, low_mask h64]
    by_cases hi : i < ck.length
    · rw [decide_eq_true hi, hin i hi, Bool.and_comm]
    · rw [decide_eq_false hi]; simp
  · by_cases hi : i < ck.length
    · rw [decide_eq_true hi, hin i hi]; rfl
    · rw [decide_eq_false hi, BitVec.getLsbD_of_ge _ _ (by omega)]; rfl

/-- Which tests are told to show, of those below f all that do, of the next 64 those that w has no more. -/
def stF (B : Nat → Bool) (f : Nat) (w : BitVec 64) (j : Nat) : Bool := B j && (decide (j < f) || (decide (j < f + 64) && !w.getLsbD (j - f)))
theorem stF_start {B : Nat → Bool} {nt f : Nat} {w : BitVec 64} (h : ∀ i, f + i < nt → i < 64 → w.getLsbD i = B (f + i)) : tab nt (fun j => B j && decide (j < f)) = tab nt (stF B f w) := by
  refine tab_congr fun j hj => ?_
  unfold stF
  by_cases h1 : j < f
  · rw [decide_eq_true h1]; simp
  · rw [decide_eq_false h1]
    by_cases h2 : j < f + 64
    · have := h (j - f) (by omega) (by omega)
      rw [show f + (j - f) = j by omega] at this
      rw [this, decide_eq_true h2]; cases B j <;> rfl
    · rw [decide_eq_false h2]; simp
theorem stF_end (B : Nat → Bool) (nt f : Nat) : tab nt (stF B f 0#64) = tab nt (fun j => B j && decide (j < f + 64)) := by
  refine tab_congr fun j hj => ?_
  unfold stF
  rw [BitVec.getLsbD_zero]
  by_cases h1 : j < f
  · rw [decide_eq_true h1, decide_eq_true (by omega : j < f + 64)]; rfl
  · rw [decide_eq_false h1]; simp
theorem stF_set {B : Nat → Bool} {nt f k : Nat} {w : BitVec 64} (h : IsLow w k) (hB : B (f + k) = true) : (tab nt (stF B f w)).set (f + k) true = tab nt (stF B f (w &&& (w - 1#64))) := by
  refine tab_set fun j hj => ?_
  unfold stF
  rw [clear_low h]
  have h64 := h.1
  by_cases h1 : j = f + k
  · subst h1; rw [if_pos rfl, hB, decide_eq_true (by omega : f + k < f + 64), show f + k - f = k by omega]; simp
  · rw [if_neg h1]
    by_cases h2 : j < f
    · rw [decide_eq_true h2]; simp
    · rw [decide_eq_false (by omega : ¬ j - f = k)]; simp
theorem all_done (B : Nat → Bool) {nt f : Nat} (h : nt ≤ f) : tab nt (fun j => B j && decide (j < f)) = tab nt B := tab_congr fun j hj => by rw [decide_eq_true (by omega)]; simp
/-- A chunk. -/
def ckOf (rs : List BRow) (f : Nat) : List BRow := (rs.drop f).take 64
theorem ckOf_len (rs : List BRow) (f : Nat) : (ckOf rs f).length = min 64 (rs.length - f) := by unfold ckOf; rw [List.length_take, List.length_drop]
theorem ckOf_get (rs : List BRow) {f i : Nat} (h : i < 64) : (ckOf rs f).getD i (none, 0, []) = rs.getD (f + i) (none, 0, []) := by
  unfold ckOf; rw [List.getD_eq_getElem?_getD, List.getD_eq_getElem?_getD, List.getElem?_take, if_pos h, List.getElem?_drop]
theorem ckOf_cut (rs : List BRow) (f : Nat) (hf : f < rs.length) : (rs.drop ((f : Nat) : Int).toNat).take (min (((f : Nat) : Int) + 64) ((rs.length : Nat) : Int) - (f : Int)).toNat = ckOf rs f := by
  unfold ckOf
  rw [Int.toNat_natCast]
  by_cases h : f + 64 ≤ rs.length
  · rw [show (min (((f : Nat) : Int) + 64) ((rs.length : Nat) : Int) - (f : Int)).toNat = 64 by omega]
  · rw [show (min (((f : Nat) : Int) + 64) ((rs.length : Nat) : Int) - (f : Int)).toNat = rs.length - f by omega, List.take_of_length_le (by rw [List.length_drop]; omega), List.take_of_length_le (by rw [List.length_drop]; omega)]
theorem tab_map {α β : Type} (f : α → β) (l : List α) (z : α) : tab l.length (fun j => f (l.getD j z)) = l.map f := by
  refine (tab_eq (l := l.map f) (by simp) fun u x h => ?_).symm
  rw [List.getElem?_map] at h
  cases hy : l[u]? with
  | none => rw [hy] at h; cases h
  | some y =>
    rw [hy] at h
    rw [List.getD, hy]
    exact Option.some.inj h
end Go.Proofs.YtlcenenkloicjaaDoor
namespace Go.Lt
open Go.RowKit
set_option linter.unusedVariables false
section
variable {P : Program}
theorem run_sliceLH {T : Tab} {t : TypeId} (hT : OkTab P T) {ti : TI} {el : TypeId} {ei : TI} {ao : Option Addr} {n cap : Nat} {k k' : IntKind} {lo hi : Int} (ht : tget T t = some ti) (htd : ti.desc = .slice el) (he : tget T el = some ei) (h0 : 0 ≤ lo ∧ lo ≤ hi) (h1 : hi ≤ cap) (w : World) :
    (Instr.sliceAt t (.slice ao n cap) (some (.int k lo)) (some (.int k' hi)) none).run P w = .ok (.slice (if cap = lo.toNat then ao else ao.map (·.add (lo.toNat * ei.size))) (hi.toNat - lo.toNat) (cap - lo.toNat)) w := by
  have e1 := run_underlying' (hT.at ht); rw [htd] at e1
  have e2 := run_sizeOf' (hT.at he)
  have e3 : 0 ≤ hi := by omega
  simp [Instr.sliceAt, Instr.slice, e1, e2, Instr.sliceBounds, Instr.sliceBound, asIntOf, h0.1, e3, h1]
  intro hh; exfalso; omega
end
section rules
variable {P : Program} {N : Nat} {e : Env} {w : World} {Q : Exit → Act → World → Prop} {ops : List Oper} {l : List Oper} {T : Tab}
  {d : Nat} {tt ty : TypeId} {ps : String} {af : Array Edge} {g : Option (Nat × Bool)} {t : TypeId} {α : Type} {s : Nat} {enc : α → List Value} {B : Nat} {ti ei : TI} {el : TypeId} {C : World → Prop}
end rules
end Go.Lt
namespace Go.Lt
open Go.RowKit
set_option linter.unusedVariables false
set_option linter.unusedSimpArgs false
section
variable {P : Program} {e : Env} {dd : Option Tmp} {t ty tt : TypeId} {x y : Operand} {ps : String} {af : Array Edge} {g : Option (Nat × Bool)} {a b : Int} {u v : BitVec 64}
theorem usub (hx : ev e x = some (.int .u64 a)) (hy : ev e y = some (.int .u64 b)) (ha : a = (u.toNat : Int)) (hb : b = (v.toNat : Int)) : Yields P e ⟨dd, .binOp .sub t x y ty, tt, ps, af, g⟩ (u64 (u - v)) := by
  subst ha; subst hb
  have := Yields.bin (P := P) (d := dd) (op := .sub) (t := t) (ty := ty) (tt := tt) (ps := ps) (af := af) (g := g) hx hy rfl
  have e1 : IntKind.u64.wrap ((u.toNat : Int) - v.toNat) = (u - v).toNat := by
    have h1 := u.isLt
    have h2 := v.isLt
    rw [IntKind.wrap_u64, BitVec.toNat_sub]; omega
  rwa [e1] at this
theorem uneg (hx : ev e x = some (.int .u64 a)) (ha : a = (u.toNat : Int)) : Yields P e ⟨dd, .unOp .neg t x, tt, ps, af, g⟩ (u64 (-u)) := by
  subst ha
  intro ρ hρ w
  have e1 : IntKind.u64.wrap ((0 : Int) - u.toNat) = (-u).toNat := by
    have h1 := u.isLt
    rw [IntKind.wrap_u64, BitVec.toNat_neg]; omega
  have hrun : (Op.unary .neg (.int .u64 (u.toNat : Int))).run P w = .ok (u64 (-u)) w := by
    simp only [Op.unary, Op.intArith, Sem.run_pure]
    rw [e1]
  simp [execOp, hρ _ _ hx, hrun]
variable {N d : Nat} {w : World} {Q : Exit → Act → World → Prop} {C : World → Prop} {Kf : Act → Prop} {ops l : List Oper}
theorem WL.usub (hg : gate ops e g = some true) (hd : Nat.blt d N = true) (hx : ev e x = some (.int .u64 a)) (hy : ev e y = some (.int .u64 b)) (ha : a = (u.toNat : Int)) (hb : b = (v.toNat : Int)) (k : WL P N ops.toArray l ((d, u64 (u - v)) :: e) w Q) : WL P N ops.toArray (⟨some d, .binOp .sub t x y ty, tt, ps, af, g⟩ :: l) e w Q := WL.step hg hd (Lt.usub hx hy ha hb).in k
theorem QL.usub (hg : gate ops e g = some true) (hd : Nat.blt d N = true) (hx : ev e x = some (.int .u64 a)) (hy : ev e y = some (.int .u64 b)) (ha : a = (u.toNat : Int)) (hb : b = (v.toNat : Int)) (k : QL P N C ops.toArray l ((d, u64 (u - v)) :: e) Q) : QL P N C ops.toArray (⟨some d, .binOp .sub t x y ty, tt, ps, af, g⟩ :: l) e Q := QL.step hg hd (Lt.usub hx hy ha hb).in k
theorem WL.uneg (hg : gate ops e g = some true) (hd : Nat.blt d N = true) (hx : ev e x = some (.int .u64 a)) (ha : a = (u.toNat : Int)) (k : WL P N ops.toArray l ((d, u64 (-u)) :: e) w Q) : WL P N ops.toArray (⟨some d, .unOp .neg t x, tt, ps, af, g⟩ :: l) e w Q := WL.step hg hd (Lt.uneg hx ha).in k
theorem QL.uneg (hg : gate ops e g = some true) (hd : Nat.blt d N = true) (hx : ev e x = some (.int .u64 a)) (ha : a = (u.toNat : Int)) (k : QL P N C ops.toArray l ((d, u64 (-u)) :: e) Q) : QL P N C ops.toArray (⟨some d, .unOp .neg t x, tt, ps, af, g⟩ :: l) e Q := QL.step hg hd (Lt.uneg hx ha).in k
end
section
variable {P : Program} {N : Nat} {e : Env} {w : World} {Q : Exit → Act → World → Prop} {ops : List Oper} {l : List Oper} {T : Tab}
  {d : Nat} {tt ty : TypeId} {ps : String} {af : Array Edge} {g : Option (Nat × Bool)} {t : TypeId} {α : Type} {s : Nat} {enc : α → List Value} {ti ei : TI} {el : TypeId}
/-- l[lo:hi] of a row. -/
theorem WL.sliceR {x y z : Operand} {a : Option Addr} {xs : List α} {n cap : Nat} {kk k2 : IntKind} {lo hi : Int} {w0 : World} (hT : OkTab P T) (hg : gate ops e g = some true) (hd : Nat.blt d N = true)
    (hx : ev e x = some (.slice a n cap)) (hy : ev e y = some (.int kk lo)) (hz : ev e z = some (.int k2 hi)) (ht : tget T t = some ti) (htd : ti.desc = .slice el) (he : tget T el = some ei) (hs : ei.size = s)
    (R : Row s enc w0 a xs) (hn : xs.length = n) (hc : xs.length ≤ cap) (h0 : 0 ≤ lo ∧ lo ≤ hi ∧ hi ≤ xs.length)
    (k : ∀ a' cap', Row s enc w0 a' ((xs.drop lo.toNat).take (hi - lo).toNat) → ((xs.drop lo.toNat).take (hi - lo).toNat).length ≤ cap' → WL P N ops.toArray l ((d, .slice a' ((xs.drop lo.toNat).take (hi - lo).toNat).length cap') :: e) w Q) : WL P N ops.toArray (⟨some d, .slice t x (some y) (some z) none, tt, ps, af, g⟩ :: l) e w Q := by
  have el1 : ((xs.drop lo.toNat).take (hi - lo).toNat).length = hi.toNat - lo.toNat := by rw [List.length_take, List.length_drop]; omega
  refine WL.step hg hd ?_ (k _ (cap - lo.toNat) ((R.dropAt lo.toNat cap hc).take (hi - lo).toNat) (by rw [el1]; omega))
  refine Yields.in ?_
  intro ρ hρ w'
  have := run_sliceLH (P := P) hT (t := t) (ao := a) (n := n) (cap := cap) (k := kk) (k' := k2) (lo := lo) (hi := hi) ht htd he (by omega) (by omega) w'
  rw [hs] at this
  simp [execOp, hρ _ _ hx, hρ _ _ hy, hρ _ _ hz, this]
  omega
end
end Go.Lt
namespace Go.Lt
open Go.RowKit
set_option linter.unusedVariables false
set_option linter.unusedSimpArgs false

section arr
variable {P : Program} {T : Tab} {e : Env} {dd : Option Tmp} {t tt ty : TypeId} {x y : Operand} {ps : String} {af : Array Edge} {g : Option (Nat × Bool)}
theorem yindexA (hT : OkTab P T) {b off n s : Nat} {k : IntKind} {i : Int} {ti ei : TI} {el : TypeId}
    (hx : ev e x = some (.pointer (some ⟨b, off, none⟩))) (hy : ev e y = some (.int k i)) (ht : tget T t = some ti) (hd : ti.desc = .array n el) (he : tget T el = some ei) (hs : ei.size = s)
    (h0 : 0 ≤ i ∧ i < n) : Yields P e ⟨dd, .indexAddr t x y, tt, ps, af, g⟩ (.pointer (some ⟨b, off + i.toNat * s, none⟩)) := by
  intro ρ hρ w'
  have h1 := run_underlying' (hT.at ht); rw [hd] at h1
  have h2 := run_sizeOf' (hT.at he); rw [hs] at h2
  simp [execOp, hρ _ _ hx, hρ _ _ hy, Instr.indexAt, Instr.sureAddr, asIntOf, h1, h2, h0, Addr_add_none]
end arr
section rules
variable {P : Program} {N : Nat} {e : Env} {w : World} {Q : Exit → Act → World → Prop} {C : World → Prop} {ops : List Oper} {l : List Oper} {T : Tab}
  {d : Nat} {tt t ty : TypeId} {ps : String} {af : Array Edge} {g : Option (Nat × Bool)} {x y : Operand}
theorem WL.indexA (hT : OkTab P T) {b off n s : Nat} {k : IntKind} {i : Int} {ti ei : TI} {el : TypeId} (hg : gate ops e g = some true) (hd : Nat.blt d N = true)
    (hx : ev e x = some (.pointer (some ⟨b, off, none⟩))) (hy : ev e y = some (.int k i)) (ht : tget T t = some ti) (htd : ti.desc = .array n el) (he : tget T el = some ei) (hs : ei.size = s) (h0 : 0 ≤ i ∧ i < n)
    (k : WL P N ops.toArray l ((d, .pointer (some ⟨b, off + i.toNat * s, none⟩)) :: e) w Q) : WL P N ops.toArray (⟨some d, .indexAddr t x y, tt, ps, af, g⟩ :: l) e w Q := WL.step hg hd (yindexA hT hx hy ht htd he hs h0).in k
theorem QL.indexA (hT : OkTab P T) {b off n s : Nat} {k : IntKind} {i : Int} {ti ei : TI} {el : TypeId} (hg : gate ops e g = some true) (hd : Nat.blt d N = true)
    (hx : ev e x = some (.pointer (some ⟨b, off, none⟩))) (hy : ev e y = some (.int k i)) (ht : tget T t = some ti) (htd : ti.desc = .array n el) (he : tget T el = some ei) (hs : ei.size = s) (h0 : 0 ≤ i ∧ i < n)
    (k : QL P N C ops.toArray l ((d, .pointer (some ⟨b, off + i.toNat * s, none⟩)) :: e) Q) : QL P N C ops.toArray (⟨some d, .indexAddr t x y, tt, ps, af, g⟩ :: l) e Q := QL.step hg hd (yindexA hT hx hy ht htd he hs h0).in k
end rules

section lift
variable {H : Type} {enc : TypeId × Value → H} {P : Program} {w : World} {base : Nat} {spare : Nat → Bool} {held : Bool}
end lift
end Go.Lt
namespace Go.Lt
open Go.ChangeShapes Go.WideShapes Go.ChangeAt Go.RowKit Go.Deep
end Go.Lt
namespace Go.Lt
open Go.RowKit
set_option linter.unusedVariables false
set_option linter.unusedSimpArgs false

section
variable {P : Program} {T : Tab} {N d : Nat} {e : Env} {w : World} {ops l : List Oper} {Kf : Act → Prop} {tt t ty ct : TypeId} {ps : String} {af : Array Edge} {g : Option (Nat × Bool)} {x y : Operand}
end
end Go.Lt
namespace Go.Lt
open Go.RowKit
set_option linter.unusedVariables false
set_option linter.unusedSimpArgs false

section
variable {P : Program} {T : Tab} {N : Nat} {e : Env} {w : World} {Q : Exit → Act → World → Prop} {ops : List Oper} {l : List Oper}
  {d : Nat} {tt t ty kt et : TypeId} {ps : String} {af : Array Edge} {g : Option (Nat × Bool)} {x y : Operand} {i : TI} {dd : Option Tmp}
end
end Go.Lt
namespace Go.Lt
open Go.RowKit
theorem cells_tabFrom {W : World} {b : Nat} {k : IntKind} {zs : List Int} (h : ∀ i, i < zs.length → W.cell? ⟨b, i, none⟩ = some (.int k (zs.getD i 0))) : ∀ (r : List Int) (off : Nat), zs.drop off = r → Cells W b off (r.map (Value.int k))
  | [], _, _ => trivial
  | z :: r, off, e => by
    have hl : off < zs.length := by
      refine Classical.byContradiction fun hn => ?_
      rw [List.drop_eq_nil_of_le (by omega)] at e; cases e
    rw [List.drop_eq_getElem_cons hl] at e
    simp only [List.cons.injEq] at e
    refine ⟨?_, cells_tabFrom h r (off + 1) e.2⟩
    rw [h off hl, List.getD_eq_getElem?_getD, List.getElem?_eq_getElem hl, e.1]; rfl
theorem cells_tab {W : World} {b : Nat} {k : IntKind} {zs : List Int} (h : ∀ i, i < zs.length → W.cell? ⟨b, i, none⟩ = some (.int k (zs.getD i 0))) : Cells W b 0 (zs.map (Value.int k)) := cells_tabFrom h zs 0 rfl
theorem Cells.at {w : World} {b : Nat} : ∀ {l : List Value} {off i : Nat} {v : Value}, Cells w b off l → l[i]? = some v → w.cell? ⟨b, off + i, none⟩ = some v
  | u :: r, off, 0, v, h, e => by simp at e; subst e; exact h.1
  | u :: r, off, i + 1, v, h, e => by
    have := Cells.at (i := i) h.2 (by simpa using e)
    rwa [show off + 1 + i = off + (i + 1) by omega] at this
end Go.Lt
namespace Go.Proofs.YtlcenenkloicjaaDoor
open Go Go.Lt Go.RowKit
set_option linter.unusedVariables false
set_option linter.unusedSimpArgs false
set_option maxRecDepth 20000

abbrev tzW : List Value := debr.map (Value.int .u8)
theorem bits_Trail (x : BitVec 64) (k : Nat) (h : IsLow x k) (w : World) (hT : Cells w 1 0 tzW) : Still Tryd.prog 37 [u64 x] w (.int .i64 k) := by
  have hx0 : ¬ ((x.toNat : Nat) : Int) = 0 := fun e => by
    have : x = 0#64 := BitVec.eq_of_toNat_eq (by simpa using e)
    have h1 := h.2.1
    rw [this, BitVec.getLsbD_zero] at h1; cases h1
  have hd := debr_at h
  have e1 : (285870213051353865#64) = BitVec.ofInt 64 285870213051353865 := by decide
  rw [e1] at hd
  have hlt : 0 ≤ ((((x &&& -x) * BitVec.ofInt 64 285870213051353865) >>> Int.toNat 58).toNat : Int) ∧ ((((x &&& -x) * BitVec.ofInt 64 285870213051353865) >>> Int.toNat 58).toNat : Int) < (64 : Nat) := by
    refine ⟨by omega, ?_⟩
    rw [show Int.toNat 58 = 58 from rfl, BitVec.toNat_ushiftRight, Nat.shiftRight_eq_div_pow]
    have := ((x &&& -x) * BitVec.ofInt 64 285870213051353865).isLt
    have : ((x &&& -x) * BitVec.ofInt 64 285870213051353865).toNat / 2 ^ 58 < 64 := by rw [Nat.div_lt_iff_lt_mul (by decide)]; omega
    omega
  have hv : w.cell? ⟨1, 0 + ((((x &&& -x) * BitVec.ofInt 64 285870213051353865) >>> Int.toNat 58).toNat : Int).toNat * 1, none⟩ = some (.int .u8 (k : Int)) := by
    rw [Nat.mul_one, Int.toNat_natCast]
    refine Cells.at hT ?_
    rw [List.getElem?_map, show Int.toNat 58 = 58 from rfl, hd]; rfl
  have hw : IntKind.i64.wrap (k : Int) = k := IntWalk.i64_in _ (by have := h.1; omega)
  refine Spec.of _ Tryd.func37 rfl Tryd.ntmps37 (by kernel_rfl) rfl ?_
  repeat' (first
    | (apply W.condKF; exact rfl; (focus (first | exact dec_false hx0; done)))
    | (apply WL.uneg; exact rfl; exact rfl; exact rfl; (first | exact rfl | exact u64_lit _ (by omega)))
    | (apply WL.uand; exact rfl; exact rfl; exact rfl; exact rfl; (first | exact rfl | exact u64_lit _ (by omega)); (first | exact rfl | exact u64_lit _ (by omega)))
    | (apply WL.umul; exact rfl; exact rfl; exact rfl; exact rfl; (first | exact rfl | exact u64_lit _ (by omega)); (first | exact rfl | exact u64_lit _ (by omega)))
    | (apply WL.ushr; exact rfl; exact rfl; exact rfl; exact rfl; (first | exact rfl | exact u64_lit _ (by omega)); omega)
    | ((apply WL.indexA tOk; exact rfl; exact rfl; exact rfl; exact rfl; exact rfl; exact rfl; exact rfl; exact rfl; exact hlt))
    | (show WL _ _ _ _ _ _ _; first | apply WL.nil | (refine WL.au (k := ?_)))
    | (show Z _ _ _ _ _; apply Z.then_normal)
    | (show W _ _ _ _ _ _; first | apply W.seq | apply W.region | apply W.skip | apply W.ret)
    | fail)
  exact Z.body1 Tryd.results37 rfl fun m => ⟨congrArg (Value.int .i64) hw, m, rfl⟩

set_option maxHeartbeats 4000000 in
theorem fsim_shows (ra rb rt : Option Addr) (cap cb ct : Nat) (n : List (Int × Int)) (outs : List Int) (v p : Int) (o : Bool) (rs : List BRow) (w : World) (R : Row 2 encN w ra n) (Rb : Row 1 encI w rb outs) (Rt : Row 1 encR w rt rs) (hna : ra = none → cap = 0) (hnb : rb = none → cb = 0) (hct : rs.length ≤ ct) (hRs : RowsIn w rs) (hbs : ∀ r ∈ rs, r.2.2.length ≤ 1048576) (hnt : rs.length ≤ 1048576) (hg : GoodNet n) (hn : n.length ≤ 1048576) (ho : outs.length ≤ 1048576) (hv : inI64 v) (hk : ∀ l ∈ outs, 0 ≤ l ∧ l ≤ 2 * (n.length : Int) + 1) (hT : Cells w 1 0 tzW) :
    Lt.Spec Tryd.prog 29 [.slice ra n.length cap, .slice rb outs.length cb, fv v p o, .slice rt rs.length ct] w (IsFresh 1 encB 4 w (rs.map (dB n outs v p o))) := by
  refine Spec.of _ Tryd.func29 rfl Tryd.ntmps29 (by kernel_rfl) rfl ?_
  repeat' (first
    | (show W _ _ _ _ _ _; first | apply W.seq | apply W.region)
    | fail)
  apply WL.box; exact rfl; exact rfl; exact rfl; intro gb w' hb hge hc hx
  obtain ⟨g6, rfl⟩ : ∃ x, x = gb := ⟨_, rfl⟩; obtain ⟨wb, rfl⟩ : ∃ x, x = w' := ⟨_, rfl⟩; obtain ⟨hge6, rfl⟩ : ∃ x, x = hge := ⟨_, rfl⟩
  have hc6 : Cells wb g6 0 [.int .i64 v, .int .i64 p, .bool o] := hc
  have hXb : Ext w wb := hx
  clear hc hx hb
  repeat' (first
    | (apply WL.make (w0 := wb) tOk; exact rfl; exact rfl; exact rfl; exact rfl; exact rfl; exact rfl; exact rfl; exact rfl; exact rfl; exact encB_ok; exact rfl; exact rfl; (exact extA); (first | omega | (simp; omega) | (simp at *; omega)); intro gb w' hO hge hx)
    | (show WL _ _ _ _ _ _ _; first | apply WL.nil | (refine WL.au (k := ?_)))
    | (show Z _ _ _ _ _; apply Z.then_normal)
    | (show W _ _ _ _ _ _; first | apply W.seq | apply W.region | apply W.block)
    | fail)
  have en : ((rs.length : Nat) : Int).toNat = rs.length := Int.toNat_natCast _
  have e0l : (List.replicate rs.length false).length = rs.length := List.length_replicate
  rw [en] at hO ⊢
  obtain ⟨g0, rfl⟩ : ∃ x, x = gb := ⟨_, rfl⟩
  let B : Nat → Bool := fun j => dB n outs v p o (rs.getD j (none, 0, []))
  have hB : B = fun j => dB n outs v p o (rs.getD j (none, 0, [])) := rfl
  clear_value B
  have e0 : List.replicate rs.length false = tab rs.length (fun j => B j && decide (j < 64 * 0)) := by rw [tab_rep]; exact tab_congr fun u hu => by simp
  rw [e0] at hO
  refine W.loopW (rs.length + 64) (fun k w' => 64 * k ≤ rs.length + 63 ∧ Ext wb w' ∧ Own 1 encB 4 wb.heap.size w' (some ⟨g0, 0, none⟩) rs.length (tab rs.length (fun j => B j && decide (j < 64 * k))))
    (fun k => [(0, .slice ra n.length cap), (1, .slice rb outs.length cb), (3, .slice rt rs.length ct), (6, .pointer (some ⟨g6, 0, none⟩)), (9, .slice (some ⟨g0, 0, none⟩) rs.length rs.length), (10, .int .i64 ((64 * k : Nat) : Int))]) ⟨by omega, hx, hO⟩ (fun k w' h => by omega) (by repeat' first | exact trivial | (refine And.intro ?_ ?_) | exact rfl | (rw [e0l]; exact rfl)) ?_
  clear hO
  rintro k w' ⟨hkb, hx', hO'⟩
  have Rt1 := (Rt.ext hXb).ext hx'
  by_cases hlt : 64 * k < rs.length
  · have eck := ckOf_cut rs (64 * k) hlt
    have ecl := ckOf_len rs (64 * k)
    repeat' (first
      | (apply W.condKT; exact rfl; (focus (first | exact dec_true (by omega); done)))
      | (apply WL.min; exact rfl; exact rfl; exact rfl; exact rfl)
      | (apply WL.sliceR tOk; exact rfl; exact rfl; exact rfl; exact rfl; exact rfl; exact rfl; exact rfl; exact rfl; exact rfl; assumption; (first | exact rfl | (focus (simp only [List.length_set]; done)) | (focus (simp; done)) | (focus (simp [*]; done)) | omega | (focus (simp only [List.length_set]; omega))); (first | assumption | omega); (first | omega | (simp; omega) | (simp at *; omega)); intro a' cap' hR hc)
      | (show WL _ _ _ _ _ _ _; first | apply WL.nil | (refine WL.au (k := ?_)))
      | (show Z _ _ _ _ _; apply Z.then_normal)
      | (show W _ _ _ _ _ _; first | apply W.seq | apply W.region | apply W.block | apply W.skip)
      | fail)
    rw [eck] at hR hc ⊢
    have hmem : ∀ r ∈ ckOf rs (64 * k), r ∈ rs := fun r hr => List.mem_of_mem_drop (List.mem_of_mem_take hr)
    have hckb : ∀ r ∈ ckOf rs (64 * k), r.2.2.length ≤ 1048576 := fun r hr => hbs r (hmem r hr)
    have hcr : ∀ w9, Ext w w9 → RowsIn w9 (ckOf rs (64 * k)) := fun w9 h9 r hr => ⟨(hRs r (hmem r hr)).1.ext h9, (hRs r (hmem r hr)).2⟩
    have hXw : Ext w w' := hXb.trans hx'
    have hc6' : Cells w' g6 0 [.int .i64 v, .int .i64 p, .bool o] := hc6.ext hx'
    have hbit := wordC_bit (v := v) (p := p) (o := o) hg hk (ck := ckOf rs (64 * k)) (by omega)
    have hsame : ∀ i, 64 * k + i < rs.length → i < 64 → (wordC n outs v p o (ckOf rs (64 * k))).getLsbD i = B (64 * k + i) := fun i h1 h2 => by
      rw [hbit, ckOf_get rs h2, hB, decide_eq_true (by omega)]; rfl
    have honly : ∀ i, (wordC n outs v p o (ckOf rs (64 * k))).getLsbD i = true → 64 * k + i < rs.length ∧ i < 64 ∧ B (64 * k + i) = true := fun i hi => by
      have h0 := hi
      rw [hbit, Bool.and_eq_true] at h0
      have h1 := of_decide_eq_true h0.1
      exact ⟨by omega, by omega, by rw [← hsame i (by omega) (by omega)]; exact hi⟩
    have ew1 : (ckOf rs (64 * k)).length < 64 → fwords n outs v p o (pack (ckOf rs (64 * k))) &&& (BitVec.ofInt 64 1 <<< ((ckOf rs (64 * k)).length : Int).toNat - BitVec.ofInt 64 1) = wordC n outs v p o (ckOf rs (64 * k)) := fun h => by
      unfold wordC; rw [if_pos h, Int.toNat_natCast]; rfl
    have ew2 : ¬ (ckOf rs (64 * k)).length < 64 → fwords n outs v p o (pack (ckOf rs (64 * k))) = wordC n outs v p o (ckOf rs (64 * k)) := fun h => by
      unfold wordC; rw [if_neg h]
    by_cases h64 : (ckOf rs (64 * k)).length < 64
    · repeat' (first
        | (apply WL.uand; exact rfl; exact rfl; exact rfl; exact rfl; (first | exact rfl | exact u64_lit _ (by omega)); (first | exact rfl | exact u64_lit _ (by omega)))
        | (apply WL.ushl; exact rfl; exact rfl; exact rfl; exact rfl; (first | exact rfl | exact u64_lit _ (by omega)); omega)
        | (apply WL.usub; exact rfl; exact rfl; exact rfl; exact rfl; (first | exact rfl | exact u64_lit _ (by omega)); (first | exact rfl | exact u64_lit _ (by omega)))
        | (apply W.condKT; exact rfl; (focus (first | exact dec_true (by omega); done)))
        | (show W _ _ (.region 6 _ _) _ _ _; apply W.regionG (.fl true 0 (.fl true 1 (.fl true 3 (.fl false 2 (.br 4 (.br 5 (.fl true 6 .done) .stop) .stop))))) [4] (Ext w') tMix; kernel_rfl)
        | ((show WL _ _ _ (⟨_, .call ⟨.value (.func 36), _, _⟩, _, _, _, _⟩ :: _) _ _ _); apply WL.call; exact rfl; exact rfl; exact rfl; exact rfl; exact sim_Pack _ _ (ckOf rs (64 * k)) _ (hR.ext (by (exact extA))) hc (hcr _ (hXw.trans (by (exact extA)))) hckb; rintro v' w' ⟨hx, a', cap', rfl, hO⟩)
        | ((show WL _ _ _ (⟨_, .call ⟨.value (.func 35), _, _⟩, _, _, _, _⟩ :: _) _ _ _); apply WL.callP; exact rfl; exact rfl; exact rfl; exact rfl; exact fsim_Words _ _ _ _ _ _ n outs v p o (pack (ckOf rs (64 * k))) _ (R.ext (hXw.trans (by (exact extA)))) (Rb.ext (hXw.trans (by (exact extA)))) (Own.row encV_ok (by assumption)) hna hnb (Own.capLe (by assumption)) hg hn ho hv hk; intro w' hx)
        | (show WL _ _ _ _ _ _ _; first | apply WL.nil | (refine WL.au (k := ?_)))
        | (show SG _ _ _ _ _ _ _ _ _; first | apply SG.done | (apply SG.fl0; exact rfl) | (apply SG.fl1; exact rfl; (focus ((intro m; first | assumption | (apply Ext.at; (exact extA)) | apply But.of_at; first | exact But.upd (by assumption) | exact But.ext (by (exact extA)) | (refine But.trans ?_ (But.upd (by assumption)); exact But.ext (by (exact extA))) | exact But.at _ _ _); done))) | (apply SG.br1; exact rfl))
        | (show FL _ _ _ _ _ _ _ _; (apply FL.loadAE tOk; exact rfl; exact rfl; exact rfl; exact rfl; exact rfl; assumption; exact rfl))
        | (show FL _ _ _ _ _ _ _ _; first | apply FL.nilS | (refine FL.au (k := ?_)))
        | (show Z _ _ _ _ _; first | (apply Z.sgL; exact rfl) | (apply Z.sgE; (focus ((intro m; first | assumption | (apply Ext.at; (exact extA)) | apply But.of_at; first | exact But.upd (by assumption) | exact But.ext (by (exact extA)) | (refine But.trans ?_ (But.upd (by assumption)); exact But.ext (by (exact extA))) | exact But.at _ _ _); done))))
        | (show Z _ _ _ _ _; apply Z.then_normal)
        | (show W _ _ _ _ _ _; first | apply W.seq | apply W.region | apply W.block)
        | fail)
      rw [ew1 h64]
      rw [stF_start hsame] at hO'
      refine W.loop (σ := BitVec 64 × World) (fun s => (∀ i, s.1.getLsbD i = true → 64 * k + i < rs.length ∧ i < 64 ∧ B (64 * k + i) = true) ∧ Ext wb s.2 ∧ Own 1 encB 4 wb.heap.size s.2 (some ⟨g0, 0, none⟩) rs.length (tab rs.length (stF B (64 * k) s.1)))
        (fun s => [(0, .slice ra n.length cap), (1, .slice rb outs.length cb), (3, .slice rt rs.length ct), (6, .pointer (some ⟨g6, 0, none⟩)), (9, .slice (some ⟨g0, 0, none⟩) rs.length rs.length), (10, .int .i64 ((64 * k : Nat) : Int)), (12, u64 s.1)]) (fun s => s.2) (fun s => s.1.toNat) (wordC n outs v p o (ckOf rs (64 * k)), _) ⟨honly, hx'.trans (by (exact extA)), hO'.ext (by (exact extA))⟩ (by repeat' first | exact trivial | (refine And.intro ?_ ?_) | exact rfl) rfl ?_
      clear hO'
      rintro ⟨wd, w5⟩ ⟨hbits, hx5, hO5⟩
      dsimp only at hbits hx5 hO5 ⊢
      by_cases hz : wd = 0#64
      · subst hz
        repeat' (first
          | (apply W.condKF; exact rfl; (focus (first | exact dec_false (by simp); done)))
          | (show WL _ _ _ _ _ _ _; first | apply WL.nil | (refine WL.au (k := ?_)))
          | (show Z _ _ _ _ _; first | apply Z.then_normal | apply Z.block_normal | apply Z.then_exit | apply Z.block_exit)
          | (show W _ _ _ _ _ _; first | apply W.seq | apply W.region | apply W.exit)
          | fail)
        rw [stF_end] at hO5
        exact Z.againW ⟨by omega, hx5, hO5⟩ ⟨rfl, rfl, rfl, rfl, rfl, rfl, trivial⟩
      · have hz' : ((wd.toNat : Nat) : Int) ≠ 0 := fun e => hz (BitVec.eq_of_toNat_eq (by simpa using e))
        obtain ⟨q, hq⟩ := exists_low hz
        obtain ⟨hq1, hq2, hq3⟩ := hbits q hq.2.1
        have hl5 : (tab rs.length (stF B (64 * k) wd)).length = rs.length := tab_len _ _
        have hi5 : (tab rs.length (stF B (64 * k) wd))[(((64 * k : Nat) : Int) + (q : Int)).toNat]? = some (stF B (64 * k) wd (64 * k + q)) := by
          rw [show (((64 * k : Nat) : Int) + (q : Int)).toNat = 64 * k + q by omega]; exact tab_get _ hq1
        repeat' (first
          | (apply W.condKT; exact rfl; (focus (first | exact dec_true hz'; done)))
          | ((show WL _ _ _ (⟨_, .call ⟨.value (.func 37), _, _⟩, _, _, _, _⟩ :: _) _ _ _); apply WL.callS; exact rfl; exact rfl; exact rfl; exact rfl; exact bits_Trail wd q hq _ ((hT.ext hXb).ext (hx5.trans (by (exact extA)))))
          | (apply WL.usub; exact rfl; exact rfl; exact rfl; exact rfl; (first | exact rfl | exact u64_lit _ (by omega)); (first | exact rfl | exact u64_lit _ (by omega)))
          | (apply WL.uand; exact rfl; exact rfl; exact rfl; exact rfl; (first | exact rfl | exact u64_lit _ (by omega)); (first | exact rfl | exact u64_lit _ (by omega)))
          | (apply WL.indexO tOk; exact rfl; exact rfl; exact rfl; exact rfl; exact rfl; exact rfl; exact rfl; exact rfl; assumption; (exact extA); exact encB_ok; (first | exact rfl | (focus (simp only [List.length_set]; done)) | (focus (simp; done)) | (focus (simp [*]; done)) | omega | (focus (simp only [List.length_set]; omega))); omega; assumption; intro gb ha hc; cases ha; have hcc := hc; first | (obtain ⟨h1, h2, h3, _⟩ := hc) | (obtain ⟨h1, h2, _⟩ := hc) | (obtain ⟨h1, _⟩ := hc))
          | (apply WL.storeO tOk; exact rfl; exact rfl; exact rfl; exact rfl; assumption; (exact extA); exact rfl; exact rfl; exact rfl; exact encB_ok; assumption; exact rfl; (exact extA); intro w' hO hX' hU)
          | (show WL _ _ _ _ _ _ _; first | apply WL.nil | (refine WL.au (k := ?_)))
          | (show Z _ _ _ _ _; first | apply Z.then_normal | apply Z.block_normal)
          | (show W _ _ _ _ _ _; first | apply W.seq | apply W.region | apply W.block | apply W.skip)
          | fail)
        rw [show (((64 * k : Nat) : Int) + (q : Int)).toNat = 64 * k + q by omega, stF_set hq hq3] at hO
        exact Z.again (wd &&& (wd - 1#64), _) ⟨fun i hi => hbits i (by rw [clear_low hq, Bool.and_eq_true] at hi; exact hi.1), (by (exact extA)), hO⟩ (clear_less hz) ⟨rfl, rfl, rfl, rfl, rfl, rfl, rfl, trivial⟩ rfl
    · repeat' (first
        | (apply W.condKF; exact rfl; (focus (first | exact dec_false (by omega); done)))
        | (show W _ _ (.region 6 _ _) _ _ _; apply W.regionG (.fl true 0 (.fl true 1 (.fl true 3 (.fl false 2 (.br 4 (.br 5 (.fl true 6 .done) .stop) .stop))))) [4] (Ext w') tMix; kernel_rfl)
        | ((show WL _ _ _ (⟨_, .call ⟨.value (.func 36), _, _⟩, _, _, _, _⟩ :: _) _ _ _); apply WL.call; exact rfl; exact rfl; exact rfl; exact rfl; exact sim_Pack _ _ (ckOf rs (64 * k)) _ (hR.ext (by (exact extA))) hc (hcr _ (hXw.trans (by (exact extA)))) hckb; rintro v' w' ⟨hx, a', cap', rfl, hO⟩)
        | ((show WL _ _ _ (⟨_, .call ⟨.value (.func 35), _, _⟩, _, _, _, _⟩ :: _) _ _ _); apply WL.callP; exact rfl; exact rfl; exact rfl; exact rfl; exact fsim_Words _ _ _ _ _ _ n outs v p o (pack (ckOf rs (64 * k))) _ (R.ext (hXw.trans (by (exact extA)))) (Rb.ext (hXw.trans (by (exact extA)))) (Own.row encV_ok (by assumption)) hna hnb (Own.capLe (by assumption)) hg hn ho hv hk; intro w' hx)
        | (show WL _ _ _ _ _ _ _; first | apply WL.nil | (refine WL.au (k := ?_)))
        | (show SG _ _ _ _ _ _ _ _ _; first | apply SG.done | (apply SG.fl0; exact rfl) | (apply SG.fl1; exact rfl; (focus ((intro m; first | assumption | (apply Ext.at; (exact extA)) | apply But.of_at; first | exact But.upd (by assumption) | exact But.ext (by (exact extA)) | (refine But.trans ?_ (But.upd (by assumption)); exact But.ext (by (exact extA))) | exact But.at _ _ _); done))) | (apply SG.br1; exact rfl))
        | (show FL _ _ _ _ _ _ _ _; (apply FL.loadAE tOk; exact rfl; exact rfl; exact rfl; exact rfl; exact rfl; assumption; exact rfl))
        | (show FL _ _ _ _ _ _ _ _; first | apply FL.nilS | (refine FL.au (k := ?_)))
        | (show Z _ _ _ _ _; first | (apply Z.sgL; exact rfl) | (apply Z.sgE; (focus ((intro m; first | assumption | (apply Ext.at; (exact extA)) | apply But.of_at; first | exact But.upd (by assumption) | exact But.ext (by (exact extA)) | (refine But.trans ?_ (But.upd (by assumption)); exact But.ext (by (exact extA))) | exact But.at _ _ _); done))))
        | (show Z _ _ _ _ _; apply Z.then_normal)
        | (show W _ _ _ _ _ _; first | apply W.seq | apply W.region | apply W.block | apply W.skip)
        | fail)
      rw [ew2 h64]
      rw [stF_start hsame] at hO'
      refine W.loop (σ := BitVec 64 × World) (fun s => (∀ i, s.1.getLsbD i = true → 64 * k + i < rs.length ∧ i < 64 ∧ B (64 * k + i) = true) ∧ Ext wb s.2 ∧ Own 1 encB 4 wb.heap.size s.2 (some ⟨g0, 0, none⟩) rs.length (tab rs.length (stF B (64 * k) s.1)))
        (fun s => [(0, .slice ra n.length cap), (1, .slice rb outs.length cb), (3, .slice rt rs.length ct), (6, .pointer (some ⟨g6, 0, none⟩)), (9, .slice (some ⟨g0, 0, none⟩) rs.length rs.length), (10, .int .i64 ((64 * k : Nat) : Int)), (12, u64 s.1)]) (fun s => s.2) (fun s => s.1.toNat) (wordC n outs v p o (ckOf rs (64 * k)), _) ⟨honly, hx'.trans (by (exact extA)), hO'.ext (by (exact extA))⟩ (by repeat' first | exact trivial | (refine And.intro ?_ ?_) | exact rfl) rfl ?_
      clear hO'
      rintro ⟨wd, w5⟩ ⟨hbits, hx5, hO5⟩
      dsimp only at hbits hx5 hO5 ⊢
      by_cases hz : wd = 0#64
      · subst hz
        repeat' (first
          | (apply W.condKF; exact rfl; (focus (first | exact dec_false (by simp); done)))
          | (show WL _ _ _ _ _ _ _; first | apply WL.nil | (refine WL.au (k := ?_)))
          | (show Z _ _ _ _ _; first | apply Z.then_normal | apply Z.block_normal | apply Z.then_exit | apply Z.block_exit)
          | (show W _ _ _ _ _ _; first | apply W.seq | apply W.region | apply W.exit)
          | fail)
        rw [stF_end] at hO5
        exact Z.againW ⟨by omega, hx5, hO5⟩ ⟨rfl, rfl, rfl, rfl, rfl, rfl, trivial⟩
      · have hz' : ((wd.toNat : Nat) : Int) ≠ 0 := fun e => hz (BitVec.eq_of_toNat_eq (by simpa using e))
        obtain ⟨q, hq⟩ := exists_low hz
        obtain ⟨hq1, hq2, hq3⟩ := hbits q hq.2.1
        have hl5 : (tab rs.length (stF B (64 * k) wd)).length = rs.length := tab_len _ _
        have hi5 : (tab rs.length (stF B (64 * k) wd))[(((64 * k : Nat) : Int) + (q : Int)).toNat]? = some (stF B (64 * k) wd (64 * k + q)) := by
          rw [show (((64 * k : Nat) : Int) + (q : Int)).toNat = 64 * k + q by omega]; exact tab_get _ hq1
        repeat' (first
          | (apply W.condKT; exact rfl; (focus (first | exact dec_true hz'; done)))
          | ((show WL _ _ _ (⟨_, .call ⟨.value (.func 37), _, _⟩, _, _, _, _⟩ :: _) _ _ _); apply WL.callS; exact rfl; exact rfl; exact rfl; exact rfl; exact bits_Trail wd q hq _ ((hT.ext hXb).ext (hx5.trans (by (exact extA)))))
          | (apply WL.usub; exact rfl; exact rfl; exact rfl; exact rfl; (first | exact rfl | exact u64_lit _ (by omega)); (first | exact rfl | exact u64_lit _ (by omega)))
          | (apply WL.uand; exact rfl; exact rfl; exact rfl; exact rfl; (first | exact rfl | exact u64_lit _ (by omega)); (first | exact rfl | exact u64_lit _ (by omega)))
          | (apply WL.indexO tOk; exact rfl; exact rfl; exact rfl; exact rfl; exact rfl; exact rfl; exact rfl; exact rfl; assumption; (exact extA); exact encB_ok; (first | exact rfl | (focus (simp only [List.length_set]; done)) | (focus (simp; done)) | (focus (simp [*]; done)) | omega | (focus (simp only [List.length_set]; omega))); omega; assumption; intro gb ha hc; cases ha; have hcc := hc; first | (obtain ⟨h1, h2, h3, _⟩ := hc) | (obtain ⟨h1, h2, _⟩ := hc) | (obtain ⟨h1, _⟩ := hc))
          | (apply WL.storeO tOk; exact rfl; exact rfl; exact rfl; exact rfl; assumption; (exact extA); exact rfl; exact rfl; exact rfl; exact encB_ok; assumption; exact rfl; (exact extA); intro w' hO hX' hU)
          | (show WL _ _ _ _ _ _ _; first | apply WL.nil | (refine WL.au (k := ?_)))
          | (show Z _ _ _ _ _; first | apply Z.then_normal | apply Z.block_normal)
          | (show W _ _ _ _ _ _; first | apply W.seq | apply W.region | apply W.block | apply W.skip)
          | fail)
        rw [show (((64 * k : Nat) : Int) + (q : Int)).toNat = 64 * k + q by omega, stF_set hq hq3] at hO
        exact Z.again (wd &&& (wd - 1#64), _) ⟨fun i hi => hbits i (by rw [clear_low hq, Bool.and_eq_true] at hi; exact hi.1), (by (exact extA)), hO⟩ (clear_less hz) ⟨rfl, rfl, rfl, rfl, rfl, rfl, rfl, trivial⟩ rfl
  · repeat' (first
      | (apply W.condKF; exact rfl; (focus (first | exact dec_false (by omega); done)))
      | (show WL _ _ _ _ _ _ _; first | apply WL.nil | (refine WL.au (k := ?_)))
      | (show Z _ _ _ _ _; first | apply Z.then_normal | apply Z.then_exit | apply Z.block_exit)
      | (show W _ _ _ _ _ _; first | apply W.seq | apply W.region | apply W.ret | apply W.exit)
      | fail)
    rw [all_done B (by omega), hB, tab_map (dB n outs v p o) rs (none, 0, [])] at hO'
    exact Z.body1 Tryd.results29 rfl fun m => ⟨Ext.at (by (exact extA)) m, _, rs.length, by rw [List.length_map], hO'.base hXb.size⟩
end Go.Proofs.YtlcenenkloicjaaDoor
namespace Go.Proofs.YtlcenenkloicjaaDoor
open Go Go.Lt Go.RowKit
set_option linter.unusedVariables false
set_option linter.unusedSimpArgs false
set_option maxRecDepth 20000

abbrev live45 : List (Int × Int) := [(-1, 0), (-1, 0), (2, 4)]
theorem good45 : GoodNet live45 := by
  intro i x h
  match i, h with
  | 0, h => cases h; unfold badNode; decide
  | 1, h => cases h; unfold badNode; decide
  | 2, h => cases h; unfold badNode; decide
theorem d45a : detP live45 [6] 3 0 false [true, true] := ⟨by unfold goodF; decide, by decide⟩
theorem d45b : ¬ detP live45 [6] 3 0 false [false, true] := fun h => h.2 (by decide)
theorem d45c : detP live45 [6] 1 0 true [false, true] := ⟨by unfold goodF; decide, by decide⟩
theorem k45 : ∀ l ∈ [(6 : Int)], 0 ≤ l ∧ l ≤ 2 * ((live45.length : Nat) : Int) + 1 := fun l h => by simp at h; subst h; decide
set_option maxHeartbeats 4000000 in
theorem lives45 (w : World) : Pure Tryd.prog 14 [] w (.bool true) := by
  refine Spec.of _ Tryd.func14 rfl Tryd.ntmps14 (by kernel_rfl) rfl ?_
  repeat' (first
    | (apply WL.build tOk; exact rfl; exact rfl; exact rfl; exact rfl; exact rfl; exact rfl; exact rfl; kernel_rfl)
    | (apply WL.lit tOk; exact rfl; exact rfl; exact rfl; exact rfl; exact rfl; exact rfl; (first | exact rfl | kernel_rfl | (simp [Instr.fill, catCells]; done)); exact rfl; intro gb w' hb hge hc hx; have hO := Own.of_block (live45) encN_ok hb hge rfl)
    | (show WL _ _ _ _ _ _ _; first | apply WL.nil | (refine WL.au (k := ?_)))
    | (show Z _ _ _ _ _; apply Z.then_normal)
    | (show W _ _ _ _ _ _; first | apply W.seq | apply W.region)
    | fail)
  have Rn := Own.row encN_ok hO
  have hx1 := hx
  obtain ⟨g1, rfl⟩ : ∃ x, x = gb := ⟨_, rfl⟩; obtain ⟨w1, rfl⟩ : ∃ x, x = w' := ⟨_, rfl⟩
  repeat' (first
    | (apply WL.lit tOk; exact rfl; exact rfl; exact rfl; exact rfl; exact rfl; exact rfl; (first | exact rfl | kernel_rfl | (simp [Instr.fill, catCells]; done)); exact rfl; intro gb w' hb hge hc hx; have hO := Own.of_block ([(6 : Int)]) encI_ok hb hge rfl)
    | (show WL _ _ _ _ _ _ _; first | apply WL.nil | (refine WL.au (k := ?_)))
    | (show Z _ _ _ _ _; apply Z.then_normal)
    | (show W _ _ _ _ _ _; first | apply W.seq | apply W.region)
    | fail)
  have Ro := Own.row encI_ok hO
  have hx2 : Ext w1 w' := (by (exact extA))
  have Rn2 := Rn.ext hx2
  have hxw : Ext w w' := hx1.trans hx2
  obtain ⟨g2, rfl⟩ : ∃ x, x = gb := ⟨_, rfl⟩; obtain ⟨w2, rfl⟩ : ∃ x, x = w' := ⟨_, rfl⟩
  repeat' (first
    | (apply WL.build tOk; exact rfl; exact rfl; exact rfl; exact rfl; exact rfl; exact rfl; exact rfl; kernel_rfl)
    | (apply WL.lit tOk; exact rfl; exact rfl; exact rfl; exact rfl; exact rfl; exact rfl; (first | exact rfl | kernel_rfl | (simp [Instr.fill, catCells]; done)); exact rfl; intro gb w' hb hge hc hx; have hO := Own.of_block ([true, true]) encB_ok hb hge rfl)
    | (apply WL.lit tOk; exact rfl; exact rfl; exact rfl; exact rfl; exact rfl; exact rfl; (first | exact rfl | kernel_rfl | (simp [Instr.fill, catCells]; done)); exact rfl; intro gb w' hb hge hc hx; have hO := Own.of_block ([false, true]) encB_ok hb hge rfl)
    | ((show WL _ _ _ (⟨_, .call ⟨.value (.func 27), _, _⟩, _, _, _, _⟩ :: _) _ _ _); apply WL.callP; exact rfl; exact rfl; exact rfl; exact rfl; exact fsim_Detects _ _ _ _ _ _ live45 [6] 3 0 false [true, true] _ (Rn2.ext (by (exact extA))) (Ro.ext (by (exact extA))) (Own.row encB_ok (by assumption)) (fun h => by cases h) (fun h => by cases h) (Nat.le_refl _) (by decide) good45 (by decide) (by decide) ⟨by decide, by decide⟩ k45; intro w' hx)
    | ((show WL _ _ _ (⟨_, .call ⟨.value (.func 27), _, _⟩, _, _, _, _⟩ :: _) _ _ _); apply WL.callP; exact rfl; exact rfl; exact rfl; exact rfl; exact fsim_Detects _ _ _ _ _ _ live45 [6] 3 0 false [false, true] _ (Rn2.ext (by (exact extA))) (Ro.ext (by (exact extA))) (Own.row encB_ok (by assumption)) (fun h => by cases h) (fun h => by cases h) (Nat.le_refl _) (by decide) good45 (by decide) (by decide) ⟨by decide, by decide⟩ k45; intro w' hx)
    | ((show WL _ _ _ (⟨_, .call ⟨.value (.func 27), _, _⟩, _, _, _, _⟩ :: _) _ _ _); apply WL.callP; exact rfl; exact rfl; exact rfl; exact rfl; exact fsim_Detects _ _ _ _ _ _ live45 [6] 1 0 true [false, true] _ (Rn2.ext (by (exact extA))) (Ro.ext (by (exact extA))) (Own.row encB_ok (by assumption)) (fun h => by cases h) (fun h => by cases h) (Nat.le_refl _) (by decide) good45 (by decide) (by decide) ⟨by decide, by decide⟩ k45; intro w' hx)
    | (apply WL.gT; exact rfl; exact rfl; (focus (first | exact dec_true d45a | (rw [dec_false d45b]; rfl) | exact dec_true d45c; done)))
    | (show WL _ _ _ _ _ _ _; first | apply WL.nil | (refine WL.au (k := ?_)))
    | (show Z _ _ _ _ _; apply Z.then_normal)
    | (show W _ _ _ _ _ _; apply W.ret)
    | fail)
  all_goals exact Z.body1 Tryd.results14 rfl fun m => ⟨congrArg Value.bool (by first | rfl | exact dec_true d45c), Ext.at (by (exact extA)) m⟩

end Go.Proofs.YtlcenenkloicjaaDoor
namespace Go.Proofs.YtlcenenkloicjaaDoor
open Go Go.Lt Go.RowKit
set_option linter.unusedVariables false
set_option linter.unusedSimpArgs false
set_option maxRecDepth 20000

/-- The place of the first that is so, counted from k on; -1 if there is none. -/
def fstF : List Bool → Nat → Int
  | [], _ => -1
  | b :: r, k => if b = true then (k : Int) else fstF r (k + 1)
theorem fstF_drop {l : List Bool} : ∀ {k : Nat}, k ≤ l.length → (∀ i, i < k → l[i]? = some false) → fstF l 0 = fstF (l.drop k) k
  | 0, _, _ => rfl
  | k + 1, hk, h => by
    rw [fstF_drop (k := k) (by omega) (fun i hi => h i (by omega)), List.drop_eq_getElem_cons (by omega)]
    have := h k (by omega)
    rw [List.getElem?_eq_getElem (by omega)] at this
    rw [Option.some.inj this, fstF, if_neg (by simp)]
theorem fstF_at {l : List Bool} {k : Nat} (h : ∀ i, i < k → l[i]? = some false) (hk : l[k]? = some true) : fstF l 0 = k := by
  have hl := (List.getElem?_eq_some_iff.1 hk).1
  rw [fstF_drop (k := k) (by omega) h, List.drop_eq_getElem_cons hl, (List.getElem?_eq_some_iff.1 hk).2, fstF, if_pos rfl]
theorem fstF_no {l : List Bool} (h : ∀ i, i < l.length → l[i]? = some false) : fstF l 0 = -1 := by
  rw [fstF_drop (k := l.length) (Nat.le_refl _) h, List.drop_length]; rfl
theorem slices_IndexB (a : Option Addr) (cap : Nat) (l : List Bool) (w : World) (R : Row 1 encB w a l) : Still Tryd.prog 28 [.slice a l.length cap, .bool true] w (.int .i64 (fstF l 0)) := by
  have hl := R.len
  refine Spec.of _ Tryd.func28 rfl Tryd.ntmps28 (by kernel_rfl) rfl ?_
  repeat' (first
    | (show WL _ _ _ _ _ _ _; first | apply WL.nil | (refine WL.au (k := ?_)))
    | (show Z _ _ _ _ _; apply Z.then_normal)
    | (show W _ _ _ _ _ _; first | apply W.seq | apply W.region | apply W.block)
    | fail)
  refine W.loop1 l.length (fun k => k ≤ l.length ∧ ∀ i, i < k → l[i]? = some false) (fun k => [(0, .slice a l.length cap), (1, .bool true), (7, .int .i64 (l.length : Nat)), (8, .int .i64 k)]) ⟨by omega, fun i h => by omega⟩ (fun k h => h.1) ⟨rfl, rfl, rfl, rfl, trivial⟩ ?_
  rintro k ⟨hk, hf⟩
  by_cases hlt : k < l.length
  · obtain ⟨x, hx⟩ := getI l hlt
    cases x with
    | true =>
      repeat' (first
        | (apply W.condKT; exact rfl; (focus (first | exact dec_true (by omega) | exact dec_true rfl; done)))
        | (show WL _ _ _ _ _ _ _; first | apply WL.nil | (refine WL.au (k := ?_)) | (apply WL.index tOk; exact rfl; exact rfl; exact rfl; exact rfl; exact rfl; exact rfl; exact rfl; exact rfl; assumption; (exact extA); exact rfl; omega; assumption; intro b off h; have hcc := h; first | (obtain ⟨h1, h2, h3, h4, h5, h6, _⟩ := h) | (obtain ⟨h1, h2, h3, _⟩ := h) | (obtain ⟨h1, h2, _⟩ := h) | (obtain ⟨h1, _⟩ := h)))
        | (show Z _ _ _ _ _; first | apply Z.then_normal | apply Z.then_ret | apply Z.block_ret)
        | (show W _ _ _ _ _ _; first | apply W.seq | apply W.region | apply W.block | apply W.skip | apply W.ret)
        | fail)
      exact Z.body1 Tryd.results28 rfl fun m => ⟨by rw [fstF_at hf hx], m, rfl⟩
    | false =>
      repeat' (first
        | (apply W.condKT; exact rfl; (focus (first | exact dec_true (by omega) | exact dec_false (by simp); done)))
        | (apply W.condKF; exact rfl; (focus (first | exact dec_true (by omega) | exact dec_false (by simp); done)))
        | (show WL _ _ _ _ _ _ _; first | apply WL.nil | (refine WL.au (k := ?_)) | (apply WL.index tOk; exact rfl; exact rfl; exact rfl; exact rfl; exact rfl; exact rfl; exact rfl; exact rfl; assumption; (exact extA); exact rfl; omega; assumption; intro b off h; have hcc := h; first | (obtain ⟨h1, h2, h3, h4, h5, h6, _⟩ := h) | (obtain ⟨h1, h2, h3, _⟩ := h) | (obtain ⟨h1, h2, _⟩ := h) | (obtain ⟨h1, _⟩ := h)))
        | (show Z _ _ _ _ _; first | apply Z.then_normal | apply Z.block_normal)
        | (show W _ _ _ _ _ _; first | apply W.seq | apply W.region | apply W.block | apply W.skip)
        | fail)
      exact Z.again1 ⟨by omega, fun i hi => (by
        by_cases h : i < k
        · exact hf i h
        · obtain rfl : i = k := by omega
          exact hx)⟩ ⟨rfl, rfl, rfl, rfl, trivial⟩
  · obtain rfl : k = l.length := by omega
    repeat' (first
      | (apply W.condKF; exact rfl; (focus (first | exact dec_false (by omega); done)))
      | (show WL _ _ _ _ _ _ _; first | apply WL.nil | (refine WL.au (k := ?_)))
      | (show Z _ _ _ _ _; first | apply Z.then_normal | apply Z.then_exit | apply Z.block_exit)
      | (show W _ _ _ _ _ _; first | apply W.seq | apply W.region | apply W.ret | apply W.exit)
      | fail)
    exact Z.body1 Tryd.results28 rfl fun m => ⟨by rw [fstF_no hf], m, rfl⟩

abbrev F3 := Int × Int × Bool
abbrev encF3 : F3 → List Value := fun x => [.int .i64 x.1, .int .i64 x.2.1, .bool x.2.2]
/-- Which tests show a fault; the first that does. -/
noncomputable def shF (n : List (Int × Int)) (outs : List Int) (rs : List BRow) (f : F3) : List Bool := rs.map (dB n outs f.1 f.2.1 f.2.2)
noncomputable def fiF (n : List (Int × Int)) (outs : List Int) (rs : List BRow) (f : F3) : Int := fstF (shF n outs rs f) 0
/-- Those of the first k told. -/
def fillZ {α : Type} (g : α → Int) (z : α) (l : List α) (k : Nat) : List Int := tab l.length (fun u => if u < k then g (l.getD u z) else 0)
theorem fillZ_len {α : Type} (g : α → Int) (z : α) (l : List α) (k : Nat) : (fillZ g z l k).length = l.length := tab_len _ _
theorem fillZ_zero {α : Type} (g : α → Int) (z : α) (l : List α) : List.replicate l.length (0 : Int) = fillZ g z l 0 := by rw [tab_rep]; exact tab_congr fun u hu => (if_neg (by omega)).symm
theorem fillZ_get {α : Type} (g : α → Int) (z : α) {l : List α} {k : Nat} (h : k < l.length) : (fillZ g z l k)[k]? = some 0 := by rw [fillZ, tab_get _ h, if_neg (by omega)]
theorem fillZ_set {α : Type} (g : α → Int) (z : α) {l : List α} {k : Nat} {x : α} (h : l[k]? = some x) : (fillZ g z l k).set k (g x) = fillZ g z l (k + 1) := by
  refine tab_set fun u hu => ?_
  by_cases hk : u = k
  · subst hk; rw [if_pos rfl, if_pos (by omega), getD_of h]
  · rw [if_neg hk]
    by_cases h1 : u < k
    · rw [if_pos h1, if_pos (by omega)]
    · rw [if_neg h1, if_neg (by omega)]
theorem fillZ_all {α : Type} (g : α → Int) (z : α) (l : List α) : fillZ g z l l.length = l.map g := by
  rw [← tab_map g l z]
  exact tab_congr fun u hu => if_pos hu

set_option maxHeartbeats 4000000 in
theorem fsim_First (ra rb rf rt : Option Addr) (cap cb cf ct : Nat) (n : List (Int × Int)) (outs : List Int) (fs : List F3) (rs : List BRow) (w : World) (R : Row 2 encN w ra n) (Rb : Row 1 encI w rb outs) (Rf : Row 3 encF3 w rf fs) (Rt : Row 1 encR w rt rs) (hna : ra = none → cap = 0) (hnb : rb = none → cb = 0) (hct : rs.length ≤ ct) (hRs : RowsIn w rs) (hbs : ∀ r ∈ rs, r.2.2.length ≤ 1048576) (hnt : rs.length ≤ 1048576) (hnf : fs.length ≤ 1048576) (hg : GoodNet n) (hn : n.length ≤ 1048576) (ho : outs.length ≤ 1048576) (hv : ∀ f ∈ fs, inI64 f.1) (hk : ∀ l ∈ outs, 0 ≤ l ∧ l ≤ 2 * (n.length : Int) + 1) (hT : Cells w 1 0 tzW) :
    Lt.Spec Tryd.prog 15 [.slice ra n.length cap, .slice rb outs.length cb, .slice rf fs.length cf, .slice rt rs.length ct] w (IsFresh 1 encI 3 w (fs.map (fiF n outs rs))) := by
  refine Spec.of _ Tryd.func15 rfl Tryd.ntmps15 (by kernel_rfl) rfl ?_
  repeat' (first
    | (apply WL.make (w0 := w) tOk; exact rfl; exact rfl; exact rfl; exact rfl; exact rfl; exact rfl; exact rfl; exact rfl; exact rfl; exact encI_ok; exact rfl; exact rfl; (exact extA); (first | omega | (simp; omega) | (simp at *; omega)); intro gb w' hO hge hx)
    | (show WL _ _ _ _ _ _ _; first | apply WL.nil | (refine WL.au (k := ?_)))
    | (show Z _ _ _ _ _; apply Z.then_normal)
    | (show W _ _ _ _ _ _; first | apply W.seq | apply W.region | apply W.block)
    | fail)
  have en : ((fs.length : Nat) : Int).toNat = fs.length := Int.toNat_natCast _
  have e0l : (List.replicate fs.length (0 : Int)).length = fs.length := List.length_replicate
  rw [en] at hO ⊢
  rw [fillZ_zero (fiF n outs rs) (0, 0, false)] at hO
  obtain ⟨g0, rfl⟩ : ∃ x, x = gb := ⟨_, rfl⟩
  refine W.loopW fs.length (fun k w' => k ≤ fs.length ∧ Ext w w' ∧ Own 1 encI 3 w.heap.size w' (some ⟨g0, 0, none⟩) fs.length (fillZ (fiF n outs rs) (0, 0, false) fs k))
    (fun k => [(0, .slice ra n.length cap), (1, .slice rb outs.length cb), (3, .slice rt rs.length ct), (9, .slice (some ⟨g0, 0, none⟩) fs.length fs.length), (15, .slice rf fs.length cf), (16, .int .i64 (fs.length : Nat)), (17, .int .i64 k)]) ⟨by omega, hx, hO⟩ (fun k w' h => h.1) (by repeat' first | exact trivial | (refine And.intro ?_ ?_) | exact rfl | (rw [e0l]; exact rfl)) ?_
  clear hO
  rintro k w' ⟨hkb, hx', hO'⟩
  have hfl := fillZ_len (fiF n outs rs) (0, 0, false) fs k
  by_cases hlt : k < fs.length
  · obtain ⟨f, hf⟩ := getI fs hlt
    have hz := fillZ_get (fiF n outs rs) (0, 0, false) hlt
    have R1 := R.ext hx'
    have Rf1 := Rf.ext hx'
    obtain ⟨wk, rfl⟩ : ∃ x, x = w' := ⟨_, rfl⟩
    have hXk : Ext w wk := hx'
    have hbR : ∀ w9, Ext w w9 → RowsIn w9 rs := fun w9 h9 r hr => ⟨(hRs r hr).1.ext h9, (hRs r hr).2⟩
    have hshl : (shF n outs rs f).length ≤ 9223372036854775807 := by unfold shF; rw [List.length_map]; omega
    have hvf := hv f (List.mem_of_getElem? hf)
    repeat' (first
      | (apply W.condKT; exact rfl; (focus (first | exact dec_true (by omega); done)))
      | (apply WL.alloc tOk; exact rfl; exact rfl; exact rfl; intro gb w' hb hge hx)
      | (apply WL.storeB (w0 := wk) tOk; exact rfl; exact rfl; exact rfl; exact rfl; assumption; (exact extA); exact rfl; exact rfl; exact rfl; (exact extA); (first | assumption | omega | (focus (apply Nat.le_trans; rotate_left; assumption; exact Below.size (by (exact extA)); done))); intro w' hb hc hX' hU; have hcc := hc; obtain ⟨h1, h2, _⟩ := hc)
      | ((show WL _ _ _ (⟨_, .call ⟨.value (.func 29), _, _⟩, _, _, _, _⟩ :: _) _ _ _); apply WL.call; exact rfl; exact rfl; exact rfl; exact rfl; exact fsim_shows _ _ _ _ _ _ n outs f.1 f.2.1 f.2.2 rs _ (R.ext (hXk.trans (by (exact extA)))) (Rb.ext (hXk.trans (by (exact extA)))) (Rt.ext (hXk.trans (by (exact extA)))) hna hnb hct (hbR _ (hXk.trans (by (exact extA)))) hbs hnt hg hn ho hvf hk (hT.ext (hXk.trans (by (exact extA)))); rintro v' w' ⟨hx, a', cap', rfl, hO⟩)
      | ((show WL _ _ _ (⟨_, .call ⟨.value (.func 28), _, _⟩, _, _, _, _⟩ :: _) _ _ _); apply WL.callS; exact rfl; exact rfl; exact rfl; exact rfl; exact slices_IndexB _ _ (rs.map (dB n outs f.1 f.2.1 f.2.2)) _ (Own.row encB_ok (by assumption)); (clear hO))
      | (apply WL.indexO tOk; exact rfl; exact rfl; exact rfl; exact rfl; exact rfl; exact rfl; exact rfl; exact rfl; assumption; (exact extA); exact encI_ok; (first | exact rfl | (focus (simp only [List.length_set]; done)) | (focus (simp; done)) | (focus (simp [*]; done)) | omega | (focus (simp only [List.length_set]; omega))); omega; assumption; intro gb ha hc; cases ha; have hcc := hc; first | (obtain ⟨h1, h2, h3, _⟩ := hc) | (obtain ⟨h1, h2, _⟩ := hc) | (obtain ⟨h1, _⟩ := hc))
      | (apply WL.storeO tOk; exact rfl; exact rfl; exact rfl; exact rfl; assumption; (exact extA); exact rfl; exact rfl; exact rfl; exact encI_ok; assumption; exact rfl; (exact extA); intro w' hO hX' hU)
      | (show WL _ _ _ _ _ _ _; first | apply WL.nil | (refine WL.au (k := ?_)) | (apply WL.index tOk; exact rfl; exact rfl; exact rfl; exact rfl; exact rfl; exact rfl; exact rfl; exact rfl; assumption; (exact extA); exact rfl; omega; assumption; intro b off h; have hcc := h; first | (obtain ⟨h1, h2, h3, h4, h5, h6, _⟩ := h) | (obtain ⟨h1, h2, h3, _⟩ := h) | (obtain ⟨h1, h2, _⟩ := h) | (obtain ⟨h1, _⟩ := h)))
      | (show Z _ _ _ _ _; first | apply Z.then_normal | apply Z.block_normal)
      | (show W _ _ _ _ _ _; first | apply W.seq | apply W.region | apply W.block | apply W.skip)
      | fail)
    rw [Int.toNat_natCast, show fstF (rs.map (dB n outs f.1 f.2.1 f.2.2)) 0 = fiF n outs rs f from rfl, fillZ_set _ _ hf] at hO
    exact Z.againW ⟨by omega, (by (exact extA)), hO⟩ ⟨rfl, rfl, rfl, rfl, rfl, rfl, rfl, trivial⟩
  · obtain rfl : k = fs.length := by omega
    rw [fillZ_all] at hO'
    repeat' (first
      | (apply W.condKF; exact rfl; (focus (first | exact dec_false (by omega); done)))
      | (show WL _ _ _ _ _ _ _; first | apply WL.nil | (refine WL.au (k := ?_)))
      | (show Z _ _ _ _ _; first | apply Z.then_normal | apply Z.then_exit | apply Z.block_exit)
      | (show W _ _ _ _ _ _; first | apply W.seq | apply W.region | apply W.ret | apply W.exit)
      | fail)
    exact Z.body1 Tryd.results15 rfl fun m => ⟨Ext.at (by (exact extA)) m, _, fs.length, by rw [List.length_map], hO'⟩

/-- The first so far: behind the k-th. -/
def atF (l : List Bool) : Nat → Int
  | 0 => -1
  | k + 1 => if l[k]? = some true then (k : Int) else -1
set_option maxHeartbeats 4000000 in
theorem ref45_First (ra rb rf rt : Option Addr) (cap cb cf ct : Nat) (n : List (Int × Int)) (outs : List Int) (fs : List F3) (rs : List BRow) (w : World) (R : Row 2 encN w ra n) (Rb : Row 1 encI w rb outs) (Rf : Row 3 encF3 w rf fs) (Rt : Row 1 encR w rt rs) (hRs : RowsIn w rs) (hnf : fs.length ≤ 1048576) (hg : GoodNet n) (hn : n.length ≤ 1048576) (ho : outs.length ≤ 1048576) (hv : ∀ f ∈ fs, inI64 f.1) (hk : ∀ l ∈ outs, 0 ≤ l ∧ l ≤ 2 * (n.length : Int) + 1) :
    Lt.Spec Tryd.prog 16 [.slice ra n.length cap, .slice rb outs.length cb, .slice rf fs.length cf, .slice rt rs.length ct] w (IsFresh 1 encI 3 w (fs.map (fiF n outs rs))) := by
  have hlt0 := Rt.len
  refine Spec.of _ Tryd.func16 rfl Tryd.ntmps16 (by kernel_rfl) rfl ?_
  repeat' (first
    | (apply WL.lit (len := 0) tOk; exact rfl; exact rfl; exact rfl; exact rfl; exact rfl; exact rfl; (first | exact rfl | kernel_rfl | (simp [Instr.fill, catCells]; done)); exact rfl; intro gb w' hb hge hc hx; have hO0 := Own.of_block0 (enc := encI) (s := 1) hb hge)
    | (show WL _ _ _ _ _ _ _; first | apply WL.nil | (refine WL.au (k := ?_)))
    | (show Z _ _ _ _ _; apply Z.then_normal)
    | (show W _ _ _ _ _ _; first | apply W.seq | apply W.region | apply W.block)
    | fail)
  refine W.loopO fs.length (fun k a' cp w' => k ≤ fs.length ∧ Ext w w' ∧ Own 1 encI 3 w.heap.size w' a' cp ((fs.take k).map (fiF n outs rs)))
    (fun k a' cp => [(0, .slice ra n.length cap), (1, .slice rb outs.length cb), (2, .slice rf fs.length cf), (3, .slice rt rs.length ct), (9, .slice a' ((fs.take k).map (fiF n outs rs)).length cp), (10, .int .i64 k)]) (some ⟨gb, 0, none⟩) 0 ⟨by omega, hx, hO0⟩ (fun k a' cp w' h => h.1) (by repeat' first | exact trivial | (refine And.intro ?_ ?_) | exact rfl) ?_
  clear hO0
  rintro k a' cp w' ⟨hkb, hx', hO'⟩
  by_cases hlt : k < fs.length
  · obtain ⟨f, hf⟩ := getI fs hlt
    have hvf := hv f (List.mem_of_getElem? hf)
    have hll : ((fs.take k).map (fiF n outs rs)).length ≤ 1048576 := by rw [List.length_map, List.length_take]; omega
    obtain ⟨wk, rfl⟩ : ∃ x, x = w' := ⟨_, rfl⟩
    repeat' (first
      | (apply W.condKT; exact rfl; (focus (first | exact dec_true (by omega); done)))
      | (show WL _ _ _ _ _ _ _; first | apply WL.nil | (refine WL.au (k := ?_)))
      | (show Z _ _ _ _ _; apply Z.then_normal)
      | (show W _ _ _ _ _ _; first | apply W.seq | apply W.region | apply W.block | apply W.skip)
      | fail)
    refine W.loopW rs.length (fun i w' => i ≤ rs.length ∧ (∀ q, q + 1 < i → (shF n outs rs f)[q]? = some false) ∧ Ext wk w')
      (fun i => [(0, .slice ra n.length cap), (1, .slice rb outs.length cb), (2, .slice rf fs.length cf), (3, .slice rt rs.length ct), (9, .slice a' ((fs.take k).map (fiF n outs rs)).length cp), (10, .int .i64 k), (11, .int .i64 (atF (shF n outs rs f) i)), (12, .int .i64 i)]) ⟨by omega, fun q h => by omega, Ext.refl _⟩ (fun k w' h => h.1) (by repeat' first | exact trivial | (refine And.intro ?_ ?_) | exact rfl) ?_
    rintro i w' ⟨hib, hpre, hxi⟩
    have hsl : (shF n outs rs f).length = rs.length := by unfold shF; rw [List.length_map]
    have hnext : i < rs.length → ∃ r, rs[i]? = some r ∧ (shF n outs rs f)[i]? = some (dec (detP n outs f.1 f.2.1 f.2.2 r.2.2)) := fun h => by
      obtain ⟨r, hr⟩ := getI rs h
      exact ⟨r, hr, by unfold shF; rw [List.getElem?_map, hr]; rfl⟩
    have hcases : (∀ q, q < i → (shF n outs rs f)[q]? = some false) ∧ atF (shF n outs rs f) i = -1 ∨ ∃ q, i = q + 1 ∧ (shF n outs rs f)[q]? = some true ∧ atF (shF n outs rs f) i = q ∧ fiF n outs rs f = q := by
      cases i with
      | zero => exact .inl ⟨fun q h => by omega, rfl⟩
      | succ q =>
        obtain ⟨r, hr, hs⟩ := getI (shF n outs rs f) (show q < (shF n outs rs f).length by omega) |>.imp fun b hb => (⟨hb, hb⟩ : _ ∧ _)
        cases r with
        | true => exact .inr ⟨q, rfl, hs, by show (if (shF n outs rs f)[q]? = some true then (q : Int) else -1) = _; rw [if_pos hs], fstF_at (fun j hj => hpre j (by omega)) hs⟩
        | false => exact .inl ⟨fun j hj => (by
            by_cases h : j < q
            · exact hpre j (by omega)
            · obtain rfl : j = q := by omega
              exact hs), by show (if (shF n outs rs f)[q]? = some true then (q : Int) else -1) = _; rw [if_neg (by rw [hs]; simp)]⟩
    have ek : (fs.take k).map (fiF n outs rs) ++ [fiF n outs rs f] = (fs.take (k + 1)).map (fiF n outs rs) := by rw [List.take_add_one, hf]; simp
    have hOk := hO'.ext hxi
    have hXw : Ext w w' := hx'.trans hxi
    rcases hcases with ⟨hall, hat⟩ | ⟨q, hq, hst, hat, hfi⟩
    · rw [hat]
      by_cases hil : i < rs.length
      · obtain ⟨r, hr, hs⟩ := hnext hil
        have hr2 := hRs r (List.mem_of_getElem? hr)
        have hw1 : ∀ w9, Ext w' w9 → Pure Tryd.prog 30 [.slice ra n.length cap, .slice rb outs.length cb, fv f.1 f.2.1 f.2.2, .slice r.1 r.2.2.length r.2.1] w9 (.bool (dec (detP n outs f.1 f.2.1 f.2.2 r.2.2))) := fun w9 h9 => ref45_Detects _ _ _ _ _ _ n outs f.1 f.2.1 f.2.2 r.2.2 _ (R.ext (hXw.trans h9)) (Rb.ext (hXw.trans h9)) (hr2.1.ext (hXw.trans h9)) hg hn ho hvf hk
        have R1 := R.ext hXw
        have Rf1 := Rf.ext hXw
        have Rt1 := Rt.ext hXw
        by_cases hd : detP n outs f.1 f.2.1 f.2.2 r.2.2
        · rw [dec_true hd] at hs
          repeat' (first
            | (apply WL.gT; exact rfl; exact rfl; (focus (first | exact dec_true (by omega) | exact dec_true hd; done)))
            | (apply W.condKT; exact rfl; (focus (first | exact dec_true (by omega) | exact dec_true hd; done)))
            | (apply QL.callP; exact rfl; exact rfl; exact rfl; exact rfl; exact hw1)
            | (show WL _ _ _ _ _ _ _; first | apply WL.nil | (refine WL.au (k := ?_)))
            | (show QL _ _ _ _ _ _ _; first | (apply QL.nilX; intro w' hx) | (refine QL.au (k := ?_)) | (apply QL.index tOk; exact rfl; exact rfl; exact rfl; exact rfl; exact rfl; exact rfl; exact rfl; exact rfl; assumption; (exact extA); exact rfl; omega; assumption; intro b off h; have hcc := h; first | (obtain ⟨h1, h2, h3, h4, h5, h6, _⟩ := h) | (obtain ⟨h1, h2, h3, _⟩ := h) | (obtain ⟨h1, h2, _⟩ := h) | (obtain ⟨h1, _⟩ := h)))
            | (show Z _ _ _ _ _; first | apply Z.then_normal | apply Z.block_normal)
            | (show W _ _ _ _ _ _; first | apply W.seq | apply W.region | apply W.block | apply W.skip | (apply W.regionX tMix; kernel_rfl))
            | fail)
          exact Z.againW ⟨by omega, fun q hq => hall q (by omega), hxi.trans (by (exact extA))⟩ ⟨rfl, rfl, rfl, rfl, rfl, rfl, by rw [show atF (shF n outs rs f) (i + 1) = (i : Int) from if_pos hs]; exact ⟨rfl, rfl, trivial⟩⟩
        · rw [dec_false hd] at hs
          repeat' (first
            | (apply WL.gT; exact rfl; exact rfl; (focus (first | exact dec_true (by omega) | exact dec_false hd; done)))
            | (apply W.condKT; exact rfl; (focus (first | exact dec_true (by omega) | exact dec_false hd; done)))
            | (apply W.condKF; exact rfl; (focus (first | exact dec_true (by omega) | exact dec_false hd; done)))
            | (apply QL.callP; exact rfl; exact rfl; exact rfl; exact rfl; exact hw1)
            | (show WL _ _ _ _ _ _ _; first | apply WL.nil | (refine WL.au (k := ?_)))
            | (show QL _ _ _ _ _ _ _; first | (apply QL.nilX; intro w' hx) | (refine QL.au (k := ?_)) | (apply QL.index tOk; exact rfl; exact rfl; exact rfl; exact rfl; exact rfl; exact rfl; exact rfl; exact rfl; assumption; (exact extA); exact rfl; omega; assumption; intro b off h; have hcc := h; first | (obtain ⟨h1, h2, h3, h4, h5, h6, _⟩ := h) | (obtain ⟨h1, h2, h3, _⟩ := h) | (obtain ⟨h1, h2, _⟩ := h) | (obtain ⟨h1, _⟩ := h)))
            | (show Z _ _ _ _ _; first | apply Z.then_normal | apply Z.block_normal)
            | (show W _ _ _ _ _ _; first | apply W.seq | apply W.region | apply W.block | apply W.skip | (apply W.regionX tMix; kernel_rfl))
            | fail)
          exact Z.againW ⟨by omega, fun q hq => hall q (by omega), hxi.trans (by (exact extA))⟩ ⟨rfl, rfl, rfl, rfl, rfl, rfl, by rw [show atF (shF n outs rs f) (i + 1) = -1 from if_neg (by rw [hs]; simp)]; exact ⟨rfl, rfl, trivial⟩⟩
      · have hfi : fiF n outs rs f = -1 := fstF_no (fun j hj => hall j (by omega))
        repeat' (first
          | (apply WL.gF; exact rfl; exact rfl; (focus (first | exact dec_false (by omega); done)))
          | (apply WL.lit tOk; exact rfl; exact rfl; exact rfl; exact rfl; exact rfl; exact rfl; (first | exact rfl | kernel_rfl | (simp [Instr.fill, catCells]; done)); exact rfl; intro gb w' hb hge hc hx)
          | (apply WL.append1 tOk encI_ok; exact rfl; exact rfl; exact rfl; exact rfl; exact rfl; exact rfl; exact rfl; exact rfl; exact rfl; exact rfl; assumption; (exact extA); (first | exact rfl | (focus (simp only [List.length_set]; done)) | (focus (simp; done)) | (focus (simp [*]; done)) | omega | (focus (simp only [List.length_set]; omega))); assumption; (first | exact rfl | exact (rfl : encI (_, _) = _)); exact rfl; (exact extA); (first | omega | (simp; omega) | (simp at *; omega)); intro a' cap' w' hO hX' hU hF)
          | (show WL _ _ _ _ _ _ _; first | apply WL.nil | (refine WL.au (k := ?_)) | (apply WL.guardF; exact rfl; exact rfl))
          | (show Z _ _ _ _ _; first | apply Z.then_normal | apply Z.block_normal | apply Z.then_exit | apply Z.block_exit)
          | (show W _ _ _ _ _ _; first | apply W.seq | apply W.region | apply W.exit | (apply W.condF; exact rfl))
          | fail)
        rw [← hfi, ek] at hO ⊢
        exact Z.againO _ _ ⟨by omega, (by (exact extA)), hO⟩ ⟨rfl, rfl, rfl, rfl, rfl, rfl, trivial⟩
    · rw [hat]
      repeat' (first
        | (apply W.condKF; exact rfl; (focus (first | exact dec_false (by omega); done)))
        | (apply WL.lit tOk; exact rfl; exact rfl; exact rfl; exact rfl; exact rfl; exact rfl; (first | exact rfl | kernel_rfl | (simp [Instr.fill, catCells]; done)); exact rfl; intro gb w' hb hge hc hx)
        | (apply WL.append1 tOk encI_ok; exact rfl; exact rfl; exact rfl; exact rfl; exact rfl; exact rfl; exact rfl; exact rfl; exact rfl; exact rfl; assumption; (exact extA); (first | exact rfl | (focus (simp only [List.length_set]; done)) | (focus (simp; done)) | (focus (simp [*]; done)) | omega | (focus (simp only [List.length_set]; omega))); assumption; (first | exact rfl | exact (rfl : encI (_, _) = _)); exact rfl; (exact extA); (first | omega | (simp; omega) | (simp at *; omega)); intro a' cap' w' hO hX' hU hF)
        | (show WL _ _ _ _ _ _ _; first | apply WL.nil | (refine WL.au (k := ?_)) | (apply WL.guardF; exact rfl; exact rfl) | (apply WL.gD; exact rfl; exact rfl; all_goals intro _))
        | (show Z _ _ _ _ _; first | apply Z.then_normal | apply Z.block_normal | apply Z.then_exit | apply Z.block_exit)
        | (show W _ _ _ _ _ _; first | apply W.seq | apply W.region | apply W.exit | (apply W.condF; exact rfl))
        | fail)
      all_goals rw [← hfi, ek] at hO ⊢
      all_goals exact Z.againO _ _ ⟨by omega, (by (exact extA)), hO⟩ ⟨rfl, rfl, rfl, rfl, rfl, rfl, trivial⟩
  · obtain rfl : k = fs.length := by omega
    rw [List.take_length] at hO'
    repeat' (first
      | (apply W.condKF; exact rfl; (focus (first | exact dec_false (by omega); done)))
      | (show WL _ _ _ _ _ _ _; first | apply WL.nil | (refine WL.au (k := ?_)))
      | (show Z _ _ _ _ _; first | apply Z.then_normal | apply Z.then_exit | apply Z.block_exit)
      | (show W _ _ _ _ _ _; first | apply W.seq | apply W.region | apply W.ret | apply W.exit)
      | fail)
    exact Z.body1 Tryd.results16 rfl fun m => ⟨Ext.at (by (exact extA)) m, a', cp, by rw [List.take_length], hO'⟩
end Go.Proofs.YtlcenenkloicjaaDoor
namespace Go.Proofs.YtlcenenkloicjaaDoor
open Go Go.Lt Go.RowKit
set_option linter.unusedVariables false
set_option linter.unusedSimpArgs false
set_option maxRecDepth 20000

theorem law45_few (a : Option Addr) (cap : Nat) (rs : List BRow) (most : Int) (w : World) (R : Row 1 encR w a rs) : Still Tryd.prog 13 [.slice a rs.length cap, .int .i64 most] w (.bool (dec ((∀ r ∈ rs, r.2.2.length ≤ 40) ∧ (rs.length : Int) ≤ most))) := by
  have hl := R.len
  refine Spec.of _ Tryd.func13 rfl Tryd.ntmps13 (by kernel_rfl) rfl ?_
  repeat' (first
    | (show WL _ _ _ _ _ _ _; first | apply WL.nil | (refine WL.au (k := ?_)))
    | (show Z _ _ _ _ _; apply Z.then_normal)
    | (show W _ _ _ _ _ _; first | apply W.seq | apply W.region | apply W.block)
    | fail)
  refine W.loop1 rs.length (fun k => k ≤ rs.length ∧ ∀ i r, i < k → rs[i]? = some r → r.2.2.length ≤ 40) (fun k => [(0, .slice a rs.length cap), (1, .int .i64 most), (5, .int .i64 k)]) ⟨by omega, fun i r h => by omega⟩ (fun k h => h.1) ⟨rfl, rfl, rfl, trivial⟩ ?_
  rintro k ⟨hk, hf⟩
  by_cases hlt : k < rs.length
  · obtain ⟨r, hr⟩ := getI rs hlt
    by_cases h40 : r.2.2.length ≤ 40
    · repeat' (first
        | (apply W.condKT; exact rfl; (focus (first | exact dec_true (by omega) | exact dec_false (by omega); done)))
        | (apply W.condKF; exact rfl; (focus (first | exact dec_true (by omega) | exact dec_false (by omega); done)))
        | (show WL _ _ _ _ _ _ _; first | apply WL.nil | (refine WL.au (k := ?_)) | (apply WL.index tOk; exact rfl; exact rfl; exact rfl; exact rfl; exact rfl; exact rfl; exact rfl; exact rfl; assumption; (exact extA); exact rfl; omega; assumption; intro b off h; have hcc := h; first | (obtain ⟨h1, h2, h3, h4, h5, h6, _⟩ := h) | (obtain ⟨h1, h2, h3, _⟩ := h) | (obtain ⟨h1, h2, _⟩ := h) | (obtain ⟨h1, _⟩ := h)))
        | (show Z _ _ _ _ _; first | apply Z.then_normal | apply Z.block_normal)
        | (show W _ _ _ _ _ _; first | apply W.seq | apply W.region | apply W.block | apply W.skip)
        | fail)
      exact Z.again1 ⟨by omega, fun i r' hi hr' => (by
        by_cases h : i < k
        · exact hf i r' h hr'
        · obtain rfl : i = k := by omega
          rw [hr] at hr'; obtain rfl := Option.some.inj hr'; exact h40)⟩ ⟨rfl, rfl, rfl, trivial⟩
    · repeat' (first
        | (apply W.condKT; exact rfl; (focus (first | exact dec_true (by omega); done)))
        | (show WL _ _ _ _ _ _ _; first | apply WL.nil | (refine WL.au (k := ?_)) | (apply WL.index tOk; exact rfl; exact rfl; exact rfl; exact rfl; exact rfl; exact rfl; exact rfl; exact rfl; assumption; (exact extA); exact rfl; omega; assumption; intro b off h; have hcc := h; first | (obtain ⟨h1, h2, h3, h4, h5, h6, _⟩ := h) | (obtain ⟨h1, h2, h3, _⟩ := h) | (obtain ⟨h1, h2, _⟩ := h) | (obtain ⟨h1, _⟩ := h)))
        | (show Z _ _ _ _ _; first | apply Z.then_normal | apply Z.then_ret | apply Z.block_ret)
        | (show W _ _ _ _ _ _; first | apply W.seq | apply W.region | apply W.block | apply W.skip | apply W.ret)
        | fail)
      exact Z.body1 Tryd.results13 rfl fun m => ⟨congrArg Value.bool (dec_false (fun h => h40 (h.1 r (List.mem_of_getElem? hr)))).symm, m, rfl⟩
  · obtain rfl : k = rs.length := by omega
    have hall : ∀ r ∈ rs, r.2.2.length ≤ 40 := fun r hr => by
      obtain ⟨i, hi⟩ := List.mem_iff_getElem?.1 hr
      exact hf i r (lt_of_get hi) hi
    repeat' (first
      | (apply W.condKF; exact rfl; (focus (first | exact dec_false (by omega); done)))
      | (show WL _ _ _ _ _ _ _; first | apply WL.nil | (refine WL.au (k := ?_)))
      | (show Z _ _ _ _ _; first | apply Z.then_normal | apply Z.then_exit | apply Z.block_exit)
      | (show W _ _ _ _ _ _; first | apply W.seq | apply W.region | apply W.ret | apply W.exit)
      | fail)
    exact Z.body1 Tryd.results13 rfl fun m => ⟨congrArg Value.bool (dec_congr ⟨fun h => ⟨hall, h⟩, fun h => h.2⟩), m, rfl⟩
set_option maxHeartbeats 8000000 in
theorem law_FsimFirst (ra rb rf rt : Option Addr) (cap cb cf ct : Nat) (n : List (Int × Int)) (outs : List Int) (fs : List F3) (rs : List BRow) (w : World) (R : Row 2 encN w ra n) (Rb : Row 1 encI w rb outs) (Rf : Row 3 encF3 w rf fs) (Rt : Row 1 encR w rt rs) (hna : ra = none → cap = 0) (hnb : rb = none → cb = 0) (hct : rs.length ≤ ct) (hRs : RowsIn w rs) (hv : ∀ f ∈ fs, inI64 f.1) (hT : Cells w 1 0 tzW) :
    Pure Tryd.prog 4 [.slice ra n.length cap, .slice rb outs.length cb, .slice rf fs.length cf, .slice rt rs.length ct] w (.bool true) := by
  have hlf := Rf.len
  by_cases hsm : ((((n.length : Int) ≤ 20 ∧ GoodNet n) ∧ outs.length ≤ 20 ∧ KnownP n outs) ∧ fs.length ≤ 60) ∧ ((∀ r ∈ rs, r.2.2.length ≤ 40) ∧ (rs.length : Int) ≤ 130)
  · obtain ⟨⟨hs, hf⟩, ht⟩ := hsm
    have hg := hs.1.2
    have hn := hs.1.1
    have ho := hs.2.1
    have ht1 := ht.1
    have ht2 := ht.2
    have hk : ∀ l ∈ outs, 0 ≤ l ∧ l ≤ 2 * (n.length : Int) + 1 := hs.2.2
    have hbs : ∀ r ∈ rs, r.2.2.length ≤ 1048576 := fun r hr => by have := ht1 r hr; omega
    have hbR : ∀ w9, Ext w w9 → RowsIn w9 rs := fun w9 h9 r hr => ⟨(hRs r hr).1.ext h9, (hRs r hr).2⟩
    refine Spec.of _ Tryd.func4 rfl Tryd.ntmps4 (by kernel_rfl) rfl ?_
    repeat' (first
      | ((show WL _ _ _ (⟨_, .call ⟨.value (.func 12), _, _⟩, _, _, _, _⟩ :: _) _ _ _); apply WL.callS; exact rfl; exact rfl; exact rfl; exact rfl; exact law44_Small _ _ _ _ n outs 20 _ (R.ext (by (exact extA))) (Rb.ext (by (exact extA))) (by decide))
      | ((show WL _ _ _ (⟨_, .call ⟨.value (.func 13), _, _⟩, _, _, _, _⟩ :: _) _ _ _); apply WL.callS; exact rfl; exact rfl; exact rfl; exact rfl; exact law45_few _ _ rs 130 _ (Rt.ext (by (exact extA))))
      | (apply WL.gT; exact rfl; exact rfl; (focus (first | (rw [dec_true hs]; rfl) | (rw [dec_true ht]; rfl) | exact dec_false (by omega) | exact dec_true rfl; done)))
      | (apply WL.gF; exact rfl; exact rfl; (focus (first | (rw [dec_true hs]; rfl) | (rw [dec_true ht]; rfl) | exact dec_false (by omega) | exact dec_true rfl; done)))
      | (apply W.condKF; exact rfl; (focus (first | (rw [dec_true hs]; rfl) | (rw [dec_true ht]; rfl) | exact dec_false (by omega) | exact dec_true rfl; done)))
      | ((show WL _ _ _ (⟨_, .call ⟨.value (.func 15), _, _⟩, _, _, _, _⟩ :: _) _ _ _); apply WL.call; exact rfl; exact rfl; exact rfl; exact rfl; exact fsim_First _ _ _ _ _ _ _ _ n outs fs rs _ (R.ext (by (exact extA))) (Rb.ext (by (exact extA))) (Rf.ext (by (exact extA))) (Rt.ext (by (exact extA))) hna hnb hct (hbR _ (by (exact extA))) hbs (by omega) (by omega) hg (by omega) (by omega) hv hk (hT.ext (by (exact extA))); rintro v' w' ⟨hx, a', cap', rfl, hO⟩; (have K1 := Own.row encI_ok hO; clear hO))
      | ((show WL _ _ _ (⟨_, .call ⟨.value (.func 16), _, _⟩, _, _, _, _⟩ :: _) _ _ _); apply WL.call; exact rfl; exact rfl; exact rfl; exact rfl; exact ref45_First _ _ _ _ _ _ _ _ n outs fs rs _ (R.ext (by (exact extA))) (Rb.ext (by (exact extA))) (Rf.ext (by (exact extA))) (Rt.ext (by (exact extA))) (hbR _ (by (exact extA))) (by omega) hg (by omega) (by omega) hv hk; rintro v' w' ⟨hx, a', cap', rfl, hO⟩)
      | ((show WL _ _ _ (⟨_, .call ⟨.value (.func 9), _, _⟩, _, _, _, _⟩ :: _) _ _ _); apply WL.callS; exact rfl; exact rfl; exact rfl; exact rfl; exact ref_Ints _ _ _ _ _ _ _ (K1.ext (by (exact extA))) (Own.row encI_ok (by assumption)))
      | ((show WL _ _ _ (⟨_, .call ⟨.value (.func 14), _, _⟩, _, _, _, _⟩ :: _) _ _ _); apply WL.callP; exact rfl; exact rfl; exact rfl; exact rfl; exact lives45 _; intro w' hx)
      | (show WL _ _ _ _ _ _ _; first | apply WL.nil | (refine WL.au (k := ?_)))
      | (show Z _ _ _ _ _; apply Z.then_normal)
      | (show W _ _ _ _ _ _; first | apply W.seq | apply W.region | apply W.skip | apply W.ret)
      | fail)
    all_goals exact Z.body1 Tryd.results4 rfl fun m => ⟨rfl, Ext.at (by (exact extA)) m⟩
  · refine Spec.of _ Tryd.func4 rfl Tryd.ntmps4 (by kernel_rfl) rfl ?_
    repeat' (first
      | ((show WL _ _ _ (⟨_, .call ⟨.value (.func 12), _, _⟩, _, _, _, _⟩ :: _) _ _ _); apply WL.callS; exact rfl; exact rfl; exact rfl; exact rfl; exact law44_Small _ _ _ _ n outs 20 _ (R.ext (by (exact extA))) (Rb.ext (by (exact extA))) (by decide))
      | ((show WL _ _ _ (⟨_, .call ⟨.value (.func 13), _, _⟩, _, _, _, _⟩ :: _) _ _ _); apply WL.callS; exact rfl; exact rfl; exact rfl; exact rfl; exact law45_few _ _ rs 130 _ (Rt.ext (by (exact extA))))
      | ((show WL _ _ _ (⟨_, .call ⟨.value (.func 14), _, _⟩, _, _, _, _⟩ :: _) _ _ _); apply WL.callP; exact rfl; exact rfl; exact rfl; exact rfl; exact lives45 _; intro w' hx)
      | (show WL _ _ _ _ _ _ _; first | apply WL.nil | (refine WL.au (k := ?_)) | (apply WL.guardF; exact rfl; exact rfl) | (apply WL.gD; exact rfl; exact rfl; all_goals intro _) | (apply WL.gN; exact rfl; exact rfl; all_goals intro _))
      | (show Z _ _ _ _ _; first | apply Z.then_normal | apply Z.then_ret)
      | (show W _ _ _ _ _ _; first | apply W.seq | apply W.region | apply W.skip | apply W.ret | (apply W.condT; exact rfl) | (apply W.condN; exact rfl; all_goals intro _))
      | fail)
    all_goals first
      | (exfalso; apply hsm; refine ⟨⟨?_, ?_⟩, ?_⟩ <;> first | omega | assumption; done)
      | exact Z.body1 Tryd.results4 rfl fun m => ⟨rfl, Ext.at (by (exact extA)) m⟩
      | skip
end Go.Proofs.YtlcenenkloicjaaDoor
namespace Go.Proofs.YtlcenenkloicjaaDoor
open Go Go.Lt Go.ChangeShapes Go.WideShapes Go.ChangeAt Go.RowKit
set_option linter.unusedVariables false
set_option linter.unusedSimpArgs false
set_option maxRecDepth 20000
open Go.ChangeMaps (open_string shut_string)
namespace fsimFirst
theorem own : ownKnob Tryd.prog.godebug = none := by kernel_rfl
theorem laidOut : laidOutB Tryd.prog = true := factLaid
theorem gN : Tryd.prog.globalNamed "math/bits.deBruijn64tab" = some 1 := by kernel_rfl
theorem gT : (Tryd.prog.globals[1]?).map (·.type) = some 76 := by kernel_rfl
theorem door_met (os : Os) (args : Array Value) : laidMetH Tryd.prog [("math/bits.deBruijn64tab", Rows.laid_math_bits_deBruijn64tab)] ((World.doorLaid Tryd.prog 19 os).forCall (fun _ _ => 0) ⟨#[], args, []⟩).memory :=
  laidMetH_of_parts3 (fuel := 8) (laidMet_of_run' 8 (by kernel_rfl) (by kernel_rfl)) (by kernel_rfl) (by kernel_rfl)
theorem of_laid {W : World} (h : laidMetH Tryd.prog [("math/bits.deBruijn64tab", Rows.laid_math_bits_deBruijn64tab)] W) : Cells W 1 0 (([0, 1, 56, 2, 57, 49, 28, 3, 61, 58, 42, 50, 38, 29, 17, 4, 62, 47, 59, 36, 45, 43, 51, 22, 53, 39, 33, 30, 24, 18, 12, 5, 63, 55, 48, 27, 60, 41, 37, 16, 46, 35, 44, 21, 52, 32, 23, 11, 54, 26, 40, 15, 34, 20, 31, 10, 25, 14, 19, 9, 13, 8, 7, 6] : List Int).map (Value.int .u8)) := by
  rw [MakeChecks.laidMetH_plain _ _ _ (by kernel_rfl)] at h
  have hT := Lib.tabIs_of_head (k := .u8) (zs := [0, 1, 56, 2, 57, 49, 28, 3, 61, 58, 42, 50, 38, 29, 17, 4, 62, 47, 59, 36, 45, 43, 51, 22, 53, 39, 33, 30, 24, 18, 12, 5, 63, 55, 48, 27, 60, 41, 37, 16, 46, 35, 44, 21, 52, 32, 23, 11, 54, 26, 40, 15, 34, 20, 31, 10, 25, 14, 19, 9, 13, 8, 7, 6]) gN gT Tryd.underlying76 Tryd.underlying5 (by kernel_rfl) (by kernel_rfl) h
  exact cells_tab (fun i hi => hT.cell gN i hi)
set_option maxRecDepth 100000 in
theorem lifted (os : Os) (started : os.Started) (H : Type) (enc : TypeId × Value → H) :
    ReturnsInHanded {} Tryd.checked os 4 .any (fun w args => (Rows.fsimFirstSpec.pre enc Tryd.prog Tryd.f4 [] false w args ∧ laidMetH Tryd.prog [("math/bits.deBruijn64tab", Rows.laid_math_bits_deBruijn64tab)] w) ∧ sizedMet enc Tryd.prog Tryd.f4 (OpenSpec.ofChange Rows.fsimFirstSpec) false w args) (Rows.fsimFirstSpec.post enc Tryd.prog Tryd.f4 false true false false) := by
  refine returnsInHanded_of_change_and (C := Tryd.checked) (X := fun w _ => laidMetH Tryd.prog [("math/bits.deBruijn64tab", Rows.laid_math_bits_deBruijn64tab)] w) (fun _ _ _ hh h => h.of_heap hh) own started (by kernel_rfl) Tryd.func4
    (ChangeSpec.witness_shaped (enc := enc) (C := Tryd.checked) (os := os) (X := fun w _ => laidMetH Tryd.prog [("math/bits.deBruijn64tab", Rows.laid_math_bits_deBruijn64tab)] w) false (World.doorLaid Tryd.prog 19 os) #[.slice none 0 0, .slice none 0 0, .slice none 0 0, .slice none 0 0] 8 rfl (World.shaped_of_RefB (by kernel_rfl) (by kernel_rfl)) (by kernel_rfl) (by kernel_rfl) (by kernel_rfl) (door_met os _)) ?_
  intro W base args ds gs before hval0 hW hcnd hsz hL _
  have hG := of_laid hL
  have hval : ∀ (j : Nat) t v, Tryd.f4.params[j]? = some t → args[j]? = some v → Value.okWide Tryd.prog W .any base t v := hval0
  have hW' := hW
  obtain ⟨p, q, hA0, hV, rfl, hfz, hnd⟩ := hW
  have hA : DataW.TrodAll enc Tryd.prog W 0 (fun _ => true) true Tryd.f4.params.toList args.toList ds p := hA0
  rw [Tryd.params4] at hA hval
  obtain ⟨v0, vs0, d0, ds0, p0, q0, hargs, rfl, rfl, h0, r0⟩ := trodAll_cons hA
  obtain ⟨v1, vs1, d1, ds1, p1, q1, rfl, rfl, rfl, h1, r1⟩ := trodAll_cons r0
  obtain ⟨v2, vs2, d2, ds2, p2, q2, rfl, rfl, rfl, h2, r2⟩ := trodAll_cons r1
  obtain ⟨v3, vs3, d3, ds3, p3, q3, rfl, rfl, rfl, h3, r3⟩ := trodAll_cons r2
  obtain ⟨rfl, rfl, rfl⟩ := trodAll_nil r3
  obtain rfl : args = #[v0, v1, v2, v3] := by cases args; simp_all
  obtain ⟨rfl, rfl⟩ := trodVars_none hV
  have k0 := h0
  have lt0 : ∀ x ∈ p0, x.block < W.heap.size := by obtain ⟨m, hm⟩ := k0; exact DataW.trod_lt m _ _ _ hm
  have k1 := h1
  have lt1 : ∀ x ∈ p1, x.block < W.heap.size := by obtain ⟨m, hm⟩ := k1; exact DataW.trod_lt m _ _ _ hm
  have k2 := h2
  have lt2 : ∀ x ∈ p2, x.block < W.heap.size := by obtain ⟨m, hm⟩ := k2; exact DataW.trod_lt m _ _ _ hm
  have k3 := h3
  have lt3 : ∀ x ∈ p3, x.block < W.heap.size := by obtain ⟨m, hm⟩ := k3; exact DataW.trod_lt m _ _ _ hm
  obtain ⟨a0, l0, cap0, rfl, hl0, hm0, hna0, R0, w0⟩ := row_of (s := 2) (reads_pair' (s0 := 1) (s1 := 1) Tryd.underlying52 (reads_int Tryd.underlying3) (reads_int Tryd.underlying3) (by kernel_rfl) rfl rfl (by kernel_rfl) (by kernel_rfl)) (by kernel_rfl) Tryd.underlying32 (fun _ => rfl) (by decide) (hval 0 32 v0 rfl rfl) h0
  obtain ⟨a1, l1, cap1, rfl, hl1, hm1, hna1, R1, w1⟩ := row_of (s := 1) (reads_int Tryd.underlying3) (by kernel_rfl) Tryd.underlying22 (fun _ => rfl) (by decide) (hval 1 22 v1 rfl rfl) h1
  obtain ⟨a2, l2, cap2, rfl, hl2, hm2, hna2, R2, w2⟩ := row_of (s := 3) (reads_triple' (s0 := 1) (s1 := 1) (s2 := 1) Tryd.underlying55 (reads_int Tryd.underlying3) (reads_int Tryd.underlying3) (reads_bool Tryd.underlying4) (by kernel_rfl) rfl rfl rfl (by kernel_rfl) (by kernel_rfl) (by kernel_rfl)) (by kernel_rfl) Tryd.underlying33 (fun _ => rfl) (by decide) (hval 2 33 v2 rfl rfl) h2
  obtain ⟨a3, l3, cap3, rfl, hl3, hm3, hna3, R3, w3⟩ := row_of (s := 1) (reads_row (s := 1) (reads_bool Tryd.underlying4) (by kernel_rfl) Tryd.underlying41 (fun _ => rfl) (by decide)) (by kernel_rfl) Tryd.underlying34 (fun _ => rfl) (by decide) (hval 3 34 v3 rfl rfl) h3
  clear hA0 hval0
  refine (Spec.law (law_FsimFirst a0 a1 a2 a3 cap0 cap1 cap2 cap3 l0 l1 l2 l3 W R0 R1 R2 R3 hna0 hna1 hl3 (fun r hr => ⟨(w3 r hr).1, (w3 r hr).2.1⟩) (fun f hf => wf_i64 (w2 f hf).1) hG)).mono fun e W' ⟨he, bel⟩ => ?_
  subst he
  exact ⟨_, rfl, _, _, _, [], _, [], hW', trodAll_mk1 (shut_bool Tryd.underlying4 _), (trodAll_cons_mk (Below.trod laidOut (by kernel_rfl) (of_decide_eq_true (by kernel_rfl)) k0 bel lt0) (trodAll_cons_mk (Below.trod laidOut (by kernel_rfl) (of_decide_eq_true (by kernel_rfl)) k1 bel lt1) (trodAll_cons_mk (Below.trod laidOut (by kernel_rfl) (of_decide_eq_true (by kernel_rfl)) k2 bel lt2) (trodAll_cons_mk (Below.trod laidOut (by kernel_rfl) (of_decide_eq_true (by kernel_rfl)) k3 bel lt3) trodAll_mk0)))), rfl, bel.frame _, fun h => by cases h⟩
theorem j0 : (Rows.fsimFirstRow.wf (OpenSpec.ofChange Rows.fsimFirstSpec)) = true := by kernel_rfl
theorem j3 : (Tryd.f4.params.all (Tryd.prog.readableRec ·)) = true := by kernel_rfl
theorem j4 : (namedTie Tryd.prog Rows.fsimFirstRow.named Rows.fsimFirstSpec.vars) = true := by kernel_rfl
theorem j5 : ((Rows.fsimFirstRow.stops == [])) = true := by kernel_rfl
theorem j7 : ((Rows.fsimFirstRow.knobs == [])) = true := by kernel_rfl
theorem j9 : ((Rows.fsimFirstRow.inPlace == Tryd.prog.inPlace 4)) = true := by kernel_rfl
theorem j10 : ((Rows.fsimFirstRow.unfollowed == Tryd.prog.unfollowed 4)) = true := by kernel_rfl
theorem j11 : ((Rows.fsimFirstRow.recurses == Tryd.prog.recurses 4)) = true := by kernel_rfl
theorem j12 : ((Rows.fsimFirstRow.named == Tryd.prog.varsNamed 4)) = true := by kernel_rfl
theorem j13 : ((Rows.fsimFirstRow.maps == (Tryd.f4.params.toList ++ Rows.fsimFirstSpec.plain.varTypes Tryd.prog).any (Tryd.prog.mapsRec ·))) = true := by kernel_rfl
theorem j14 : ((Rows.fsimFirstRow.ifaces == (Tryd.f4.params.toList ++ Rows.fsimFirstSpec.plain.varTypes Tryd.prog).any (Tryd.prog.ifacesRec ·))) = true := by kernel_rfl
theorem j15 : ((Rows.fsimFirstRow.mapsOut == Tryd.prog.mapsAmong Tryd.f4.resultTypes.toList)) = true := by kernel_rfl
theorem j16 : ((Rows.fsimFirstRow.loops == (Tryd.f4.params.toList ++ Rows.fsimFirstSpec.plain.varTypes Tryd.prog).any (Tryd.prog.loopsFrom ·))) = true := by kernel_rfl
theorem j17 : ((Rows.fsimFirstRow.wideKeys == (Tryd.f4.params.toList ++ Rows.fsimFirstSpec.plain.varTypes Tryd.prog ++ Tryd.f4.resultTypes.toList).any (Tryd.prog.wideKeysFrom ·))) = true := by kernel_rfl
theorem j18 : (Rows.fsimFirstSpec.vars.all (Tryd.prog.varReadable ·)) = true := by kernel_rfl
theorem j19 : (Tryd.f4.resultTypes.all (fun t => Tryd.prog.readableRec t && decide (t < Tryd.prog.types.size))) = true := by kernel_rfl
theorem j20 : ((Rows.fsimFirstRow.ifacesOut == Tryd.f4.resultTypes.toList.any (Tryd.prog.ifacesRec ·))) = true := by kernel_rfl
theorem j21 : ((Rows.fsimFirstRow.loopsOut == Tryd.f4.resultTypes.toList.any (Tryd.prog.loopsFrom ·))) = true := by kernel_rfl
theorem j22 : ((Rows.fsimFirstRow.plainKeys == Tryd.prog.plainKeys)) = true := by rw [show Rows.fsimFirstRow.plainKeys = Rows.triTextsRow.plainKeys by kernel_rfl]; exact factKeys
theorem j23 : (Rows.fsimFirstRow.shortTexts.isNone) = true := by kernel_rfl
theorem j26 : ((Rows.fsimFirstRow.lifted == Tryd.prog.liftsFinal)) = true := by rw [show Rows.fsimFirstRow.lifted = Rows.triTextsRow.lifted by kernel_rfl]; exact factLifts
theorem j27 : ((Tryd.prog.make == some Rows.fsimFirstRow.make)) = true := by rw [show Rows.fsimFirstRow.make = Rows.triTextsRow.make by kernel_rfl]; exact factMake
theorem j28 : ((Rows.fsimFirstRow.kinds == (if Rows.fsimFirstRow.domain.isEmpty then [] else Tryd.f4.params.toList.map fun t => match Tryd.prog.underlying t with | some (.int k) => some k | _ => none))) = true := by kernel_rfl
theorem j29 : ((Rows.fsimFirstRow.pinned == Rows.fsimFirstRow.pinnedBy)) = true := by kernel_rfl
theorem j30 : ((Rows.fsimFirstRow.veiled == (Tryd.f4.params.toList ++ Rows.fsimFirstSpec.plain.varTypes Tryd.prog ++ Tryd.f4.resultTypes.toList).any (Tryd.prog.veiledRec ·))) = true := by kernel_rfl
theorem j31 : (Rows.fsimFirstRow.veiledFits Tryd.prog Tryd.f4.params.toList (Tryd.f4.params.toList ++ Rows.fsimFirstSpec.plain.varTypes Tryd.prog ++ Tryd.f4.resultTypes.toList)) = true := by kernel_rfl
set_option maxRecDepth 100000 in
theorem closed : joinedFacts Tryd.checked.prog 4 Tryd.f4 Rows.fsimFirstSpec Rows.fsimFirstRow = true := by unfold joinedFacts; exact (band (band (band (band (band (band (band (band (band (band (band (band (band (band (band (band (band (band (band (band (band (band (band (band (band (band (band (band (band (band (band j0 factLaid) factMaps) j3) j4) j5) factStops) j7) factKnobs) j9) j10) j11) j12) j13) j14) j15) j16) j17) j18) j19) j20) j21) j22) j23) factHeard) factEnter) j26) j27) j28) j29) j30) j31)
theorem named : Tryd.checked.prog.funcNamed Rows.fsimFirstRow.func = some 4 := by kernel_rfl
theorem over : Rows.fsimFirstRow.holds Tryd.pinned (OpenSpec.ofChange Rows.fsimFirstSpec) :=
  OpenClaim.holds_of_wide 4 Tryd.f4 rfl rfl rfl rfl rfl rfl rfl ⟨rfl, rfl, rfl, rfl, rfl⟩ rfl rfl rfl rfl rfl named Tryd.func4 closed
    (of_decide_eq_true (by kernel_rfl)) (by unfold Func.isWrapper; first | (rw [if_pos (by decide +kernel)]; kernel_rfl) | (rw [if_neg (by decide +kernel)]; exact ⟨rfl, rfl⟩))
    (fun os started H enc _ => lifted os started H enc)
/-- The statement. -/
theorem proved : Rows.FsimFirstCardSaid :=
  Claim7.holds_tied_plain_at .later [] [.data] true (true, "48c0deb9cac288eb0dd9f0fad882ac34a9a6e4b33cd5699ebdd31122410cfa4c") false
    over (fun _ h => by cases h) (by kernel_rfl) (fun _ h => by cases h) fsimFirst_row_tie rfl ⟨rfl, rfl⟩ (by kernel_rfl) rfl
    (fun f fn hf hfn => by
      obtain rfl : f = 4 := Option.some.inj (named.symm.trans hf) |>.symm
      obtain rfl : fn = Tryd.f4 := (Option.some.inj (Tryd.func4.symm.trans hfn)).symm
      exact ⟨by kernel_rfl, fun j t ht => by
        rw [Tryd.params4] at ht
        have hm : t ∈ [32, 22, 33, 34] := by simpa using Array.mem_of_getElem? ht
        have hall : ([32, 22, 33, 34].all fun u => !Tryd.prog.wantsStandIn u) = true := by kernel_rfl
        exact (show Tryd.prog.wantsStandIn t = false by simpa using List.all_eq_true.1 hall t hm)⟩)
    (by kernel_rfl)
end fsimFirst
end Go.Proofs.YtlcenenkloicjaaDoor
