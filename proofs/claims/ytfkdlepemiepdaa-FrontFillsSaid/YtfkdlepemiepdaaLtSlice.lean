/- l[lo:hi] of a row. Generic over the program. No conditions. -/
import Derived.Test.YtfkdlepemiepdaaLtMore
namespace Go.Lt
open Go.RowKit
set_option linter.unusedVariables false
section
variable {P : Program}
theorem run_sliceLH {T : Tab} {t : TypeId} (hT : OkTab P T) {ti : TI} {el : TypeId} {ei : TI} {ao : Option Addr} {n cap : Nat} {k k' : IntKind} {lo hi : Int} (ht : tget T t = some ti) (htd : ti.desc = .slice el) (he : tget T el = some ei) (h0 : 0 ≤ lo ∧ lo ≤ hi) (h1 : hi ≤ cap) (w : World) :
    (Instr.sliceAt t (.slice ao n cap) (some (.int k lo)) (some (.int k' hi)) none).run P w = .ok (.slice (if cap = lo.toNat then ao else ao.map (·.add (lo.toNat * ei.size))) (hi.toNat - lo.toNat) (cap - lo.toNat)) w := by
  have e1 := run_underlying' (hT.at ht); rw [htd] at e1
  have e2 := run_sizeOf' (hT.at he)
  have e3 : 0 ≤ hi := by omega
  simp [Instr.sliceAt, Instr.slice, e1, e2, Instr.sliceBounds, Instr.sliceBound, asIntOf, h0.1, e3, h1]
  intro hh; exfalso; omega
end
section rules
variable {P : Program} {N : Nat} {e : Env} {w : World} {Q : Exit → Act → World → Prop} {ops : List Oper} {l : List Oper} {T : Tab}
  {d : Nat} {tt ty : TypeId} {ps : String} {af : Array Edge} {g : Option (Nat × Bool)} {t : TypeId} {α : Type} {s : Nat} {enc : α → List Value} {B : Nat} {ti ei : TI} {el : TypeId} {C : World → Prop}
/-- l[i:i+1] -/
theorem WL.slice1 {x y z : Operand} {a : Option Addr} {xs : List α} {v : α} {n cap i : Nat} {kk k2 : IntKind} {lo hi : Int} {w0 : World} (hT : OkTab P T) (hg : gate ops e g = some true) (hd : Nat.blt d N = true)
    (hx : ev e x = some (.slice a n cap)) (hy : ev e y = some (.int kk lo)) (hz : ev e z = some (.int k2 hi)) (ht : tget T t = some ti) (htd : ti.desc = .slice el) (he : tget T el = some ei) (hs : ei.size = s)
    (R : Row s enc w0 a xs) (hn : xs.length = n) (hc : xs.length ≤ cap) (hv : xs[i]? = some v) (hlo : lo = i) (hhi : hi = (i : Int) + 1)
    (k : ∀ a' cap', Row s enc w0 a' [v] → WL P N ops.toArray l ((d, .slice a' [v].length cap') :: e) w Q) : WL P N ops.toArray (⟨some d, .slice t x (some y) (some z) none, tt, ps, af, g⟩ :: l) e w Q := by
  have hi' := (List.getElem?_eq_some_iff.1 hv).1
  have e0 : (xs.drop i).take 1 = [v] := by
    rw [List.drop_eq_getElem_cons hi', (List.getElem?_eq_some_iff.1 hv).2]; rfl
  have R1 : Row s enc w0 (if cap = i then a else a.map (·.add (i * s))) [v] := e0 ▸ ((R.dropAt i cap hc).take 1)
  refine WL.step hg hd ?_ (k _ (cap - i) R1)
  refine Yields.in ?_
  intro ρ hρ w'
  have := run_sliceLH (P := P) hT (t := t) (ao := a) (n := n) (cap := cap) (k := kk) (k' := k2) (lo := lo) (hi := hi) ht htd he (by omega) (by omega) w'
  have e2 : hi.toNat - lo.toNat = 1 := by omega
  have e3 : lo.toNat = i := by omega
  rw [hs, e2, e3] at this
  simp [execOp, hρ _ _ hx, hρ _ _ hy, hρ _ _ hz, this]
end rules
end Go.Lt
