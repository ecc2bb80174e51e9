/- From an argument's reading as data to the rows of this logic. Generic over the program. No conditions. -/
import Derived.Test.YtlmeofmhklpfdaaLtCalls
import Derived.ProofKit
import Derived.OpenShut
import Derived.ShutString
import Derived.ChangeOld
import Derived.Deep.Slices
namespace Go.Lt
open Go.ChangeShapes Go.WideShapes Go.ChangeAt Go.RowKit Go.Deep
set_option linter.unusedVariables false

/-- What reads by this type takes the cells of an element. -/
def Reads (P : Program) (e : TypeId) {α : Type} (enc : α → List Value) (ok : α → Prop) : Prop :=
  ∀ {H : Type} (en : TypeId × Value → H) (w : World) (base : Nat) (spare : Nat → Bool) (held : Bool) (fuel : Nat) (cs : List Value) (x : DataW H × List MemPlace), DataW.trod en P w base spare held fuel e cs = some x → ∃ a : α, cs = enc a ∧ ok a

theorem reads_int {P : Program} {e : TypeId} {k : IntKind} (ht : P.underlying e = some (.int k)) : Reads P e (fun n : Int => [.int k n]) (fun n => (Lit.int k n).wf = true) := by
  intro H en w base spare held fuel cs x h
  obtain ⟨n, h1, _, h2⟩ := DataW.trod_int ht h
  exact ⟨n, h1, h2⟩
theorem reads_bool {P : Program} {e : TypeId} (ht : P.underlying e = some .bool) : Reads P e (fun n : Bool => [.bool n]) (fun _ => True) := by
  intro H en w base spare held fuel cs x h
  obtain ⟨n, h1, _⟩ := DataW.trod_bool ht h
  exact ⟨n, h1, trivial⟩
theorem reads_pair {P : Program} {e : TypeId} {f0 f1 : Field} {k : IntKind} (ht : P.underlying e = some (.struct #[f0, f1])) (c : P.cellsOf e = 2) (o0 : f0.offset = 0) (o1 : f1.offset = 1) (c0 : P.cellsOf f0.type = 1) (c1 : P.cellsOf f1.type = 1)
    (u0 : P.underlying f0.type = some (.int k)) (u1 : P.underlying f1.type = some (.int k)) : Reads P e (fun x : Int × Int => [.int k x.1, .int k x.2]) (fun x => (Lit.int k x.1).wf = true ∧ (Lit.int k x.2).wf = true) := by
  intro H en w base spare held fuel cs x h
  obtain ⟨xs, n, _, _, hl, hxl, hf⟩ := DataW.trod_struct ht h
  rw [c] at hl
  match cs, hl with
  | [v0, v1], _ =>
    have h0 := hf 0 f0 rfl
    have h1 := hf 1 f1 rfl
    simp only [List.size_toArray, List.length_cons, List.length_nil] at hxl
    match xs, hxl with
    | [y0, y1], _ =>
      rw [o0, c0] at h0
      rw [o1, c1] at h1
      simp only [List.drop_zero, List.take_succ_cons, List.take_zero, List.getElem?_cons_zero] at h0
      simp only [List.drop_succ_cons, List.drop_zero, List.take_succ_cons, List.take_zero, List.getElem?_cons_succ, List.getElem?_cons_zero] at h1
      obtain ⟨m0, e0, _, w0⟩ := DataW.trod_int u0 h0
      obtain ⟨m1, e1, _, w1⟩ := DataW.trod_int u1 h1
      simp only [List.cons.injEq, and_true] at e0 e1
      exact ⟨(m0, m1), by rw [e0, e1], w0, w1⟩

theorem row_of {P : Program} {α : Type} {s : Nat} {enc : α → List Value} {ok : α → Prop} {t e : TypeId} (hR : Reads P e enc ok) (hc : P.cellsOf e = s) (ht : P.underlying t = some (.slice e)) (hs : ∀ x, (enc x).length = s) (hpos : 0 < s)
    {H : Type} {en : TypeId × Value → H} {w : World} {base : Nat} {spare : Nat → Bool} {held : Bool} {r : Reach} {b0 : Nat} {v : Value} {d : DataW H} {ps : List MemPlace} (hval : Value.okWide P w r b0 t v) (hd : DataW.Trod en P w base spare held t v d ps) :
    ∃ (a : Option Addr) (l : List α) (cap : Nat), v = .slice a l.length cap ∧ l.length ≤ cap ∧ cap ≤ maxLen ∧ (a = none → cap = 0) ∧ Row s enc w a l ∧ ∀ x ∈ l, ok x := by
  obtain ⟨a0, len0, cap0, rfl⟩ := okWide_slice ht hval
  obtain ⟨fuel, hf⟩ := hd
  rcases open_slice ht hf with ⟨hcs, _⟩ | ⟨a, len, cap, m, n, D, Pl, hcs, _, hl, hm, hmm, _, hx⟩
  · simp only [Value.cells, List.cons.injEq, Value.slice.injEq, and_true] at hcs
    obtain ⟨rfl, rfl, rfl⟩ := hcs
    exact ⟨none, [], 0, rfl, Nat.le_refl _, Nat.zero_le _, fun _ => rfl, Row.nil _ _ _ _, by simp⟩
  · simp only [Value.cells, List.cons.injEq, Value.slice.injEq, and_true] at hcs
    obtain ⟨rfl, rfl, rfl⟩ := hcs
    have hlm : len0 ≤ m := by rw [hmm]; split <;> omega
    have each : ∀ i, i < len0 → ∃ z : α, (∀ j u, (enc z)[j]? = some u → w.cell? ((a.add (i * s)).add j) = some u) ∧ ok z := by
      intro i hi
      obtain ⟨cs', h1, h2⟩ := hx i (by omega)
      rw [hc] at h1
      obtain ⟨_, hlen, hcell⟩ := World.cells?_some h1
      obtain ⟨z, rfl, hz⟩ := hR en w base spare held n cs' _ h2
      exact ⟨z, fun j u hj => by rw [hcell j (by have := (List.getElem?_eq_some_iff.1 hj).1; omega), hj], hz⟩
    classical
    let Z : (i : Nat) → i < len0 → α := fun i hi => Classical.choose (each i hi)
    have hZ : ∀ i (hi : i < len0), (∀ j u, (enc (Z i hi))[j]? = some u → w.cell? ((a.add (i * s)).add j) = some u) ∧ ok (Z i hi) := fun i hi => Classical.choose_spec (each i hi)
    let l : List α := List.ofFn (fun i : Fin len0 => Z i.1 i.2)
    have hll : l.length = len0 := by simp [l]
    refine ⟨some a, l, cap0, by rw [hll], by omega, hm, fun h => (by cases h), ?_, ?_⟩
    · refine ⟨by simp only [maxLen] at hm; omega, fun i x hi => ?_⟩
      have hlt : i < len0 := by have := (List.getElem?_eq_some_iff.1 hi).1; omega
      have hxz : x = Z i hlt := by
        have := (List.getElem?_eq_some_iff.1 hi).2
        simpa [l] using this.symm
      subst hxz
      obtain ⟨h1, _⟩ := hZ i hlt
      have hsp : a.spot = none := by
        have hlen := hs (Z i hlt)
        have h0 : 0 < (enc (Z i hlt)).length := by omega
        by_cases hi0 : i * s = 0
        · have := h1 0 (enc (Z i hlt))[0] (by simp [h0])
          simp only [hi0, Addr.add, if_true] at this
          exact World.cell?_spot this
        · have hz0 := hZ 0 (by omega)
          have hlen0 := hs (Z 0 (by omega))
          have h00 : 0 < (enc (Z 0 (by omega))).length := by omega
          have := hz0.1 0 (enc (Z 0 (by omega)))[0] (by simp [h00])
          simp only [Nat.zero_mul, Addr.add, if_true] at this
          exact World.cell?_spot this
      obtain ⟨b, off, spot⟩ := a
      simp only at hsp
      subst hsp
      refine ⟨b, off, rfl, cells_of fun j u hj => ?_⟩
      have := h1 j u hj
      rwa [Addr_add_none, Addr_add_none] at this
    · intro x hx'
      obtain ⟨i, hi⟩ := List.mem_iff_getElem.1 hx'
      obtain ⟨hi1, hi2⟩ := hi
      have : x = Z i (by omega) := by rw [← hi2]; simp [l]
      rw [this]
      exact (hZ i (by omega)).2

theorem wf_i64 {n : Int} (h : (Lit.int .i64 n).wf = true) : inI64 n := by
  simp [Lit.wf, IntKind.min, IntKind.max, IntKind.signed, IntKind.bits] at h
  unfold inI64; omega
theorem wf_u64 {n : Int} (h : (Lit.int .u64 n).wf = true) : 0 ≤ n ∧ n ≤ 18446744073709551615 := by
  simp [Lit.wf, IntKind.min, IntKind.max, IntKind.signed, IntKind.bits] at h
  omega

/-- A law's walk, as the row's step wants it. -/
theorem Spec.law {P : Program} {f : FuncId} {args : List Value} {W : World} (h : Pure P f args W (.bool true)) : Calls P f args.toArray W fun e w' => e = .returned (.bool true) ∧ Below W.heap.size W w' :=
  (h.go W.drawn).mono fun _ _ ⟨v, hx, hv, hE⟩ => ⟨by rw [hx, hv], hE⟩
end Go.Lt
