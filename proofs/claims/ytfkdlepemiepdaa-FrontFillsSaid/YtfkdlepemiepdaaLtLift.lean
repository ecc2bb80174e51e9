/- From an argument's reading as data to the rows of this logic. Generic over the program. No conditions. -/
import Derived.Test.YtfkdlepemiepdaaLtLoops
import Derived.ProofKit
import Derived.OpenShut
import Derived.ShutString
import Derived.ChangeOld
import Derived.Deep.Slices
import Derived.SizedLaws
namespace Go.Lt
open Go.ChangeShapes Go.WideShapes Go.ChangeAt Go.RowKit Go.Deep
set_option linter.unusedVariables false

/-- What reads by this type takes the cells of an element. -/
def Reads (P : Program) (e : TypeId) {α : Type} (enc : α → List Value) (ok : World → α → Prop) : Prop :=
  ∀ {H : Type} (en : TypeId × Value → H) (w : World) (base : Nat) (spare : Nat → Bool) (held : Bool) (fuel : Nat) (cs : List Value) (x : DataW H × List MemPlace), DataW.trod en P w base spare held fuel e cs = some x → ∃ a : α, cs = enc a ∧ ok w a

theorem reads_int {P : Program} {e : TypeId} {k : IntKind} (ht : P.underlying e = some (.int k)) : Reads P e (fun n : Int => [.int k n]) (fun _ n => (Lit.int k n).wf = true) := by
  intro H en w base spare held fuel cs x h
  obtain ⟨n, h1, _, h2⟩ := DataW.trod_int ht h
  exact ⟨n, h1, h2⟩
theorem reads_bool {P : Program} {e : TypeId} (ht : P.underlying e = some .bool) : Reads P e (fun n : Bool => [.bool n]) (fun _ _ => True) := by
  intro H en w base spare held fuel cs x h
  obtain ⟨n, h1, _⟩ := DataW.trod_bool ht h
  exact ⟨n, h1, trivial⟩
theorem reads_string {P : Program} {e : TypeId} (ht : P.underlying e = some .string) : Reads P e (fun n : ByteArray => [.string n]) (fun _ n => True) := by
  intro H en w base spare held fuel cs x h
  obtain ⟨n, h1, _⟩ := DataW.trod_string ht h
  exact ⟨n, h1, trivial⟩
theorem wf_u64 {n : Int} (h : (Lit.int .u64 n).wf = true) : 0 ≤ n ∧ n ≤ 18446744073709551615 := by
  simp [Lit.wf, IntKind.min, IntKind.max, IntKind.signed, IntKind.bits] at h
  omega
theorem reads_u64 {P : Program} {e : TypeId} (ht : P.underlying e = some (.int .u64)) : Reads P e encV (fun _ _ => True) := by
  intro H en w base spare held fuel cs x h
  obtain ⟨n, h1, _, h2⟩ := DataW.trod_int ht h
  have h3 := wf_u64 h2
  exact ⟨BitVec.ofInt 64 n, by rw [h1]; show _ = [Value.int .u64 _]; rw [← u64_lit n (by omega)], trivial⟩
theorem reads_one {P : Program} {e : TypeId} {f0 : Field} {α : Type} {ea : α → List Value} {oka : World → α → Prop} (ht : P.underlying e = some (.struct #[f0])) (ra : Reads P f0.type ea oka)
    (c : P.cellsOf e = P.cellsOf f0.type) (o0 : f0.offset = 0) : Reads P e ea oka := by
  intro H en w base spare held fuel cs x h
  obtain ⟨xs, n, _, _, hl, hxl, hf⟩ := DataW.trod_struct ht h
  match xs, hxl with
  | [y0], _ =>
    have h0 := hf 0 f0 rfl
    rw [o0] at h0
    simp only [List.drop_zero, List.getElem?_cons_zero] at h0
    obtain ⟨a, ha, oa⟩ := ra en w base spare held n _ _ h0
    rw [c] at hl
    rw [List.take_of_length_le (by omega)] at ha
    exact ⟨a, ha, oa⟩
/-- A struct of fields: the first one, and all others as if a struct of their own. -/
theorem reads_pair' {P : Program} {e : TypeId} {f0 f1 : Field} {α β : Type} {ea : α → List Value} {eb : β → List Value} {oka : World → α → Prop} {okb : World → β → Prop} {s0 s1 : Nat}
    (ht : P.underlying e = some (.struct #[f0, f1])) (ra : Reads P f0.type ea oka) (rb : Reads P f1.type eb okb)
    (c : P.cellsOf e = s0 + s1) (o0 : f0.offset = 0) (o1 : f1.offset = s0) (c0 : P.cellsOf f0.type = s0) (c1 : P.cellsOf f1.type = s1) : Reads P e (fun x : α × β => ea x.1 ++ eb x.2) (fun w x => oka w x.1 ∧ okb w x.2) := by
  intro H en w base spare held fuel cs x h
  obtain ⟨xs, n, _, _, hl, hxl, hf⟩ := DataW.trod_struct ht h
  rw [c] at hl
  match xs, hxl with
  | [y0, y1], _ =>
    have h0 := hf 0 f0 rfl
    have h1 := hf 1 f1 rfl
    rw [o0, c0] at h0
    rw [o1, c1] at h1
    simp only [List.drop_zero, List.getElem?_cons_zero] at h0
    simp only [List.getElem?_cons_succ, List.getElem?_cons_zero] at h1
    obtain ⟨a, ha, oa⟩ := ra en w base spare held n _ _ h0
    obtain ⟨b, hb, ob⟩ := rb en w base spare held n _ _ h1
    refine ⟨(a, b), ?_, oa, ob⟩
    show cs = ea a ++ eb b
    rw [← ha, ← hb, List.take_of_length_le (l := cs.drop s0) (by rw [List.length_drop]; omega), List.take_append_drop]
theorem reads_triple' {P : Program} {e : TypeId} {f0 f1 f2 : Field} {α β γ : Type} {ea : α → List Value} {eb : β → List Value} {ec : γ → List Value} {oka : World → α → Prop} {okb : World → β → Prop} {okc : World → γ → Prop} {s0 s1 s2 : Nat}
    (ht : P.underlying e = some (.struct #[f0, f1, f2])) (ra : Reads P f0.type ea oka) (rb : Reads P f1.type eb okb) (rc : Reads P f2.type ec okc)
    (c : P.cellsOf e = s0 + s1 + s2) (o0 : f0.offset = 0) (o1 : f1.offset = s0) (o2 : f2.offset = s0 + s1) (c0 : P.cellsOf f0.type = s0) (c1 : P.cellsOf f1.type = s1) (c2 : P.cellsOf f2.type = s2) :
    Reads P e (fun x : α × β × γ => ea x.1 ++ (eb x.2.1 ++ ec x.2.2)) (fun w x => oka w x.1 ∧ okb w x.2.1 ∧ okc w x.2.2) := by
  intro H en w base spare held fuel cs x h
  obtain ⟨xs, n, _, _, hl, hxl, hf⟩ := DataW.trod_struct ht h
  rw [c] at hl
  match xs, hxl with
  | [y0, y1, y2], _ =>
    have h0 := hf 0 f0 rfl
    have h1 := hf 1 f1 rfl
    have h2 := hf 2 f2 rfl
    rw [o0, c0] at h0
    rw [o1, c1] at h1
    rw [o2, c2] at h2
    simp only [List.drop_zero, List.getElem?_cons_zero] at h0
    simp only [List.getElem?_cons_succ, List.getElem?_cons_zero] at h1 h2
    obtain ⟨a, ha, oa⟩ := ra en w base spare held n _ _ h0
    obtain ⟨b, hb, ob⟩ := rb en w base spare held n _ _ h1
    obtain ⟨d, hd, od⟩ := rc en w base spare held n _ _ h2
    refine ⟨(a, b, d), ?_, oa, ob, od⟩
    show cs = ea a ++ (eb b ++ ec d)
    rw [← ha, ← hb, ← hd, List.take_of_length_le (l := cs.drop (s0 + s1)) (by rw [List.length_drop]; omega), ← List.drop_drop, List.take_append_drop, List.take_append_drop]
theorem reads_pair {P : Program} {e : TypeId} {f0 f1 : Field} {k : IntKind} (ht : P.underlying e = some (.struct #[f0, f1])) (c : P.cellsOf e = 2) (o0 : f0.offset = 0) (o1 : f1.offset = 1) (c0 : P.cellsOf f0.type = 1) (c1 : P.cellsOf f1.type = 1)
    (u0 : P.underlying f0.type = some (.int k)) (u1 : P.underlying f1.type = some (.int k)) : Reads P e (fun x : Int × Int => [.int k x.1, .int k x.2]) (fun _ x => (Lit.int k x.1).wf = true ∧ (Lit.int k x.2).wf = true) :=
  reads_pair' ht (reads_int u0) (reads_int u1) c o0 o1 c0 c1

/-- A slice of what reads. -/
theorem reads_row {P : Program} {α : Type} {s : Nat} {enc : α → List Value} {ok : World → α → Prop} {t e : TypeId} (hR : Reads P e enc ok) (hc : P.cellsOf e = s) (ht : P.underlying t = some (.slice e)) (hs : ∀ x, (enc x).length = s) (hpos : 0 < s) :
    Reads P t (fun r : Option Addr × Nat × List α => [.slice r.1 r.2.2.length r.2.1]) (fun w r => Row s enc w r.1 r.2.2 ∧ r.2.2.length ≤ r.2.1 ∧ r.2.1 ≤ maxLen ∧ (r.1 = none → r.2.1 = 0) ∧ ∀ x ∈ r.2.2, ok w x) := by
  intro H en w base spare held fuel cs xx hf
  rcases open_slice ht hf with ⟨hcs, _⟩ | ⟨a, len0, cap0, m, n, D, Pl, hcs, _, hl, hm, hmm, _, hx⟩
  · exact ⟨(none, 0, []), hcs, Row.nil _ _ _ _, Nat.le_refl _, Nat.zero_le _, fun _ => rfl, fun _ h => by cases h⟩
  · have hlm : len0 ≤ m := by rw [hmm]; split <;> omega
    have each : ∀ i, i < len0 → ∃ z : α, (∀ j u, (enc z)[j]? = some u → w.cell? ((a.add (i * s)).add j) = some u) ∧ ok w z := by
      intro i hi
      obtain ⟨cs', h1, h2⟩ := hx i (by omega)
      rw [hc] at h1
      obtain ⟨_, hlen, hcell⟩ := World.cells?_some h1
      obtain ⟨z, rfl, hz⟩ := hR en w base spare held n cs' _ h2
      exact ⟨z, fun j u hj => by rw [hcell j (by have := (List.getElem?_eq_some_iff.1 hj).1; omega), hj], hz⟩
    classical
    let Z : (i : Nat) → i < len0 → α := fun i hi => Classical.choose (each i hi)
    have hZ : ∀ i (hi : i < len0), (∀ j u, (enc (Z i hi))[j]? = some u → w.cell? ((a.add (i * s)).add j) = some u) ∧ ok w (Z i hi) := fun i hi => Classical.choose_spec (each i hi)
    let l : List α := List.ofFn (fun i : Fin len0 => Z i.1 i.2)
    have hll : l.length = len0 := by simp [l]
    refine ⟨(some a, cap0, l), by rw [hcs]; show _ = [Value.slice (some a) l.length cap0]; rw [hll], ?_, by show l.length ≤ cap0; omega, hm, fun h => (by cases h), ?_⟩
    · refine ⟨by simp only [maxLen] at hm; show l.length ≤ _; omega, fun i x hi => ?_⟩
      have hi : l[i]? = some x := hi
      have hlt : i < len0 := by have := (List.getElem?_eq_some_iff.1 hi).1; omega
      have hxz : x = Z i hlt := by
        have := (List.getElem?_eq_some_iff.1 hi).2
        simpa [l] using this.symm
      subst hxz
      obtain ⟨h1, _⟩ := hZ i hlt
      have hsp : a.spot = none := by
        have hlen := hs (Z i hlt)
        have h0 : 0 < (enc (Z i hlt)).length := by omega
        by_cases hi0 : i * s = 0
        · have := h1 0 (enc (Z i hlt))[0] (by simp [h0])
          simp only [hi0, Addr.add, if_true] at this
          exact World.cell?_spot this
        · have hz0 := hZ 0 (by omega)
          have hlen0 := hs (Z 0 (by omega))
          have h00 : 0 < (enc (Z 0 (by omega))).length := by omega
          have := hz0.1 0 (enc (Z 0 (by omega)))[0] (by simp [h00])
          simp only [Nat.zero_mul, Addr.add, if_true] at this
          exact World.cell?_spot this
      obtain ⟨b, off, spot⟩ := a
      simp only at hsp
      subst hsp
      refine ⟨b, off, rfl, cells_of fun j u hj => ?_⟩
      have := h1 j u hj
      rwa [Addr_add_none, Addr_add_none] at this
    · intro x hx'
      obtain ⟨i, hi⟩ := List.mem_iff_getElem.1 (show x ∈ l from hx')
      obtain ⟨hi1, hi2⟩ := hi
      have : x = Z i (by omega) := by rw [← hi2]; simp [l]
      rw [this]
      exact (hZ i (by omega)).2

theorem row_of {P : Program} {α : Type} {s : Nat} {enc : α → List Value} {ok : World → α → Prop} {t e : TypeId} (hR : Reads P e enc ok) (hc : P.cellsOf e = s) (ht : P.underlying t = some (.slice e)) (hs : ∀ x, (enc x).length = s) (hpos : 0 < s)
    {H : Type} {en : TypeId × Value → H} {w : World} {base : Nat} {spare : Nat → Bool} {held : Bool} {r : Reach} {b0 : Nat} {v : Value} {d : DataW H} {ps : List MemPlace} (hval : Value.okWide P w r b0 t v) (hd : DataW.Trod en P w base spare held t v d ps) :
    ∃ (a : Option Addr) (l : List α) (cap : Nat), v = .slice a l.length cap ∧ l.length ≤ cap ∧ cap ≤ maxLen ∧ (a = none → cap = 0) ∧ Row s enc w a l ∧ ∀ x ∈ l, ok w x := by
  obtain ⟨a0, len0, cap0, rfl⟩ := okWide_slice ht hval
  obtain ⟨fuel, hf⟩ := hd
  obtain ⟨⟨a, cap, l⟩, h1, h2, h3, h4, h5, h6⟩ := reads_row hR hc ht hs hpos en w base spare held fuel _ _ hf
  simp only [Value.cells, List.cons.injEq, Value.slice.injEq, and_true] at h1
  obtain ⟨rfl, rfl, rfl⟩ := h1
  exact ⟨a0, l, cap0, rfl, h3, h4, h5, h2, h6⟩

/-- A slice of slices. -/
abbrev RowV (α : Type) := Option Addr × Nat × List α
abbrev encRow {α : Type} : RowV α → List Value := fun r => [.slice r.1 r.2.2.length r.2.1]
theorem encRow_ok {α : Type} : Enc 1 (encRow (α := α)) := ⟨fun _ => rfl, fun x u hu => by simp at hu; subst hu; rfl, by decide⟩

theorem wf_i64 {n : Int} (h : (Lit.int .i64 n).wf = true) : inI64 n := by
  simp [Lit.wf, IntKind.min, IntKind.max, IntKind.signed, IntKind.bits] at h
  unfold inI64; omega
theorem wf_u8 {n : Int} (h : (Lit.int .u8 n).wf = true) : 0 ≤ n ∧ n ≤ 255 := by
  simp [Lit.wf, IntKind.min, IntKind.max, IntKind.signed, IntKind.bits] at h
  omega
theorem weights_get {H : Type} {P : Program} : ∀ {ts : List TypeId} {ds : List (DataW H)} {i : Nat} {t : TypeId} {d : DataW H}, (DataW.weightsEach P ts ds).all (· ≤ reachBytes) = true → ts[i]? = some t → ds[i]? = some d → (d.weights P t).all (· ≤ reachBytes) = true
  | [], _, _, _, _, _, h, _ => by simp at h
  | _ :: _, [], _, _, _, _, _, h => by simp at h
  | t0 :: ts, d0 :: ds, 0, t, d, ha, h1, h2 => by
    simp only [List.getElem?_cons_zero, Option.some.injEq] at h1 h2
    subst h1; subst h2
    simp only [DataW.weightsEach, List.all_append, Bool.and_eq_true] at ha
    exact ha.1
  | t0 :: ts, d0 :: ds, i + 1, t, d, ha, h1, h2 => by
    simp only [List.getElem?_cons_succ] at h1 h2
    simp only [DataW.weightsEach, List.all_append, Bool.and_eq_true] at ha
    exact weights_get ha.2 h1 h2
/-- A slice that comes in has room in an address space. -/
theorem size_of {H : Type} {P : Program} {en : TypeId × Value → H} {w : World} {base : Nat} {spare : Nat → Bool} {held : Bool} {ts : List TypeId} {ds : List (DataW H)} {i : Nat} {t e : TypeId} {d : DataW H} {ps : List MemPlace} {a : Option Addr} {n cap : Nat} (b : Nat)
    (ha : (DataW.weightsEach P ts ds).all (· ≤ reachBytes) = true) (h1 : ts[i]? = some t) (h2 : ds[i]? = some d) (ht : P.underlying t = some (.slice e)) (hb : P.bytesOf e = b) (hd : DataW.Trod en P w base spare held t (.slice a n cap) d ps) : n * b ≤ 140737488351232 := by
  obtain ⟨fuel, hf⟩ := hd
  have hw := weights_get ha h1 h2
  rcases open_slice ht hf with ⟨hcs, hx⟩ | ⟨a0, len0, cap0, m, q, D, Pl, hcs, _, hl, hm, hmm, hx, _⟩
  · simp only [Value.cells, List.cons.injEq, Value.slice.injEq, and_true] at hcs
    rw [hcs.2.1]; omega
  · simp only [Value.cells, List.cons.injEq, Value.slice.injEq, and_true] at hcs
    simp only [Prod.mk.injEq] at hx
    rw [hx.1] at hw
    simp only [DataW.weights, ht, List.all_cons, Bool.and_eq_true, decide_eq_true_eq, List.length_map, List.length_range, hb] at hw
    have h3 := hw.1
    rw [hcs.2.1]
    have h4 : len0 * b ≤ (len0 + (m - len0)) * b := Nat.mul_le_mul_right _ (by omega)
    simp only [reachBytes] at h3
    omega

/-- A law's walk, as the row's step wants it. -/
theorem Spec.law {P : Program} {f : FuncId} {args : List Value} {W : World} (h : Pure P f args W (.bool true)) : Calls P f args.toArray W fun e w' => e = .returned (.bool true) ∧ Below W.heap.size W w' :=
  (h.go W.drawn).mono fun _ _ ⟨v, hx, hv, hE⟩ => ⟨by rw [hx, hv], hE⟩
end Go.Lt
