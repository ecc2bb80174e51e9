/- Slices and maps held against nil. Generic over the program. No conditions. -/
import Derived.Test.YtfkdlepemiepdaaLtTree
namespace Go.Lt
open Go.RowKit
set_option linter.unusedVariables false
set_option linter.unusedSimpArgs false
section
variable {P : Program} {T : Tab} {e : Env} {dd : Option Tmp} {tt ty t el : TypeId} {x y : Operand} {ps : String} {af : Array Edge} {g : Option (Nat × Bool)} {i : TI} {a : Option Addr} {n c : Nat}
theorem run_eqSliceNil (hT : OkTab P T) (ht : tget T t = some i) (hd : i.desc = .slice el) (w : World) : (Op.equal t (.slice a n c) (.slice none 0 0)).run P w = .ok (dec (a = none)) w := by
  have hu := run_underlying' (hT.at ht) w; rw [hd] at hu
  unfold Op.equal
  rw [show Op.maxDepth = 9999 + 1 from rfl, Op.equalIn]
  simp only [Sem.run_bind, hu, Result.andThen_ok]
  cases a with
  | none => simp [dec_true]
  | some q => simp [dec_false]
theorem yeqSl (hT : OkTab P T) (hx : ev e x = some (.slice a n c)) (hy : ev e y = some (.slice none 0 0)) (ht : tget T t = some i) (hd : i.desc = .slice el) : Yields P e ⟨dd, .binOp .eql t x y ty, tt, ps, af, g⟩ (.bool (dec (a = none))) := by
  intro ρ hρ w
  have h1 : (eqGuard .eql t x y (.slice a n c) (.slice none 0 0)).run P w = .ok () w := by simp [eqGuard]
  have h2 : (binOp .eql t (.slice a n c) (.slice none 0 0)).run P w = .ok (.bool (dec (a = none))) w := by simp [binOp, run_eqSliceNil hT ht hd]
  simp [execOp, hρ _ _ hx, hρ _ _ hy, h1, h2]
theorem yneSl (hT : OkTab P T) (hx : ev e x = some (.slice a n c)) (hy : ev e y = some (.slice none 0 0)) (ht : tget T t = some i) (hd : i.desc = .slice el) : Yields P e ⟨dd, .binOp .neq t x y ty, tt, ps, af, g⟩ (.bool (dec (a ≠ none))) := by
  intro ρ hρ w
  have h1 : (eqGuard .neq t x y (.slice a n c) (.slice none 0 0)).run P w = .ok () w := by simp [eqGuard]
  have h3 : (!dec (a = none)) = dec (a ≠ none) := by
    by_cases hh : a = none
    · rw [dec_true hh, dec_false (fun h => h hh)]; rfl
    · rw [dec_false hh, dec_true hh]; rfl
  have h2 : (binOp .neq t (.slice a n c) (.slice none 0 0)).run P w = .ok (.bool (dec (a ≠ none))) w := by simp [binOp, run_eqSliceNil hT ht hd, h3]
  simp [execOp, hρ _ _ hx, hρ _ _ hy, h1, h2]
variable {N d : Nat} {w : World} {Q : Exit → Act → World → Prop} {C : World → Prop} {ops l : List Oper} {Kf : Act → Prop}
theorem WL.eqSl (hT : OkTab P T) (hg : gate ops e g = some true) (hd : Nat.blt d N = true) (hx : ev e x = some (.slice a n c)) (hy : ev e y = some (.slice none 0 0)) (ht : tget T t = some i) (htd : i.desc = .slice el) (k : WL P N ops.toArray l ((d, .bool (dec (a = none))) :: e) w Q) : WL P N ops.toArray (⟨some d, .binOp .eql t x y ty, tt, ps, af, g⟩ :: l) e w Q := WL.step hg hd (yeqSl hT hx hy ht htd).in k
theorem QL.eqSl (hT : OkTab P T) (hg : gate ops e g = some true) (hd : Nat.blt d N = true) (hx : ev e x = some (.slice a n c)) (hy : ev e y = some (.slice none 0 0)) (ht : tget T t = some i) (htd : i.desc = .slice el) (k : QL P N C ops.toArray l ((d, .bool (dec (a = none))) :: e) Q) : QL P N C ops.toArray (⟨some d, .binOp .eql t x y ty, tt, ps, af, g⟩ :: l) e Q := QL.step hg hd (yeqSl hT hx hy ht htd).in k
theorem FL.sliceH0 {ti ei : TI} {ao : Option Addr} {nn cap : Nat} {kk : IntKind} {h : Int} (hT : OkTab P T) (hg : gate ops e g = some true) (hd : Nat.blt d N = true)
    (hx : ev e x = some (.slice ao nn cap)) (hy : ev e y = some (.int kk h)) (ht : tget T t = some ti) (htd : ti.desc = .slice el) (he : tget T el = some ei) (h0 : 0 ≤ h ∧ h ≤ cap)
    (k : FL P N ops.toArray C l ((d, .slice ao h.toNat cap) :: e) w Kf) : FL P N ops.toArray C (⟨some d, .slice t x none (some y) none, tt, ps, af, g⟩ :: l) e w Kf := by
  refine FL.step hg hd ?_ k
  intro ρ hρ w' _
  have := run_sliceH (P := P) hT (n := nn) (ao := ao) (k := kk) ht htd he h0 w'
  simp [execOp, hρ _ _ hx, hρ _ _ hy, this]
theorem WL.sliceH0 {ti ei : TI} {ao : Option Addr} {nn cap : Nat} {kk : IntKind} {h : Int} (hT : OkTab P T) (hg : gate ops e g = some true) (hd : Nat.blt d N = true)
    (hx : ev e x = some (.slice ao nn cap)) (hy : ev e y = some (.int kk h)) (ht : tget T t = some ti) (htd : ti.desc = .slice el) (he : tget T el = some ei) (h0 : 0 ≤ h ∧ h ≤ cap)
    (k : WL P N ops.toArray l ((d, .slice ao h.toNat cap) :: e) w Q) : WL P N ops.toArray (⟨some d, .slice t x none (some y) none, tt, ps, af, g⟩ :: l) e w Q := by
  refine WL.step hg hd ?_ k
  intro ρ hρ w' _
  have := run_sliceH (P := P) hT (n := nn) (ao := ao) (k := kk) ht htd he h0 w'
  simp [execOp, hρ _ _ hx, hρ _ _ hy, this]
theorem FL.sliceL0 {ti ei : TI} {ao : Option Addr} {nn cap s : Nat} {kk : IntKind} {h : Int} (hT : OkTab P T) (hg : gate ops e g = some true) (hd : Nat.blt d N = true)
    (hx : ev e x = some (.slice ao nn cap)) (hy : ev e y = some (.int kk h)) (ht : tget T t = some ti) (htd : ti.desc = .slice el) (he : tget T el = some ei) (hs : ei.size = s) (h0 : 0 ≤ h ∧ h ≤ nn)
    (k : FL P N ops.toArray C l ((d, .slice (subA ao cap h.toNat s) (nn - h.toNat) (cap - h.toNat)) :: e) w Kf) : FL P N ops.toArray C (⟨some d, .slice t x (some y) none none, tt, ps, af, g⟩ :: l) e w Kf := by
  refine FL.step hg hd ?_ k
  subst hs
  intro ρ hρ w' _
  have := run_sliceL (P := P) hT (n := nn) (cap := cap) (ao := ao) (k := kk) ht htd he h0 w'
  simp [execOp, hρ _ _ hx, hρ _ _ hy, this, subA]
theorem WL.neSl (hT : OkTab P T) (hg : gate ops e g = some true) (hd : Nat.blt d N = true) (hx : ev e x = some (.slice a n c)) (hy : ev e y = some (.slice none 0 0)) (ht : tget T t = some i) (htd : i.desc = .slice el) (k : WL P N ops.toArray l ((d, .bool (dec (a ≠ none))) :: e) w Q) : WL P N ops.toArray (⟨some d, .binOp .neq t x y ty, tt, ps, af, g⟩ :: l) e w Q := WL.step hg hd (yneSl hT hx hy ht htd).in k
end
section ext
variable {P : Program} {T : Tab} {N d : Nat} {e : Env} {w w0 : World} {C : World → Prop} {ops l : List Oper} {Kf : Act → Prop} {tt t ty : TypeId} {ps : String} {af : Array Edge} {g : Option (Nat × Bool)} {x y : Operand}
theorem FL.loadE {p : Addr} {v : Value} {i : TI} (hT : OkTab P T) (hg : gate ops e g = some true) (hd : Nat.blt d N = true) (hx : ev e x = some (.pointer (some p))) (ht : tget T t = some i) (ha : isAggD i.desc = false) (hv : w0.cell? p = some v)
    (k : FL P N ops.toArray (Ext w0) l ((d, v) :: e) w Kf) : FL P N ops.toArray (Ext w0) (⟨some d, .load t x, tt, ps, af, g⟩ :: l) e w Kf := by
  refine FL.step hg hd ?_ k
  intro ρ hρ w' hw'
  have h1 := run_isAgg' (hT.at ht); rw [ha] at h1
  have h2 := Ext.cell hw' hv
  simp [execOp, hρ _ _ hx, Instr.loadAt, Instr.sureAddr, loadVar, h1, h2]
theorem FL.loadAE {b off : Nat} {vs : List Value} {i : TI} (hT : OkTab P T) (hg : gate ops e g = some true) (hd : Nat.blt d N = true) (hx : ev e x = some (.pointer (some ⟨b, off, none⟩))) (ht : tget T t = some i) (ha : isAggD i.desc = true) (hv : Cells w0 b off vs) (hs : i.size = vs.length)
    (k : FL P N ops.toArray (Ext w0) l ((d, .agg vs.toArray) :: e) w Kf) : FL P N ops.toArray (Ext w0) (⟨some d, .load t x, tt, ps, af, g⟩ :: l) e w Kf := by
  refine FL.step hg hd ?_ k
  intro ρ hρ w' hw'
  have h1 := run_isAgg' (hT.at ht); rw [ha] at h1
  have h3 := run_sizeOf' (hT.at ht); rw [hs] at h3
  have h2 := run_loadCellsFrom (P := P) (acc := #[]) (off := off) (i := 0) (Cells.ext hw' hv)
  simp [execOp, hρ _ _ hx, Instr.loadAt, Instr.sureAddr, loadVar, h1, h3, loadCells, h2]
theorem FL.indexE {α : Type} {s : Nat} {enc : α → List Value} {a : Option Addr} {xs : List α} {n cap : Nat} {kk : IntKind} {i : Int} {ti ei : TI} {el : TypeId} {z : α}
    (hT : OkTab P T) (hg : gate ops e g = some true) (hd : Nat.blt d N = true) (hx : ev e x = some (.slice a n cap)) (hy : ev e y = some (.int kk i)) (ht : tget T t = some ti) (htd : ti.desc = .slice el) (he : tget T el = some ei) (hs : ei.size = s)
    (R : Row s enc w0 a xs) (hn : xs.length = n) (h0 : 0 ≤ i) (hz : xs[i.toNat]? = some z)
    (k : ∀ b off, Cells w0 b off (enc z) → FL P N ops.toArray C l ((d, .pointer (some ⟨b, off, none⟩)) :: e) w Kf) : FL P N ops.toArray C (⟨some d, .indexAddr t x y, tt, ps, af, g⟩ :: l) e w Kf := by
  obtain ⟨b, off, hc, hy'⟩ := yindex (P := P) (dd := some d) (t := t) (tt := tt) (x := x) (y := y) (ps := ps) (af := af) (g := g) hT hx hy ht htd he hs R (Ext.refl _) hn h0 hz
  exact FL.step hg hd hy'.in (k b off hc)
end ext
section remk
variable {P : Program} {N d : Nat} {e : Env} {w : World} {Q : Exit → Act → World → Prop} {ops l : List Oper} {tt t ty : TypeId} {ps : String} {af : Array Edge} {g : Option (Nat × Bool)} {x y : Operand} {a b : Int} {kk : IntKind}
theorem WL.remK (hg : gate ops e g = some true) (hd : Nat.blt d N = true) (hx : ev e x = some (.int kk a)) (hy : ev e y = some (.int kk b)) (h : 0 ≤ a ∧ 1 ≤ b) (k : WL P N ops.toArray l ((d, .int kk (a % b)) :: e) w Q) : WL P N ops.toArray (⟨some d, .binOp .rem t x y ty, tt, ps, af, g⟩ :: l) e w Q := by
  have := ydiv (P := P) (dd := some d) (op := .rem) (t := t) (ty := ty) (tt := tt) (ps := ps) (af := af) (g := g) hx hy (by omega) (.inr ⟨rfl, rfl⟩)
  rw [IntWalk.rem_in _ _ h.1] at this
  exact WL.step hg hd this.in k
end remk
section cut
variable {P : Program} {N : Nat} {e : Env} {w : World} {Q : Exit → Act → World → Prop}
/-- A cut behind x, whatever comes. -/
theorem W.cutT {σ : Type} {x y : Code} (I : σ → Prop) (E : σ → Env) (U : σ → World)
    (h : W P N x e w (Exit.then (fun a w' => ∃ s, I s ∧ Fit N (E s) a ∧ ∃ m, w' = at' (U s) m) Q))
    (k : ∀ s, I s → W P N y (E s) (U s) Q) : W P N x e w (Exit.then (y.wp P Q) Q) := ⟨fun a m hf => by
  refine wp_mono (h.go a m hf) fun ex a' w' hq => ?_
  cases ex with
  | normal => obtain ⟨s, h1, h2, n, h3⟩ := hq; subst h3; exact (k s h1).go a' n h2
  | _ => exact hq⟩
end cut
theorem Z.body3 {P : Program} {fn : Func} {N : Nat} {e : Env} {w : World} {R : Value → World → Prop} {t u s : Nat} {v x y : Value} (hr : fn.results = #[.tmp t, .tmp u, .tmp s]) (hv : get e t = some v) (hx : get e u = some x) (hy : get e s = some y) (hR : ∀ m, R (.tuple #[v, x, y]) (at' w m)) :
    Z N (bodyPost P fn fun x w' => ∃ v, x = .returned v ∧ R v w') .ret e w := ⟨fun a m hf =>
  bodyPost_ret (v := .tuple #[v, x, y]) (by have h1 := hf.slots _ _ hv; have h2 := hf.slots _ _ hx; have h3 := hf.slots _ _ hy; simp [results, hr, Array.getD_eq_getD_getElem?, h1, h2, h3]) hf.defers ⟨_, rfl, hR m⟩⟩
theorem Sep.pick {B : Nat} {w : World} {ps qs : List Piece} (f : Nat → Nat) (hS : Sep B w ps) (hf : ∀ i p, qs[i]? = some p → ps[f i]? = some p) (hi : ∀ i j, i < qs.length → j < qs.length → i ≠ j → f i ≠ f j) : Sep B w qs := by
  refine ⟨fun i p h => hS.holds _ _ (hf i p h), fun i j p q h1 h2 hne => hS.apart _ _ _ _ (hf i p h1) (hf j q h2) (hi i j ?_ ?_ hne)⟩
  · exact (List.getElem?_eq_some_iff.1 h1).1
  · exact (List.getElem?_eq_some_iff.1 h2).1
theorem Sep.re {B : Nat} {w : World} {ps : List Piece} {i : Nat} {p p' : Piece} (hS : Sep B w ps) (hi : ps[i]? = some p) (hb : p'.b = p.b) (hp : p'.P w) : Sep B w (ps.set i p') := by
  have hil := (List.getElem?_eq_some_iff.1 hi).1
  have key : ∀ (j : Nat) (q : Piece), (ps.set i p')[j]? = some q → ∃ q0, ps[j]? = some q0 ∧ q.b = q0.b ∧ (q.P w ∨ q = q0) := by
    intro j q hq
    by_cases hij : i = j
    · subst hij
      rw [List.getElem?_set_self hil] at hq
      cases hq
      exact ⟨p, hi, hb, .inl hp⟩
    · rw [List.getElem?_set_ne hij] at hq
      exact ⟨q, hq, rfl, .inr rfl⟩
  refine ⟨fun j q hq => ?_, fun j k q r hq hr hne => ?_⟩
  · obtain ⟨q0, h1, h2, h3⟩ := key j q hq
    have h4 := hS.holds j q0 h1
    refine ⟨?_, fun k hk => h4.2 k (by rw [← h2]; exact hk)⟩
    rcases h3 with h3 | rfl
    · exact h3
    · exact h4.1
  · obtain ⟨q0, h1, h2, _⟩ := key j q hq
    obtain ⟨r0, h3, h4, _⟩ := key k r hr
    rw [h2, h4]
    exact hS.apart j k q0 r0 h1 h3 hne
/-- The second piece and the third one change places. -/
theorem Sep.swap12 {B : Nat} {w : World} {p q r : Piece} {ps : List Piece} (hS : Sep B w (p :: q :: r :: ps)) : Sep B w (p :: r :: q :: ps) := by
  refine hS.pick (fun i => if i = 1 then 2 else if i = 2 then 1 else i) (fun i x h => ?_) (fun i j _ _ hne => ?_)
  · match i, h with
    | 0, h => exact h
    | 1, h => exact h
    | 2, h => exact h
    | i + 3, h => simpa using h
  · show (if i = 1 then 2 else if i = 2 then 1 else i) ≠ (if j = 1 then 2 else if j = 2 then 1 else j)
    split <;> split <;> (try split) <;> (try split) <;> omega
theorem Sep.comm {B : Nat} {w : World} {ps qs : List Piece} (hS : Sep B w (ps ++ qs)) : Sep B w (qs ++ ps) := by
  refine hS.pick (fun i => if i < qs.length then ps.length + i else i - qs.length) (fun i x h => ?_) (fun i j hi hj hne => ?_)
  · by_cases h1 : i < qs.length
    · simp only [if_pos h1]
      rw [List.getElem?_append_left h1] at h
      rw [List.getElem?_append_right (by omega), Nat.add_sub_cancel_left]; exact h
    · simp only [if_neg h1]
      rw [List.getElem?_append_right (by omega)] at h
      rw [List.getElem?_append_left (List.getElem?_eq_some_iff.1 h).1]; exact h
  · rw [List.length_append] at hi hj
    show (if i < qs.length then ps.length + i else i - qs.length) ≠ (if j < qs.length then ps.length + j else j - qs.length)
    split <;> split <;> omega
/-- The third piece is let go. -/
theorem Sep.drop2 {B : Nat} {w : World} {p q r : Piece} {ps : List Piece} (hS : Sep B w (p :: q :: r :: ps)) : Sep B w (p :: q :: ps) := by
  refine hS.pick (fun i => if i < 2 then i else i + 1) (fun i x h => ?_) (fun i j _ _ hne => ?_)
  · match i, h with
    | 0, h => exact h
    | 1, h => exact h
    | i + 2, h => show (p :: q :: r :: ps)[if i + 2 < 2 then i + 2 else i + 2 + 1]? = some x; rw [if_neg (by omega)]; simpa using h
  · show (if i < 2 then i else i + 1) ≠ (if j < 2 then j else j + 1)
    split <;> split <;> omega
/-- The first piece and the second one change places. -/
theorem Sep.swap01 {B : Nat} {w : World} {p q : Piece} {ps : List Piece} (hS : Sep B w (p :: q :: ps)) : Sep B w (q :: p :: ps) := by
  refine hS.pick (fun i => if i = 0 then 1 else if i = 1 then 0 else i) (fun i x h => ?_) (fun i j _ _ hne => ?_)
  · match i, h with
    | 0, h => exact h
    | 1, h => exact h
    | i + 2, h => simpa using h
  · show (if i = 0 then 1 else if i = 1 then 0 else i) ≠ (if j = 0 then 1 else if j = 1 then 0 else j)
    split <;> split <;> (try split) <;> (try split) <;> omega
end Go.Lt
