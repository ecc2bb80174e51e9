/- Stores: into a row of one's own, into a variable of one's own; slices of slices. Generic over the program. No conditions. -/
import Derived.Test.YtfkdlepemiepdaaLtOwn
namespace Go.Lt
open Go.RowKit
set_option linter.unusedVariables false
set_option linter.unusedSimpArgs false

theorem flatMap_set' {α : Type} {s : Nat} {enc : α → List Value} (h : ∀ x, (enc x).length = s) (z' : α) : ∀ (xs : List α) (i : Nat), i < xs.length → (xs.set i z').flatMap enc = (xs.flatMap enc).take (i * s) ++ enc z' ++ (xs.flatMap enc).drop (i * s + s)
  | [], i, hi => by simp at hi
  | x :: r, 0, hi => by simp [List.drop_append, h x, List.drop_eq_nil_of_le (as := enc x) (i := s) (by rw [h x]; exact Nat.le_refl _)]
  | x :: r, i + 1, hi => by
    have ih := flatMap_set' h z' r i (by simpa using hi)
    have e1 : (i + 1) * s = (enc x).length + i * s := by rw [h, Nat.add_mul]; omega
    simp only [List.set_cons_succ, List.flatMap_cons, ih, e1]
    rw [List.take_append, List.drop_append]
    simp only [Nat.add_sub_cancel_left]
    rw [List.take_of_length_le (l := enc x) (by omega), List.drop_eq_nil_of_le (as := enc x) (by omega)]
    rw [show (enc x).length + i * s + s - (enc x).length = i * s + s by omega]
    simp [List.append_assoc]

theorem splice_take (L cs : List Value) (q s M : Nat) (hcs : cs.length = s) (hq : q + s ≤ M) (hM : M ≤ L.length) : (L.take q ++ cs ++ L.drop (q + s)).take M = (L.take M).take q ++ cs ++ (L.take M).drop (q + s) := by
  rw [List.take_take, Nat.min_eq_left (by omega), List.drop_take, List.append_assoc, List.append_assoc, List.take_append, List.length_take, Nat.min_eq_left (by omega)]
  rw [List.take_of_length_le (l := L.take q) (by rw [List.length_take]; omega), List.take_append, hcs, List.take_of_length_le (l := cs) (by omega)]
  rw [show M - q - s = M - (q + s) by omega]

section
variable {P : Program}
theorem run_storeVar' {t : Nat} {i : TI} (h : i.Ok P t) (g q : Nat) (el : TypeId) (cur : Array Value) (w : World) (v : Value) (hg : w.heap[g]? = some (.cells cur el (0, 0))) (hs : v.cells.size = i.size) (hq : q + v.cells.size ≤ cur.size) (h1 : ∀ u ∈ v.cells.toList, u.oneCell' = true) :
    (storeVar t ⟨g, q, none⟩ v).run P w = .ok () (w.setRow g (cur.toList.take q ++ v.cells.toList ++ cur.toList.drop (q + v.cells.size)).toArray) := by
  have h2 := run_sizeOf' h
  have h3 := run_storeCells_at P g q el v.cells.toList 0 cur w hg (by simpa using hq) h1
  simp only [Nat.add_zero, Array.length_toList] at h3
  simp only [storeVar, Sem.run_bind, h2, Result.andThen_ok, hs, ne_eq, not_true_eq_false, if_false, Sem.run_pure]
  rw [hs] at h3
  simpa using h3
end

section rules
variable {P : Program} {N : Nat} {e : Env} {w : World} {Q : Exit → Act → World → Prop} {ops : List Oper} {l : List Oper} {T : Tab}
  {d : Nat} {tt : TypeId} {ps : String} {af : Array Edge} {g : Option (Nat × Bool)} {t : TypeId} {α : Type} {s : Nat} {enc : α → List Value} {B : Nat} {ti ei : TI} {el : TypeId}

/-- The address of an element of one's own row. -/
theorem yindexO {C : World → Prop} {dd : Option Tmp} {x y : Operand} {a : Option Addr} {xs : List α} {n cap : Nat} {k : IntKind} {i : Int} {z : α} {wo : World} (hT : OkTab P T)
    (hx : ev e x = some (.slice a n cap)) (hy : ev e y = some (.int k i)) (ht : tget T t = some ti) (hd : ti.desc = .slice el) (he : tget T el = some ei) (hs : ei.size = s) (hE : Enc s enc)
    (ho : Own s enc el B wo a cap xs) (E : Ext wo w) (hn : xs.length = n) (h0 : 0 ≤ i) (hz : xs[i.toNat]? = some z) :
    ∃ gb, a = some ⟨gb, 0, none⟩ ∧ Cells w gb (i.toNat * s) (enc z) ∧ Yields P e ⟨dd, .indexAddr t x y, tt, ps, af, g⟩ (.pointer (some ⟨gb, i.toNat * s, none⟩)) := by
  obtain ⟨b, off, ha, hc⟩ := (ho.row hE).elem _ _ hz
  have hoff : off = 0 := by
    rcases ho.2 with ⟨h1, _⟩ | ⟨g', c', cur, h1, _⟩
    · rw [ha] at h1; simp at h1
    · rw [ha] at h1; simp only [Value.slice.injEq, Option.some.injEq, Addr.mk.injEq] at h1; exact h1.1.2.1
  subst hoff
  refine ⟨b, ha, by simpa using hc.ext E, ?_⟩
  intro ρ hρ w'
  have hlt : i.toNat < xs.length := (List.getElem?_eq_some_iff.1 hz).1
  have h1 := run_underlying' (hT.at ht); rw [hd] at h1
  have h2 := run_sizeOf' (hT.at he); rw [hs] at h2
  have h3 : i < (n : Int) := by omega
  subst ha
  simp [execOp, hρ _ _ hx, hρ _ _ hy, Instr.indexAt, asIntOf, h1, h2, h0, h3, Addr_add_none]

theorem WL.indexO {x y : Operand} {a : Option Addr} {xs : List α} {n cap : Nat} {kk : IntKind} {i : Int} {z : α} {wo : World} (hT : OkTab P T) (hg : gate ops e g = some true) (hd : Nat.blt d N = true)
    (hx : ev e x = some (.slice a n cap)) (hy : ev e y = some (.int kk i)) (ht : tget T t = some ti) (htd : ti.desc = .slice el) (he : tget T el = some ei) (hs : ei.size = s)
    (ho : Own s enc el B wo a cap xs) (E : Ext wo w) (hE : Enc s enc) (hn : xs.length = n) (h0 : 0 ≤ i) (hz : xs[i.toNat]? = some z)
    (k : ∀ gb, a = some ⟨gb, 0, none⟩ → Cells w gb (i.toNat * s) (enc z) → WL P N ops.toArray l ((d, .pointer (some ⟨gb, i.toNat * s, none⟩)) :: e) w Q) : WL P N ops.toArray (⟨some d, .indexAddr t x y, tt, ps, af, g⟩ :: l) e w Q := by
  obtain ⟨gb, ha, hc, hy'⟩ := yindexO (P := P) (dd := some d) (C := Same w) (t := t) (tt := tt) (x := x) (y := y) (ps := ps) (af := af) (g := g) hT hx hy ht htd he hs hE ho E hn h0 hz
  exact WL.step hg hd hy'.in (k gb ha hc)
theorem SL.indexO {K : Act → World → Prop} {x y : Operand} {a : Option Addr} {xs : List α} {n cap : Nat} {kk : IntKind} {i : Int} {z : α} {wo : World} (hT : OkTab P T) (hg : gate ops e g = some true) (hd : Nat.blt d N = true)
    (hx : ev e x = some (.slice a n cap)) (hy : ev e y = some (.int kk i)) (ht : tget T t = some ti) (htd : ti.desc = .slice el) (he : tget T el = some ei) (hs : ei.size = s)
    (ho : Own s enc el B wo a cap xs) (E : Ext wo w) (hE : Enc s enc) (hn : xs.length = n) (h0 : 0 ≤ i) (hz : xs[i.toNat]? = some z)
    (k : ∀ gb, a = some ⟨gb, 0, none⟩ → Cells w gb (i.toNat * s) (enc z) → SL P N ops.toArray l ((d, .pointer (some ⟨gb, i.toNat * s, none⟩)) :: e) w K) : SL P N ops.toArray (⟨some d, .indexAddr t x y, tt, ps, af, g⟩ :: l) e w K := by
  obtain ⟨gb, ha, hc, hy'⟩ := yindexO (P := P) (dd := some d) (C := Same w) (t := t) (tt := tt) (x := x) (y := y) (ps := ps) (af := af) (g := g) hT hx hy ht htd he hs hE ho E hn h0 hz
  exact SL.step hg hd hy'.in (k gb ha hc)
theorem QL.indexO {C : World → Prop} [Cls C w] {x y : Operand} {a : Option Addr} {xs : List α} {n cap : Nat} {kk : IntKind} {i : Int} {z : α} {wo : World} (hT : OkTab P T) (hg : gate ops e g = some true) (hd : Nat.blt d N = true)
    (hx : ev e x = some (.slice a n cap)) (hy : ev e y = some (.int kk i)) (ht : tget T t = some ti) (htd : ti.desc = .slice el) (he : tget T el = some ei) (hs : ei.size = s)
    (ho : Own s enc el B wo a cap xs) (E : Ext wo w) (hE : Enc s enc) (hn : xs.length = n) (h0 : 0 ≤ i) (hz : xs[i.toNat]? = some z)
    (k : ∀ gb, a = some ⟨gb, 0, none⟩ → Cells w gb (i.toNat * s) (enc z) → QL P N C ops.toArray l ((d, .pointer (some ⟨gb, i.toNat * s, none⟩)) :: e) Q) : QL P N C ops.toArray (⟨some d, .indexAddr t x y, tt, ps, af, g⟩ :: l) e Q := by
  obtain ⟨gb, ha, hc, hy'⟩ := yindexO (P := P) (dd := some d) (C := C) (t := t) (tt := tt) (x := x) (y := y) (ps := ps) (af := af) (g := g) hT hx hy ht htd he hs hE ho E hn h0 hz
  exact QL.step hg hd hy'.in (k gb ha hc)

/-- A store into an element of one's own row. -/
theorem WL.storeO {x y : Operand} {gb q i cap : Nat} {v : Value} {xs : List α} {z z' : α} {wo w0 : World} (hT : OkTab P T) (hg : gate ops e g = some true)
    (hx : ev e x = some (.pointer (some ⟨gb, q, none⟩))) (hy : ev e y = some v) (ht : tget T t = some ei)
    (ho : Own s enc el B wo (some ⟨gb, 0, none⟩) cap xs) (hwo : Ext wo w) (hq : q = i * s) (hv : enc z' = v.cells.toList) (hs : ei.size = s) (hE : Enc s enc) (hz : xs[i]? = some z) (hB : w0.heap.size = B) (hX : Ext w0 w)
    (k : ∀ w', Own s enc el B w' (some ⟨gb, 0, none⟩) cap (xs.set i z') → Ext w0 w' → Upd B (some ⟨gb, 0, none⟩) w w' → WL P N ops.toArray l e w' Q) :
    WL P N ops.toArray (⟨none, .store t x y, tt, ps, af, g⟩ :: l) e w Q := by
  subst hq
  have hi : i < xs.length := (List.getElem?_eq_some_iff.1 hz).1
  have ho' := ho.ext hwo
  have hO := ho'
  rcases ho'.2 with ⟨h1, _⟩ | ⟨g', c', cur, h1, h2, h3, h4, h5, h6, h7⟩
  · simp at h1
  simp only [Value.slice.injEq, Option.some.injEq, Addr.mk.injEq, and_true, true_and] at h1
  obtain ⟨rfl, rfl⟩ := h1
  have hvs : v.cells.size = s := by have := congrArg List.length hv; rw [hE.len] at this; simpa using this.symm
  have hle : i * s + s ≤ xs.length * s := by rw [← Nat.succ_mul]; exact Nat.mul_le_mul_right s hi
  have hle2 : xs.length * s ≤ cap * s := Nat.mul_le_mul_right s h4
  have hone : ∀ u ∈ v.cells.toList, u.oneCell' = true := fun u hu => hE.one z' u (by rw [hv]; exact hu)
  refine WL.effN (w' := fun m => (at' w m).setRow gb (cur.toList.take (i * s) ++ v.cells.toList ++ cur.toList.drop (i * s + v.cells.size)).toArray) hg ?_ (fun m => ?_)
  · intro ρ hρ m
    have hr := run_storeVar' (hT.at ht) gb (i * s) el cur (at' w m) v h3 (hvs.trans hs.symm) (by rw [hvs, h6]; omega) hone
    simp [execOp, hρ _ _ hx, hρ _ _ hy, Instr.storeAt, Instr.sureAddr, hr]
  · have hU : Upd B (some ⟨gb, 0, none⟩) w ((at' w m).setRow gb (cur.toList.take (i * s) ++ v.cells.toList ++ cur.toList.drop (i * s + v.cells.size)).toArray) :=
      ⟨⟨rfl, rfl, rfl, by simp [World.setRow], fun k hk hne => setRow_other (at' w m) gb k _ (fun hh => hne (by rw [hh]; rfl))⟩, fun k hk => (hO.blk_lt k hk).1⟩
    refine k _ ?_ (hU.ext hX (Nat.le_of_eq hB)) hU
    refine ⟨by rw [length_flatMap' hE.len], .inr ⟨gb, cap, _, rfl, h2, setRow_heap (at' w m) gb cur _ el _ h3, by simpa using h4, h5, ?_, ?_⟩⟩
    · have := cur.size
      simp only [List.size_toArray, List.length_append, List.length_take, List.length_drop, Array.length_toList, hvs, h6]
      omega
    · simp only [List.length_set]
      rw [hvs, splice_take cur.toList v.cells.toList (i * s) s (xs.length * s) (by simpa using hvs) hle (by simp [h6]; exact hle2), h7, flatMap_set' hE.len z' xs i hi, hv]

/-- A store of all of a variable of one's own. -/
theorem WL.storeB {x y : Operand} {gb : Nat} {v : Value} {cur : Array Value} {el : TypeId} {w0 wo : World} (hT : OkTab P T) (hg : gate ops e g = some true)
    (hx : ev e x = some (.pointer (some ⟨gb, 0, none⟩))) (hy : ev e y = some v) (ht : tget T t = some ei)
    (hb : wo.heap[gb]? = some (.cells cur el (0, 0))) (hwo : Ext wo w) (hs : Nat.beq v.cells.size ei.size = true) (hs2 : Nat.beq cur.size ei.size = true) (h1 : (v.cells.toList.all (·.oneCell')) = true) (hX : Ext w0 w) (hB : w0.heap.size ≤ gb)
    (k : ∀ w', w'.heap[gb]? = some (.cells v.cells el (0, 0)) → Cells w' gb 0 v.cells.toList → Ext w0 w' → Upd gb (some ⟨gb, 0, none⟩) w w' → WL P N ops.toArray l e w' Q) :
    WL P N ops.toArray (⟨none, .store t x y, tt, ps, af, g⟩ :: l) e w Q := by
  have hs' := Nat.eq_of_beq_eq_true hs
  have hs2' := Nat.eq_of_beq_eq_true hs2
  have hbw : w.heap[gb]? = some (.cells cur el (0, 0)) := by rw [hwo.block gb (Array.getElem?_eq_some_iff.1 hb).1]; exact hb
  have hcur : (cur.toList.take 0 ++ v.cells.toList ++ cur.toList.drop (0 + v.cells.size)).toArray = v.cells := by
    rw [List.drop_eq_nil_of_le (by simp; omega)]; simp
  refine WL.effN (w' := fun m => (at' w m).setRow gb v.cells) hg ?_ (fun m => ?_)
  · intro ρ hρ m
    have hr := run_storeVar' (hT.at ht) gb 0 el cur (at' w m) v hbw hs' (by omega) (fun u hu => List.all_eq_true.1 h1 u hu)
    rw [hcur] at hr
    simp [execOp, hρ _ _ hx, hρ _ _ hy, Instr.storeAt, Instr.sureAddr, hr]
  · have hU : Upd gb (some ⟨gb, 0, none⟩) w ((at' w m).setRow gb v.cells) :=
      ⟨⟨rfl, rfl, rfl, by simp [World.setRow], fun k hk hne => setRow_other (at' w m) gb k _ (fun hh => hne (by rw [hh]; rfl))⟩, fun k hk => by simp only [blk, Option.map_some, Option.some.injEq] at hk; omega⟩
    have hh := setRow_heap (at' w m) gb cur v.cells el _ hbw
    refine k _ hh ?_ (hU.ext hX hB) hU
    refine cells_of fun j u hj => ?_
    rw [Nat.zero_add]
    simp only [World.cell?, hh]
    simpa using hj
end rules
end Go.Lt
