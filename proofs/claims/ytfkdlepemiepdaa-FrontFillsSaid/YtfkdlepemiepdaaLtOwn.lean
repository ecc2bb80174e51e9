/- Rules for rows of one's own: made, appended to, stored into; new variables. Generic over the program. No conditions. -/
import Derived.Test.YtfkdlepemiepdaaLtRules
namespace Go.Lt
open Go.RowKit
set_option linter.unusedVariables false
set_option linter.unusedSimpArgs false

/-- The slice value that begins at a owns, in a block from B on, the cells of the list. -/
def Own {α : Type} (s : Nat) (enc : α → List Value) (el : TypeId) (B : Nat) (w : World) (a : Option Addr) (cap : Nat) (l : List α) : Prop :=
  w.ownsRow B el s (.slice a l.length cap) l.length (l.flatMap enc)

/-- Each element takes s cells, none of them made of parts. -/
structure Enc {α : Type} (s : Nat) (enc : α → List Value) : Prop where
  len : ∀ x, (enc x).length = s
  one : ∀ x, ∀ u ∈ enc x, u.oneCell' = true
  pos : 0 < s

theorem length_flatMap' {α : Type} {s : Nat} {enc : α → List Value} (h : ∀ x, (enc x).length = s) : ∀ l : List α, (l.flatMap enc).length = l.length * s
  | [] => by simp
  | x :: r => by simp [h x, length_flatMap' h r, Nat.add_mul, Nat.add_comm]

theorem getElem?_flatMap' {α : Type} {s : Nat} {enc : α → List Value} (h : ∀ x, (enc x).length = s) : ∀ (l : List α) (i j : Nat) (x : α), l[i]? = some x → j < s → (l.flatMap enc)[i * s + j]? = (enc x)[j]?
  | [], i, j, x, hx, _ => by simp at hx
  | y :: r, 0, j, x, hx, hj => by
    simp only [List.getElem?_cons_zero, Option.some.injEq] at hx
    subst hx
    have : j < (enc y).length := by rw [h]; exact hj
    simp [List.getElem?_append_left this]
  | y :: r, i + 1, j, x, hx, hj => by
    simp only [List.getElem?_cons_succ] at hx
    have ih := getElem?_flatMap' h r i j x hx hj
    rw [List.flatMap_cons, show (i + 1) * s + j = (enc y).length + (i * s + j) by rw [h, Nat.add_mul]; omega, List.getElem?_append_right (by omega)]
    simpa using ih

theorem set_flatMap' {α : Type} {s : Nat} {enc : α → List Value} (h : ∀ x, (enc x).length = s) : ∀ (l : List α) (i : Nat) (x y : α), l[i]? = some x → ∀ (p q : List Value) (u v : Value), enc x = p ++ u :: q → enc y = p ++ v :: q → (l.flatMap enc).set (i * s + p.length) v = (l.set i y).flatMap enc
  | [], i, x, y, hx, _, _, _, _, _, _ => by simp at hx
  | z :: r, 0, x, y, hx, p, q, u, v, h1, h2 => by
    simp only [List.getElem?_cons_zero, Option.some.injEq] at hx
    subst hx
    simp [h1, h2]
  | z :: r, i + 1, x, y, hx, p, q, u, v, h1, h2 => by
    simp only [List.getElem?_cons_succ] at hx
    have ih := set_flatMap' h r i x y hx p q u v h1 h2
    rw [List.flatMap_cons, show (i + 1) * s + p.length = (enc z).length + (i * s + p.length) by rw [h, Nat.add_mul]; omega, List.set_append_right _ _ (by omega)]
    simp [ih]

theorem cells_of {w : World} {b : Nat} : ∀ {off : Nat} {l : List Value}, (∀ j u, l[j]? = some u → w.cell? ⟨b, off + j, none⟩ = some u) → Cells w b off l
  | _, [], _ => trivial
  | off, u :: r, h => ⟨by simpa using h 0 u rfl, cells_of fun j v hj => by have := h (j + 1) v (by simpa using hj); rwa [show off + 1 + j = off + (j + 1) by omega]⟩

section own
variable {α : Type} {s : Nat} {enc : α → List Value} {el : TypeId} {B : Nat} {w w' : World} {a : Option Addr} {cap : Nat} {l : List α}

theorem Own.row (hE : Enc s enc) (h : Own s enc el B w a cap l) : Row s enc w a l := by
  refine ⟨?_, fun i x hx => ?_⟩
  · rcases h.2 with ⟨_, h2⟩ | ⟨g, c, cur, _, _, _, h4, h5, _⟩
    · omega
    · simp only [maxLen] at h5; omega
  have hi : i < l.length := (List.getElem?_eq_some_iff.1 hx).1
  rcases h.2 with ⟨h1, h2⟩ | ⟨g, c, cur, h1, _⟩
  · omega
  · simp only [Value.slice.injEq] at h1
    obtain ⟨rfl, _, rfl⟩ := h1
    refine ⟨g, 0, rfl, cells_of fun j u hj => ?_⟩
    have hjs : j < s := by have := (List.getElem?_eq_some_iff.1 hj).1; rwa [hE.len] at this
    have hlt : i * s + j < l.length * s := by
      have : i * s + s ≤ l.length * s := by rw [← Nat.succ_mul]; exact Nat.mul_le_mul_right s hi
      omega
    rw [Nat.zero_add, World.ownsRow.cellAt (g := g) (n := l.length) (cap := cap) h _ hlt, getElem?_flatMap' hE.len l i j x hx hjs, hj]

theorem Own.ext (h : Own s enc el B w a cap l) (hx : Ext w w') : Own s enc el B w' a cap l := by
  refine ⟨h.1, ?_⟩
  rcases h.2 with h1 | ⟨g, c, cur, h1, h2, h3, h4⟩
  · exact .inl h1
  · exact .inr ⟨g, c, cur, h1, h2, by rw [hx.block g (Array.getElem?_eq_some_iff.1 h3).1]; exact h3, h4⟩

theorem Own.base {B' : Nat} (h : Own s enc el B w a cap l) (hB : B' ≤ B) : Own s enc el B' w a cap l := by
  refine ⟨h.1, ?_⟩
  rcases h.2 with h1 | ⟨g, c, cur, h1, h2, h3⟩
  · exact .inl h1
  · exact .inr ⟨g, c, cur, h1, Nat.le_trans hB h2, h3⟩

theorem Own.nil : Own s enc el B w none 0 ([] : List α) := World.ownsRow_nil _ _ _ _

theorem Own.capLe (h : Own s enc el B w a cap l) : l.length ≤ cap := by
  rcases h.2 with ⟨_, h2⟩ | ⟨g, c, cur, h1, _, _, h4, _⟩
  · omega
  · simp only [Value.slice.injEq] at h1; omega

/-- The block, or none. -/
def blk (a : Option Addr) : Option Nat := a.map (·.block)
theorem ownBlock_slice (a : Option Addr) (n c : Nat) : Value.ownBlock (.slice a n c) = blk a := by cases a <;> rfl

/-- w' is w but for new blocks and for one's own block that begins at a, from B on. -/
structure Upd (B : Nat) (a : Option Addr) (w w' : World) : Prop where
  grown : w.grownBy w' (blk a)
  from' : ∀ k, blk a = some k → B ≤ k

theorem Upd.ext {w0 : World} (h : Upd B a w w') (hx : Ext w0 w) (hB : w0.heap.size ≤ B) : Ext w0 w' :=
  Below.grown hx h.grown hx.size (fun k hk => Nat.le_trans hB (h.from' k hk))
theorem Upd.size (h : Upd B a w w') : w.heap.size ≤ w'.heap.size := h.grown.size
theorem Upd.own {β : Type} {t : Nat} {enc' : β → List Value} {el' : TypeId} {B' : Nat} {a' : Option Addr} {c' : Nat} {l' : List β} (h : Upd B a w w') (ho : Own t enc' el' B' w a' c' l') (hne : blk a' = none ∨ blk a' ≠ blk a) : Own t enc' el' B' w' a' c' l' :=
  World.ownsRow.kept ho h.grown (by rw [ownBlock_slice]; exact hne)
/-- What lies below B is as it was. -/
theorem Upd.row {β : Type} {t : Nat} {enc' : β → List Value} {w0 : World} {a' : Option Addr} {l' : List β} (h : Upd B a w w') (hx : Ext w0 w) (hB : w0.heap.size ≤ B) (R : Row t enc' w0 a' l') : Row t enc' w' a' l' := R.ext (h.ext hx hB)

theorem Own.blk_lt (h : Own s enc el B w a cap l) : ∀ k, blk a = some k → B ≤ k ∧ k < w.heap.size := fun k hk => World.ownsRow.lt h k (by rw [ownBlock_slice]; exact hk)
end own

section rules
variable {P : Program} {N : Nat} {e : Env} {w : World} {Q : Exit → Act → World → Prop} {ops : List Oper} {l : List Oper} {T : Tab}
  {d : Nat} {tt : TypeId} {ps : String} {af : Array Edge} {g : Option (Nat × Bool)} {t : TypeId} {α : Type} {s : Nat} {enc : α → List Value} {B : Nat} {ti ei : TI} {el : TypeId}

/-- An operation that yields v and leaves w'. -/
theorem WL.eff {op : Op} {v : Value} {w' : Nat → World} (hg : gate ops e g = some true) (hd : Nat.blt d N = true)
    (h : ∀ (ρ : Operand → Value), (∀ x u, ev e x = some u → ρ x = u) → ∀ m, (execOp ρ ⟨some d, op, tt, ps, af, g⟩).run P (at' w m) = .ok (.value v) (w' m))
    (k : ∀ m, WL P N ops.toArray l ((d, v) :: e) (w' m) Q) : WL P N ops.toArray (⟨some d, op, tt, ps, af, g⟩ :: l) e w Q := by
  refine ⟨fun a m hf => ?_⟩
  unfold wpList
  rw [if_pos (by rw [gate_wanted hf (o := ⟨some d, op, tt, ps, af, g⟩) hg])]
  refine .inl ?_
  unfold Oper.wp
  rw [h a.eval (fun x u hx => hf.eval hx) m]
  exact (k m).go _ (w' m).drawn (hf.put (by simpa [Nat.blt_eq] using hd) v)

/-- An operation that yields nothing and leaves w'. -/
theorem WL.effN {op : Op} {w' : Nat → World} (hg : gate ops e g = some true)
    (h : ∀ (ρ : Operand → Value), (∀ x u, ev e x = some u → ρ x = u) → ∀ m, (execOp ρ ⟨none, op, tt, ps, af, g⟩).run P (at' w m) = .ok .skip (w' m))
    (k : ∀ m, WL P N ops.toArray l e (w' m) Q) : WL P N ops.toArray (⟨none, op, tt, ps, af, g⟩ :: l) e w Q := by
  refine ⟨fun a m hf => ?_⟩
  unfold wpList
  rw [if_pos (by rw [gate_wanted hf (o := ⟨none, op, tt, ps, af, g⟩) hg])]
  refine .inl ?_
  unfold Oper.wp
  rw [h a.eval (fun x u hx => hf.eval hx) m]
  exact (k m).go _ (w' m).drawn hf

/-- 'append' of one element, or of none. -/
theorem WL.append {x y : Operand} {a b : Option Addr} {n cap m c : Nat} {xs ys : List α} (hT : OkTab P T) (hE : Enc s enc) (hg : gate ops e g = some true) (hd : Nat.blt d N = true)
    (hx : ev e x = some (.slice a n cap)) (hy : ev e y = some (.slice b m c)) (ht : tget T t = some ti) (htd : ti.desc = .slice el) (he : tget T el = some ei) (hs : ei.size = s) (hz : ei.zero.cells.size = s)
    (ho : Own s enc el B w a cap xs) (hn : xs.length = n) (hr : Row s enc w b ys) (hm : ys.length = m) (hb : b ≠ none)
    (hbd : (n + m) * ei.bytes ≤ 140737488355328 ∧ n + m ≤ maxLen ∧ B ≤ w.heap.size)
    (k : ∀ a' cap' w', Own s enc el B w' a' cap' (xs ++ ys) → Upd B a w w' → (blk a' = blk a ∨ ∃ k, blk a' = some k ∧ w.heap.size ≤ k) → WL P N ops.toArray l ((d, .slice a' (xs ++ ys).length cap') :: e) w' Q) :
    WL P N ops.toArray (⟨some d, .call ⟨.builtin .append, ⟨[x, y]⟩, ⟨[t, t]⟩⟩, tt, ps, af, g⟩ :: l) e w Q := by
  refine ⟨fun ac q hf => ?_⟩
  unfold wpList
  rw [if_pos (by rw [gate_wanted hf (o := ⟨some d, .call ⟨.builtin .append, ⟨[x, y]⟩, ⟨[t, t]⟩⟩, tt, ps, af, g⟩) hg])]
  refine .inl ?_
  obtain ⟨j, hj1, hj2, hj3, hj4⟩ := (hT.at he).info
  have hti := (hT.at ht).1
  rw [htd] at hti
  obtain ⟨ad, rfl⟩ := Option.ne_none_iff_exists'.1 hb
  subst hn; subst hm
  have hnews : ∀ i u, (ys.flatMap enc)[i]? = some u → (at' w q).cell? (ad.add i) = some u := by
    intro i u hu
    have hpos := hE.pos
    have hlt : i < ys.length * s := by have := (List.getElem?_eq_some_iff.1 hu).1; rwa [length_flatMap' hE.len] at this
    have hdiv : i / s < ys.length := by rw [Nat.div_lt_iff_lt_mul hpos]; exact hlt
    have hyy : ys[i / s]? = some ys[i / s] := by simp [hdiv]
    obtain ⟨bb, off, hbb, hc⟩ := hr.elem _ _ hyy
    simp only [Option.some.injEq] at hbb
    subst hbb
    have hmod : i % s < s := Nat.mod_lt _ hpos
    have h1 := getElem?_flatMap' hE.len ys (i / s) (i % s) _ hyy hmod
    have h2 : i / s * s + i % s = i := by rw [Nat.mul_comm]; exact Nat.div_add_mod i s
    rw [h2, hu] at h1
    have key : ∀ (L : List Value) (o jj : Nat) (u : Value), Cells w bb o L → L[jj]? = some u → w.cell? ⟨bb, o + jj, none⟩ = some u := by
      intro L
      induction L with
      | nil => intro o jj u _ h; simp at h
      | cons v r ih =>
        intro o jj u hcc h
        cases jj with
        | zero => simp only [List.getElem?_cons_zero, Option.some.injEq] at h; subst h; exact hcc.1
        | succ jj => have := ih (o + 1) jj u hcc.2 (by simpa using h); rwa [show o + 1 + jj = o + (jj + 1) by omega] at this
    have := key _ _ _ u hc h1.symm
    rw [Addr_add_none]
    rw [show off + i / s * s + i % s = off + i by omega] at this
    exact this
  have hone : ∀ u ∈ ys.flatMap enc, u.oneCell' = true := by
    intro u hu
    obtain ⟨z, _, hz'⟩ := List.mem_flatMap.1 hu
    exact hE.one z u hz'
  obtain ⟨v', w', hrun, h2, h3, h4⟩ := run_append_own (P := P) (at' w q) B t tt el j ei.zero s ei.bytes hti hj1 hj4 (hj2.trans hs) hj3 hz hE.pos (.slice a xs.length cap) xs.length (xs.flatMap enc) ho ad ys.length c (ys.flatMap enc)
    (by rw [length_flatMap' hE.len]) hnews hone hbd.2.1 hbd.1 hbd.2.2
  have hv : ∃ a' cap', v' = .slice a' (xs ++ ys).length cap' ∧ (blk a' = blk a ∨ ∃ k, blk a' = some k ∧ w.heap.size ≤ k) := by
    have hmL : xs.length + ys.length ≤ 9223372036854775807 := by have := hbd.2.1; simp only [maxLen] at this; omega
    have hlY : (ys.flatMap enc).length = ys.length * j.size := by rw [length_flatMap' hE.len, hj2.trans hs]
    have hlX : (xs.flatMap enc).length = xs.length * j.size := by rw [length_flatMap' hE.len, hj2.trans hs]
    rcases ho.2 with ⟨h5, h6⟩ | ⟨gg, cc, cur, h5, h6, h7, h8, h9, h10, h11⟩
    · simp only [Value.slice.injEq] at h5
      obtain ⟨rfl, _, rfl⟩ := h5
      obtain rfl : xs = [] := List.eq_nil_of_length_eq_zero h6
      by_cases hm0 : ys.length = 0
      · have := h4.2 ⟨rfl, hm0⟩
        exact ⟨none, 0, by rw [this]; simp [hm0], .inl rfl⟩
      · have hr := run_append_nil (P := P) (at' w q) t tt el j ei.zero hti hj1 hj4 ad ys.length c (ys.flatMap enc) hlY hnews (by omega) (by simp at hmL; omega) (by have := hbd.1; simp only [List.length_nil, Nat.zero_add] at this; rw [hj3]; omega)
        simp only [List.length_nil] at hrun
        rw [hr] at hrun
        simp only [Result.ok.injEq] at hrun
        refine ⟨some ⟨w.heap.size, 0, none⟩, _, by rw [← hrun.1]; simp; rfl, .inr ⟨w.heap.size, rfl, Nat.le_refl _⟩⟩
    · simp only [Value.slice.injEq] at h5
      obtain ⟨rfl, _, rfl⟩ := h5
      by_cases hroom : xs.length + ys.length ≤ cap
      · have hr := run_append_room (P := P) (at' w q) t tt el j hti hj1 gg xs.length cap cur h7 ad ys.length c (ys.flatMap enc) hlY hnews hone hroom (by rw [hlY, ← Nat.add_mul, h10, hj2.trans hs]; exact Nat.mul_le_mul_right _ hroom)
        rw [hr] at hrun
        simp only [Result.ok.injEq] at hrun
        exact ⟨some ⟨gg, 0, none⟩, cap, by rw [← hrun.1, List.length_append], .inl rfl⟩
      · have holds : ∀ i u, (xs.flatMap enc)[i]? = some u → (at' w q).cell? ((⟨gg, 0, none⟩ : Addr).add i) = some u := World.ownsRow.cells (v := .slice (some ⟨gg, 0, none⟩) xs.length cap) (g := gg) ho rfl
        have hr := run_append_grow (P := P) (at' w q) t tt el j ei.zero hti hj1 hj4 ⟨gg, 0, none⟩ xs.length cap (xs.flatMap enc) hlX holds ad ys.length c (ys.flatMap enc) hlY hnews (by omega) (by omega) (growslice_fits (by omega) (by rw [hj3]; exact hbd.1))
        rw [hr] at hrun
        simp only [Result.ok.injEq] at hrun
        exact ⟨some ⟨w.heap.size, 0, none⟩, _, by rw [← hrun.1, List.length_append], .inr ⟨w.heap.size, rfl, Nat.le_refl _⟩⟩
  obtain ⟨a', cap', rfl, hfresh⟩ := hv
  unfold Oper.wp
  have hexec : (execOp ac.eval ⟨some d, .call ⟨.builtin .append, ⟨[x, y]⟩, ⟨[t, t]⟩⟩, tt, ps, af, g⟩).run P (at' w q) = .ok (.value (.slice a' (xs ++ ys).length cap')) w' := by
    simp only [execOp, resolve, invoke, builtin, Sem.run_bind, Sem.run_pure, Result.andThen_ok, List.map_toArray, List.map_cons, List.map_nil, hf.eval hx, hf.eval hy, hrun]
  rw [hexec]
  have hO : Own s enc el B w' a' cap' (xs ++ ys) := by
    unfold Own
    rw [List.flatMap_append, List.length_append] at *
    exact h2
  have hU : Upd B a w w' := ⟨⟨h3.os, h3.tape, h3.output, h3.size, by rw [ownBlock_slice] at h3; exact h3.block⟩, fun k hk => (ho.blk_lt k hk).1⟩
  exact (k a' cap' w' hO hU hfresh).go _ w'.drawn (hf.put (by simpa [Nat.blt_eq] using hd) _)

/-- 'append' of one element that lies in a new block of its own. -/
theorem WL.append1 {x y : Operand} {a : Option Addr} {gb n cap : Nat} {xs : List α} {z : α} {cs : List Value} {wo w0 : World} (hT : OkTab P T) (hE : Enc s enc) (hg : gate ops e g = some true) (hd : Nat.blt d N = true)
    (hx : ev e x = some (.slice a n cap)) (hy : ev e y = some (.slice (some ⟨gb, 0, none⟩) 1 1)) (ht : tget T t = some ti) (htd : ti.desc = .slice el) (he : tget T el = some ei) (hs : ei.size = s) (hz : ei.zero.cells.size = s) (hby : Nat.ble ei.bytes 1024 = true)
    (ho : Own s enc el B wo a cap xs) (hwo : Ext wo w) (hn : xs.length = n) (hc : Cells w gb 0 cs) (hcs : enc z = cs) (hB : w0.heap.size = B) (hX : Ext w0 w) (hbd : xs.length + 1 ≤ 137438953472)
    (k : ∀ a' cap' w', Own s enc el B w' a' cap' (xs ++ [z]) → Ext w0 w' → Upd B a w w' → (blk a' = blk a ∨ ∃ k, blk a' = some k ∧ w.heap.size ≤ k) → WL P N ops.toArray l ((d, .slice a' (xs ++ [z]).length cap') :: e) w' Q) :
    WL P N ops.toArray (⟨some d, .call ⟨.builtin .append, ⟨[x, y]⟩, ⟨[t, t]⟩⟩, tt, ps, af, g⟩ :: l) e w Q := by
  have hb' := Nat.le_of_ble_eq_true hby
  refine WL.append (B := B) (enc := enc) (ys := [z]) hT hE hg hd hx hy ht htd he hs hz (ho.ext hwo) hn ?_ rfl (by simp) ⟨?_, ?_, ?_⟩ ?_
  · refine ⟨by simp, fun i q hq => ?_⟩
    cases i with
    | zero => simp only [List.getElem?_cons_zero, Option.some.injEq] at hq; subst hq; exact ⟨gb, 0, rfl, by rw [hcs]; simpa using hc⟩
    | succ i => simp at hq
  · rw [← hn]; calc (xs.length + 1) * ei.bytes ≤ 137438953472 * 1024 := Nat.mul_le_mul hbd hb'
      _ ≤ _ := by decide
  · rw [← hn]; simp only [maxLen]; omega
  · rw [← hB]; exact hX.size
  · intro a' cap' w' h1 h2 h3
    exact k a' cap' w' h1 (h2.ext hX (Nat.le_of_eq hB)) h2 h3

/-- A new row with these cells. -/
def fresh (w : World) (cs : Array Value) (el : TypeId) : World := w.alloc (.cells cs el)
theorem fresh_ext (w : World) (cs : Array Value) (el : TypeId) : Ext w (fresh w cs el) := (Below.refl _ _).alloc (Nat.le_refl _) _
theorem fresh_size (w : World) (cs : Array Value) (el : TypeId) : (fresh w cs el).heap.size = w.heap.size + 1 := by simp [fresh]
theorem fresh_block (w : World) (cs : Array Value) (el : TypeId) : (fresh w cs el).heap[w.heap.size]? = some (.cells cs el (0, 0)) := heap_alloc_new w _
theorem fresh_cells (w : World) (cs : Array Value) (el : TypeId) : Cells (fresh w cs el) w.heap.size 0 cs.toList := by
  refine cells_of fun j u hj => ?_
  rw [Nat.zero_add]
  simp only [World.cell?, fresh_block]
  simpa using hj

theorem Own.fresh {α : Type} {s : Nat} {enc : α → List Value} {el : TypeId} {B : Nat} (hE : ∀ x, (enc x).length = s) (w : World) (l : List α) (hB : B ≤ w.heap.size) (hm : l.length ≤ maxLen) : Own s enc el B (fresh w (l.flatMap enc).toArray el) (some ⟨w.heap.size, 0, none⟩) l.length l := by
  have := World.ownsRow_lit (base := B) (e := el) (size := s) w (l.flatMap enc).toArray l.length hB hm (by simpa using length_flatMap' hE l)
  simpa [Own, Lt.fresh] using this

/-- Parts by number, as they are in the environment. -/
def evp (e : Env) : List (Nat × Operand) → Option (List (Nat × Value))
  | [] => some []
  | (i, x) :: r =>
    (match ev e x with
     | some v =>
       (match evp e r with
        | some vs => some ((i, v) :: vs)
        | none => none)
     | none => none)
theorem evp_map {e : Env} {ρ : Operand → Value} (hρ : ∀ x u, ev e x = some u → ρ x = u) : ∀ {l : List (Nat × Operand)} {vs : List (Nat × Value)}, evp e l = some vs → l.map (fun p => (p.1, ρ p.2)) = vs
  | [], vs, h => by simp [evp] at h; simp [h]
  | (i, x) :: r, vs, h => by
    unfold evp at h
    split at h
    · rename_i v hv
      split at h
      · rename_i us hus
        simp only [Option.some.injEq] at h; subst h
        simp [hρ _ _ hv, evp_map hρ hus]
      · cases h
    · cases h

def catCells : List (Nat × Value) → List Value
  | [] => []
  | (_, v) :: r => v.cells.toList ++ catCells r

/-- A slice written out. -/
theorem WL.lit {len : Nat} {parts : List (Nat × Operand)} {pvs : List (Nat × Value)} (hT : OkTab P T) (hg : gate ops e g = some true) (hd : Nat.blt d N = true) (ht : tget T t = some ti) (htd : ti.desc = .slice el) (he : tget T el = some ei)
    (hp : evp e parts = some pvs) (hfill : Instr.fill (fun i => some (i * ei.size, ei.size)) ((Array.range (len * ei.size)).map (fun i => ei.zero.cells[i % ei.zero.cells.size]!)) pvs = some (List.toArray (catCells pvs))) (hle : Nat.ble (len * ei.size) 16777216 = true)
    (k : ∀ gb w', w'.heap[gb]? = some (.cells (List.toArray (catCells pvs)) el (0, 0)) → w.heap.size ≤ gb → Cells w' gb 0 (catCells pvs) → Ext w w' → WL P N ops.toArray l ((d, .slice (some ⟨gb, 0, none⟩) len len) :: e) w' Q) :
    WL P N ops.toArray (⟨some d, .buildSlice t len ⟨parts⟩, tt, ps, af, g⟩ :: l) e w Q := by
  refine WL.eff (v := .slice (some ⟨w.heap.size, 0, none⟩) len len) (w' := fun m => fresh (at' w m) (List.toArray (catCells pvs)) el) hg hd ?_ (fun m => k _ _ (fresh_block (at' w m) _ el) (Nat.le_refl _) (by have := fresh_cells (at' w m) (List.toArray (catCells pvs)) el; simpa using this) ((Ext.refl w).at m |>.trans (fresh_ext _ _ _)))
  intro ρ hρ m
  have h1 := run_underlying' (hT.at ht); rw [htd] at h1
  have h2 := run_sizeOf' (hT.at he)
  have h3 := run_zeroValue' (hT.at he)
  have hle' : ¬ (16777216 < len * ei.size) := by have := Nat.le_of_ble_eq_true hle; omega
  have h4 := evp_map hρ hp
  have hrun : (Instr.buildSlice t len ⟨pvs⟩).run P (at' w m) = .ok (.slice (some ⟨w.heap.size, 0, none⟩) len len) (fresh (at' w m) (List.toArray (catCells pvs)) el) := by
    unfold Instr.buildSlice
    simp only [Sem.run_bind, h1, Result.andThen_ok, h2, Nat.reducePow, gt_iff_lt, hle', if_false, Sem.run_pure]
    by_cases h0 : len * ei.size = 0
    · simp only [h0, if_true, Sem.run_pure, Result.andThen_ok]
      have hz : ∀ f : Nat → Value, (Array.range 0).map f = #[] := fun f => by simp
      rw [h0, hz] at hfill
      simp only [hz, hfill, Sem.run_bind, Sem.run_pure, Result.andThen_ok]
      simp [newRow, newObj, Sem.run, fresh]
      rfl
    · simp only [h0, if_false, Sem.run_bind, h3, Result.andThen_ok, Sem.run_pure, hfill]
      simp [newRow, newObj, Sem.run, fresh]
      rfl
  simp [execOp, h4, hrun]

/-- 'make([]T, n)': n zero elements. -/
theorem WL.make {α : Type} {s : Nat} {enc : α → List Value} {x y : Operand} {kx ky : IntKind} {i : Int} {z : α} {w0 : World} (hT : OkTab P T) (hg : gate ops e g = some true) (hd : Nat.blt d N = true)
    (hx : ev e x = some (.int kx i)) (hy : ev e y = some (.int ky i)) (ht : tget T t = some ti) (htd : ti.desc = .slice el) (he : tget T el = some ei) (hs : ei.size = s) (hby : Nat.ble ei.bytes 1024 = true)
    (hE : Enc s enc) (hz : enc z = ei.zero.cells.toList) (hzs : ei.zero.cells.size = s) (hX : Ext w0 w) (hi : 0 ≤ i ∧ i ≤ 137438953472)
    (k : ∀ gb w', Own s enc el w0.heap.size w' (some ⟨gb, 0, none⟩) i.toNat (List.replicate i.toNat z) → w.heap.size ≤ gb → Ext w w' → WL P N ops.toArray l ((d, .slice (some ⟨gb, 0, none⟩) (List.replicate i.toNat z).length i.toNat) :: e) w' Q) :
    WL P N ops.toArray (⟨some d, .makeSlice t x y, tt, ps, af, g⟩ :: l) e w Q := by
  obtain ⟨n, rfl⟩ := Int.eq_ofNat_of_zero_le hi.1
  obtain ⟨j, hj1, hj2, hj3, hj4⟩ := (hT.at he).info
  have hti := (hT.at ht).1
  rw [htd] at hti
  have hb' := Nat.le_of_ble_eq_true hby
  have hn : n ≤ 137438953472 := by omega
  have hrep : madeCells ei.zero.cells (n * s) = ((List.replicate n z).flatMap enc).toArray := by
    apply Array.ext'
    simp only [madeCells, Array.toList_map, Array.toList_range]
    apply List.ext_getElem?
    intro q
    have hpos := hE.pos
    by_cases hq : q < n * s
    · have hdiv : q / s < n := by rw [Nat.div_lt_iff_lt_mul hpos]; exact hq
      have hmod : q % s < s := Nat.mod_lt _ hpos
      have h1 := getElem?_flatMap' hE.len (List.replicate n z) (q / s) (q % s) z (by simp [hdiv]) hmod
      have h2 : q / s * s + q % s = q := by rw [Nat.mul_comm]; exact Nat.div_add_mod q s
      rw [h2] at h1
      rw [h1, hz]
      simp [hq, hzs, hmod]
    · have h1 : ((List.replicate n z).flatMap enc).length = n * s := by rw [length_flatMap' hE.len]; simp
      rw [List.getElem?_eq_none (by simp; omega), List.getElem?_eq_none (by omega)]
  refine WL.eff (v := .slice (some ⟨w.heap.size, 0, none⟩) (List.replicate n z).length n) (w' := fun m => fresh (at' w m) ((List.replicate n z).flatMap enc).toArray el) hg hd ?_ (fun m => ?_)
  · intro ρ hρ m
    have hr := run_make (P := P) (at' w m) t el j ei.zero hti hj1 hj4 kx ky (n : Int) (n : Int) (by omega) (by omega) (by
      rw [hj3]
      have : ((ei.bytes : Int)) ≤ 1024 := by omega
      calc (ei.bytes : Int) * (n : Int) ≤ 1024 * 137438953472 := Int.mul_le_mul this (by omega) (by omega) (by omega)
        _ ≤ _ := by decide) (by omega)
    have e1 : ((n : Int).toNat * j.size) = n * s := by rw [hj2, hs]; simp
    rw [e1, hrep] at hr
    simp only [Int.toNat_natCast] at hr
    simp [execOp, hρ _ _ hx, hρ _ _ hy, hr, fresh]
  · have hO := Own.fresh (α := α) (enc := enc) (el := el) hE.len (at' w m) (List.replicate n z) (B := w0.heap.size) hX.size (by simp only [List.length_replicate, maxLen]; omega)
    simp only [List.length_replicate] at hO
    exact k w.heap.size _ hO (Nat.le_refl _) ((Ext.refl w).at m |>.trans (fresh_ext _ _ _))

/-- A new variable. -/
theorem WL.alloc (hT : OkTab P T) (hg : gate ops e g = some true) (hd : Nat.blt d N = true) (ht : tget T t = some ti)
    (k : ∀ gb w', w'.heap[gb]? = some (.cells ti.zero.cells t (0, 0)) → w.heap.size ≤ gb → Ext w w' → WL P N ops.toArray l ((d, .pointer (some ⟨gb, 0, none⟩)) :: e) w' Q) :
    WL P N ops.toArray (⟨some d, .alloc t, tt, ps, af, g⟩ :: l) e w Q := by
  refine WL.eff (v := .pointer (some ⟨w.heap.size, 0, none⟩)) (w' := fun m => fresh (at' w m) ti.zero.cells t) hg hd ?_ (fun m => k _ _ (fresh_block (at' w m) _ t) (Nat.le_refl _) ((Ext.refl w).at m |>.trans (fresh_ext _ _ _)))
  intro ρ hρ m
  have h3 := run_zeroValue' (hT.at ht)
  simp [execOp, Instr.alloc, h3, newVar, newRow, newObj, Sem.run, fresh]
end rules
end Go.Lt
