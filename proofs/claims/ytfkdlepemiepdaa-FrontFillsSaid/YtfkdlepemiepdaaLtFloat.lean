/- A region that draws its order: some operations float (each yields one value in whatever world of a class, and leaves it), all others stand in one order. The floating ones may be taken first. Generic over the program. No conditions. -/
import Derived.Test.YtfkdlepemiepdaaLtClear
namespace Go.Lt
open Go.RowKit
set_option linter.unusedVariables false
set_option linter.unusedSimpArgs false

def onlyN (K : Act → World → Prop) : Exit → Act → World → Prop := fun x a w => match x with | .normal => K a w | _ => False

section float
variable {P : Program} {ops : Array Oper} {C : World → Prop} {early : Nat → Bool} {K : Act → World → Prop}

def FYields (P : Program) (ops : Array Oper) (C : World → Prop) (o : Oper) (v : Value) (a : Act) : Prop :=
  (Region.wanted o (yielded ops a.tmps) = true ∧ ∀ w, C w → (execOp a.eval o).run P w = .ok (.value v) w) ∨ (Region.wanted o (yielded ops a.tmps) = false ∧ v = undef)

theorem FYields.wpOp {i : Nat} {o : Oper} {v : Value} {a : Act} {w : World} {Q : Exit → Act → World → Prop} {K' : Act → World → Prop} (hi : ops[i]? = some o) (hy : FYields P ops C o v a) (hC : C w) (h : K' (a.put o.dst v) w) : wpOp P ops Q i K' a w := by
  unfold Go.wpOp
  simp only [hi]
  rcases hy with ⟨hw, hv⟩ | ⟨hw, rfl⟩
  · simp only [hw, if_true]
    refine .inl ?_
    unfold Oper.wp
    rw [hv w hC]
    exact h
  · simp only [hw, Bool.false_eq_true, if_false]; exact h

theorem FYields.of_same {o : Oper} {v : Value} {a a' : Act} (hy : FYields P ops C o v a) (he : execOp a'.eval o = execOp a.eval o)
    (hw : Region.wanted o (yielded ops a'.tmps) = Region.wanted o (yielded ops a.tmps)) : FYields P ops C o v a' := by
  unfold FYields at *
  rw [he, hw]
  exact hy

theorem wpOp_put {j : Nat} {oi oj : Oper} {v : Value} (hj : ops[j]? = some oj) (hap : oi.apart ops oj = true)
    (hsi : ∀ cs b, oi.op ≠ .select cs b) (hsj : ∀ cs b, oj.op ≠ .select cs b) {K0 K1 : Act → World → Prop} {a : Act} {w : World}
    (hy : FYields P ops C oi v a) (h : wpOp P ops (onlyN K0) j K1 (a.put oi.dst v) w) :
    wpOp P ops (onlyN K0) j (fun a' w' => FYields P ops C oi v a' ∧ K1 (a'.put oi.dst v) w') a w := by
  obtain ⟨h1, h2, h3⟩ := Oper.apart_spec hap
  have keep : ∀ u, FYields P ops C oi v (a.put oj.dst u) := fun u => hy.of_same (execOp_put oi hsi a oj.dst u h3) (wanted_put oi a oj.dst u h3)
  have swap : ∀ u, (a.put oi.dst v).put oj.dst u = (a.put oj.dst u).put oi.dst v := fun u => Act.put_comm a v u h2
  have lets : ¬ LetsOut (onlyN K0) := fun ⟨_, _, hq⟩ => hq
  unfold Go.wpOp at *
  simp only [hj] at *
  rw [wanted_put oj a oi.dst v h1] at h
  split
  · rename_i hw
    simp only [hw, if_true] at h
    rcases h with h | ⟨_, hq⟩
    · refine .inl ?_
      unfold Oper.wp at h ⊢
      rw [execOp_put oj hsj a oi.dst v h1] at h
      revert h
      generalize (execOp a.eval oj).run P w = r
      intro h
      unfold Oper.upon at h ⊢
      split at h
      · exact ⟨keep _, by rw [← swap]; exact h⟩
      · exact ⟨keep _, by rw [← swap]; exact h⟩
      · rename_i d w'
        have e1 : ({ a with defers := d :: a.defers }.put oj.dst undef).put oi.dst v = { a.put oi.dst v with defers := d :: (a.put oi.dst v).defers }.put oj.dst undef := by
          rw [Act.put_comm _ undef v (fun q hq hh => h2 q hh hq)]
          cases oi.dst <;> rfl
        have e2 : FYields P ops C oi v ({ a with defers := d :: a.defers }.put oj.dst undef) := by
          refine (keep undef).of_same ?_ ?_
          · cases oj.dst <;> rfl
          · cases oj.dst <;> rfl
        exact ⟨e2, by rw [e1]; exact h⟩
      · refine Calls.mono h fun x w'' hx => ?_
        cases x with
        | returned u => exact ⟨keep _, by rw [← swap]; exact hx⟩
        | panicked c => exact hx.elim
        | outgrown => exact (lets hx).elim
      · exact Rows.mono h fun u w'' hx => ⟨keep _, by rw [← swap]; exact hx⟩
      · exact h.elim
      · exact h
    · exact (lets hq).elim
  · rename_i hw
    simp only [hw] at h
    exact ⟨keep _, by rw [← swap]; exact h⟩

theorem wpOp_mono' {j : Nat} {K0 K1 K2 : Act → World → Prop} {Q : Exit → Act → World → Prop} {a : Act} {w : World} (hk : ∀ a w, K1 a w → K2 a w) (h : wpOp P ops (onlyN K0) j K1 a w) : wpOp P ops Q j K2 a w := by
  have lets : ¬ LetsOut (onlyN K0) := fun ⟨_, _, hq⟩ => hq
  unfold Go.wpOp at *
  split
  · rename_i ho; simp only [ho] at h; exact hk _ _ h
  · rename_i o ho
    simp only [ho] at h
    split
    · rename_i hw
      simp only [hw, if_true] at h
      rcases h with h | ⟨_, hq⟩
      · refine .inl ?_
        unfold Oper.wp at h ⊢
        revert h
        generalize (execOp a.eval o).run P w = r
        intro h
        unfold Oper.upon at h ⊢
        split at h
        · exact hk _ _ h
        · exact hk _ _ h
        · exact hk _ _ h
        · refine Calls.mono h fun x w'' hx => ?_
          cases x with
          | returned u => exact hk _ _ hx
          | panicked c => exact hx.elim
          | outgrown => exact (lets hx).elim
        · exact Rows.mono h fun u w'' hx => hk _ _ hx
        · exact h.elim
        · exact h
      · exact (lets hq).elim
    · rename_i hw
      simp only [hw] at h
      exact hk _ _ h

def wpAnyC (P : Program) (ops : Array Oper) (C : World → Prop) (early : Nat → Bool) (K : Act → World → Prop) : Nat → Array Bool → Act → World → Prop
  | 0, listed, a, w => Region.ready .any ops listed = [] ∧ K a w
  | fuel + 1, listed, a, w => Region.ready .any ops listed ≠ [] ∧ ∀ i ∈ Region.ready .any ops listed,
      wpOp P ops (onlyN K) i (fun a' w' => (early i = true → C w') ∧ wpAnyC P ops C early K fuel (listed.setIfInBounds i true) a' w') a w

theorem wpAny_of_C {Q : Exit → Act → World → Prop} (hQ : ∀ a w, K a w → Q .normal a w) : ∀ (fuel : Nat) (listed : Array Bool) (a : Act) (w : World), wpAnyC P ops C early K fuel listed a w → wpAny P .any ops Q fuel listed a w
  | 0, _, _, _, h => ⟨h.1, hQ _ _ h.2⟩
  | fuel + 1, _, _, _, h => ⟨fun h0 => absurd h0 h.1, fun i hi => wpOp_mono' (fun a w hh => wpAny_of_C hQ fuel _ a w hh.2) (h.2 i hi)⟩

theorem wpAnyC_first {i : Nat} {oi : Oper} {v : Value} (hi : ops[i]? = some oi) (hsel : ∀ (j : Nat) (o : Oper) cs b, ops[j]? = some o → o.op ≠ .select cs b) :
    ∀ (fuel : Nat) (listed : Array Bool) (a : Act) (w : World), C w →
      (∀ j oj, ops[j]? = some oj → j ≠ i → listed.getD j true = false → (∀ e ∈ oj.after, Region.binds .any e = true → e.on ≠ i) → oi.apart ops oj = true ∧ early j = true) →
      i ∈ Region.ready .any ops listed → FYields P ops C oi v a →
      wpAnyC P ops C early K fuel (listed.setIfInBounds i true) (a.put oi.dst v) w → wpAnyC P ops C early K (fuel + 1) listed a w := by
  intro fuel
  induction fuel with
  | zero =>
    intro listed a w hC _ hr hy H
    refine ⟨fun h => (by rw [h] at hr; cases hr), fun j hj => ?_⟩
    by_cases hji : j = i
    · subst hji; exact hy.wpOp hi hC ⟨fun _ => hC, H⟩
    · have := ready_mono hj hji
      rw [H.1] at this
      cases this
  | succ fuel ih =>
    intro listed a w hC hfree hr hy H
    refine ⟨fun h => (by rw [h] at hr; cases hr), fun j hj => ?_⟩
    by_cases hji : j = i
    · subst hji; exact hy.wpOp hi hC ⟨fun _ => hC, H⟩
    · have h1 := H.2 j (ready_mono hj hji)
      obtain ⟨hjun, oj, hoj, hall⟩ := mem_ready.1 hj
      have hnot : ∀ e ∈ oj.after, Region.binds .any e = true → e.on ≠ i := fun e he hb heq => by
        have h1 := hall e he hb
        have h0 := (mem_ready.1 hr).1
        rw [heq] at h1
        rcases Nat.lt_or_ge i listed.size with h' | h'
        · simp [h'] at h0 h1; rw [h0] at h1; cases h1
        · simp [Array.getElem?_eq_none h'] at h1
      obtain ⟨hap, hea⟩ := hfree j oj hoj hji hjun hnot
      have h2 := wpOp_put hoj hap (fun cs b => hsel i oi cs b hi) (fun cs b => hsel j oj cs b hoj) hy h1
      have hfree' : ∀ k ok, ops[k]? = some ok → k ≠ i → (listed.setIfInBounds j true).getD k true = false →
          (∀ e ∈ ok.after, Region.binds .any e = true → e.on ≠ i) → oi.apart ops ok = true ∧ early k = true := fun k ok hk hki hun hno => by
        refine hfree k ok hk hki ?_ hno
        by_cases hjk : j = k
        · subst hjk; exact hjun
        · rw [getD_set_ne true hjk] at hun; exact hun
      refine wpOp_mono' (fun a' w' h3 => ⟨fun _ => h3.2.1 hea, ih (listed.setIfInBounds j true) a' w' (h3.2.1 hea) hfree' (ready_mono hr (Ne.symm hji)) h3.1 ?_⟩) h2
      rw [Array.setIfInBounds_comm _ _ hji]
      exact h3.2.2

/-! ### The order that is looked at -/
def waits (ops : Array Oper) (j i : Nat) : Bool := match ops[j]? with | some o => o.after.any (fun e => Region.binds .any e && e.on == i) | none => false
def earlyB (ops : Array Oper) (fl : List Nat) (j : Nat) : Bool := fl.contains j || fl.any (fun f => !waits ops j f)
def ordC (ops : Array Oper) : List Nat → Array Bool → Bool
  | [], L => Region.ready .any ops L == []
  | i :: r, L => Region.ready .any ops L == [i] && ordC ops r (L.setIfInBounds i true)
def ordF (ops : Array Oper) (early : Nat → Bool) (ch : List Nat) : List Nat → Array Bool → Bool
  | [], L => ordC ops ch L
  | i :: r, L => (Region.ready .any ops L).contains i && (match ops[i]? with
      | some oi => (List.range ops.size).all (fun j => j == i || L.getD j true || waits ops j i || (match ops[j]? with | some oj => oi.apart ops oj && early j | none => false))
      | none => false) && ordF ops early ch r (L.setIfInBounds i true)
def ordB (ops : Array Oper) (fl es tl : List Nat) : Bool :=
  Region.noSelect ops && tl.all (fun j => !earlyB ops fl j) && Nat.beq (fl.length + (es.length + tl.length)) ops.size && ordF ops (earlyB ops fl) (es ++ tl) fl (Array.replicate ops.size false)

def pickL (l : List Oper) : List Nat → Option (List Oper)
  | [] => some []
  | i :: r =>
    (match l[i]? with
     | some o =>
       (match pickL l r with
        | some t => some (o :: t)
        | none => none)
     | none => none)

theorem pickL_cons {l : List Oper} {i : Nat} {r : List Nat} {t : List Oper} (h : pickL l (i :: r) = some t) : ∃ o t', l[i]? = some o ∧ pickL l r = some t' ∧ t = o :: t' := by
  unfold pickL at h
  split at h
  · rename_i o ho
    split at h
    · rename_i t' ht
      simp only [Option.some.injEq] at h
      exact ⟨o, t', ho, ht, h.symm⟩
    · cases h
  · cases h

/-- The floating ones. -/
def wpFl (P : Program) (ops : Array Oper) (C : World → Prop) (Kf : Act → Prop) : List Oper → Act → Prop
  | [], a => Kf a
  | o :: r, a => if Region.wanted o (yielded ops a.tmps) then ∃ v, (∀ w, C w → (execOp a.eval o).run P w = .ok (.value v) w) ∧ wpFl P ops C Kf r (a.put o.dst v) else wpFl P ops C Kf r (a.put o.dst undef)

/-- Those of the others that a floating one need not come ahead of; then the rest. -/
def wpCh (P : Program) (ops : Array Oper) (C : World → Prop) (K : Act → World → Prop) (tail : List Oper) : List Oper → Act → World → Prop
  | [], a, w => wpList P ops (onlyN K) tail a w
  | o :: r, a, w => wpList P ops (onlyN fun a' w' => C w' ∧ wpCh P ops C K tail r a' w') [o] a w

theorem wpOp_of_list {i : Nat} {o : Oper} {r : List Oper} {K0 : Act → World → Prop} {Q : Exit → Act → World → Prop} {a : Act} {w : World} (hi : ops[i]? = some o) (h : wpList P ops (onlyN K0) (o :: r) a w) (K' : Act → World → Prop) (hK : ∀ a w, wpList P ops (onlyN K0) r a w → K' a w) : wpOp P ops Q i K' a w := by
  refine wpOp_mono' (K0 := K0) (K1 := wpList P ops (onlyN K0) r) hK ?_
  unfold Go.wpOp
  simp only [hi]
  exact h

theorem chain_tail {early : Nat → Bool} {l : List Oper} : ∀ (tl : List Nat) (tO : List Oper) (listed : Array Bool) (a : Act) (w : World), pickL l tl = some tO → (∀ j ∈ tl, early j = false) → ordC l.toArray tl listed = true → wpList P l.toArray (onlyN K) tO a w → wpAnyC P l.toArray C early K tl.length listed a w
  | [], tO, listed, a, w, hp, _, hB, h => by
    simp only [pickL, Option.some.injEq] at hp; subst hp
    exact ⟨by simpa [ordC] using hB, h⟩
  | i :: r, tO, listed, a, w, hp, he, hB, h => by
    obtain ⟨o, t', ho, ht, rfl⟩ := pickL_cons hp
    simp only [ordC, Bool.and_eq_true, beq_iff_eq] at hB
    refine ⟨by rw [hB.1]; simp, fun j hj => ?_⟩
    rw [hB.1] at hj
    obtain rfl := List.mem_singleton.1 hj
    refine wpOp_of_list (by simpa using ho) h _ fun a' w' h' => ⟨fun hh => (by rw [he j (by simp)] at hh; cases hh), chain_tail r t' _ a' w' ht (fun k hk => he k (by simp [hk])) hB.2 h'⟩

theorem chain_all {early : Nat → Bool} {l : List Oper} {tl : List Nat} {tO : List Oper} (ht : pickL l tl = some tO) (he : ∀ j ∈ tl, early j = false) : ∀ (es : List Nat) (eO : List Oper) (listed : Array Bool) (a : Act) (w : World), pickL l es = some eO → ordC l.toArray (es ++ tl) listed = true → wpCh P l.toArray C K tO eO a w → wpAnyC P l.toArray C early K (es ++ tl).length listed a w
  | [], eO, listed, a, w, hp, hB, h => by
    simp only [pickL, Option.some.injEq] at hp; subst hp
    exact chain_tail tl tO listed a w ht he hB h
  | i :: r, eO, listed, a, w, hp, hB, h => by
    obtain ⟨o, t', ho, hp', rfl⟩ := pickL_cons hp
    simp only [List.cons_append, ordC, Bool.and_eq_true, beq_iff_eq] at hB
    refine ⟨by rw [hB.1]; simp, fun j hj => ?_⟩
    rw [hB.1] at hj
    obtain rfl := List.mem_singleton.1 hj
    unfold wpCh at h
    refine wpOp_of_list (by simpa using ho) h _ fun a' w' h' => ?_
    have h'' : C w' ∧ wpCh P l.toArray C K tO t' a' w' := h'
    exact ⟨fun _ => h''.1, chain_all ht he r t' _ a' w' hp' hB.2 h''.2⟩

theorem float_all {early : Nat → Bool} {l : List Oper} (hsel : ∀ (j : Nat) (o : Oper) cs b, l.toArray[j]? = some o → o.op ≠ .select cs b) {ch : List Nat} {w : World} (hC : C w) :
    ∀ (fl : List Nat) (fO : List Oper) (listed : Array Bool) (a : Act), pickL l fl = some fO → ordF l.toArray early ch fl listed = true →
      wpFl P l.toArray C (fun a' => ∀ L, ordC l.toArray ch L = true → wpAnyC P l.toArray C early K ch.length L a' w) fO a → wpAnyC P l.toArray C early K (fl.length + ch.length) listed a w
  | [], fO, listed, a, hp, hB, h => by
    simp only [pickL, Option.some.injEq] at hp; subst hp
    simpa using h listed hB
  | i :: r, fO, listed, a, hp, hB, h => by
    obtain ⟨o, t', ho, hp', rfl⟩ := pickL_cons hp
    have ho' : l.toArray[i]? = some o := by simpa using ho
    simp only [ordF, ho', Bool.and_eq_true] at hB
    obtain ⟨⟨hB1, hB2⟩, hB3⟩ := hB
    have hfree : ∀ j oj, l.toArray[j]? = some oj → j ≠ i → listed.getD j true = false → (∀ e ∈ oj.after, Region.binds .any e = true → e.on ≠ i) → o.apart l.toArray oj = true ∧ early j = true := by
      intro j oj hj hji hun hno
      have hjlt : j < l.toArray.size := (Array.getElem?_eq_some_iff.1 hj).1
      have := List.all_eq_true.1 hB2 j (List.mem_range.2 hjlt)
      simp only [hj, Bool.or_eq_true, beq_iff_eq, hji, hun, Bool.false_eq_true, false_or, Bool.and_eq_true] at this
      rcases this with hw | hw
      · exfalso
        simp only [waits, hj] at hw
        obtain ⟨e, he, hb⟩ := Array.any_eq_true'.1 hw
        simp only [Bool.and_eq_true, beq_iff_eq] at hb
        exact hno e he hb.1 hb.2
      · exact hw
    have hr : i ∈ Region.ready .any l.toArray listed := by simpa using hB1
    have key : ∃ v, FYields P l.toArray C o v a ∧ wpFl P l.toArray C (fun a' => ∀ L, ordC l.toArray ch L = true → wpAnyC P l.toArray C early K ch.length L a' w) t' (a.put o.dst v) := by
      unfold wpFl at h
      split at h
      · rename_i hw
        obtain ⟨v, h1, h2⟩ := h
        exact ⟨v, .inl ⟨hw, h1⟩, h2⟩
      · rename_i hw
        exact ⟨undef, .inr ⟨by simpa using hw, rfl⟩, h⟩
    obtain ⟨v, hy, hrest⟩ := key
    have hih := float_all hsel hC r t' (listed.setIfInBounds i true) (a.put o.dst v) hp' hB3 hrest
    have := wpAnyC_first (K := K) ho' hsel (r.length + ch.length) listed a w hC hfree hr hy hih
    rwa [show r.length + ch.length + 1 = (i :: r).length + ch.length by simp; omega] at this
end float

/-! ### The judgement -/
structure FL (P : Program) (N : Nat) (ops : Array Oper) (C : World → Prop) (l : List Oper) (e : Env) (w : World) (Kf : Act → Prop) : Prop where
  go : ∀ a, Fit N e a → wpFl P ops C Kf l a
structure CL (P : Program) (N : Nat) (ops : Array Oper) (C : World → Prop) (tail l : List Oper) (e : Env) (w : World) (Q : Exit → Act → World → Prop) : Prop where
  go : ∀ a m, Fit N e a → wpCh P ops C (fun a w => Q .normal a w) tail l a (at' w m)

section rules
variable {P : Program} {N : Nat} {e : Env} {w : World} {Q : Exit → Act → World → Prop} {C : World → Prop} {ops l tail : List Oper} {Kf : Act → Prop} {T : Tab}
  {d : Nat} {tt : TypeId} {ps : String} {af : Array Edge} {g : Option (Nat × Bool)} {op : Op}

theorem W.regionF {id : Nat} {l fO eO tO : List Oper} (fl es tl : List Nat) (C : World → Prop) (hm : P.follows .mixedOrders = true) (hB : ordB l.toArray fl es tl = true) (h1 : pickL l fl = some fO) (h2 : pickL l es = some eO) (h3 : pickL l tl = some tO) (hC : ∀ m, C (at' w m))
    (h : FL P N l.toArray C fO e w (fun a => ∀ m, wpCh P l.toArray C (fun a w => Q .normal a w) tO eO a (at' w m))) : W P N (.region id l.toArray true) e w Q := by
  refine ⟨fun a m hf => wp_region_any hm ?_⟩
  simp only [ordB, Bool.and_eq_true] at hB
  obtain ⟨⟨⟨hB1, hB2⟩, hB3⟩, hB4⟩ := hB
  have hsel : ∀ (j : Nat) (o : Oper) cs b, l.toArray[j]? = some o → o.op ≠ .select cs b := fun j o cs b ho => Region.noSelect_spec hB1 j o cs b ho
  have he : ∀ j ∈ tl, earlyB l.toArray fl j = false := fun j hj => by simpa using List.all_eq_true.1 hB2 j hj
  have hsz := Nat.eq_of_beq_eq_true hB3
  rw [← hsz]
  refine wpAny_of_C (K := fun a w => Q .normal a w) (C := C) (early := earlyB l.toArray fl) (fun _ _ h => h) _ _ _ _ ?_
  have hch : ∀ (l' : List Oper) (a : Act) (Kf Kf' : Act → Prop), (∀ a, Kf a → Kf' a) → wpFl P l.toArray C Kf l' a → wpFl P l.toArray C Kf' l' a := by
    intro l'
    induction l' with
    | nil => intro a Kf Kf' hk h; exact hk _ h
    | cons o r ih =>
      intro a Kf Kf' hk h
      unfold wpFl at h ⊢
      split at h
      · rename_i hw; rw [if_pos hw]; obtain ⟨v, h1, h2⟩ := h; exact ⟨v, h1, ih _ _ _ hk h2⟩
      · rename_i hw; rw [if_neg hw]; exact ih _ _ _ hk h
  have hall := float_all (P := P) (K := fun a w => Q .normal a w) (C := C) (early := earlyB l.toArray fl) (ch := es ++ tl) (w := at' w (m + 1)) hsel (hC (m + 1)) fl fO (Array.replicate l.toArray.size false) a h1 hB4
    (hch _ _ _ _ (fun a' hk L hL => chain_all h3 he es eO L a' _ h2 hL (hk (m + 1))) (h.go a hf))
  rw [List.length_append] at hall
  rw [hsz] at hall ⊢
  exact hall

theorem FL.nil {opsA : Array Oper} {eO tO : List Oper} (h : CL P N opsA C tO eO e w Q) : FL P N opsA C [] e w (fun a => ∀ m, wpCh P opsA C (fun a w => Q .normal a w) tO eO a (at' w m)) := ⟨fun a hf m => h.go a m hf⟩
theorem FL.guardF (hg : gate ops e g = some false) (hd : Nat.blt d N = true) (k : FL P N ops.toArray C l ((d, undef) :: e) w Kf) : FL P N ops.toArray C (⟨some d, op, tt, ps, af, g⟩ :: l) e w Kf := by
  refine ⟨fun a hf => ?_⟩
  unfold wpFl
  rw [if_neg (by rw [gate_wanted hf (o := ⟨some d, op, tt, ps, af, g⟩) hg]; simp)]
  exact k.go _ (hf.put (by simpa [Nat.blt_eq] using hd) undef)
theorem FL.step {v : Value} (hg : gate ops e g = some true) (hd : Nat.blt d N = true) (h : YieldsIn P e C ⟨some d, op, tt, ps, af, g⟩ v) (k : FL P N ops.toArray C l ((d, v) :: e) w Kf) : FL P N ops.toArray C (⟨some d, op, tt, ps, af, g⟩ :: l) e w Kf := by
  refine ⟨fun a hf => ?_⟩
  unfold wpFl
  rw [if_pos (by rw [gate_wanted hf (o := ⟨some d, op, tt, ps, af, g⟩) hg])]
  exact ⟨v, fun w' hw' => h a.eval (fun x u hx => hf.eval hx) w' hw', k.go _ (hf.put (by simpa [Nat.blt_eq] using hd) v)⟩
theorem FL.split {b : Bool} (hd : get e d = some (.bool b)) (ht : b = true → FL P N ops.toArray C l ((d, .bool true) :: e) w Kf) (hf : b = false → FL P N ops.toArray C l ((d, .bool false) :: e) w Kf) : FL P N ops.toArray C l e w Kf := by
  refine ⟨fun a h => ?_⟩
  cases b
  · exact (hf rfl).go a (h.shadow hd)
  · exact (ht rfl).go a (h.shadow hd)

theorem CL.nil {opsA : Array Oper} (h : WL P N opsA tail e w (onlyN fun a w => Q .normal a w)) : CL P N opsA C tail [] e w Q := ⟨fun a m hf => h.go a m hf⟩
theorem CL.cons {opsA : Array Oper} {o : Oper} (h : WL P N opsA [o] e w (onlyN fun a' w' => C w' ∧ wpCh P opsA C (fun a w => Q .normal a w) tail l a' w')) : CL P N opsA C tail (o :: l) e w Q := ⟨fun a m hf => h.go a m hf⟩
theorem Z.early {opsA : Array Oper} (hC : ∀ m, C (at' w m)) (h : CL P N opsA C tail l e w Q) : Z N (onlyN fun a' w' => C w' ∧ wpCh P opsA C (fun a w => Q .normal a w) tail l a' w') .normal e w := ⟨fun a m hf => ⟨hC m, h.go a m hf⟩⟩
theorem Z.only (h : Z N Q .normal e w) : Z N (onlyN fun a w => Q .normal a w) .normal e w := ⟨fun a m hf => h.go a m hf⟩

/-- w' is w but for new blocks, and for one block. -/
abbrev But (w : World) (b : Option Nat) : World → Prop := fun w' => w.grownBy w' b
theorem But.at (w : World) (b : Option Nat) (m : Nat) : But w b (at' w m) := ⟨rfl, rfl, rfl, Nat.le_refl _, fun _ _ _ => rfl⟩
theorem But.of_at {w w' : World} {b : Option Nat} (h : But w b w') (m : Nat) : But w b (at' w' m) := ⟨h.os, h.tape, h.output, h.size, h.block⟩
theorem But.cell {w w' : World} {b : Option Nat} (h : But w b w') {p : Addr} {v : Value} (hv : w.cell? p = some v) (hb : b ≠ some p.block) : w'.cell? p = some v := by
  rw [← hv]
  unfold World.cell?
  rw [h.block p.block (World.block_lt_of_cell? _ _ hv) (fun hh => hb hh.symm)]
theorem But.cells {w w' : World} {b : Option Nat} (h : But w b w') {k : Nat} (hb : b ≠ some k) : ∀ {off : Nat} {l : List Value}, Cells w k off l → Cells w' k off l
  | _, [], _ => trivial
  | _, _ :: _, ⟨h1, h2⟩ => ⟨h.cell h1 hb, But.cells h hb h2⟩
theorem But.ext {w w' : World} {b : Option Nat} (h : Ext w w') : But w b w' := ⟨h.os, h.tape, h.output, h.size, fun k hk _ => h.block k hk⟩
theorem But.trans {w w1 w2 : World} {b : Option Nat} (h : But w b w1) (k : But w1 b w2) : But w b w2 := ⟨k.os.trans h.os, k.tape.trans h.tape, k.output.trans h.output, Nat.le_trans h.size k.size, fun q hq hne => (k.block q (Nat.lt_of_lt_of_le hq h.size) hne).trans (h.block q hq hne)⟩
theorem But.upd {w w' : World} {B : Nat} {a : Option Addr} (h : Upd B a w w') : But w (blk a) w' := h.grown

theorem FL.pev {v : Value} (hT : OkTab P T) (hg : gate ops e g = some true) (hd : Nat.blt d N = true) (h : pev T e op = some v) (k : FL P N ops.toArray C l ((d, v) :: e) w Kf) : FL P N ops.toArray C (⟨some d, op, tt, ps, af, g⟩ :: l) e w Kf :=
  FL.step hg hd (pev_yields hT h).in k
theorem FL.add {t ty : TypeId} {x y : Operand} {a b : Int} (hg : gate ops e g = some true) (hd : Nat.blt d N = true) (hx : ev e x = some (.int .i64 a)) (hy : ev e y = some (.int .i64 b)) (h : inI64 (a + b)) (k : FL P N ops.toArray C l ((d, .int .i64 (a + b)) :: e) w Kf) : FL P N ops.toArray C (⟨some d, .binOp .add t x y ty, tt, ps, af, g⟩ :: l) e w Kf :=
  FL.step hg hd (yadd hx hy h).in k
theorem FL.sub {t ty : TypeId} {x y : Operand} {a b : Int} (hg : gate ops e g = some true) (hd : Nat.blt d N = true) (hx : ev e x = some (.int .i64 a)) (hy : ev e y = some (.int .i64 b)) (h : inI64 (a - b)) (k : FL P N ops.toArray C l ((d, .int .i64 (a - b)) :: e) w Kf) : FL P N ops.toArray C (⟨some d, .binOp .sub t x y ty, tt, ps, af, g⟩ :: l) e w Kf :=
  FL.step hg hd (ysub hx hy h).in k
theorem FL.mul {t ty : TypeId} {x y : Operand} {a b : Int} (hg : gate ops e g = some true) (hd : Nat.blt d N = true) (hx : ev e x = some (.int .i64 a)) (hy : ev e y = some (.int .i64 b)) (h : inI64 (a * b)) (k : FL P N ops.toArray C l ((d, .int .i64 (a * b)) :: e) w Kf) : FL P N ops.toArray C (⟨some d, .binOp .mul t x y ty, tt, ps, af, g⟩ :: l) e w Kf :=
  FL.step hg hd (ymul hx hy h).in k
theorem FL.quo {t ty : TypeId} {x y : Operand} {a b : Int} (hg : gate ops e g = some true) (hd : Nat.blt d N = true) (hx : ev e x = some (.int .i64 a)) (hy : ev e y = some (.int .i64 b)) (h : 0 ≤ a ∧ a ≤ 9223372036854775807 ∧ 1 ≤ b) (k : FL P N ops.toArray C l ((d, .int .i64 (a / b)) :: e) w Kf) : FL P N ops.toArray C (⟨some d, .binOp .quo t x y ty, tt, ps, af, g⟩ :: l) e w Kf :=
  FL.step hg hd (yquo hx hy h).in k
theorem FL.rem {t ty : TypeId} {x y : Operand} {a b : Int} (hg : gate ops e g = some true) (hd : Nat.blt d N = true) (hx : ev e x = some (.int .i64 a)) (hy : ev e y = some (.int .i64 b)) (h : 0 ≤ a ∧ 1 ≤ b) (k : FL P N ops.toArray C l ((d, .int .i64 (a % b)) :: e) w Kf) : FL P N ops.toArray C (⟨some d, .binOp .rem t x y ty, tt, ps, af, g⟩ :: l) e w Kf :=
  FL.step hg hd (yrem hx hy h).in k
theorem FL.load {bk : Option Nat} {t : TypeId} {x : Operand} {p : Addr} {v : Value} {i : TI} (hT : OkTab P T) (hg : gate ops e g = some true) (hd : Nat.blt d N = true) (hx : ev e x = some (.pointer (some p))) (ht : tget T t = some i) (ha : isAggD i.desc = false) (hv : w.cell? p = some v) (hb : bk ≠ some p.block)
    (k : FL P N ops.toArray (But w bk) l ((d, v) :: e) w Kf) : FL P N ops.toArray (But w bk) (⟨some d, .load t x, tt, ps, af, g⟩ :: l) e w Kf := by
  refine FL.step hg hd ?_ k
  intro ρ hρ w' hw'
  have h1 := run_isAgg' (hT.at ht); rw [ha] at h1
  have h2 := But.cell hw' hv hb
  simp [execOp, hρ _ _ hx, Instr.loadAt, Instr.sureAddr, loadVar, h1, h2]
theorem FL.loadA {bk : Option Nat} {t : TypeId} {x : Operand} {b off : Nat} {vs : List Value} {i : TI} (hT : OkTab P T) (hg : gate ops e g = some true) (hd : Nat.blt d N = true) (hx : ev e x = some (.pointer (some ⟨b, off, none⟩))) (ht : tget T t = some i) (ha : isAggD i.desc = true) (hv : Cells w b off vs) (hs : i.size = vs.length) (hb : bk ≠ some b)
    (k : FL P N ops.toArray (But w bk) l ((d, .agg vs.toArray) :: e) w Kf) : FL P N ops.toArray (But w bk) (⟨some d, .load t x, tt, ps, af, g⟩ :: l) e w Kf := by
  refine FL.step hg hd ?_ k
  intro ρ hρ w' hw'
  have h1 := run_isAgg' (hT.at ht); rw [ha] at h1
  have h3 := run_sizeOf' (hT.at ht); rw [hs] at h3
  have h2 := run_loadCellsFrom (P := P) (acc := #[]) (off := off) (i := 0) (But.cells hw' hb hv)
  simp [execOp, hρ _ _ hx, Instr.loadAt, Instr.sureAddr, loadVar, h1, h3, loadCells, h2]
theorem FL.index {t : TypeId} {x y : Operand} {α : Type} {s : Nat} {enc : α → List Value} {a : Option Addr} {xs : List α} {n cap : Nat} {kk : IntKind} {i : Int} {ti ei : TI} {el : TypeId} {z : α} {w0 : World}
    (hT : OkTab P T) (hg : gate ops e g = some true) (hd : Nat.blt d N = true) (hx : ev e x = some (.slice a n cap)) (hy : ev e y = some (.int kk i)) (ht : tget T t = some ti) (htd : ti.desc = .slice el) (he : tget T el = some ei) (hs : ei.size = s)
    (R : Row s enc w0 a xs) (E : Ext w0 w) (hn : xs.length = n) (h0 : 0 ≤ i) (hz : xs[i.toNat]? = some z) (hne : enc z ≠ [])
    (k : ∀ b off, Cells w b off (enc z) → b < w0.heap.size → FL P N ops.toArray C l ((d, .pointer (some ⟨b, off, none⟩)) :: e) w Kf) : FL P N ops.toArray C (⟨some d, .indexAddr t x y, tt, ps, af, g⟩ :: l) e w Kf := by
  obtain ⟨b, off, ha, hc⟩ := R.elem _ _ hz
  have hlt : b < w0.heap.size := by
    cases hez : enc z with
    | nil => exact absurd hez hne
    | cons u r => rw [hez] at hc; exact World.block_lt_of_cell? _ _ hc.1
  refine FL.step (v := .pointer (some ⟨b, off + i.toNat * s, none⟩)) hg hd (Yields.in ?_) (k b (off + i.toNat * s) (hc.ext E) hlt)
  intro ρ hρ w'
  have hlt : i.toNat < xs.length := (List.getElem?_eq_some_iff.1 hz).1
  have h1 := run_underlying' (hT.at ht); rw [htd] at h1
  have h2 := run_sizeOf' (hT.at he); rw [hs] at h2
  have h3 : i < (n : Int) := by omega
  subst ha
  simp [execOp, hρ _ _ hx, hρ _ _ hy, Instr.indexAt, asIntOf, h1, h2, h0, h3, Addr_add_none]
theorem FL.indexO {t : TypeId} {α : Type} {s : Nat} {enc : α → List Value} {B : Nat} {ti ei : TI} {el : TypeId} {x y : Operand} {a : Option Addr} {xs : List α} {n cap : Nat} {kk : IntKind} {i : Int} {z : α} {wo : World} (hT : OkTab P T) (hg : gate ops e g = some true) (hd : Nat.blt d N = true)
    (hx : ev e x = some (.slice a n cap)) (hy : ev e y = some (.int kk i)) (ht : tget T t = some ti) (htd : ti.desc = .slice el) (he : tget T el = some ei) (hs : ei.size = s)
    (ho : Own s enc el B wo a cap xs) (E : Ext wo w) (hE : Enc s enc) (hn : xs.length = n) (h0 : 0 ≤ i) (hz : xs[i.toNat]? = some z)
    (k : ∀ gb, a = some ⟨gb, 0, none⟩ → Cells w gb (i.toNat * s) (enc z) → FL P N ops.toArray C l ((d, .pointer (some ⟨gb, i.toNat * s, none⟩)) :: e) w Kf) : FL P N ops.toArray C (⟨some d, .indexAddr t x y, tt, ps, af, g⟩ :: l) e w Kf := by
  obtain ⟨gb, ha, hc, hy'⟩ := yindexO (P := P) (dd := some d) (C := Same w) (t := t) (tt := tt) (x := x) (y := y) (ps := ps) (af := af) (g := g) hT hx hy ht htd he hs hE ho E hn h0 hz
  exact FL.step hg hd hy'.in (k gb ha hc)
end rules

section gsplit
variable {P : Program} {N : Nat} {e : Env} {w : World} {C : World → Prop} {ops l : List Oper} {Kf : Act → Prop} {o : Option Tmp} {op : Op} {tt : TypeId} {ps : String} {af : Array Edge} {j : Nat} {g : Bool} {d : Nat} {p : Prop} {b : Bool}
theorem FL.gD (hj : dstAt ops j = some d) (hd : get e d = some (.bool (dec p)))
    (ht : p → FL P N ops.toArray C (⟨o, op, tt, ps, af, some (j, g)⟩ :: l) ((d, .bool true) :: e) w Kf) (hf : ¬ p → FL P N ops.toArray C (⟨o, op, tt, ps, af, some (j, g)⟩ :: l) ((d, .bool false) :: e) w Kf) :
    FL P N ops.toArray C (⟨o, op, tt, ps, af, some (j, g)⟩ :: l) e w Kf := FL.split hd (fun h => ht (of_dec h)) (fun h => hf (of_dec_false h))
theorem FL.gB (hj : dstAt ops j = some d) (hd : get e d = some (.bool b))
    (ht : b = true → FL P N ops.toArray C (⟨o, op, tt, ps, af, some (j, g)⟩ :: l) ((d, .bool true) :: e) w Kf) (hf : b = false → FL P N ops.toArray C (⟨o, op, tt, ps, af, some (j, g)⟩ :: l) ((d, .bool false) :: e) w Kf) :
    FL P N ops.toArray C (⟨o, op, tt, ps, af, some (j, g)⟩ :: l) e w Kf := FL.split hd ht hf
theorem FL.gN (hj : dstAt ops j = some d) (hd : get e d = some (.bool (!dec p)))
    (ht : ¬ p → FL P N ops.toArray C (⟨o, op, tt, ps, af, some (j, g)⟩ :: l) ((d, .bool true) :: e) w Kf) (hf : p → FL P N ops.toArray C (⟨o, op, tt, ps, af, some (j, g)⟩ :: l) ((d, .bool false) :: e) w Kf) :
    FL P N ops.toArray C (⟨o, op, tt, ps, af, some (j, g)⟩ :: l) e w Kf := FL.split hd (fun h => ht (of_dec_false (by simpa using h))) (fun h => hf (of_dec (by simpa using h)))
theorem FL.gT (hj : dstAt ops j = some d) (hd : get e d = some (.bool b)) (hb : b = true)
    (k : FL P N ops.toArray C (⟨o, op, tt, ps, af, some (j, g)⟩ :: l) ((d, .bool true) :: e) w Kf) : FL P N ops.toArray C (⟨o, op, tt, ps, af, some (j, g)⟩ :: l) e w Kf :=
  FL.split hd (fun h => k) (fun h => absurd (h.symm.trans hb) (by decide))
theorem FL.gF (hj : dstAt ops j = some d) (hd : get e d = some (.bool b)) (hb : b = false)
    (k : FL P N ops.toArray C (⟨o, op, tt, ps, af, some (j, g)⟩ :: l) ((d, .bool false) :: e) w Kf) : FL P N ops.toArray C (⟨o, op, tt, ps, af, some (j, g)⟩ :: l) e w Kf :=
  FL.split hd (fun h => absurd (h.symm.trans hb) (by decide)) (fun h => k)
end gsplit
end Go.Lt
