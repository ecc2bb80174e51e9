/- Part 3 of what the claim LiftLifts needs: lemmas and contracts, printed from longer texts. No conditions. -/
import Derived.Test.YtlcenenkloicjaaRows
import Derived.Lib.SmallJoins
import Derived.KernelRfl
import Derived.WalkKit
import Derived.ProofKit
import Derived.Deep.Quiet
import Derived.Deep.LoopGhost
import Derived.StillTail
import Derived.Test.YtlcenenkloicjaaProg
import Derived.OpenShut
import Derived.ShutString
import Derived.ChangeOld
import Derived.Deep.Slices
import Derived.SizedLaws
import Derived.Laws.StructEq
import Derived.Test.YtlcenenkloicjaaLiftLiftsP2
namespace Go.Lt
open Go.RowKit
set_option linter.unusedVariables false
set_option linter.unusedSimpArgs false

section tree
variable {P : Program} {ops : Array Oper} {C : World → Prop} {early : Nat → Bool} {K : Act → World → Prop}

def wpX (P : Program) (ops : Array Oper) (C : World → Prop) (early : Nat → Bool) (K : Act → World → Prop) : Nat → Array Bool → Act → World → Prop
  | 0, listed, a, w => Region.ready .any ops listed = [] ∧ ∀ w', Ext w w' → K a w'
  | n + 1, listed, a, w => Region.ready .any ops listed ≠ [] ∧ ∀ w', Ext w w' → ∀ i ∈ Region.ready .any ops listed,
      wpOp P ops (onlyN K) i (fun a' w'' => (C w' → early i = true → C w'') ∧ wpX P ops C early K n (listed.setIfInBounds i true) a' w'') a w'

theorem wpX_ext : ∀ {n : Nat} {listed : Array Bool} {a : Act} {w w2 : World} (_ : Ext w w2), wpX P ops C early K n listed a w → wpX P ops C early K n listed a w2
  | 0, _, _, _, _, hx, h => ⟨h.1, fun w' h' => h.2 w' (hx.trans h')⟩
  | _ + 1, _, _, _, _, hx, h => ⟨h.1, fun w' h' => h.2 w' (hx.trans h')⟩

theorem wpAny_of_X {Q : Exit → Act → World → Prop} (hQ : ∀ a w, K a w → Q .normal a w) : ∀ (fuel : Nat) (listed : Array Bool) (a : Act) (w : World), wpX P ops C early K fuel listed a w → wpAny P .any ops Q fuel listed a w
  | 0, _, _, w, h => ⟨h.1, hQ _ _ (h.2 w (Ext.refl w))⟩
  | fuel + 1, _, _, w, h => ⟨fun h0 => absurd h0 h.1, fun i hi => wpOp_mono' (fun a w hh => wpAny_of_X hQ fuel _ a w hh.2) (h.2 w (Ext.refl w) i hi)⟩

/-- The step yields v, and only makes memory. -/
def PureAt (P : Program) (s : Sem Next) (w : World) (v : Value) : Prop :=
  s.run P w = .ok (.value v) w ∨ ∃ f args, s.run P w = .ok (.enter f args) w ∧ Calls P f args w (fun x w' => x = .returned v ∧ Ext w w')

def PYields (P : Program) (ops : Array Oper) (C : World → Prop) (o : Oper) (v : Value) (a : Act) : Prop :=
  (Region.wanted o (yielded ops a.tmps) = true ∧ ∀ w, C w → PureAt P (execOp a.eval o) w v) ∨ (Region.wanted o (yielded ops a.tmps) = false ∧ v = undef)

theorem PYields.wpOp {i : Nat} {o : Oper} {v : Value} {a : Act} {w : World} {Q : Exit → Act → World → Prop} {K' : Act → World → Prop} (hi : ops[i]? = some o) (hy : PYields P ops C o v a) (hC : C w) (h : ∀ w', Ext w w' → K' (a.put o.dst v) w') : wpOp P ops Q i K' a w := by
  unfold Go.wpOp
  simp only [hi]
  rcases hy with ⟨hw, hv⟩ | ⟨hw, rfl⟩
  · simp only [hw, if_true]
    refine .inl ?_
    unfold Oper.wp
    rcases hv w hC with hv | ⟨f, args, hv, hc⟩
    · rw [hv]; exact h w (Ext.refl w)
    · rw [hv]
      refine Calls.mono hc ?_
      rintro x w' ⟨rfl, hx⟩
      exact h w' hx
  · simp only [hw, Bool.false_eq_true, if_false]; exact h w (Ext.refl w)

theorem PYields.of_same {o : Oper} {v : Value} {a a' : Act} (hy : PYields P ops C o v a) (he : execOp a'.eval o = execOp a.eval o)
    (hw : Region.wanted o (yielded ops a'.tmps) = Region.wanted o (yielded ops a.tmps)) : PYields P ops C o v a' := by
  unfold PYields at *
  rw [he, hw]
  exact hy

theorem wpOp_putX {j : Nat} {oi oj : Oper} {v : Value} {C : World → Prop} (hj : ops[j]? = some oj) (hap : oi.apart ops oj = true)
    (hsi : ∀ cs b, oi.op ≠ .select cs b) (hsj : ∀ cs b, oj.op ≠ .select cs b) {K0 K1 : Act → World → Prop} {a : Act} {w : World}
    (hy : PYields P ops C oi v a) (h : wpOp P ops (onlyN K0) j K1 (a.put oi.dst v) w) :
    wpOp P ops (onlyN K0) j (fun a' w' => PYields P ops C oi v a' ∧ K1 (a'.put oi.dst v) w') a w := by
  obtain ⟨h1, h2, h3⟩ := Oper.apart_spec hap
  have keep : ∀ u, PYields P ops C oi v (a.put oj.dst u) := fun u => hy.of_same (execOp_put oi hsi a oj.dst u h3) (wanted_put oi a oj.dst u h3)
  have swap : ∀ u, (a.put oi.dst v).put oj.dst u = (a.put oj.dst u).put oi.dst v := fun u => Act.put_comm a v u h2
  have lets : ¬ LetsOut (onlyN K0) := fun ⟨_, _, hq⟩ => hq
  unfold Go.wpOp at *
  simp only [hj] at *
  rw [wanted_put oj a oi.dst v h1] at h
  split
  · rename_i hw
    simp only [hw, if_true] at h
    rcases h with h | ⟨_, hq⟩
    · refine .inl ?_
      unfold Oper.wp at h ⊢
      rw [execOp_put oj hsj a oi.dst v h1] at h
      revert h
      generalize (execOp a.eval oj).run P w = r
      intro h
      unfold Oper.upon at h ⊢
      split at h
      · exact ⟨keep _, by rw [← swap]; exact h⟩
      · exact ⟨keep _, by rw [← swap]; exact h⟩
      · rename_i d w'
        have e1 : ({ a with defers := d :: a.defers }.put oj.dst undef).put oi.dst v = { a.put oi.dst v with defers := d :: (a.put oi.dst v).defers }.put oj.dst undef := by
          rw [Act.put_comm _ undef v (fun q hq hh => h2 q hh hq)]
          cases oi.dst <;> rfl
        have e2 : PYields P ops C oi v ({ a with defers := d :: a.defers }.put oj.dst undef) := by
          refine (keep undef).of_same ?_ ?_
          · cases oj.dst <;> rfl
          · cases oj.dst <;> rfl
        exact ⟨e2, by rw [e1]; exact h⟩
      · refine Calls.mono h fun x w'' hx => ?_
        cases x with
        | returned u => exact ⟨keep _, by rw [← swap]; exact hx⟩
        | panicked c => exact hx.elim
        | outgrown => exact (lets hx).elim
      · exact Rows.mono h fun u w'' hx => ⟨keep _, by rw [← swap]; exact hx⟩
      · exact h.elim
      · exact h
    · exact (lets hq).elim
  · rename_i hw
    simp only [hw] at h
    exact ⟨keep _, by rw [← swap]; exact h⟩

theorem wpX_first {i : Nat} {oi : Oper} {v : Value} {b : Bool} (hup : ∀ w w', C w → Ext w w' → C w') (hi : ops[i]? = some oi) (hsel : ∀ (j : Nat) (o : Oper) cs b, ops[j]? = some o → o.op ≠ .select cs b) :
    ∀ (fuel : Nat) (listed : Array Bool) (a : Act) (w : World), (b = true ∨ C w) →
      (∀ j oj, ops[j]? = some oj → j ≠ i → listed.getD j true = false → (∀ e ∈ oj.after, Region.binds .any e = true → e.on ≠ i) → oi.apart ops oj = true ∧ (b = true ∨ early j = true)) →
      i ∈ Region.ready .any ops listed → PYields P ops (fun w => b = true ∨ C w) oi v a →
      wpX P ops C early K fuel (listed.setIfInBounds i true) (a.put oi.dst v) w → wpX P ops C early K (fuel + 1) listed a w := by
  intro fuel
  induction fuel with
  | zero =>
    intro listed a w hC _ hr hy H
    refine ⟨fun h => (by rw [h] at hr; cases hr), fun w1 hx j hj => ?_⟩
    by_cases hji : j = i
    · subst hji; exact hy.wpOp hi (hC.imp id fun h => hup _ _ h hx) fun w' hx' => ⟨fun hc _ => hup _ _ hc hx', wpX_ext (hx.trans hx') H⟩
    · have := ready_mono hj hji
      rw [H.1] at this
      cases this
  | succ fuel ih =>
    intro listed a w hC hfree hr hy H
    refine ⟨fun h => (by rw [h] at hr; cases hr), fun w1 hx j hj => ?_⟩
    by_cases hji : j = i
    · subst hji; exact hy.wpOp hi (hC.imp id fun h => hup _ _ h hx) fun w' hx' => ⟨fun hc _ => hup _ _ hc hx', wpX_ext (hx.trans hx') H⟩
    · have h1 := H.2 w1 hx j (ready_mono hj hji)
      obtain ⟨hjun, oj, hoj, hall⟩ := mem_ready.1 hj
      have hnot : ∀ e ∈ oj.after, Region.binds .any e = true → e.on ≠ i := fun e he hb heq => by
        have h1 := hall e he hb
        have h0 := (mem_ready.1 hr).1
        rw [heq] at h1
        rcases Nat.lt_or_ge i listed.size with h' | h'
        · simp [h'] at h0 h1; rw [h0] at h1; cases h1
        · simp [Array.getElem?_eq_none h'] at h1
      obtain ⟨hap, hea⟩ := hfree j oj hoj hji hjun hnot
      have h2 := wpOp_putX hoj hap (fun cs b => hsel i oi cs b hi) (fun cs b => hsel j oj cs b hoj) hy h1
      have hfree' : ∀ k ok, ops[k]? = some ok → k ≠ i → (listed.setIfInBounds j true).getD k true = false →
          (∀ e ∈ ok.after, Region.binds .any e = true → e.on ≠ i) → oi.apart ops ok = true ∧ (b = true ∨ early k = true) := fun k ok hk hki hun hno => by
        refine hfree k ok hk hki ?_ hno
        by_cases hjk : j = k
        · subst hjk; exact hjun
        · rw [getD_set_ne true hjk] at hun; exact hun
      refine wpOp_mono' (fun a' w' h3 => ⟨h3.2.1, ih (listed.setIfInBounds j true) a' w' ?_ hfree' (ready_mono hr (Ne.symm hji)) h3.1 ?_⟩) h2
      · rcases hea with hb | hea
        · exact .inl hb
        · rcases hC with hb | hc
          · exact .inl hb
          · exact .inr (h3.2.1 (hup _ _ hc hx) hea)
      · rw [Array.setIfInBounds_comm _ _ hji]
        exact h3.2.2

def wpY (P : Program) (ops : Array Oper) (C : World → Prop) (early : Nat → Bool) (K : Act → World → Prop) : Strat → Act → World → Prop
  | .done, a, w => ∀ w', Ext w w' → K a w'
  | .fl b i k, a, w => ∃ o, ops[i]? = some o ∧ ∃ v, PYields P ops (fun w => b = true ∨ C w) o v a ∧ (b = true ∨ C w) ∧ wpY P ops C early K k (a.put o.dst v) w
  | .br i k more, a, w => (∃ o, ops[i]? = some o ∧ ∀ w', Ext w w' → wpList P ops (onlyN fun a' w'' => (early i = true → C w'') ∧ wpY P ops C early K k a' w'') [o] a w') ∧ wpY P ops C early K more a w
  | .stop, _, _ => True

theorem wpY_ext (hup : ∀ w w', C w → Ext w w' → C w') : ∀ {s : Strat} {a : Act} {w w2 : World} (_ : Ext w w2), wpY P ops C early K s a w → wpY P ops C early K s a w2
  | .done, _, _, _, hx, h => fun w' h' => h w' (hx.trans h')
  | .fl b i k, _, _, _, hx, ⟨o, ho, v, h1, h2, h3⟩ => ⟨o, ho, v, h1, h2.imp id fun h => hup _ _ h hx, wpY_ext hup hx h3⟩
  | .br i k more, _, _, _, hx, ⟨⟨o, ho, h1⟩, h2⟩ => ⟨⟨o, ho, fun w' h' => h1 w' (hx.trans h')⟩, wpY_ext hup hx h2⟩
  | .stop, _, _, _, _, _ => trivial

theorem stratX_all (hup : ∀ w w', C w → Ext w w' → C w') (hsel : ∀ (j : Nat) (o : Oper) cs b, ops[j]? = some o → o.op ≠ .select cs b) : ∀ (s : Strat),
    (∀ (L : Array Bool) (a : Act) (w : World), stratB ops early true s L = true → wpY P ops C early K s a w → wpX P ops C early K (slen s) L a w) ∧
    (∀ (L : Array Bool) (a : Act) (w : World) (n : Nat), stratB ops early false s L = true → (isStop s = true ∨ slen s = n + 1) → wpY P ops C early K s a w → ∀ i ∈ heads s, ∀ w', Ext w w' →
      wpOp P ops (onlyN K) i (fun a' w'' => (C w' → early i = true → C w'') ∧ wpX P ops C early K n (L.setIfInBounds i true) a' w'') a w')
  | .done => ⟨fun L a w hB h => ⟨by simpa [stratB] using hB, h⟩, fun L a w n hB => by simp [stratB] at hB⟩
  | .stop => ⟨fun L a w hB => by simp [stratB] at hB, fun L a w n hB hn h i hi => by simp [heads] at hi⟩
  | .fl b i k => by
    refine ⟨fun L a w hB h => ?_, fun L a w n hB => by simp [stratB] at hB⟩
    obtain ⟨o, ho, v, h1, h2, h3⟩ := h
    simp only [stratB, ho, Bool.true_and, Bool.and_eq_true] at hB
    obtain ⟨⟨hB1, hB2⟩, hB3⟩ := hB
    have hfree : ∀ j oj, ops[j]? = some oj → j ≠ i → L.getD j true = false → (∀ e ∈ oj.after, Region.binds .any e = true → e.on ≠ i) → o.apart ops oj = true ∧ (b = true ∨ early j = true) := by
      intro j oj hj hji hun hno
      have hjlt : j < ops.size := (Array.getElem?_eq_some_iff.1 hj).1
      have := List.all_eq_true.1 hB2 j (List.mem_range.2 hjlt)
      simp only [hj, Bool.or_eq_true, beq_iff_eq, hji, hun, Bool.false_eq_true, false_or, Bool.and_eq_true] at this
      rcases this with hw | hw
      · exfalso
        simp only [waits, hj] at hw
        obtain ⟨e, he, hb⟩ := Array.any_eq_true'.1 hw
        simp only [Bool.and_eq_true, beq_iff_eq] at hb
        exact hno e he hb.1 hb.2
      · exact hw
    exact wpX_first hup ho hsel (slen k) L a w h2 hfree (by simpa using hB1) h1 ((stratX_all hup hsel k).1 _ _ _ hB3 h3)
  | .br i k more => by
    have key : ∀ (L : Array Bool) (a : Act) (w : World), stratB ops early true k (L.setIfInBounds i true) = true →
        (∃ o, ops[i]? = some o ∧ ∀ w', Ext w w' → wpList P ops (onlyN fun a' w'' => (early i = true → C w'') ∧ wpY P ops C early K k a' w'') [o] a w') → ∀ w', Ext w w' →
        wpOp P ops (onlyN K) i (fun a' w'' => (C w' → early i = true → C w'') ∧ wpX P ops C early K (slen k) (L.setIfInBounds i true) a' w'') a w' := by
      rintro L a w hB ⟨o, ho, h⟩ w1 hx
      refine wpOp_of_list ho (h w1 hx) _ fun a' w' h' => ?_
      have h'' : (early i = true → C w') ∧ wpY P ops C early K k a' w' := h'
      exact ⟨fun _ he => h''.1 he, (stratX_all hup hsel k).1 _ _ _ hB h''.2⟩
    refine ⟨fun L a w hB h => ?_, fun L a w n hB hn h => ?_⟩
    · simp only [stratB, Bool.not_true, Bool.false_or, Bool.and_eq_true, beq_iff_eq, Bool.or_eq_true] at hB
      obtain ⟨⟨⟨hB1, hB2⟩, hB3⟩, hB4⟩ := hB
      refine ⟨by rw [hB1]; simp, fun w1 hx j hj => ?_⟩
      rw [hB1] at hj
      rcases List.mem_cons.1 hj with rfl | hj
      · exact key L a w hB3 h.1 w1 hx
      · refine (stratX_all hup hsel more).2 L a w (slen k) hB4 ?_ h.2 j hj w1 hx
        rcases hB2 with hB2 | hB2
        · exact .inl hB2
        · exact .inr (Nat.eq_of_beq_eq_true hB2)
    · simp only [stratB, Bool.not_false, Bool.true_or, Bool.true_and, Bool.and_eq_true, Bool.or_eq_true] at hB
      obtain ⟨⟨hB2, hB3⟩, hB4⟩ := hB
      have hk : slen k = n := by
        rcases hn with hn | hn
        · cases hn
        · exact Nat.succ.inj hn
      subst hk
      intro j hj w1 hx
      rcases List.mem_cons.1 hj with rfl | hj
      · exact key L a w hB3 h.1 w1 hx
      · refine (stratX_all hup hsel more).2 L a w (slen k) hB4 ?_ h.2 j hj w1 hx
        rcases hB2 with hB2 | hB2
        · exact .inl hB2
        · exact .inr (Nat.eq_of_beq_eq_true hB2)
end tree

structure SX (P : Program) (N : Nat) (l : List Oper) (w0 : World) (early : Nat → Bool) (s : Strat) (e : Env) (w : World) (Q : Exit → Act → World → Prop) : Prop where
  go : ∀ a, Fit N e a → wpY P l.toArray (Ext w0) early (fun a w => Q .normal a w) s a w
theorem ext_up (w0 : World) : ∀ w w', Ext w0 w → Ext w w' → Ext w0 w' := fun _ _ h k => h.trans k

section rules
variable {P : Program} {N : Nat} {e : Env} {w w0 : World} {Q : Exit → Act → World → Prop} {l : List Oper} {early : Nat → Bool} {s k more : Strat} {o : Oper} {i : Nat}
theorem W.regionGX {id : Nat} (s : Strat) (E : List Nat) (hm : P.follows .mixedOrders = true) (hB : (Region.noSelect l.toArray && Nat.beq (slen s) l.toArray.size && stratB l.toArray (memN E) true s (Array.replicate l.toArray.size false)) = true)
    (h : SX P N l w (memN E) s e w Q) : W P N (.region id l.toArray true) e w Q := by
  refine ⟨fun a m hf => wp_region_any hm ?_⟩
  simp only [Bool.and_eq_true] at hB
  obtain ⟨⟨hB1, hB2⟩, hB3⟩ := hB
  have hsel : ∀ (j : Nat) (o : Oper) cs b, l.toArray[j]? = some o → o.op ≠ .select cs b := fun j o cs b ho => Region.noSelect_spec hB1 j o cs b ho
  have hsz := Nat.eq_of_beq_eq_true hB2
  have key := (stratX_all (P := P) (C := Ext w) (K := fun a w => Q .normal a w) (ext_up w) hsel s).1 _ _ _ hB3 (h.go a hf)
  rw [hsz] at key
  exact wpAny_of_X (K := fun a w => Q .normal a w) (C := Ext w) (early := memN E) (fun _ _ h => h) _ _ _ _ (wpX_ext (w := w) ((Ext.refl w).at (m + 1)) key)
theorem SX.done (h : ∀ w', Ext w w' → Z N Q .normal e w') : SX P N l w0 early .done e w Q := ⟨fun a hf w' hx => (h w' hx).go a w'.drawn hf⟩
theorem SX.stop : SX P N l w0 early .stop e w Q := ⟨fun a hf => trivial⟩
theorem SX.fl0 (ho : nthO l i = some o) (h : FL P N l.toArray (fun _ => True) [o] e w (fun a => wpY P l.toArray (Ext w0) early (fun a w => Q .normal a w) k a w)) : SX P N l w0 early (.fl true i k) e w Q := by
  refine ⟨fun a hf => ⟨o, nthO_eq ho, ?_⟩⟩
  have := h.go a hf
  unfold wpFl at this
  split at this
  · rename_i hw
    obtain ⟨v, h1, h2⟩ := this
    exact ⟨v, .inl ⟨hw, fun w' _ => .inl (h1 w' trivial)⟩, .inl rfl, h2⟩
  · rename_i hw
    exact ⟨undef, .inr ⟨by simpa using hw, rfl⟩, .inl rfl, this⟩
theorem SX.fl1 (ho : nthO l i = some o) (hC : Ext w0 w) (h : FL P N l.toArray (Ext w0) [o] e w (fun a => wpY P l.toArray (Ext w0) early (fun a w => Q .normal a w) k a w)) : SX P N l w0 early (.fl false i k) e w Q := by
  refine ⟨fun a hf => ⟨o, nthO_eq ho, ?_⟩⟩
  have := h.go a hf
  unfold wpFl at this
  split at this
  · rename_i hw
    obtain ⟨v, h1, h2⟩ := this
    exact ⟨v, .inl ⟨hw, fun w' hc => .inl (h1 w' (hc.resolve_left (by simp)))⟩, .inr hC, h2⟩
  · rename_i hw
    exact ⟨undef, .inr ⟨by simpa using hw, rfl⟩, .inr hC, this⟩
theorem FL.nilX {opsA : Array Oper} {C' : World → Prop} (h : SX P N l w0 early k e w Q) : FL P N opsA C' [] e w (fun a => wpY P l.toArray (Ext w0) early (fun a w => Q .normal a w) k a w) := ⟨fun a hf => h.go a hf⟩
theorem SX.br (ho : nthO l i = some o) (h : ∀ w', Ext w w' → WL P N l.toArray [o] e w' (onlyN fun a' w'' => (early i = true → Ext w0 w'') ∧ wpY P l.toArray (Ext w0) early (fun a w => Q .normal a w) k a' w'')) (hm : SX P N l w0 early more e w Q) : SX P N l w0 early (.br i k more) e w Q :=
  ⟨fun a hf => ⟨⟨o, nthO_eq ho, fun w' hx => (h w' hx).go a w'.drawn hf⟩, hm.go a hf⟩⟩
theorem SX.br1 (ho : nthO l i = some o) (h : ∀ w', Ext w w' → WL P N l.toArray [o] e w' (onlyN fun a' w'' => (early i = true → Ext w0 w'') ∧ wpY P l.toArray (Ext w0) early (fun a w => Q .normal a w) k a' w'')) : SX P N l w0 early (.br i k .stop) e w Q := SX.br ho h SX.stop
theorem Z.sx (hC : early i = true → Ext w0 w) (h : SX P N l w0 early k e w Q) : Z N (onlyN fun a' w'' => (early i = true → Ext w0 w'') ∧ wpY P l.toArray (Ext w0) early (fun a w => Q .normal a w) k a' w'') .normal e w :=
  ⟨fun a m hf => ⟨fun he => (hC he).at m, wpY_ext (ext_up w0) ((Ext.refl w).at m) (h.go a hf)⟩⟩
theorem Z.sxL (hE : early i = false) (h : SX P N l w0 early k e w Q) : Z N (onlyN fun a' w'' => (early i = true → Ext w0 w'') ∧ wpY P l.toArray (Ext w0) early (fun a w => Q .normal a w) k a' w'') .normal e w := Z.sx (fun h => by rw [hE] at h; cases h) h
theorem Z.sxE (hC : Ext w0 w) (h : SX P N l w0 early k e w Q) : Z N (onlyN fun a' w'' => (early i = true → Ext w0 w'') ∧ wpY P l.toArray (Ext w0) early (fun a w => Q .normal a w) k a' w'') .normal e w := Z.sx (fun _ => hC) h
end rules
end Go.Lt
namespace Go.Proofs.Ytlcenenkloicjaa
open Go Go.Lt Go.RowKit
set_option linter.unusedVariables false
set_option linter.unusedSimpArgs false
set_option maxRecDepth 20000

theorem chk_5 {c : CirT} (h : BadMax c ∨ BadOwn c ∨ BadUse c ∨ BadRes c) : chkC c = 5 := by unfold chkC; rw [if_pos h]
theorem chk_7 {c : CirT} (h5 : ¬ (BadMax c ∨ BadOwn c ∨ BadUse c ∨ BadRes c)) (h : Twice c) : chkC c = 7 := by unfold chkC; rw [if_neg h5, if_pos h]
theorem chk_9 {c : CirT} (h5 : ¬ (BadMax c ∨ BadOwn c ∨ BadUse c ∨ BadRes c)) (h7 : ¬ Twice c) (h : NoneC c) : chkC c = 9 := by unfold chkC; rw [if_neg h5, if_neg h7, if_pos h]
theorem chk_8 {c : CirT} (h5 : ¬ (BadMax c ∨ BadOwn c ∨ BadUse c ∨ BadRes c)) (h7 : ¬ Twice c) (h9 : ¬ NoneC c) (h : (ordL c.gates).length < c.gates.length) : chkC c = 8 := by unfold chkC; rw [if_neg h5, if_neg h7, if_neg h9, if_pos h]
theorem chk_0 {c : CirT} (h5 : ¬ (BadMax c ∨ BadOwn c ∨ BadUse c ∨ BadRes c)) (h7 : ¬ Twice c) (h9 : ¬ NoneC c) (h : ¬ (ordL c.gates).length < c.gates.length) : chkC c = 0 := by unfold chkC; rw [if_neg h5, if_neg h7, if_neg h9, if_neg h]
theorem mem_take_snoc {α : Type} {l : List α} {k : Nat} {x y : α} (hx : l[k]? = some x) (h : y ∈ l.take (k + 1)) : y ∈ l.take k ∨ y = x := by
  rw [take_succ' hx] at h
  rcases List.mem_append.1 h with h | h
  · exact .inl h
  · exact .inr (List.mem_singleton.1 h)
set_option maxHeartbeats 32000000 in
theorem ref11_Check (c : Circ) (w : World) (hC : CAt w c) (hz : SzC c.t 100000) :
    Pure Try.prog 50 [c.val] w (.int .i64 (chkC c.t)) := by
  have hcm : c.t.max = c.max := rfl
  have z1 : c.ins.2.2.length ≤ 100000 := hz.1
  have z2 : c.lat.2.2.length ≤ 100000 := hz.2.1
  have z3 : c.outs.2.2.length ≤ 100000 := hz.2.2.1
  have z4 : c.bads.2.2.length ≤ 100000 := hz.2.2.2.1
  have z5 : c.cons.2.2.length ≤ 100000 := hz.2.2.2.2.1
  have z6 : c.gates.2.2.length ≤ 100000 := hz.2.2.2.2.2
  have hol : c.t.own.length ≤ 300000 := by
    show (c.ins.2.2 ++ c.lat.2.2.map (·.1) ++ c.gates.2.2.map (·.1)).length ≤ _
    simp; omega
  have hul : c.t.used.length ≤ 600000 := by
    show (c.outs.2.2 ++ c.bads.2.2 ++ c.cons.2.2 ++ c.lat.2.2.map (·.2.1) ++ c.gates.2.2.flatMap (fun g => [g.2.1, g.2.2])).length ≤ _
    rw [List.length_append, flat_len]; simp; omega
  by_cases hmax : BadMax c.t
  · rw [chk_5 (.inl hmax)]
    have hmax' : c.max < 0 ∨ 16777216 < c.max := hmax
    refine Spec.of _ Try.func50 rfl Try.ntmps50 (by kernel_rfl) rfl ?_
    repeat' (first
      | (apply WL.box; exact rfl; exact rfl; exact rfl; intro gb w' hb hge hc hx; have hcc := hc; (first | (obtain ⟨h1, h2, h3, _⟩ := hc) | (obtain ⟨h1, h2, _⟩ := hc)); (obtain ⟨y0, _⟩ := hcc; obtain ⟨gc, rfl⟩ : ∃ x, x = gb := ⟨_, rfl⟩; obtain ⟨wc, rfl⟩ : ∃ x, x = w' := ⟨_, rfl⟩; obtain ⟨hxc, rfl⟩ : ∃ x, x = hx := ⟨_, rfl⟩))
      | (show WL _ _ _ _ _ _ _; first | apply WL.nil | (refine WL.au (k := ?_)) | (apply WL.guardF; exact rfl; exact rfl) | (apply WL.gD; exact rfl; exact rfl; all_goals intro _))
      | (show Z _ _ _ _ _; first | apply Z.then_normal | apply Z.then_ret)
      | (show W _ _ _ _ _ _; first | apply W.seq | apply W.region | apply W.skip | apply W.ret | (apply W.condT; exact rfl) | (apply W.condD; exact rfl; all_goals intro _))
      | fail)
    all_goals first
      | exact Z.body1 Try.results50 rfl fun m => ⟨rfl, Ext.at (by (exact extA)) m⟩
      | (exfalso; omega)
      | skip
  have hm0 : ¬ (c.max < 0 ∨ 16777216 < c.max) := hmax
  refine Spec.of _ Try.func50 rfl Try.ntmps50 (by kernel_rfl) rfl ?_
  repeat' (first
    | (apply WL.box; exact rfl; exact rfl; exact rfl; intro gb w' hb hge hc hx; have hcc := hc; (first | (obtain ⟨h1, h2, h3, _⟩ := hc) | (obtain ⟨h1, h2, _⟩ := hc)); (have hcells := hcc; obtain ⟨y0, y1, y2, y3, y4, y5, y6, _⟩ := hcc; obtain ⟨gc, rfl⟩ : ∃ x, x = gb := ⟨_, rfl⟩; obtain ⟨wc, rfl⟩ : ∃ x, x = w' := ⟨_, rfl⟩; obtain ⟨hxc, rfl⟩ : ∃ x, x = hx := ⟨_, rfl⟩))
    | (apply WL.gF; exact rfl; exact rfl; (focus (exact dec_false (by omega); done)))
    | (apply W.condKF; exact rfl; (focus (exact dec_false (by omega); done)))
    | (show WL _ _ _ _ _ _ _; first | apply WL.nil | (refine WL.au (k := ?_)))
    | (show Z _ _ _ _ _; apply Z.then_normal)
    | (show W _ _ _ _ _ _; first | apply W.seq | apply W.region | apply W.skip)
    | fail)
  repeat' (first
    | (show W _ _ (.region 3 _ _) _ _ _; apply W.regionGX (.fl false 0 (.fl false 2 (.br 1 (.br 3 (.fl true 4 (.fl true 5 .done)) .stop) .stop))) [1, 2, 3, 4] tMix; kernel_rfl)
    | ((show WL _ _ _ (⟨_, .call ⟨.value (.func 51), _, _⟩, _, _, _, _⟩ :: _) _ _ _); apply WL.call; exact rfl; exact rfl; exact rfl; exact rfl; exact ref11_Owned c _ (hC.ext (by (exact extA))) hz; rintro v' w' ⟨hx, a', cap', rfl, hO⟩; (obtain ⟨hOo, rfl⟩ : ∃ x, x = hO := ⟨_, rfl⟩; obtain ⟨hxo, rfl⟩ : ∃ x, x = hx := ⟨_, rfl⟩; obtain ⟨wo, rfl⟩ : ∃ x, x = w' := ⟨_, rfl⟩; obtain ⟨ao, rfl⟩ : ∃ x, x = a' := ⟨_, rfl⟩; obtain ⟨co, rfl⟩ : ∃ x, x = cap' := ⟨_, rfl⟩))
    | ((show WL _ _ _ (⟨_, .call ⟨.value (.func 82), _, _⟩, _, _, _, _⟩ :: _) _ _ _); apply WL.call; exact rfl; exact rfl; exact rfl; exact rfl; exact ref11_Used c _ (hC.ext (by (exact extA))) hz; rintro v' w' ⟨hx, a', cap', rfl, hO⟩; (obtain ⟨hOu, rfl⟩ : ∃ x, x = hO := ⟨_, rfl⟩; obtain ⟨hxu, rfl⟩ : ∃ x, x = hx := ⟨_, rfl⟩; obtain ⟨wu, rfl⟩ : ∃ x, x = w' := ⟨_, rfl⟩; obtain ⟨au, rfl⟩ : ∃ x, x = a' := ⟨_, rfl⟩; obtain ⟨cu, rfl⟩ : ∃ x, x = cap' := ⟨_, rfl⟩))
    | (show SX _ _ _ _ _ _ _ _ _; first | (apply SX.done; intro w' hx) | (apply SX.fl0; exact rfl) | (apply SX.fl1; exact rfl; (exact extA)) | (apply SX.br1; exact rfl; intro w' hx))
    | (show FL _ _ _ _ _ _ _ _; first | apply FL.nilX | (apply FL.loadAE tOk; exact rfl; exact rfl; exact rfl; exact rfl; exact rfl; assumption; exact rfl))
    | (show FL _ _ _ _ _ _ _ _; (refine FL.au (k := ?_)))
    | (show Z _ _ _ _ _; (apply Z.sxE; (exact extA)))
    | (show WL _ _ _ _ _ _ _; first | apply WL.nil | (refine WL.au (k := ?_)))
    | (show Z _ _ _ _ _; apply Z.then_normal)
    | (show W _ _ _ _ _ _; first | apply W.seq | apply W.region | apply W.block)
    | fail)
  have hXu : Ext wc wu := (by (exact extA))
  have hXw : Ext w wu := hxc.trans hXu
  have Ro := (Own.row encI_ok hOo).ext (show Ext wo wu from (by (exact extA)))
  have Ru := Own.row encI_ok hOu
  have Rl := hC.lat.row.ext hXw
  have Rg := hC.gates.row.ext hXw
  have hcu := hcells.ext hXu
  have x0 : wu.cell? ⟨gc, 0, none⟩ = some (.int .i64 c.max) := hcu.1
  have x2 : wu.cell? ⟨gc, 0 + 1 + 1, none⟩ = some (rowVal c.lat) := hcu.2.2.1
  have x6 : wu.cell? ⟨gc, 0 + 1 + 1 + 1 + 1 + 1 + 1, none⟩ = some (rowVal c.gates) := hcu.2.2.2.2.2.2.1
  have hOr := hOo.capLe
  refine W.loop1 c.t.own.length (fun k => k ≤ c.t.own.length ∧ ∀ x ∈ c.t.own.take k, 2 ≤ x ∧ x % 2 = 0 ∧ x ≤ 2 * c.max) (fun k => [(1, .pointer (some ⟨gc, 0, none⟩)), (3, .slice ao c.t.own.length co), (4, .slice au c.t.used.length cu), (5, .int .i64 k)]) ⟨Nat.zero_le _, fun x h => by simp at h⟩ (fun k h => h.1) ⟨rfl, rfl, rfl, rfl, trivial⟩ ?_
  rintro k ⟨hk, hq⟩
  by_cases hlt : k < c.t.own.length
  · obtain ⟨x, hx⟩ := getI c.t.own hlt
    have hxm := List.mem_of_getElem? hx
    by_cases b1 : x < 2
    · repeat' (first
        | (apply QL.gT; exact rfl; exact rfl; (focus (first | exact dec_true (by omega); done)))
        | (apply W.condKT; exact rfl; (focus (first | exact dec_true (by omega); done)))
        | (show WL _ _ _ _ _ _ _; first | apply WL.nil | (refine WL.au (k := ?_)))
        | (show QL _ _ _ _ _ _ _; first | apply QL.nil | (refine QL.au (k := ?_)) | (apply QL.index tOk; exact rfl; exact rfl; exact rfl; exact rfl; exact rfl; exact rfl; exact rfl; exact rfl; assumption; (exact extA); exact rfl; omega; assumption; intro b off h; have hcc := h; first | (obtain ⟨h1, h2, h3, h4, h5, h6, _⟩ := h) | (obtain ⟨h1, h2, h3, _⟩ := h) | (obtain ⟨h1, h2, _⟩ := h) | (obtain ⟨h1, _⟩ := h)) | (apply QL.guardF; exact rfl; exact rfl))
        | (show Z _ _ _ _ _; first | apply Z.then_normal | apply Z.then_ret | apply Z.block_ret)
        | (show W _ _ _ _ _ _; first | apply W.seq | apply W.region | apply W.block | apply W.skip | apply W.ret | (apply W.condT; exact rfl) | (apply W.regionD tMix; kernel_rfl))
        | fail)
      exact Z.body1 Try.results50 rfl fun m => ⟨congrArg (Value.int IntKind.i64) (chk_5 (.inr (.inl ⟨x, hxm, .inl b1⟩))).symm, Ext.at (by (exact extA)) m⟩
    by_cases b2 : x % 2 = 1
    · repeat' (first
        | (apply QL.gT; exact rfl; exact rfl; (focus (first | exact dec_true (by omega) | exact dec_false (by omega); done)))
        | (apply QL.gF; exact rfl; exact rfl; (focus (first | exact dec_true (by omega) | exact dec_false (by omega); done)))
        | (apply W.condKT; exact rfl; (focus (first | exact dec_true (by omega) | exact dec_false (by omega); done)))
        | (show WL _ _ _ _ _ _ _; first | apply WL.nil | (refine WL.au (k := ?_)))
        | (show QL _ _ _ _ _ _ _; first | apply QL.nil | (refine QL.au (k := ?_)) | (apply QL.index tOk; exact rfl; exact rfl; exact rfl; exact rfl; exact rfl; exact rfl; exact rfl; exact rfl; assumption; (exact extA); exact rfl; omega; assumption; intro b off h; have hcc := h; first | (obtain ⟨h1, h2, h3, h4, h5, h6, _⟩ := h) | (obtain ⟨h1, h2, h3, _⟩ := h) | (obtain ⟨h1, h2, _⟩ := h) | (obtain ⟨h1, _⟩ := h)) | (apply QL.guardF; exact rfl; exact rfl))
        | (show Z _ _ _ _ _; first | apply Z.then_normal | apply Z.then_ret | apply Z.block_ret)
        | (show W _ _ _ _ _ _; first | apply W.seq | apply W.region | apply W.block | apply W.skip | apply W.ret | (apply W.condT; exact rfl) | (apply W.regionD tMix; kernel_rfl))
        | fail)
      exact Z.body1 Try.results50 rfl fun m => ⟨congrArg (Value.int IntKind.i64) (chk_5 (.inr (.inl ⟨x, hxm, .inr (.inl b2)⟩))).symm, Ext.at (by (exact extA)) m⟩
    by_cases b3 : 2 * c.max < x
    · repeat' (first
        | (apply QL.gF; exact rfl; exact rfl; (focus (first | exact dec_true (by omega) | exact dec_false (by omega); done)))
        | (apply W.condKT; exact rfl; (focus (first | exact dec_true (by omega) | exact dec_false (by omega); done)))
        | (show WL _ _ _ _ _ _ _; first | apply WL.nil | (refine WL.au (k := ?_)))
        | (show QL _ _ _ _ _ _ _; first | apply QL.nil | (refine QL.au (k := ?_)) | (apply QL.index tOk; exact rfl; exact rfl; exact rfl; exact rfl; exact rfl; exact rfl; exact rfl; exact rfl; assumption; (exact extA); exact rfl; omega; assumption; intro b off h; have hcc := h; first | (obtain ⟨h1, h2, h3, h4, h5, h6, _⟩ := h) | (obtain ⟨h1, h2, h3, _⟩ := h) | (obtain ⟨h1, h2, _⟩ := h) | (obtain ⟨h1, _⟩ := h)))
        | (show Z _ _ _ _ _; first | apply Z.then_normal | apply Z.then_ret | apply Z.block_ret)
        | (show W _ _ _ _ _ _; first | apply W.seq | apply W.region | apply W.block | apply W.skip | apply W.ret | (apply W.regionD tMix; kernel_rfl))
        | fail)
      exact Z.body1 Try.results50 rfl fun m => ⟨congrArg (Value.int IntKind.i64) (chk_5 (.inr (.inl ⟨x, hxm, .inr (.inr b3)⟩))).symm, Ext.at (by (exact extA)) m⟩
    · repeat' (first
        | (apply QL.gF; exact rfl; exact rfl; (focus (first | exact dec_true (by omega) | exact dec_false (by omega); done)))
        | (apply W.condKT; exact rfl; (focus (first | exact dec_true (by omega) | exact dec_false (by omega); done)))
        | (apply W.condKF; exact rfl; (focus (first | exact dec_true (by omega) | exact dec_false (by omega); done)))
        | (show WL _ _ _ _ _ _ _; first | apply WL.nil | (refine WL.au (k := ?_)))
        | (show QL _ _ _ _ _ _ _; first | apply QL.nil | (refine QL.au (k := ?_)) | (apply QL.index tOk; exact rfl; exact rfl; exact rfl; exact rfl; exact rfl; exact rfl; exact rfl; exact rfl; assumption; (exact extA); exact rfl; omega; assumption; intro b off h; have hcc := h; first | (obtain ⟨h1, h2, h3, h4, h5, h6, _⟩ := h) | (obtain ⟨h1, h2, h3, _⟩ := h) | (obtain ⟨h1, h2, _⟩ := h) | (obtain ⟨h1, _⟩ := h)))
        | (show Z _ _ _ _ _; first | apply Z.then_normal | apply Z.block_normal)
        | (show W _ _ _ _ _ _; first | apply W.seq | apply W.region | apply W.block | apply W.skip | (apply W.regionD tMix; kernel_rfl))
        | fail)
      refine Z.again1 ⟨by omega, fun y hy => ?_⟩ ⟨rfl, rfl, rfl, rfl, trivial⟩
      rcases mem_take_snoc hx hy with hy | rfl
      · exact hq y hy
      · omega
  obtain rfl : k = c.t.own.length := by omega
  rw [List.take_length] at hq
  repeat' (first
    | (apply W.condKF; exact rfl; (focus (exact dec_false (by omega); done)))
    | (show WL _ _ _ _ _ _ _; first | apply WL.nil | (refine WL.au (k := ?_)))
    | (show Z _ _ _ _ _; first | apply Z.then_normal | apply Z.then_exit | apply Z.block_exit)
    | (show W _ _ _ _ _ _; first | apply W.seq | apply W.region | apply W.block | apply W.exit)
    | fail)
  have hown := hq
  clear hq hk hlt
  refine W.loop1 c.t.used.length (fun k => k ≤ c.t.used.length ∧ ∀ x ∈ c.t.used.take k, 0 ≤ x ∧ x ≤ 2 * c.max + 1) (fun k => [(1, .pointer (some ⟨gc, 0, none⟩)), (3, .slice ao c.t.own.length co), (4, .slice au c.t.used.length cu), (6, .int .i64 k)]) ⟨Nat.zero_le _, fun x h => by simp at h⟩ (fun k h => h.1) ⟨rfl, rfl, rfl, rfl, trivial⟩ ?_
  rintro k ⟨hk, hq⟩
  by_cases hlt : k < c.t.used.length
  · obtain ⟨x, hx⟩ := getI c.t.used hlt
    have hxm := List.mem_of_getElem? hx
    by_cases b1 : x < 0
    · repeat' (first
        | (apply QL.gT; exact rfl; exact rfl; (focus (first | exact dec_true (by omega); done)))
        | (apply W.condKT; exact rfl; (focus (first | exact dec_true (by omega); done)))
        | (show WL _ _ _ _ _ _ _; first | apply WL.nil | (refine WL.au (k := ?_)))
        | (show QL _ _ _ _ _ _ _; first | apply QL.nil | (refine QL.au (k := ?_)) | (apply QL.index tOk; exact rfl; exact rfl; exact rfl; exact rfl; exact rfl; exact rfl; exact rfl; exact rfl; assumption; (exact extA); exact rfl; omega; assumption; intro b off h; have hcc := h; first | (obtain ⟨h1, h2, h3, h4, h5, h6, _⟩ := h) | (obtain ⟨h1, h2, h3, _⟩ := h) | (obtain ⟨h1, h2, _⟩ := h) | (obtain ⟨h1, _⟩ := h)) | (apply QL.guardF; exact rfl; exact rfl))
        | (show Z _ _ _ _ _; first | apply Z.then_normal | apply Z.then_ret | apply Z.block_ret)
        | (show W _ _ _ _ _ _; first | apply W.seq | apply W.region | apply W.block | apply W.skip | apply W.ret | (apply W.condT; exact rfl) | (apply W.regionD tMix; kernel_rfl))
        | fail)
      exact Z.body1 Try.results50 rfl fun m => ⟨congrArg (Value.int IntKind.i64) (chk_5 (.inr (.inr (.inl ⟨x, hxm, .inl b1⟩)))).symm, Ext.at (by (exact extA)) m⟩
    by_cases b3 : 2 * c.max + 1 < x
    · repeat' (first
        | (apply QL.gF; exact rfl; exact rfl; (focus (first | exact dec_true (by omega) | exact dec_false (by omega); done)))
        | (apply W.condKT; exact rfl; (focus (first | exact dec_true (by omega) | exact dec_false (by omega); done)))
        | (show WL _ _ _ _ _ _ _; first | apply WL.nil | (refine WL.au (k := ?_)))
        | (show QL _ _ _ _ _ _ _; first | apply QL.nil | (refine QL.au (k := ?_)) | (apply QL.index tOk; exact rfl; exact rfl; exact rfl; exact rfl; exact rfl; exact rfl; exact rfl; exact rfl; assumption; (exact extA); exact rfl; omega; assumption; intro b off h; have hcc := h; first | (obtain ⟨h1, h2, h3, h4, h5, h6, _⟩ := h) | (obtain ⟨h1, h2, h3, _⟩ := h) | (obtain ⟨h1, h2, _⟩ := h) | (obtain ⟨h1, _⟩ := h)))
        | (show Z _ _ _ _ _; first | apply Z.then_normal | apply Z.then_ret | apply Z.block_ret)
        | (show W _ _ _ _ _ _; first | apply W.seq | apply W.region | apply W.block | apply W.skip | apply W.ret | (apply W.regionD tMix; kernel_rfl))
        | fail)
      exact Z.body1 Try.results50 rfl fun m => ⟨congrArg (Value.int IntKind.i64) (chk_5 (.inr (.inr (.inl ⟨x, hxm, .inr b3⟩)))).symm, Ext.at (by (exact extA)) m⟩
    · repeat' (first
        | (apply QL.gF; exact rfl; exact rfl; (focus (first | exact dec_true (by omega) | exact dec_false (by omega); done)))
        | (apply W.condKT; exact rfl; (focus (first | exact dec_true (by omega) | exact dec_false (by omega); done)))
        | (apply W.condKF; exact rfl; (focus (first | exact dec_true (by omega) | exact dec_false (by omega); done)))
        | (show WL _ _ _ _ _ _ _; first | apply WL.nil | (refine WL.au (k := ?_)))
        | (show QL _ _ _ _ _ _ _; first | apply QL.nil | (refine QL.au (k := ?_)) | (apply QL.index tOk; exact rfl; exact rfl; exact rfl; exact rfl; exact rfl; exact rfl; exact rfl; exact rfl; assumption; (exact extA); exact rfl; omega; assumption; intro b off h; have hcc := h; first | (obtain ⟨h1, h2, h3, h4, h5, h6, _⟩ := h) | (obtain ⟨h1, h2, h3, _⟩ := h) | (obtain ⟨h1, h2, _⟩ := h) | (obtain ⟨h1, _⟩ := h)))
        | (show Z _ _ _ _ _; first | apply Z.then_normal | apply Z.block_normal)
        | (show W _ _ _ _ _ _; first | apply W.seq | apply W.region | apply W.block | apply W.skip | (apply W.regionD tMix; kernel_rfl))
        | fail)
      refine Z.again1 ⟨by omega, fun y hy => ?_⟩ ⟨rfl, rfl, rfl, rfl, trivial⟩
      rcases mem_take_snoc hx hy with hy | rfl
      · exact hq y hy
      · omega
  obtain rfl : k = c.t.used.length := by omega
  rw [List.take_length] at hq
  repeat' (first
    | (apply W.condKF; exact rfl; (focus (exact dec_false (by omega); done)))
    | (show WL _ _ _ _ _ _ _; first | apply WL.nil | (refine WL.au (k := ?_)))
    | (show Z _ _ _ _ _; first | apply Z.then_normal | apply Z.then_exit | apply Z.block_exit)
    | (show W _ _ _ _ _ _; first | apply W.seq | apply W.region | apply W.block | apply W.exit)
    | fail)
  have hused := hq
  clear hq hk hlt
  refine W.loop1 c.lat.2.2.length (fun k => k ≤ c.lat.2.2.length ∧ ∀ x ∈ c.lat.2.2.take k, x.2.2 = 0 ∨ x.2.2 = 1 ∨ x.2.2 = x.1) (fun k => [(1, .pointer (some ⟨gc, 0, none⟩)), (3, .slice ao c.t.own.length co), (4, .slice au c.t.used.length cu), (7, .int .i64 k)]) ⟨Nat.zero_le _, fun x h => by simp at h⟩ (fun k h => h.1) ⟨rfl, rfl, rfl, rfl, trivial⟩ ?_
  rintro k ⟨hk, hq⟩
  by_cases hlt : k < c.lat.2.2.length
  · obtain ⟨x, hx⟩ := getI c.lat.2.2 hlt
    have hxm := List.mem_of_getElem? hx
    by_cases b1 : x.2.2 = 0
    · repeat' (first
        | (apply WL.gF; exact rfl; exact rfl; (focus (first | exact dec_true (by omega) | exact dec_false (fun h => h b1); done)))
        | (apply W.condKT; exact rfl; (focus (first | exact dec_true (by omega) | exact dec_false (fun h => h b1); done)))
        | (show WL _ _ _ _ _ _ _; first | apply WL.nil | (refine WL.au (k := ?_)) | (apply WL.index tOk; exact rfl; exact rfl; exact rfl; exact rfl; exact rfl; exact rfl; exact rfl; exact rfl; assumption; (exact extA); exact rfl; omega; assumption; intro b off h; have hcc := h; first | (obtain ⟨h1, h2, h3, h4, h5, h6, _⟩ := h) | (obtain ⟨h1, h2, h3, _⟩ := h) | (obtain ⟨h1, h2, _⟩ := h) | (obtain ⟨h1, _⟩ := h)) | (apply WL.guardF; exact rfl; exact rfl))
        | (show Z _ _ _ _ _; first | apply Z.then_normal | apply Z.block_normal)
        | (show W _ _ _ _ _ _; first | apply W.seq | apply W.region | apply W.block | apply W.skip | (apply W.condF; exact rfl))
        | fail)
      refine Z.again1 ⟨by omega, fun y hy => ?_⟩ ⟨rfl, rfl, rfl, rfl, trivial⟩
      rcases mem_take_snoc hx hy with hy | rfl
      · exact hq y hy
      · exact .inl b1
    by_cases b2 : x.2.2 = 1
    · repeat' (first
        | (apply WL.gT; exact rfl; exact rfl; (focus (first | exact dec_true (by omega) | exact dec_true b1 | exact dec_false (fun h => h b2); done)))
        | (apply WL.gF; exact rfl; exact rfl; (focus (first | exact dec_true (by omega) | exact dec_true b1 | exact dec_false (fun h => h b2); done)))
        | (apply W.condKT; exact rfl; (focus (first | exact dec_true (by omega) | exact dec_true b1 | exact dec_false (fun h => h b2); done)))
        | (show WL _ _ _ _ _ _ _; first | apply WL.nil | (refine WL.au (k := ?_)) | (apply WL.index tOk; exact rfl; exact rfl; exact rfl; exact rfl; exact rfl; exact rfl; exact rfl; exact rfl; assumption; (exact extA); exact rfl; omega; assumption; intro b off h; have hcc := h; first | (obtain ⟨h1, h2, h3, h4, h5, h6, _⟩ := h) | (obtain ⟨h1, h2, h3, _⟩ := h) | (obtain ⟨h1, h2, _⟩ := h) | (obtain ⟨h1, _⟩ := h)) | (apply WL.guardF; exact rfl; exact rfl))
        | (show Z _ _ _ _ _; first | apply Z.then_normal | apply Z.block_normal)
        | (show W _ _ _ _ _ _; first | apply W.seq | apply W.region | apply W.block | apply W.skip | (apply W.condF; exact rfl))
        | fail)
      refine Z.again1 ⟨by omega, fun y hy => ?_⟩ ⟨rfl, rfl, rfl, rfl, trivial⟩
      rcases mem_take_snoc hx hy with hy | rfl
      · exact hq y hy
      · exact .inr (.inl b2)
    by_cases b3 : x.2.2 = x.1
    · repeat' (first
        | (apply WL.gT; exact rfl; exact rfl; (focus (first | exact dec_true (by omega) | exact dec_true b1 | exact dec_true b2 | exact dec_false (fun h => h b3); done)))
        | (apply W.condKT; exact rfl; (focus (first | exact dec_true (by omega) | exact dec_true b1 | exact dec_true b2 | exact dec_false (fun h => h b3); done)))
        | (apply W.condKF; exact rfl; (focus (first | exact dec_true (by omega) | exact dec_true b1 | exact dec_true b2 | exact dec_false (fun h => h b3); done)))
        | (show WL _ _ _ _ _ _ _; first | apply WL.nil | (refine WL.au (k := ?_)) | (apply WL.index tOk; exact rfl; exact rfl; exact rfl; exact rfl; exact rfl; exact rfl; exact rfl; exact rfl; assumption; (exact extA); exact rfl; omega; assumption; intro b off h; have hcc := h; first | (obtain ⟨h1, h2, h3, h4, h5, h6, _⟩ := h) | (obtain ⟨h1, h2, h3, _⟩ := h) | (obtain ⟨h1, h2, _⟩ := h) | (obtain ⟨h1, _⟩ := h)))
        | (show Z _ _ _ _ _; first | apply Z.then_normal | apply Z.block_normal)
        | (show W _ _ _ _ _ _; first | apply W.seq | apply W.region | apply W.block | apply W.skip)
        | fail)
      refine Z.again1 ⟨by omega, fun y hy => ?_⟩ ⟨rfl, rfl, rfl, rfl, trivial⟩
      rcases mem_take_snoc hx hy with hy | rfl
      · exact hq y hy
      · exact .inr (.inr b3)
    · repeat' (first
        | (apply WL.gT; exact rfl; exact rfl; (focus (first | exact dec_true (by omega) | exact dec_true b1 | exact dec_true b2 | exact dec_true b3; done)))
        | (apply W.condKT; exact rfl; (focus (first | exact dec_true (by omega) | exact dec_true b1 | exact dec_true b2 | exact dec_true b3; done)))
        | (show WL _ _ _ _ _ _ _; first | apply WL.nil | (refine WL.au (k := ?_)) | (apply WL.index tOk; exact rfl; exact rfl; exact rfl; exact rfl; exact rfl; exact rfl; exact rfl; exact rfl; assumption; (exact extA); exact rfl; omega; assumption; intro b off h; have hcc := h; first | (obtain ⟨h1, h2, h3, h4, h5, h6, _⟩ := h) | (obtain ⟨h1, h2, h3, _⟩ := h) | (obtain ⟨h1, h2, _⟩ := h) | (obtain ⟨h1, _⟩ := h)))
        | (show Z _ _ _ _ _; first | apply Z.then_normal | apply Z.then_ret | apply Z.block_ret)
        | (show W _ _ _ _ _ _; first | apply W.seq | apply W.region | apply W.block | apply W.skip | apply W.ret)
        | fail)
      exact Z.body1 Try.results50 rfl fun m => ⟨congrArg (Value.int IntKind.i64) (chk_5 (.inr (.inr (.inr ⟨x, hxm, b1, b2, b3⟩)))).symm, Ext.at (by (exact extA)) m⟩
  obtain rfl : k = c.lat.2.2.length := by omega
  rw [List.take_length] at hq
  repeat' (first
    | (apply W.condKF; exact rfl; (focus (exact dec_false (by omega); done)))
    | (show WL _ _ _ _ _ _ _; first | apply WL.nil | (refine WL.au (k := ?_)))
    | (show Z _ _ _ _ _; first | apply Z.then_normal | apply Z.then_exit | apply Z.block_exit)
    | (show W _ _ _ _ _ _; first | apply W.seq | apply W.region | apply W.block | apply W.exit)
    | fail)
  have hres := hq
  clear hq hk hlt
  have hno5 : ¬ (BadMax c.t ∨ BadOwn c.t ∨ BadUse c.t ∨ BadRes c.t) := by
    rintro (h | ⟨x, h1, h2⟩ | ⟨x, h1, h2⟩ | ⟨x, h1, h2⟩)
    · exact hmax h
    · have := hown x h1; omega
    · have := hused x h1; omega
    · have := hres x h1; omega
  refine W.loop1 c.t.own.length (fun k => k ≤ c.t.own.length ∧ ∀ (i : Nat) (x : Int), i < k → c.t.own[i]? = some x → x ∉ c.t.own.take i) (fun k => [(1, .pointer (some ⟨gc, 0, none⟩)), (3, .slice ao c.t.own.length co), (4, .slice au c.t.used.length cu), (9, .int .i64 k)]) ⟨Nat.zero_le _, fun i x h => absurd h (Nat.not_lt_zero _)⟩ (fun k h => h.1) ⟨rfl, rfl, rfl, rfl, trivial⟩ ?_
  rintro k ⟨hk, hq⟩
  by_cases hlt : k < c.t.own.length
  · obtain ⟨x, hx⟩ := getI c.t.own hlt
    by_cases b1 : x ∈ c.t.own.take k
    · repeat' (first
        | (apply W.condKT; exact rfl; (focus (first | exact dec_true (by omega) | exact dec_true b1; done)))
        | (apply QL.sliceH tOk; exact rfl; exact rfl; exact rfl; exact rfl; exact rfl; exact rfl; exact rfl; assumption; (first | exact rfl | (focus (simp only [List.length_set]; done)) | (focus (simp; done)) | (focus (simp [*]; done)) | omega | (focus (simp only [List.length_set]; omega))); (first | assumption | omega); (first | omega | (simp; omega) | (simp at *; omega)); intro hR hc; (clear hR))
        | ((show QL _ _ _ _ (⟨_, .call ⟨.value (.func 52), _, _⟩, _, _, _, _⟩ :: _) _ _); apply QL.callS; exact rfl; exact rfl; exact rfl; exact rfl; exact ref_Has _ _ (c.t.own.take k) x _ ((Ro.ext (by (exact extA))).take k))
        | (show WL _ _ _ _ _ _ _; first | apply WL.nil | (refine WL.au (k := ?_)))
        | (show QL _ _ _ _ _ _ _; first | apply QL.nil | (refine QL.au (k := ?_)) | (apply QL.index tOk; exact rfl; exact rfl; exact rfl; exact rfl; exact rfl; exact rfl; exact rfl; exact rfl; assumption; (exact extA); exact rfl; omega; assumption; intro b off h; have hcc := h; first | (obtain ⟨h1, h2, h3, h4, h5, h6, _⟩ := h) | (obtain ⟨h1, h2, h3, _⟩ := h) | (obtain ⟨h1, h2, _⟩ := h) | (obtain ⟨h1, _⟩ := h)))
        | (show Z _ _ _ _ _; first | apply Z.then_normal | apply Z.then_ret | apply Z.block_ret)
        | (show W _ _ _ _ _ _; first | apply W.seq | apply W.region | apply W.block | apply W.skip | apply W.ret | (apply W.regionD tMix; kernel_rfl))
        | fail)
      exact Z.body1 Try.results50 rfl fun m => ⟨congrArg (Value.int IntKind.i64) (chk_7 hno5 ⟨k, x, hx, b1⟩).symm, Ext.at (by (exact extA)) m⟩
    · repeat' (first
        | (apply W.condKT; exact rfl; (focus (first | exact dec_true (by omega) | exact dec_false b1; done)))
        | (apply W.condKF; exact rfl; (focus (first | exact dec_true (by omega) | exact dec_false b1; done)))
        | (apply QL.sliceH tOk; exact rfl; exact rfl; exact rfl; exact rfl; exact rfl; exact rfl; exact rfl; assumption; (first | exact rfl | (focus (simp only [List.length_set]; done)) | (focus (simp; done)) | (focus (simp [*]; done)) | omega | (focus (simp only [List.length_set]; omega))); (first | assumption | omega); (first | omega | (simp; omega) | (simp at *; omega)); intro hR hc; (clear hR))
        | ((show QL _ _ _ _ (⟨_, .call ⟨.value (.func 52), _, _⟩, _, _, _, _⟩ :: _) _ _); apply QL.callS; exact rfl; exact rfl; exact rfl; exact rfl; exact ref_Has _ _ (c.t.own.take k) x _ ((Ro.ext (by (exact extA))).take k))
        | (show WL _ _ _ _ _ _ _; first | apply WL.nil | (refine WL.au (k := ?_)))
        | (show QL _ _ _ _ _ _ _; first | apply QL.nil | (refine QL.au (k := ?_)) | (apply QL.index tOk; exact rfl; exact rfl; exact rfl; exact rfl; exact rfl; exact rfl; exact rfl; exact rfl; assumption; (exact extA); exact rfl; omega; assumption; intro b off h; have hcc := h; first | (obtain ⟨h1, h2, h3, h4, h5, h6, _⟩ := h) | (obtain ⟨h1, h2, h3, _⟩ := h) | (obtain ⟨h1, h2, _⟩ := h) | (obtain ⟨h1, _⟩ := h)))
        | (show Z _ _ _ _ _; first | apply Z.then_normal | apply Z.block_normal)
        | (show W _ _ _ _ _ _; first | apply W.seq | apply W.region | apply W.block | apply W.skip | (apply W.regionD tMix; kernel_rfl))
        | fail)
      refine Z.again1 ⟨by omega, fun i y hi hy => ?_⟩ ⟨rfl, rfl, rfl, rfl, trivial⟩
      rcases Nat.lt_succ_iff_lt_or_eq.1 hi with h | rfl
      · exact hq i y h hy
      · rw [hx] at hy; cases hy; exact b1
  obtain rfl : k = c.t.own.length := by omega
  repeat' (first
    | (apply W.condKF; exact rfl; (focus (exact dec_false (by omega); done)))
    | (show WL _ _ _ _ _ _ _; first | apply WL.nil | (refine WL.au (k := ?_)))
    | (show Z _ _ _ _ _; first | apply Z.then_normal | apply Z.then_exit | apply Z.block_exit)
    | (show W _ _ _ _ _ _; first | apply W.seq | apply W.region | apply W.block | apply W.exit)
    | fail)
  have hno7 : ¬ Twice c.t := by
    rintro ⟨i, x, h1, h2⟩
    exact hq i x (lt_of_get h1) h1 h2
  clear hq hk hlt
  refine W.loop1 c.t.used.length (fun k => k ≤ c.t.used.length ∧ ∀ x ∈ c.t.used.take k, 1 < x → x - x % 2 ∈ c.t.own) (fun k => [(1, .pointer (some ⟨gc, 0, none⟩)), (3, .slice ao c.t.own.length co), (4, .slice au c.t.used.length cu), (10, .int .i64 k)]) ⟨Nat.zero_le _, fun x h => by simp at h⟩ (fun k h => h.1) ⟨rfl, rfl, rfl, rfl, trivial⟩ ?_
  rintro k ⟨hk, hq⟩
  by_cases hlt : k < c.t.used.length
  · obtain ⟨x, hx⟩ := getI c.t.used hlt
    have hxm := List.mem_of_getElem? hx
    have hxb := hused x hxm
    by_cases r1 : 1 < x
    · by_cases b2 : x - x % 2 ∈ c.t.own
      · repeat' (first
          | (apply QL.gT; exact rfl; exact rfl; (focus (first | exact dec_true (by omega) | exact dec_true b2 | (rw [dec_true b2]; rfl); done)))
          | (apply W.condKT; exact rfl; (focus (first | exact dec_true (by omega) | exact dec_true b2 | (rw [dec_true b2]; rfl); done)))
          | (apply W.condKF; exact rfl; (focus (first | exact dec_true (by omega) | exact dec_true b2 | (rw [dec_true b2]; rfl); done)))
          | ((show QL _ _ _ _ (⟨_, .call ⟨.value (.func 52), _, _⟩, _, _, _, _⟩ :: _) _ _); apply QL.callS; exact rfl; exact rfl; exact rfl; exact rfl; exact ref_Has _ _ c.t.own _ _ (Ro.ext (by (exact extA))))
          | (show WL _ _ _ _ _ _ _; first | apply WL.nil | (refine WL.au (k := ?_)))
          | (show QL _ _ _ _ _ _ _; first | apply QL.nil | (refine QL.au (k := ?_)) | (apply QL.index tOk; exact rfl; exact rfl; exact rfl; exact rfl; exact rfl; exact rfl; exact rfl; exact rfl; assumption; (exact extA); exact rfl; omega; assumption; intro b off h; have hcc := h; first | (obtain ⟨h1, h2, h3, h4, h5, h6, _⟩ := h) | (obtain ⟨h1, h2, h3, _⟩ := h) | (obtain ⟨h1, h2, _⟩ := h) | (obtain ⟨h1, _⟩ := h)))
          | (show Z _ _ _ _ _; first | apply Z.then_normal | apply Z.block_normal)
          | (show W _ _ _ _ _ _; first | apply W.seq | apply W.region | apply W.block | apply W.skip | (apply W.regionD tMix; kernel_rfl))
          | fail)
        refine Z.again1 ⟨by omega, fun y hy q1 => ?_⟩ ⟨rfl, rfl, rfl, rfl, trivial⟩
        rcases mem_take_snoc hx hy with hy | rfl
        · exact hq y hy q1
        · exact b2
      · repeat' (first
          | (apply QL.gT; exact rfl; exact rfl; (focus (first | exact dec_true (by omega) | exact dec_false b2 | (rw [dec_false b2]; rfl); done)))
          | (apply W.condKT; exact rfl; (focus (first | exact dec_true (by omega) | exact dec_false b2 | (rw [dec_false b2]; rfl); done)))
          | ((show QL _ _ _ _ (⟨_, .call ⟨.value (.func 52), _, _⟩, _, _, _, _⟩ :: _) _ _); apply QL.callS; exact rfl; exact rfl; exact rfl; exact rfl; exact ref_Has _ _ c.t.own _ _ (Ro.ext (by (exact extA))))
          | (show WL _ _ _ _ _ _ _; first | apply WL.nil | (refine WL.au (k := ?_)))
          | (show QL _ _ _ _ _ _ _; first | apply QL.nil | (refine QL.au (k := ?_)) | (apply QL.index tOk; exact rfl; exact rfl; exact rfl; exact rfl; exact rfl; exact rfl; exact rfl; exact rfl; assumption; (exact extA); exact rfl; omega; assumption; intro b off h; have hcc := h; first | (obtain ⟨h1, h2, h3, h4, h5, h6, _⟩ := h) | (obtain ⟨h1, h2, h3, _⟩ := h) | (obtain ⟨h1, h2, _⟩ := h) | (obtain ⟨h1, _⟩ := h)))
          | (show Z _ _ _ _ _; first | apply Z.then_normal | apply Z.then_ret | apply Z.block_ret)
          | (show W _ _ _ _ _ _; first | apply W.seq | apply W.region | apply W.block | apply W.skip | apply W.ret | (apply W.regionD tMix; kernel_rfl))
          | fail)
        exact Z.body1 Try.results50 rfl fun m => ⟨congrArg (Value.int IntKind.i64) (chk_9 hno5 hno7 ⟨x, hxm, r1, b2⟩).symm, Ext.at (by (exact extA)) m⟩
    · repeat' (first
        | (apply QL.gF; exact rfl; exact rfl; (focus (first | exact dec_true (by omega) | exact dec_false (by omega); done)))
        | (apply W.condKT; exact rfl; (focus (first | exact dec_true (by omega) | exact dec_false (by omega); done)))
        | (show WL _ _ _ _ _ _ _; first | apply WL.nil | (refine WL.au (k := ?_)))
        | (show QL _ _ _ _ _ _ _; first | apply QL.nil | (refine QL.au (k := ?_)) | (apply QL.index tOk; exact rfl; exact rfl; exact rfl; exact rfl; exact rfl; exact rfl; exact rfl; exact rfl; assumption; (exact extA); exact rfl; omega; assumption; intro b off h; have hcc := h; first | (obtain ⟨h1, h2, h3, h4, h5, h6, _⟩ := h) | (obtain ⟨h1, h2, h3, _⟩ := h) | (obtain ⟨h1, h2, _⟩ := h) | (obtain ⟨h1, _⟩ := h)) | (apply QL.guardF; exact rfl; exact rfl))
        | (show Z _ _ _ _ _; first | apply Z.then_normal | apply Z.block_normal)
        | (show W _ _ _ _ _ _; first | apply W.seq | apply W.region | apply W.block | apply W.skip | (apply W.condF; exact rfl) | (apply W.regionD tMix; kernel_rfl))
        | fail)
      refine Z.again1 ⟨by omega, fun y hy q1 => ?_⟩ ⟨rfl, rfl, rfl, rfl, trivial⟩
      rcases mem_take_snoc hx hy with hy | rfl
      · exact hq y hy q1
      · exact absurd q1 r1
  obtain rfl : k = c.t.used.length := by omega
  rw [List.take_length] at hq
  repeat' (first
    | (apply W.condKF; exact rfl; (focus (exact dec_false (by omega); done)))
    | (show WL _ _ _ _ _ _ _; first | apply WL.nil | (refine WL.au (k := ?_)))
    | (show Z _ _ _ _ _; first | apply Z.then_normal | apply Z.then_exit | apply Z.block_exit)
    | (show W _ _ _ _ _ _; first | apply W.seq | apply W.region | apply W.exit)
    | fail)
  have hno9 : ¬ NoneC c.t := by
    rintro ⟨x, h1, h2, h3⟩
    exact h3 (hq x h1 h2)
  have hgm : ∀ g ∈ c.gates.2.2, g.1 ∈ c.t.own ∧ g.2.1 ∈ c.t.used ∧ g.2.2 ∈ c.t.used := fun g hg =>
    ⟨List.mem_append.2 (.inr (List.mem_map.2 ⟨g, hg, rfl⟩)), List.mem_append.2 (.inr (List.mem_flatMap.2 ⟨g, hg, by simp⟩)), List.mem_append.2 (.inr (List.mem_flatMap.2 ⟨g, hg, by simp⟩))⟩
  have hok : gsOk c.gates.2.2 := fun g hg => by
    obtain ⟨r1, r2, r3⟩ := hgm g hg
    have := hown _ r1
    have := hused _ r2
    have := hused _ r3
    omega
  have hor : (ordL c.gates.2.2).length ≤ c.gates.2.2.length := (ordL_is c.gates.2.2).1.le
  have hcw : Cells w' gc 0 c.val.cells.toList := hcells.ext (show Ext wc w' from (by (exact extA)))
  have v6 : w'.cell? ⟨gc, 0 + 1 + 1 + 1 + 1 + 1 + 1, none⟩ = some (rowVal c.gates) := hcw.2.2.2.2.2.2.1
  repeat' (first
    | (show W _ _ (.region 30 _ _) _ _ _; apply W.regionGX (.fl true 3 (.fl false 0 (.fl false 4 (.fl true 5 (.br 1 (.fl true 2 (.fl true 6 .done)) .stop))))) [1, 2, 4, 5, 6] tMix; kernel_rfl)
    | ((show WL _ _ _ (⟨_, .call ⟨.value (.func 83), _, _⟩, _, _, _, _⟩ :: _) _ _ _); apply WL.call; exact rfl; exact rfl; exact rfl; exact rfl; exact ref11_Order c _ (Rg.ext (by (exact extA))) hok (by omega); rintro v' w' ⟨hx, a', cap', rfl, hO⟩; (obtain ⟨hOd, rfl⟩ : ∃ x, x = hO := ⟨_, rfl⟩; obtain ⟨hxd, rfl⟩ : ∃ x, x = hx := ⟨_, rfl⟩; obtain ⟨wd, rfl⟩ : ∃ x, x = w' := ⟨_, rfl⟩; obtain ⟨ad, rfl⟩ : ∃ x, x = a' := ⟨_, rfl⟩; obtain ⟨cd, rfl⟩ : ∃ x, x = cap' := ⟨_, rfl⟩))
    | (show SX _ _ _ _ _ _ _ _ _; first | (apply SX.done; intro w' hx) | (apply SX.fl0; exact rfl) | (apply SX.fl1; exact rfl; (exact extA)) | (apply SX.br1; exact rfl; intro w' hx))
    | (show FL _ _ _ _ _ _ _ _; first | apply FL.nilX | (apply FL.loadE tOk; exact rfl; exact rfl; exact rfl; exact rfl; exact rfl; (first | assumption | (focus (apply Ext.cell; rotate_left; assumption; exact extA; done)))) | (apply FL.loadAE tOk; exact rfl; exact rfl; exact rfl; exact rfl; exact rfl; assumption; exact rfl))
    | (show FL _ _ _ _ _ _ _ _; (refine FL.au (k := ?_)))
    | (show Z _ _ _ _ _; (apply Z.sxE; (exact extA)))
    | (show WL _ _ _ _ _ _ _; first | apply WL.nil | (refine WL.au (k := ?_)))
    | (show Z _ _ _ _ _; first | apply Z.then_normal | apply Z.then_ret)
    | (show W _ _ _ _ _ _; first | apply W.seq | apply W.region | apply W.skip | apply W.ret | (apply W.condD; exact rfl; all_goals intro _))
    | fail)
  all_goals rename_i hlt9
  all_goals have hnl : (natI (ordL c.gates.2.2)).length = (ordL c.gates.2.2).length := by simp [natI]
  · exact Z.body1 Try.results50 rfl fun m => ⟨congrArg (Value.int IntKind.i64) (chk_8 hno5 hno7 hno9 (show (ordL c.gates.2.2).length < c.gates.2.2.length by omega)).symm, Ext.at (by (exact extA)) m⟩
  · exact Z.body1 Try.results50 rfl fun m => ⟨congrArg (Value.int IntKind.i64) (chk_0 hno5 hno7 hno9 (show ¬ (ordL c.gates.2.2).length < c.gates.2.2.length by omega)).symm, Ext.at (by (exact extA)) m⟩
end Go.Proofs.Ytlcenenkloicjaa
namespace Go.Proofs.Ytlcenenkloicjaa
open Go Go.Lt Go.RowKit
set_option linter.unusedVariables false
set_option linter.unusedSimpArgs false
set_option maxRecDepth 20000

/-- Where the gates of a net are, by what they are. -/
def gm (N : List (Int × Int)) : Nat → List ((Int × Int) × Int)
  | 0 => []
  | k + 1 => match N[k]? with | some x => if 0 ≤ x.1 then gm N k ++ [(x, 2 * ((k : Int) + 1))] else gm N k | none => gm N k
end Go.Proofs.Ytlcenenkloicjaa
namespace Go.Proofs.Ytlcenenkloicjaa
open Go Go.Lt Go.RowKit
set_option linter.unusedVariables false
set_option linter.unusedSimpArgs false
set_option maxRecDepth 20000

def hasL (N : List (Int × Int)) (x : Int) : Prop := 0 ≤ x ∧ x < 2 * ((N.length : Int) + 1)
def notL (l : Int) : Int := if l < 0 then l else xor1 l
end Go.Proofs.Ytlcenenkloicjaa
namespace Go.Proofs.Ytlcenenkloicjaa
open Go Go.Lt Go.RowKit
set_option linter.unusedVariables false
set_option linter.unusedSimpArgs false
set_option maxRecDepth 20000

theorem Sep.tail {B : Nat} {w : World} {p : Piece} {ps : List Piece} (hS : Sep B w (p :: ps)) : Sep B w ps := hS.drop 1

structure AndR where
  v : Int
  N : List (Int × Int)
  M : List ((Int × Int) × Int)
/-- The gate of two literals of which the first is not the greater. -/
noncomputable def andF (N : List (Int × Int)) (M : List ((Int × Int) × Int)) (x y : Int) : AndR :=
  bif dec (¬ (hasL N x ∧ hasL N y)) then ⟨-1, N, M⟩ else
  bif dec (x = 0 ∨ x = xor1 y) then ⟨0, N, M⟩ else
  bif dec (x = 1 ∨ x = y) then ⟨y, N, M⟩ else
  match mget (x, y) M with
  | some v => ⟨v, N, M⟩
  | none => ⟨2 * ((N.length : Int) + 1), N ++ [(x, y)], M ++ [((x, y), 2 * ((N.length : Int) + 1))]⟩

section
variable {N : List (Int × Int)} {M : List ((Int × Int) × Int)} {x y : Int}
theorem andF_no (h : ¬ (hasL N x ∧ hasL N y)) : andF N M x y = ⟨-1, N, M⟩ := by unfold andF; rw [dec_true h]; rfl
theorem andF_zero (h : hasL N x ∧ hasL N y) (h1 : x = 0 ∨ x = xor1 y) : andF N M x y = ⟨0, N, M⟩ := by unfold andF; rw [dec_false (fun hh => hh h), dec_true h1]; rfl
theorem andF_one (h : hasL N x ∧ hasL N y) (h1 : ¬ (x = 0 ∨ x = xor1 y)) (h2 : x = 1 ∨ x = y) : andF N M x y = ⟨y, N, M⟩ := by unfold andF; rw [dec_false (fun hh => hh h), dec_false h1, dec_true h2]; rfl
theorem andF_old {v : Int} (h : hasL N x ∧ hasL N y) (h1 : ¬ (x = 0 ∨ x = xor1 y)) (h2 : ¬ (x = 1 ∨ x = y)) (hm : mget (x, y) M = some v) : andF N M x y = ⟨v, N, M⟩ := by unfold andF; rw [dec_false (fun hh => hh h), dec_false h1, dec_false h2, hm]; rfl
theorem andF_new (h : hasL N x ∧ hasL N y) (h1 : ¬ (x = 0 ∨ x = xor1 y)) (h2 : ¬ (x = 1 ∨ x = y)) (hm : mget (x, y) M = none) : andF N M x y = ⟨2 * ((N.length : Int) + 1), N ++ [(x, y)], M ++ [((x, y), 2 * ((N.length : Int) + 1))]⟩ := by unfold andF; rw [dec_false (fun hh => hh h), dec_false h1, dec_false h2, hm]; rfl
end

end Go.Proofs.Ytlcenenkloicjaa
namespace Go.Proofs.Ytlcenenkloicjaa
open Go Go.Lt Go.RowKit
set_option linter.unusedVariables false
set_option linter.unusedSimpArgs false
set_option maxRecDepth 20000

theorem mget_snoc {κ ν : Type} (p q : κ) (v : ν) : ∀ L : List (κ × ν), mget p (L ++ [(q, v)]) = match mget p L with | some u => some u | none => bif dec (p = q) then some v else none
  | [] => by simp [mget]
  | x :: r => by
    have ih := mget_snoc p q v r
    simp only [List.cons_append, mget]
    cases dec (p = x.1)
    · exact ih
    · rfl
theorem gm_app (N L : List (Int × Int)) : ∀ k, k ≤ N.length → gm (N ++ L) k = gm N k
  | 0, _ => rfl
  | k + 1, h => by
    obtain ⟨x, hx⟩ := getI N (show k < N.length by omega)
    have ih := gm_app N L k (by omega)
    have hx' : (N ++ L)[k]? = some x := by rw [List.getElem?_append_left (by omega)]; exact hx
    rw [gm, gm, hx, hx', ih]
theorem gm_snoc_gate (N : List (Int × Int)) {x : Int × Int} (h : 0 ≤ x.1) : gm (N ++ [x]) (N ++ [x]).length = gm N N.length ++ [(x, 2 * ((N.length : Int) + 1))] := by
  rw [show (N ++ [x]).length = N.length + 1 by simp, gm]
  have hx : (N ++ [x])[N.length]? = some x := by simp
  rw [hx, gm_app N [x] _ (Nat.le_refl _)]
  exact if_pos h
theorem gm_none {N : List (Int × Int)} {p : Int × Int} : ∀ k, (∀ j : Nat, j < k → N[j]? ≠ some p) → mget p (gm N k) = none
  | 0, _ => rfl
  | k + 1, h => by
    have ih := gm_none k (fun j hj => h j (by omega))
    rw [gm]
    cases hx : N[k]? with
    | none => exact ih
    | some x =>
      show mget p (if 0 ≤ x.1 then _ else _) = none
      split
      · rw [mget_snoc, ih]
        show (bif dec (p = x) then _ else _) = _
        rw [dec_false (fun hh => h k (by omega) (by rw [hx, hh]))]; rfl
      · exact ih
theorem gm_some {N : List (Int × Int)} {p : Int × Int} (hp : 0 ≤ p.1) {i : Nat} (hi : N[i]? = some p) (h : ∀ j : Nat, j < i → N[j]? ≠ some p) : ∀ k, i < k → mget p (gm N k) = some (2 * ((i : Int) + 1))
  | 0, hk => by omega
  | k + 1, hk => by
    rw [gm]
    by_cases hik : i = k
    · subst hik
      rw [hi]
      show mget p (if 0 ≤ p.1 then _ else _) = _
      rw [if_pos hp, mget_snoc, gm_none i h]
      show (bif dec (p = p) then _ else _) = _
      rw [dec_true rfl]; rfl
    · have ih := gm_some hp hi h k (by omega)
      cases hx : N[k]? with
      | none => exact ih
      | some x =>
        show mget p (if 0 ≤ x.1 then _ else _) = _
        split
        · rw [mget_snoc, ih]
        · exact ih
theorem first_of {N : List (Int × Int)} {p : Int × Int} : ∀ k, (∀ j : Nat, j < k → N[j]? ≠ some p) ∨ ∃ i, i < k ∧ N[i]? = some p ∧ ∀ j : Nat, j < i → N[j]? ≠ some p
  | 0 => .inl fun j h => by omega
  | k + 1 => by
    rcases first_of (N := N) (p := p) k with h | ⟨i, h1, h2, h3⟩
    · by_cases hk : N[k]? = some p
      · exact .inr ⟨k, by omega, hk, h⟩
      · exact .inl fun j hj => by
          by_cases hjk : j = k
          · subst hjk; exact hk
          · exact h j (by omega)
    · exact .inr ⟨i, by omega, h2, h3⟩

/-- The map of a store with these nodes. -/
abbrev gmN (N : List (Int × Int)) : List ((Int × Int) × Int) := gm N N.length
/-- And: what is told, and the nodes then. -/
noncomputable def andV (N : List (Int × Int)) (x y : Int) : Int × List (Int × Int) := if x ≤ y then ((andF N (gmN N) x y).v, (andF N (gmN N) x y).N) else ((andF N (gmN N) y x).v, (andF N (gmN N) y x).N)

/-- The five ways of And of two of which the first is not the greater. -/
theorem andF_ways {N : List (Int × Int)} {x y : Int} (hxy : x ≤ y) :
    (¬ (hasL N x ∧ hasL N y) ∧ andF N (gmN N) x y = ⟨-1, N, gmN N⟩) ∨
    ((hasL N x ∧ hasL N y) ∧ (x = 0 ∨ x = Lt.xor1 y) ∧ andF N (gmN N) x y = ⟨0, N, gmN N⟩) ∨
    ((hasL N x ∧ hasL N y) ∧ ¬ (x = 0 ∨ x = Lt.xor1 y) ∧ (x = 1 ∨ x = y) ∧ andF N (gmN N) x y = ⟨y, N, gmN N⟩) ∨
    ((hasL N x ∧ hasL N y) ∧ (2 ≤ x ∧ x / 2 < y / 2) ∧ (∃ i : Nat, i < N.length ∧ N[i]? = some (x, y) ∧ (∀ j : Nat, j < i → N[j]? ≠ some (x, y)) ∧ andF N (gmN N) x y = ⟨2 * ((i : Int) + 1), N, gmN N⟩)) ∨
    ((hasL N x ∧ hasL N y) ∧ (2 ≤ x ∧ x / 2 < y / 2) ∧ (∀ j : Nat, N[j]? ≠ some (x, y)) ∧ andF N (gmN N) x y = ⟨2 * ((N.length : Int) + 1), N ++ [(x, y)], gmN (N ++ [(x, y)])⟩) := by
  by_cases h : hasL N x ∧ hasL N y
  · by_cases h1 : x = 0 ∨ x = Lt.xor1 y
    · exact .inr (.inl ⟨h, h1, andF_zero h h1⟩)
    · by_cases h2 : x = 1 ∨ x = y
      · exact .inr (.inr (.inl ⟨h, h1, h2, andF_one h h1 h2⟩))
      · have hb : 2 ≤ x ∧ x / 2 < y / 2 := by
          have := h.1.1
          have h3 : x ≠ Lt.xor1 y := fun hh => h1 (.inr hh)
          unfold Lt.xor1 at h3
          split at h3 <;> omega
        rcases first_of (N := N) (p := (x, y)) N.length with hn | ⟨i, i1, i2, i3⟩
        · refine .inr (.inr (.inr (.inr ⟨h, hb, fun j => ?_, ?_⟩)))
          · by_cases hj : j < N.length
            · exact hn j hj
            · rw [List.getElem?_eq_none (by omega)]; exact fun hh => by cases hh
          · rw [andF_new h h1 h2 (gm_none _ hn)]
            show _ = AndR.mk _ _ (gm (N ++ [(x, y)]) (N ++ [(x, y)]).length)
            rw [gm_snoc_gate N (x := (x, y)) (by show 0 ≤ x; omega)]
        · exact .inr (.inr (.inr (.inl ⟨h, hb, i, i1, i2, i3, andF_old h h1 h2 (gm_some (by show 0 ≤ x; omega) i2 i3 _ i1)⟩)))
  · exact .inl ⟨h, andF_no h⟩
/-- What comes of nodes by Inputs and Ands. -/
inductive Grow : List (Int × Int) → List (Int × Int) → Prop
  | refl (N) : Grow N N
  | input {N M} : Grow N M → Grow N (M ++ [(-1, 0)])
  | gate {N M} (x y : Int) : Grow N M → Grow N (andV M x y).2
theorem Grow.trans {N M K : List (Int × Int)} (h : Grow N M) (k : Grow M K) : Grow N K := by
  induction k with
  | refl => exact h
  | input _ ih => exact .input ih
  | gate x y _ ih => exact .gate x y ih
theorem andV_ways (N : List (Int × Int)) (x y : Int) : ∃ a b : Int, ((a = x ∧ b = y) ∨ (a = y ∧ b = x)) ∧ a ≤ b ∧
    ((¬ (hasL N a ∧ hasL N b) ∧ andV N x y = (-1, N)) ∨
    ((hasL N a ∧ hasL N b) ∧ (a = 0 ∨ a = Lt.xor1 b) ∧ andV N x y = (0, N)) ∨
    ((hasL N a ∧ hasL N b) ∧ ¬ (a = 0 ∨ a = Lt.xor1 b) ∧ (a = 1 ∨ a = b) ∧ andV N x y = (b, N)) ∨
    ((hasL N a ∧ hasL N b) ∧ (2 ≤ a ∧ a / 2 < b / 2) ∧ (∃ i : Nat, i < N.length ∧ N[i]? = some (a, b) ∧ (∀ j : Nat, j < i → N[j]? ≠ some (a, b)) ∧ andV N x y = (2 * ((i : Int) + 1), N))) ∨
    ((hasL N a ∧ hasL N b) ∧ (2 ≤ a ∧ a / 2 < b / 2) ∧ (∀ j : Nat, N[j]? ≠ some (a, b)) ∧ andV N x y = (2 * ((N.length : Int) + 1), N ++ [(a, b)]))) := by
  have key : ∀ a b : Int, a ≤ b → andV N x y = ((andF N (gmN N) a b).v, (andF N (gmN N) a b).N) →
    ((¬ (hasL N a ∧ hasL N b) ∧ andV N x y = (-1, N)) ∨
    ((hasL N a ∧ hasL N b) ∧ (a = 0 ∨ a = Lt.xor1 b) ∧ andV N x y = (0, N)) ∨
    ((hasL N a ∧ hasL N b) ∧ ¬ (a = 0 ∨ a = Lt.xor1 b) ∧ (a = 1 ∨ a = b) ∧ andV N x y = (b, N)) ∨
    ((hasL N a ∧ hasL N b) ∧ (2 ≤ a ∧ a / 2 < b / 2) ∧ (∃ i : Nat, i < N.length ∧ N[i]? = some (a, b) ∧ (∀ j : Nat, j < i → N[j]? ≠ some (a, b)) ∧ andV N x y = (2 * ((i : Int) + 1), N))) ∨
    ((hasL N a ∧ hasL N b) ∧ (2 ≤ a ∧ a / 2 < b / 2) ∧ (∀ j : Nat, N[j]? ≠ some (a, b)) ∧ andV N x y = (2 * ((N.length : Int) + 1), N ++ [(a, b)]))) := by
    intro a b hab he
    rcases andF_ways (N := N) hab with ⟨h0, h⟩ | ⟨h0, h1, h⟩ | ⟨h0, h1, h2, h⟩ | ⟨h0, h1, i, i1, i2, i3, h⟩ | ⟨h0, h1, h2, h⟩
    · exact .inl ⟨h0, by rw [he, h]⟩
    · exact .inr (.inl ⟨h0, h1, by rw [he, h]⟩)
    · exact .inr (.inr (.inl ⟨h0, h1, h2, by rw [he, h]⟩))
    · exact .inr (.inr (.inr (.inl ⟨h0, h1, i, i1, i2, i3, by rw [he, h]⟩)))
    · exact .inr (.inr (.inr (.inr ⟨h0, h1, h2, by rw [he, h]⟩)))
  by_cases hxy : x ≤ y
  · exact ⟨x, y, .inl ⟨rfl, rfl⟩, hxy, key x y hxy (by rw [andV, if_pos hxy])⟩
  · exact ⟨y, x, .inr ⟨rfl, rfl⟩, by omega, key y x (by omega) (by rw [andV, if_neg hxy])⟩

theorem andV_len (N : List (Int × Int)) (x y : Int) : N.length ≤ (andV N x y).2.length ∧ (andV N x y).2.length ≤ N.length + 1 := by
  obtain ⟨a, b, _, _, h⟩ := andV_ways N x y
  rcases h with ⟨_, h⟩ | ⟨_, _, h⟩ | ⟨_, _, _, h⟩ | ⟨_, _, _, _, _, _, h⟩ | ⟨_, _, _, h⟩ <;> rw [h] <;> simp
theorem Grow.len {N M : List (Int × Int)} (h : Grow N M) : N.length ≤ M.length := by
  induction h with
  | refl => exact Nat.le_refl _
  | input _ ih => simp; omega
  | gate x y _ ih => rename_i M' _; have := andV_len M' x y; omega
theorem Grow.pre {N M : List (Int × Int)} (h : Grow N M) : ∀ {i : Nat} {x}, N[i]? = some x → M[i]? = some x := by
  induction h with
  | refl => exact fun h => h
  | input _ ih => intro i x hx; have := ih hx; rw [List.getElem?_append_left (lt_of_get this)]; exact this
  | gate x y _ ih =>
    rename_i M' _
    intro i z hz
    have := ih hz
    obtain ⟨a, b, _, _, h⟩ := andV_ways M' x y
    rcases h with ⟨_, h⟩ | ⟨_, _, h⟩ | ⟨_, _, _, h⟩ | ⟨_, _, _, _, _, _, h⟩ | ⟨_, _, _, h⟩ <;> rw [h]
    all_goals first | exact this | (show (M' ++ _)[i]? = _; rw [List.getElem?_append_left (lt_of_get this)]; exact this)
theorem hasL_mono {N M : List (Int × Int)} {x : Int} (h : hasL N x) (hl : N.length ≤ M.length) : hasL M x := by unfold hasL at h ⊢; omega
theorem Grow.has {N M : List (Int × Int)} {x : Int} (h : Grow N M) (hx : hasL N x) : hasL M x := hasL_mono hx h.len

structure Tidy (N : List (Int × Int)) : Prop where
  good : GoodNet N
  gate : ∀ i x, N[i]? = some x → 0 ≤ x.1 → 2 ≤ x.1 ∧ x.1 / 2 < x.2 / 2 ∧ ∀ k : Nat, k < i → N[k]? ≠ some x
theorem get_snoc {α : Type} {N : List α} {x y : α} {i : Nat} (h : (N ++ [x])[i]? = some y) : N[i]? = some y ∨ (i = N.length ∧ y = x) := by
  by_cases hi : i < N.length
  · rw [List.getElem?_append_left hi] at h; exact .inl h
  · have := lt_of_get h
    simp only [List.length_append, List.length_cons, List.length_nil] at this
    have : i = N.length := by omega
    subst this
    simp at h; exact .inr ⟨rfl, h.symm⟩
theorem Tidy.nil : Tidy [] := ⟨fun i x h => by simp at h, fun i x h => by simp at h⟩
theorem Tidy.input {N : List (Int × Int)} (h : Tidy N) : Tidy (N ++ [(-1, 0)]) := by
  refine ⟨fun i x hx => ?_, fun i x hx h0 => ?_⟩
  · rcases get_snoc hx with h1 | ⟨_, rfl⟩
    · exact h.good i x h1
    · unfold badNode; simp
  · rcases get_snoc hx with h1 | ⟨_, rfl⟩
    · obtain ⟨k1, k2, k3⟩ := h.gate i x h1 h0
      refine ⟨k1, k2, fun k hk hh => ?_⟩
      have := lt_of_get h1
      rw [List.getElem?_append_left (by omega)] at hh
      exact k3 k hk hh
    · simp at h0
theorem Tidy.and {N : List (Int × Int)} (h : Tidy N) (x y : Int) : Tidy (andV N x y).2 := by
  obtain ⟨a, b, _, _, hw⟩ := andV_ways N x y
  rcases hw with ⟨_, hw⟩ | ⟨_, _, hw⟩ | ⟨_, _, _, hw⟩ | ⟨_, _, _, _, _, _, hw⟩ | ⟨h0, h1, h2, hw⟩
  · rw [hw]; exact h
  · rw [hw]; exact h
  · rw [hw]; exact h
  · rw [hw]; exact h
  · rw [hw]
    show Tidy (N ++ [(a, b)])
    refine ⟨fun i z hz => ?_, fun i z hz hz0 => ?_⟩
    · rcases get_snoc hz with k | ⟨rfl, rfl⟩
      · exact h.good i z k
      · unfold badNode; unfold hasL at h0; dsimp only; omega
    · rcases get_snoc hz with k | ⟨rfl, rfl⟩
      · obtain ⟨k1, k2, k3⟩ := h.gate i z k hz0
        refine ⟨k1, k2, fun j hj hh => ?_⟩
        have := lt_of_get k
        rw [List.getElem?_append_left (by omega)] at hh
        exact k3 j hj hh
      · refine ⟨h1.1, h1.2, fun j hj hh => ?_⟩
        rw [List.getElem?_append_left (by omega)] at hh
        exact h2 j hh
theorem vto_app (N L : List (Int × Int)) (ins : List Bool) : ∀ k, k ≤ N.length → vto (N ++ L) ins k = vto N ins k := by
  intro k hk
  unfold vto
  rw [List.take_append_of_le_length hk]
theorem values_pre {N M : List (Int × Int)} (h : ∀ {i : Nat} {x}, N[i]? = some x → M[i]? = some x) (ins : List Bool) : ∀ k, k ≤ N.length → vto M ins k = vto N ins k := by
  intro k hk
  have hl : N.length ≤ M.length := by
    by_cases h0 : N.length = 0
    · omega
    · obtain ⟨x, hx⟩ := getI N (show N.length - 1 < N.length by omega)
      have := lt_of_get (h hx); omega
  have : M.take N.length = N := by
    apply List.ext_getElem?
    intro i
    by_cases hi : i < N.length
    · obtain ⟨x, hx⟩ := getI N hi
      rw [List.getElem?_take, if_pos hi, hx, h hx]
    · rw [List.getElem?_take, if_neg hi, List.getElem?_eq_none (by omega)]
  have e : M = M.take N.length ++ M.drop N.length := (List.take_append_drop _ _).symm
  rw [this] at e
  rw [e]; exact vto_app _ _ _ k hk
theorem Grow.of {N M : List (Int × Int)} (h : Grow N M) (ins : List Bool) {l : Int} (hl : hasL N l) : ofL (values M ins) l = ofL (values N ins) l := by
  unfold hasL at hl
  rw [← vto_of M ins (k := N.length) (by omega) h.len, values_pre h.pre ins _ (Nat.le_refl _)]; rfl
theorem ofL_xor1 (v : List Bool) {l : Int} (h : 0 ≤ l) : ofL v (Lt.xor1 l) = !ofL v l := by
  unfold Lt.xor1 ofL
  split
  · rw [show (l + 1) / 2 = l / 2 by omega, decide_eq_true (show (l + 1) % 2 = 1 by omega), decide_eq_false (show ¬ l % 2 = 1 by omega)]; simp
  · rw [show (l - 1) / 2 = l / 2 by omega, decide_eq_false (show ¬ (l - 1) % 2 = 1 by omega), decide_eq_true (show l % 2 = 1 by omega)]; simp
end Go.Proofs.Ytlcenenkloicjaa
namespace Go.Proofs.Ytlcenenkloicjaa
open Go Go.Lt Go.RowKit
set_option linter.unusedVariables false
set_option linter.unusedSimpArgs false
set_option maxRecDepth 20000

noncomputable def litI (l : List Int) (x : Int) : Int := xorI (l.getD (x / 2).toNat 0) (x % 2)
end Go.Proofs.Ytlcenenkloicjaa
namespace Go.Proofs.Ytlcenenkloicjaa
open Go Go.Lt Go.RowKit
set_option linter.unusedVariables false
set_option linter.unusedSimpArgs false
set_option maxRecDepth 20000

/-- Nodes, and where variables are. -/
abbrev NA := List (Int × Int) × List Int
noncomputable def cput (s : NA) (l : Int) (x : Int × Int) : NA := (s.1 ++ [x], s.2.set (l / 2).toNat (2 * ((s.1.length : Int) + 1)))
noncomputable def cIn (s : NA) (ls : List Int) : NA := ls.foldl (fun s l => cput s l (-1, 0)) s
abbrev gAt (gs : List G3) (i : Nat) : G3 := gs.getD i (0, 0, 0)
noncomputable def cGate (gs : List G3) (s : NA) (i : Nat) : NA := cput s (gAt gs i).1 (litI s.2 (gAt gs i).2.1, litI s.2 (gAt gs i).2.2)
noncomputable def cGates (gs : List G3) (s : NA) (L : List Nat) : NA := L.foldl (cGate gs) s
def cAt0 (m : Int) : List Int := 0 :: List.replicate m.toNat (-1)
noncomputable def cNet (c : CirT) : NA := cGates c.gates (cIn ([], cAt0 c.max) (c.ins ++ c.lat.map (·.1))) (ordL c.gates)
theorem cIn_snoc (s : NA) (ls : List Int) (l : Int) : cIn s (ls ++ [l]) = cput (cIn s ls) l (-1, 0) := by unfold cIn; rw [List.foldl_append]; rfl
theorem cGates_snoc (gs : List G3) (s : NA) (L : List Nat) (i : Nat) : cGates gs s (L ++ [i]) = cGate gs (cGates gs s L) i := by unfold cGates; rw [List.foldl_append]; rfl

structure PutOk (s : NA) (q : List Int) (m : Nat) : Prop where
  len1 : s.1.length = q.length
  len2 : s.2.length = m + 1
  zero : s.2[0]? = some 0
  has : ∀ (i : Nat) (l : Int), q[i]? = some l → s.2[(l / 2).toNat]? = some (2 * ((i : Int) + 1))
  not : ∀ v : Nat, 1 ≤ v → v ≤ m → (∀ l ∈ q, (l / 2).toNat ≠ v) → s.2[v]? = some (-1)
theorem PutOk.start (m : Nat) : PutOk ([], cAt0 (m : Int)) [] m := by
  refine ⟨rfl, by simp [cAt0], rfl, fun i l h => by simp at h, fun v h1 h2 _ => ?_⟩
  show (0 :: List.replicate (m : Int).toNat (-1 : Int))[v]? = _
  obtain ⟨u, rfl⟩ : ∃ u, v = u + 1 := ⟨v - 1, by omega⟩
  rw [List.getElem?_cons_succ, List.getElem?_replicate, if_pos (by omega)]
theorem PutOk.push {s : NA} {q : List Int} {m : Nat} (h : PutOk s q m) {l : Int} (hl : 2 ≤ l ∧ l % 2 = 0 ∧ l ≤ 2 * (m : Int)) (hq : ∀ y ∈ q, 2 ≤ y ∧ y % 2 = 0) (hn : l ∉ q) (x : Int × Int) : PutOk (cput s l x) (q ++ [l]) m := by
  have hlen := h.len2
  have hs : ∀ y ∈ q, (l / 2).toNat ≠ (y / 2).toNat := fun y hy he => hn (by have := hq y hy; rw [show l = y by omega]; exact hy)
  refine ⟨by simp [cput, h.len1], by simp [cput, h.len2], ?_, fun i y hy => ?_, fun v h1 h2 h3 => ?_⟩
  · show (s.2.set _ _)[0]? = _
    rw [List.getElem?_set_ne (by omega)]; exact h.zero
  · show (s.2.set _ _)[(y / 2).toNat]? = _
    by_cases hi : i < q.length
    · rw [List.getElem?_append_left hi] at hy
      rw [List.getElem?_set_ne (hs y (List.mem_of_getElem? hy))]
      exact h.has i y hy
    · rw [List.getElem?_append_right (by omega)] at hy
      have h0 : i - q.length = 0 := by have := lt_of_get hy; simpa using this
      obtain rfl : i = q.length := by omega
      simp at hy; subst hy
      rw [List.getElem?_set_self (by omega), h.len1]
  · show (s.2.set _ _)[v]? = _
    rw [List.getElem?_set_ne (h3 l (by simp))]
    exact h.not v h1 h2 fun y hy => h3 y (by simp [hy])
theorem PutOk.ge {s : NA} {q : List Int} {m : Nat} (h : PutOk s q m) {l : Int} (hl : l / 2 = 0 ∨ ∃ y ∈ q, y / 2 = l / 2) : ∃ z, s.2[(l / 2).toNat]? = some z ∧ 0 ≤ z ∧ z % 2 = 0 ∧ z ≤ 2 * (s.1.length : Int) := by
  rcases hl with hl | ⟨y, hy, he⟩
  · exact ⟨0, by rw [hl]; exact h.zero, by decide, by decide, by omega⟩
  · obtain ⟨i, hi⟩ := List.mem_iff_getElem?.1 hy
    have h1 := h.has i y hi
    rw [he] at h1
    have h2 := lt_of_get hi
    have := h.len1
    exact ⟨_, h1, by omega, by omega, by omega⟩
theorem litI_some {l : List Int} {x z : Int} (hz : l[(x / 2).toNat]? = some z) : litI l x = xorI z (x % 2) := by unfold litI; rw [getD_of hz]
/-- All inputs and latches, put. -/
theorem cIn_ok {m : Nat} : ∀ (ls : List Int) (s : NA) (q : List Int), PutOk s q m → (∀ y ∈ q, 2 ≤ y ∧ y % 2 = 0) → (∀ l ∈ ls, 2 ≤ l ∧ l % 2 = 0 ∧ l ≤ 2 * (m : Int)) → (q ++ ls).Nodup → GoodNet s.1 → PutOk (cIn s ls) (q ++ ls) m ∧ GoodNet (cIn s ls).1
  | [], s, q, h, _, _, _, hg => by rw [List.append_nil]; exact ⟨h, hg⟩
  | l :: ls, s, q, h, hq, hl, hn, hg => by
    have hl1 := hl l (by simp)
    have hnl : l ∉ q := fun hm => by
      rw [List.nodup_append] at hn
      exact hn.2.2 l hm l (by simp) rfl
    have h1 := h.push hl1 hq hnl (-1, 0)
    have h2 := cIn_ok ls (cput s l (-1, 0)) (q ++ [l]) h1 (fun y hy => by
      rcases List.mem_append.1 hy with hy | hy
      · exact hq y hy
      · rw [List.mem_singleton.1 hy]; exact ⟨hl1.1, hl1.2.1⟩) (fun y hy => hl y (by simp [hy])) (by simpa using hn) (fun i x hx => ?_)
    · have e : q ++ [l] ++ ls = q ++ l :: ls := by simp
      rw [e] at h2
      exact h2
    · have hx' : (s.1 ++ [((-1, 0) : Int × Int)])[i]? = some x := hx
      by_cases hi : i < s.1.length
      · rw [List.getElem?_append_left hi] at hx'; exact hg i x hx'
      · rw [List.getElem?_append_right (by omega)] at hx'
        have h0 : i - s.1.length = 0 := by have := lt_of_get hx'; simpa using this
        rw [h0] at hx'
        simp at hx'; subst hx'
        unfold badNode; simp

/-- The literals in the order in which they are put. -/
noncomputable abbrev CirT.seq (c : CirT) : List Int := c.ins ++ c.lat.map (·.1) ++ (ordL c.gates).map (fun i => (gAt c.gates i).1)
abbrev CirT.inl (c : CirT) : List Int := c.ins ++ c.lat.map (·.1)
theorem gAt_of {gs : List G3} {i : Nat} {g : G3} (h : gs[i]? = some g) : gAt gs i = g := getD_of h
theorem GoodC'.gate {c : CirT} (h : GoodC' c) {i : Nat} {g : G3} (hg : c.gates[i]? = some g) : (2 ≤ g.1 ∧ g.1 % 2 = 0 ∧ g.1 ≤ 2 * c.max) ∧ (0 ≤ g.2.1 ∧ g.2.1 ≤ 2 * c.max + 1) ∧ (0 ≤ g.2.2 ∧ g.2.2 ≤ 2 * c.max + 1) := by
  have hm := List.mem_of_getElem? hg
  refine ⟨h.own _ (List.mem_append_right _ (List.mem_map.2 ⟨g, hm, rfl⟩)), h.used _ (List.mem_append_right _ (List.mem_flatMap.2 ⟨g, hm, by simp⟩)), h.used _ (List.mem_append_right _ (List.mem_flatMap.2 ⟨g, hm, by simp⟩))⟩
/-- What is used is put, if all gates are on which it may hang. -/
theorem used_put {c : CirT} (h : GoodC' c) {l : Int} (hl : l ∈ c.used) {T : List Nat} (hT : ∀ (j : Nat) (x : G3), c.gates[j]? = some x → j ∉ T → x.1 / 2 ≠ l / 2) : l / 2 = 0 ∨ ∃ y ∈ c.inl ++ T.map (fun i => (gAt c.gates i).1), y / 2 = l / 2 := by
  have h0 := h.used l hl
  rcases Int.lt_or_le 1 l with h1 | h1
  · right
    have h2 := h.has l hl h1
    rcases List.mem_append.1 h2 with h3 | h3
    · exact ⟨_, List.mem_append_left _ h3, by omega⟩
    · obtain ⟨g, hg, he⟩ := List.mem_map.1 h3
      obtain ⟨j, hj⟩ := List.mem_iff_getElem?.1 hg
      have hjT : j ∈ T := Classical.byContradiction fun hn => hT j g hj hn (by omega)
      exact ⟨g.1, List.mem_append_right _ (List.mem_map.2 ⟨j, hjT, by rw [gAt_of hj]⟩), by omega⟩
  · left; omega
theorem inl_once {c : CirT} (h : GoodC' c) : c.inl.Nodup := by
  have := h.once
  rw [List.nodup_append] at this
  exact this.1
/-- A gate's literal is put but once. -/
theorem gate_new {c : CirT} (h : GoodC' c) {i : Nat} {g : G3} (hg : c.gates[i]? = some g) {T : List Nat} (hT : ∀ j ∈ T, j < c.gates.length) (hi : i ∉ T) : g.1 ∉ c.inl ++ T.map (fun i => (gAt c.gates i).1) := by
  intro hm
  have ho := h.once
  rw [List.nodup_append] at ho
  rcases List.mem_append.1 hm with h1 | h1
  · exact ho.2.2 _ h1 _ (List.mem_map.2 ⟨g, List.mem_of_getElem? hg, rfl⟩) rfl
  · obtain ⟨j, hj, he⟩ := List.mem_map.1 h1
    obtain ⟨x, hx⟩ := getI c.gates (hT j hj)
    rw [gAt_of hx] at he
    have hp := List.pairwise_iff_getElem.1 (List.nodup_iff_pairwise_ne.1 ho.2.1)
    have li : i < (c.gates.map (·.1)).length := by rw [List.length_map]; exact lt_of_get hg
    have lj : j < (c.gates.map (·.1)).length := by rw [List.length_map]; exact lt_of_get hx
    have ei : (c.gates.map (·.1))[i] = g.1 := by have := (List.getElem?_eq_some_iff.1 hg).2; simp [this]
    have ej : (c.gates.map (·.1))[j] = x.1 := by have := (List.getElem?_eq_some_iff.1 hx).2; simp [this]
    have hne : i ≠ j := fun e => hi (by rw [e]; exact hj)
    rcases Nat.lt_or_gt_of_ne hne with h2 | h2
    · exact hp i j li lj h2 (by rw [ei, ej, he])
    · exact hp j i lj li h2 (by rw [ei, ej, he])
theorem net_to {c : CirT} (h : GoodC' c) : ∀ k, k ≤ (ordL c.gates).length →
    PutOk (cGates c.gates (cIn ([], cAt0 c.max) c.inl) ((ordL c.gates).take k)) (c.inl ++ ((ordL c.gates).take k).map (fun i => (gAt c.gates i).1)) c.max.toNat ∧ GoodNet (cGates c.gates (cIn ([], cAt0 c.max) c.inl) ((ordL c.gates).take k)).1 := by
  have hm : ((c.max.toNat : Nat) : Int) = c.max := by have := h.max; omega
  intro k
  induction k with
  | zero =>
    intro _
    have h1 := cIn_ok (m := c.max.toNat) c.inl ([], cAt0 c.max) [] (by have := PutOk.start c.max.toNat; rwa [hm] at this) (fun y hy => by cases hy) (fun l hl => by rw [hm]; exact h.own l (List.mem_append_left _ hl)) (by rw [List.nil_append]; exact inl_once h) (fun i x hx => by simp at hx)
    simpa [cGates] using h1
  | succ k ih =>
    intro hk
    obtain ⟨i, hi⟩ := getI (ordL c.gates) (show k < _ by omega)
    obtain ⟨h1, h2⟩ := ih (by omega)
    have hO := (ordL_is c.gates).1
    obtain ⟨g, hg, hn, hr⟩ := (hO k i hi).1
    have hgg := h.gate hg
    have hm' := List.mem_of_getElem? hg
    have ua : g.2.1 ∈ c.used := List.mem_append_right _ (List.mem_flatMap.2 ⟨g, hm', by simp⟩)
    have ub : g.2.2 ∈ c.used := List.mem_append_right _ (List.mem_flatMap.2 ⟨g, hm', by simp⟩)
    have pa := h1.ge (used_put h ua fun j x hx hj => (hr j x hx hj).1)
    have pb := h1.ge (used_put h ub fun j x hx hj => (hr j x hx hj).2)
    have hlt : ∀ j ∈ (ordL c.gates).take k, j < c.gates.length := fun j hj => hO.lt j (List.mem_of_mem_take hj)
    rw [take_succ' hi, cGates_snoc, List.map_append, ← List.append_assoc]
    have eg : gAt c.gates i = g := gAt_of hg
    have hsq : ∀ y ∈ c.inl ++ ((ordL c.gates).take k).map (fun i => (gAt c.gates i).1), 2 ≤ y ∧ y % 2 = 0 := fun y hy => by
      have : y ∈ c.own := by
        rcases List.mem_append.1 hy with hy | hy
        · exact List.mem_append_left _ hy
        · obtain ⟨j, hj, rfl⟩ := List.mem_map.1 hy
          obtain ⟨x, hx⟩ := getI c.gates (hlt j hj)
          exact List.mem_append_right _ (List.mem_map.2 ⟨x, List.mem_of_getElem? hx, by rw [gAt_of hx]⟩)
      exact ⟨(h.own y this).1, (h.own y this).2.1⟩
    have hp := h1.push (l := g.1) (by rw [hm]; exact hgg.1) hsq (gate_new h hg hlt hn)
    refine ⟨?_, ?_⟩
    · unfold cGate; rw [List.map_singleton, eg]; exact hp _
    · unfold cGate; rw [eg]
      intro j x hx
      have hx' : ((cGates c.gates (cIn ([], cAt0 c.max) c.inl) ((ordL c.gates).take k)).1 ++ [_])[j]? = some x := hx
      obtain ⟨za, a1, a2, a3, a4⟩ := pa
      obtain ⟨zb, b1, b2, b3, b4⟩ := pb
      rw [litI_some a1, litI_some b1] at hx'
      by_cases hj : j < (cGates c.gates (cIn ([], cAt0 c.max) c.inl) ((ordL c.gates).take k)).1.length
      · rw [List.getElem?_append_left hj] at hx'; exact h2 j x hx'
      · rw [List.getElem?_append_right (by omega)] at hx'
        have h0 : j - (cGates c.gates (cIn ([], cAt0 c.max) c.inl) ((ordL c.gates).take k)).1.length = 0 := by have := lt_of_get hx'; simpa using this
        rw [h0] at hx'
        simp only [List.getElem?_cons_zero, Option.some.injEq] at hx'
        subst hx'
        have ka : 0 ≤ xorI za (g.2.1 % 2) ∧ xorI za (g.2.1 % 2) ≤ za + 1 := by unfold xorI Lt.xor1; split <;> (try split) <;> omega
        have kb : 0 ≤ xorI zb (g.2.2 % 2) ∧ xorI zb (g.2.2 % 2) ≤ zb + 1 := by unfold xorI Lt.xor1; split <;> (try split) <;> omega
        unfold badNode
        dsimp only
        omega
theorem cNet_ok {c : CirT} (h : GoodC' c) : PutOk (cNet c) c.seq c.max.toNat ∧ GoodNet (cNet c).1 := by
  have h1 := net_to h _ (Nat.le_refl _)
  rw [List.take_length] at h1
  exact h1
/-- All gates are told. -/
theorem ord_all {c : CirT} (h : GoodC' c) {i : Nat} (hi : i < c.gates.length) : i ∈ ordL c.gates := by
  refine Classical.byContradiction fun hn => ?_
  have hO := (ordL_is c.gates).1
  have h1 := nodup_le c.gates.length (i :: ordL c.gates) (List.nodup_cons.2 ⟨hn, hO.nodup⟩) (fun j hj => by
    rcases List.mem_cons.1 hj with rfl | hj
    · exact hi
    · exact hO.lt j hj)
  have := h.ord
  simp only [List.length_cons] at h1
  omega
theorem seq_all {c : CirT} (h : GoodC' c) {l : Int} (hl : l ∈ c.own) : l ∈ c.seq := by
  rcases List.mem_append.1 hl with h1 | h1
  · exact List.mem_append_left _ h1
  · obtain ⟨g, hg, rfl⟩ := List.mem_map.1 h1
    obtain ⟨i, hi⟩ := List.mem_iff_getElem?.1 hg
    exact List.mem_append_right _ (List.mem_map.2 ⟨i, ord_all h (lt_of_get hi), by rw [gAt_of hi]⟩)
end Go.Proofs.Ytlcenenkloicjaa
namespace Go.Proofs.Ytlcenenkloicjaa
open Go Go.Lt Go.RowKit
set_option linter.unusedVariables false
set_option linter.unusedSimpArgs false
set_option maxRecDepth 20000

/-- Two results: rows of one's own. -/
def IsFresh2 {α β : Type} (s : Nat) (enc : α → List Value) (el : TypeId) (t : Nat) (encb : β → List Value) (elb : TypeId) (w : World) (L : List α) (M : List β) (v : Value) (w' : World) : Prop :=
  Ext w w' ∧ ∃ a cap b cb, v = .tuple #[.slice a L.length cap, .slice b M.length cb] ∧ Own s enc el w.heap.size w' a cap L ∧ Own t encb elb w.heap.size w' b cb M

end Go.Proofs.Ytlcenenkloicjaa
namespace Go.Proofs.Ytlcenenkloicjaa
open Go Go.Lt Go.RowKit
set_option linter.unusedVariables false
set_option linter.unusedSimpArgs false
set_option maxRecDepth 20000

theorem ref11_lit (a : Option Addr) (cap : Nat) (A : List Int) (l z : Int) (w : World) (R : Row 1 encI w a A) (h0 : 0 ≤ l) (hl : l ≤ 4294967296) (hz : A[(l / 2).toNat]? = some z) (hz0 : 0 ≤ z ∧ z ≤ 4294967296) :
    Still Try.prog 91 [.slice a A.length cap, .int .i64 l] w (.int .i64 (litI A l)) := by
  have hlt := lt_of_get hz
  have e0 : litI A l = xorI z (l % 2) := by unfold litI; rw [getD_of hz]
  by_cases h : l % 2 = 1
  · refine Spec.of _ Try.func91 rfl Try.ntmps91 (by kernel_rfl) rfl ?_
    repeat' (first
      | (apply W.condKT; exact rfl; (focus (exact dec_true h; done)))
      | (show WL _ _ _ _ _ _ _; first | apply WL.nil | (refine WL.au (k := ?_)))
      | (show QL _ _ _ _ _ _ _; first | apply QL.nil | (refine QL.au (k := ?_)) | (apply QL.index tOk; exact rfl; exact rfl; exact rfl; exact rfl; exact rfl; exact rfl; exact rfl; exact rfl; assumption; (exact extA); exact rfl; omega; assumption; intro b off h; have hcc := h; first | (obtain ⟨h1, h2, h3, h4, h5, h6, _⟩ := h) | (obtain ⟨h1, h2, h3, _⟩ := h) | (obtain ⟨h1, h2, _⟩ := h) | (obtain ⟨h1, _⟩ := h)))
      | (show Z _ _ _ _ _; first | apply Z.then_normal | apply Z.then_ret)
      | (show W _ _ _ _ _ _; first | apply W.seq | apply W.region | apply W.ret | (apply W.regionD tMix; kernel_rfl))
      | fail)
    exact Z.body1 Try.results91 rfl fun m => ⟨by rw [e0, h]; congr 1; unfold xorI Lt.xor1; split <;> (try split) <;> omega, m, rfl⟩
  · refine Spec.of _ Try.func91 rfl Try.ntmps91 (by kernel_rfl) rfl ?_
    repeat' (first
      | (apply W.condKF; exact rfl; (focus (exact dec_false h; done)))
      | (show WL _ _ _ _ _ _ _; first | apply WL.nil | (refine WL.au (k := ?_)) | (apply WL.index tOk; exact rfl; exact rfl; exact rfl; exact rfl; exact rfl; exact rfl; exact rfl; exact rfl; assumption; (exact extA); exact rfl; omega; assumption; intro b off h; have hcc := h; first | (obtain ⟨h1, h2, h3, h4, h5, h6, _⟩ := h) | (obtain ⟨h1, h2, h3, _⟩ := h) | (obtain ⟨h1, h2, _⟩ := h) | (obtain ⟨h1, _⟩ := h)))
      | (show Z _ _ _ _ _; apply Z.then_normal)
      | (show W _ _ _ _ _ _; first | apply W.seq | apply W.region | apply W.skip | apply W.ret)
      | fail)
    exact Z.body1 Try.results91 rfl fun m => ⟨by rw [e0]; congr 1; unfold xorI Lt.xor1; split <;> (try split) <;> omega, m, rfl⟩

theorem cIn_len (s : NA) (ls : List Int) : (cIn s ls).1.length = s.1.length + ls.length ∧ (cIn s ls).2.length = s.2.length := by
  induction ls generalizing s with
  | nil => exact ⟨rfl, rfl⟩
  | cons l ls ih =>
    have := ih (cput s l (-1, 0))
    refine ⟨?_, ?_⟩
    · show (cIn (cput s l (-1, 0)) ls).1.length = _
      rw [this.1]; simp [cput]; omega
    · show (cIn (cput s l (-1, 0)) ls).2.length = _
      rw [this.2]; simp [cput]
theorem cIn_take (s : NA) {ls : List Int} {k : Nat} {x : Int} (h : ls[k]? = some x) : cIn s (ls.take (k + 1)) = cput (cIn s (ls.take k)) x (-1, 0) := by rw [take_succ' h, cIn_snoc]
theorem at_snoc (k : Nat) : (0 :: List.replicate k (-1 : Int)) ++ [-1] = 0 :: List.replicate (k + 1) (-1) := by rw [List.replicate_succ', List.cons_append]

noncomputable def cS1 (c : CirT) (k : Nat) : NA := cIn ([], cAt0 c.max) (c.ins.take k)
noncomputable def cS2 (c : CirT) (k : Nat) : NA := cIn (cS1 c c.ins.length) ((c.lat.map (·.1)).take k)
noncomputable def cS3 (c : CirT) (k : Nat) : NA := cGates c.gates (cS2 c c.lat.length) ((ordL c.gates).take k)
theorem cS1_0 (c : CirT) : cS1 c 0 = ([], cAt0 c.max) := by unfold cS1; rw [List.take_zero]; rfl
theorem cS1_s {c : CirT} {k : Nat} {x : Int} (h : c.ins[k]? = some x) : cS1 c (k + 1) = cput (cS1 c k) x (-1, 0) := cIn_take _ h
theorem cS1_len (c : CirT) {k : Nat} (h : k ≤ c.ins.length) : (cS1 c k).1.length = k ∧ (cS1 c k).2.length = c.max.toNat + 1 := by
  have := cIn_len ([], cAt0 c.max) (c.ins.take k)
  refine ⟨by unfold cS1; rw [this.1, List.length_take]; simp; omega, by unfold cS1; rw [this.2]; simp [cAt0]⟩
theorem cS2_0 (c : CirT) : cS2 c 0 = cS1 c c.ins.length := by unfold cS2; rw [List.take_zero]; rfl
theorem cS2_s {c : CirT} {k : Nat} {x : T3} (h : c.lat[k]? = some x) : cS2 c (k + 1) = cput (cS2 c k) x.1 (-1, 0) := cIn_take _ (by rw [List.getElem?_map, h]; rfl)
theorem cS2_len (c : CirT) {k : Nat} (h : k ≤ c.lat.length) : (cS2 c k).1.length = c.ins.length + k ∧ (cS2 c k).2.length = c.max.toNat + 1 := by
  have := cIn_len (cS1 c c.ins.length) ((c.lat.map (·.1)).take k)
  have h1 := cS1_len c (Nat.le_refl c.ins.length)
  refine ⟨by unfold cS2; rw [this.1, h1.1, List.length_take, List.length_map]; omega, by unfold cS2; rw [this.2, h1.2]⟩
theorem cS2_all (c : CirT) : cS2 c c.lat.length = cIn ([], cAt0 c.max) c.inl := by
  unfold cS2 cS1
  rw [List.take_length, show c.lat.length = (c.lat.map (·.1)).length from (List.length_map _).symm, List.take_length]
  unfold cIn; rw [← List.foldl_append]
theorem cS3_0 (c : CirT) : cS3 c 0 = cS2 c c.lat.length := by unfold cS3; rw [List.take_zero]; rfl
theorem cS3_s {c : CirT} {k i : Nat} (h : (ordL c.gates)[k]? = some i) : cS3 c (k + 1) = cGate c.gates (cS3 c k) i := by unfold cS3; rw [take_succ' h, cGates_snoc]
theorem cS3_len (c : CirT) {k : Nat} (h : k ≤ (ordL c.gates).length) : (cS3 c k).1.length = c.ins.length + c.lat.length + k ∧ (cS3 c k).2.length = c.max.toNat + 1 := by
  induction k with
  | zero => rw [cS3_0]; exact cS2_len c (Nat.le_refl _)
  | succ k ih =>
    obtain ⟨i, hi⟩ := getI (ordL c.gates) (show k < _ by omega)
    have := ih (by omega)
    rw [cS3_s hi]
    refine ⟨?_, ?_⟩
    · show (_ ++ [_]).length = _
      rw [List.length_append, this.1, List.length_singleton]; omega
    · show (List.set _ _ _).length = _
      rw [List.length_set, this.2]
theorem cS3_all (c : CirT) : cS3 c (ordL c.gates).length = cNet c := by unfold cS3 cNet; rw [List.take_length, cS2_all]
/-- What a gate's two are, when it is put. -/
theorem cS3_get {c : CirT} (h : GoodC' c) {k i : Nat} (hi : (ordL c.gates)[k]? = some i) : ∃ g za zb, c.gates[i]? = some g ∧ (cS3 c k).2[(g.2.1 / 2).toNat]? = some za ∧ (cS3 c k).2[(g.2.2 / 2).toNat]? = some zb ∧ (0 ≤ za ∧ za ≤ 2 * ((cS3 c k).1.length : Int)) ∧ (0 ≤ zb ∧ zb ≤ 2 * ((cS3 c k).1.length : Int)) := by
  have hO := (ordL_is c.gates).1
  obtain ⟨g, hg, hn, hr⟩ := (hO k i hi).1
  have h1 := (net_to h k (Nat.le_of_lt (lt_of_get hi))).1
  have e : cGates c.gates (cIn ([], cAt0 c.max) c.inl) ((ordL c.gates).take k) = cS3 c k := by unfold cS3; rw [cS2_all]
  rw [e] at h1
  have hm' := List.mem_of_getElem? hg
  have ua : g.2.1 ∈ c.used := List.mem_append_right _ (List.mem_flatMap.2 ⟨g, hm', by simp⟩)
  have ub : g.2.2 ∈ c.used := List.mem_append_right _ (List.mem_flatMap.2 ⟨g, hm', by simp⟩)
  obtain ⟨za, a1, a2, _, a3⟩ := h1.ge (used_put h ua fun j x hx hj => (hr j x hx hj).1)
  obtain ⟨zb, b1, b2, _, b3⟩ := h1.ge (used_put h ub fun j x hx hj => (hr j x hx hj).2)
  exact ⟨g, za, zb, hg, a1, b1, ⟨a2, a3⟩, ⟨b2, b3⟩⟩

set_option maxHeartbeats 32000000 in
theorem ref11_Net (c : Circ) (w : World) (hC : CAt w c) (hg : GoodC' c.t) (hz : SzC c.t 100000) :
    Lt.Spec Try.prog 60 [c.val] w (IsFresh2 2 encN 70 1 encI 3 w (cNet c.t).1 (cNet c.t).2) := by
  have z1 : c.ins.2.2.length ≤ 100000 := hz.1
  have z2 : c.lat.2.2.length ≤ 100000 := hz.2.1
  have z6 : c.gates.2.2.length ≤ 100000 := hz.2.2.2.2.2
  have hm : 0 ≤ c.max ∧ c.max ≤ 16777216 := hg.max
  have hown : ∀ x ∈ c.t.own, 2 ≤ x ∧ x % 2 = 0 ∧ x ≤ 2 * c.max := hg.own
  have hused : ∀ x ∈ c.t.used, 0 ≤ x ∧ x ≤ 2 * c.max + 1 := hg.used
  refine Spec.of _ Try.func60 rfl Try.ntmps60 (by kernel_rfl) rfl ?_
  repeat' (first
    | (apply WL.box; exact rfl; exact rfl; exact rfl; intro gb w' hb hge hc hx; have hcc := hc; (first | (obtain ⟨h1, h2, h3, _⟩ := hc) | (obtain ⟨h1, h2, _⟩ := hc)); (have hcells := hcc; obtain ⟨y0, y1, y2, y3, y4, y5, y6, _⟩ := hcc; obtain ⟨gc, rfl⟩ : ∃ x, x = gb := ⟨_, rfl⟩; obtain ⟨wc, rfl⟩ : ∃ x, x = w' := ⟨_, rfl⟩; obtain ⟨hxc, rfl⟩ : ∃ x, x = hx := ⟨_, rfl⟩))
    | (apply WL.lit (len := 0) tOk; exact rfl; exact rfl; exact rfl; exact rfl; exact rfl; exact rfl; (first | exact rfl | kernel_rfl | (simp [Instr.fill, catCells]; done)); exact rfl; intro gb w' hb hge hc hx; have hO0 := Own.of_block0 (enc := encN) (s := 2) hb hge; (have hS1 : Lt.Sep wc.heap.size w' [prow 2 encN 70 wc.heap.size (some ⟨gb, 0, none⟩) 0 []] := Sep.none'.newRow' hx hO0 (Nat.le_refl _); obtain ⟨g0, rfl⟩ : ∃ x, x = gb := ⟨_, rfl⟩; obtain ⟨w0, rfl⟩ : ∃ x, x = w' := ⟨_, rfl⟩; obtain ⟨hx0, rfl⟩ : ∃ x, x = hx := ⟨_, rfl⟩))
    | (apply WL.lit tOk; exact rfl; exact rfl; exact rfl; exact rfl; exact rfl; exact rfl; (first | exact rfl | kernel_rfl | (simp [Instr.fill, catCells]; done)); exact rfl; intro gb w' hb hge hc hx; have hO := Own.of_block ([(0 : Int)]) encI_ok hb hge rfl; (have hS2 := hS1.newRow' (s := 1) (enc := encI) (el := 3) (cap := 1) (l := [0]) hx hO (Below.size hx0); obtain ⟨g1, rfl⟩ : ∃ x, x = gb := ⟨_, rfl⟩; obtain ⟨w1, rfl⟩ : ∃ x, x = w' := ⟨_, rfl⟩; obtain ⟨hx1, rfl⟩ : ∃ x, x = hx := ⟨_, rfl⟩))
    | (show WL _ _ _ _ _ _ _; first | apply WL.nil | (refine WL.au (k := ?_)))
    | (show Z _ _ _ _ _; apply Z.then_normal)
    | (show W _ _ _ _ _ _; first | apply W.seq | apply W.region | apply W.block)
    | fail)
  have hX1 : Ext w w1 := (by (exact extA))
  have Ri := hC.ins.row.ext hxc
  have Rl := hC.lat.row.ext hxc
  have Rg := hC.gates.row.ext hxc
  refine W.loopO c.max.toNat (fun k d dp w' => k ≤ c.max.toNat ∧ Ext wc w' ∧ Lt.Sep wc.heap.size w' [prow 1 encI 3 wc.heap.size d dp (0 :: List.replicate k (-1 : Int)), prow 2 encN 70 wc.heap.size (some ⟨g0, 0, none⟩) 0 []]) (fun k d dp => [(1, .pointer (some ⟨gc, 0, none⟩)), (4, .slice (some ⟨g0, 0, none⟩) 0 0), (5, .slice d (0 :: List.replicate k (-1 : Int)).length dp), (6, .int .i64 ((k : Int) + 1))]) (some ⟨g1, 0, none⟩) 1 ⟨Nat.zero_le _, (by (exact extA)), hS2⟩ (fun k d dp w' h => h.1) ⟨rfl, rfl, rfl, rfl, trivial⟩ ?_
  rintro k d dp w2 ⟨hk, hX2, hS⟩
  have hlk : (0 :: List.replicate k (-1 : Int)).length = k + 1 := by simp
  have hR0 := hS.row (i := 0) rfl
  have hR1 := hS.row (i := 1) rfl
  by_cases hlt : k < c.max.toNat
  · repeat' (first
      | (apply W.condKT; exact rfl; (focus (exact dec_true (by omega); done)))
      | (apply WL.lit tOk; exact rfl; exact rfl; exact rfl; exact rfl; exact rfl; exact rfl; (first | exact rfl | kernel_rfl | (simp [Instr.fill, catCells]; done)); exact rfl; intro gb w' hb hge hc hx)
      | (apply WL.append1 (z := ((-1 : Int))) tOk encI_ok; exact rfl; exact rfl; exact rfl; exact rfl; exact rfl; exact rfl; exact rfl; exact rfl; exact rfl; exact rfl; assumption; (exact extA); (first | exact rfl | (focus (simp only [List.length_set]; done)) | (focus (simp; done)) | (focus (simp [*]; done)) | omega | (focus (simp only [List.length_set]; omega))); (first | assumption | (refine Cells.ext ?_ (by assumption); exact extA)); exact rfl; exact rfl; (exact extA); (first | omega | (simp; omega) | (simp at *; omega)); intro a' cap' w' hO hX' hU hF; (first | replace hS := Sep.updRow (i := 0) rfl hU hO hF hS (by (exact extA)) (by (first | exact Nat.le_refl _ | exact Below.size (by (exact extA)))) | replace hS := Sep.updRow (i := 1) rfl hU hO hF hS (by (exact extA)) (by (first | exact Nat.le_refl _ | exact Below.size (by (exact extA)))) | replace hS := Sep.updRow (i := 2) rfl hU hO hF hS (by (exact extA)) (by (first | exact Nat.le_refl _ | exact Below.size (by (exact extA)))) | replace hS := Sep.updRow (i := 3) rfl hU hO hF hS (by (exact extA)) (by (first | exact Nat.le_refl _ | exact Below.size (by (exact extA)))) | replace hS := Sep.updRow (i := 4) rfl hU hO hF hS (by (exact extA)) (by (first | exact Nat.le_refl _ | exact Below.size (by (exact extA)))) | replace hS := Sep.updRow (i := 5) rfl hU hO hF hS (by (exact extA)) (by (first | exact Nat.le_refl _ | exact Below.size (by (exact extA))))); (try simp only [List.set_cons_zero, List.set_cons_succ] at hS); (try have hR0 := hS.row (i := 0) rfl); (try have hR1 := hS.row (i := 1) rfl); (try have hR2 := hS.row (i := 2) rfl); (try have hR3 := hS.row (i := 3) rfl); (try have hR4 := hS.row (i := 4) rfl); (try have hC0 := hS.cell (i := 0) rfl); (try have hD0 := (cells_heap hC0).1); (try have hE0 := (cells_heap hC0).2.1); (try have hF0 := (cells_heap hC0).2.2.1); (try have hG0 := (cells_heap hC0).2.2.2.1); (try have hC1 := hS.cell (i := 1) rfl); (try have hD1 := (cells_heap hC1).1); (try have hE1 := (cells_heap hC1).2.1); (try have hF1 := (cells_heap hC1).2.2.1); (try have hG1 := (cells_heap hC1).2.2.2.1); (try have hC2 := hS.cell (i := 2) rfl); (try have hD2 := (cells_heap hC2).1); (try have hE2 := (cells_heap hC2).2.1); (try have hF2 := (cells_heap hC2).2.2.1); (try have hG2 := (cells_heap hC2).2.2.2.1); (try have hC3 := hS.cell (i := 3) rfl); (try have hD3 := (cells_heap hC3).1); (try have hE3 := (cells_heap hC3).2.1); (try have hF3 := (cells_heap hC3).2.2.1); (try have hG3 := (cells_heap hC3).2.2.2.1); (try have hC4 := hS.cell (i := 4) rfl); (try have hD4 := (cells_heap hC4).1); (try have hE4 := (cells_heap hC4).2.1); (try have hF4 := (cells_heap hC4).2.2.1); (try have hG4 := (cells_heap hC4).2.2.2.1); (try have hM0 := hS.map (i := 0) rfl); (try have hM1 := hS.map (i := 1) rfl); (try have hM2 := hS.map (i := 2) rfl); (try have hM3 := hS.map (i := 3) rfl); (try have hM4 := hS.map (i := 4) rfl))
      | (show WL _ _ _ _ _ _ _; first | apply WL.nil | (refine WL.au (k := ?_)))
      | (show Z _ _ _ _ _; first | apply Z.then_normal | apply Z.block_normal)
      | (show W _ _ _ _ _ _; first | apply W.seq | apply W.region | apply W.block | apply W.skip)
      | fail)
    exact Z.againO a' cap' ⟨by omega, (by (exact extA)), by rw [← at_snoc]; exact hS⟩ ⟨rfl, rfl, by rw [← at_snoc]; exact rfl, rfl, trivial⟩
  obtain rfl : k = c.max.toNat := by omega
  repeat' (first
    | (apply W.condKF; exact rfl; (focus (exact dec_false (by omega); done)))
    | (show WL _ _ _ _ _ _ _; first | apply WL.nil | (refine WL.au (k := ?_)))
    | (show Z _ _ _ _ _; first | apply Z.then_normal | apply Z.then_exit | apply Z.block_exit)
    | (show W _ _ _ _ _ _; first | apply W.seq | apply W.region | apply W.block | apply W.exit)
    | fail)
  have hown1 : ∀ x ∈ c.ins.2.2, 2 ≤ x ∧ x % 2 = 0 ∧ x ≤ 2 * c.max := fun x hx => hown x (List.mem_append_left _ (List.mem_append_left _ hx))
  have hown2 : ∀ x ∈ c.lat.2.2, 2 ≤ x.1 ∧ x.1 % 2 = 0 ∧ x.1 ≤ 2 * c.max := fun x hx => hown x.1 (List.mem_append_left _ (List.mem_append_right _ (List.mem_map.2 ⟨x, hx, rfl⟩)))
  have e10 := cS1_0 c.t
  refine W.loopO2 c.ins.2.2.length (fun k a cp d dp w' => k ≤ c.ins.2.2.length ∧ Ext wc w' ∧ Lt.Sep wc.heap.size w' [prow 1 encI 3 wc.heap.size d dp (cS1 c.t k).2, prow 2 encN 70 wc.heap.size a cp (cS1 c.t k).1]) (fun k a cp d dp => [(1, .pointer (some ⟨gc, 0, none⟩)), (4, .slice a (cS1 c.t k).1.length cp), (5, .slice d (cS1 c.t k).2.length dp), (7, .int .i64 k)]) (some ⟨g0, 0, none⟩) 0 d dp ⟨Nat.zero_le _, hX2, by rw [e10]; exact hS⟩ (fun k a cp d dp w' h => h.1) (by rw [e10]; exact ⟨rfl, rfl, rfl, rfl, trivial⟩) ?_
  clear hS hR0 hR1 hX2
  rintro k a cp d dp w2 ⟨hk, hX2, hS⟩
  have hR0 := hS.row (i := 0) rfl
  have hR1 := hS.row (i := 1) rfl
  have hl1 : (cS1 c.t k).1.length = k ∧ (cS1 c.t k).2.length = c.max.toNat + 1 := cS1_len c.t hk
  by_cases hlt : k < c.ins.2.2.length
  · obtain ⟨x, hgx⟩ := getI c.ins.2.2 hlt
    have hxo := hown1 x (List.mem_of_getElem? hgx)
    have e1 := cS1_s (c := c.t) hgx
    obtain ⟨yv, hgy⟩ := getI (cS1 c.t k).2 (show (x / 2).toNat < _ by omega)
    repeat' (first
      | (apply W.condKT; exact rfl; (focus (exact dec_true (by omega); done)))
      | (apply WL.build tOk; exact rfl; exact rfl; exact rfl; exact rfl; exact rfl; exact rfl; exact rfl; kernel_rfl)
      | (apply WL.lit tOk; exact rfl; exact rfl; exact rfl; exact rfl; exact rfl; exact rfl; (first | exact rfl | kernel_rfl | (simp [Instr.fill, catCells]; done)); exact rfl; intro gb w' hb hge hc hx)
      | (apply WL.append1 (z := (((-1 : Int), (0 : Int)))) tOk encN_ok; exact rfl; exact rfl; exact rfl; exact rfl; exact rfl; exact rfl; exact rfl; exact rfl; exact rfl; exact rfl; assumption; (exact extA); (first | exact rfl | (focus (simp only [List.length_set]; done)) | (focus (simp; done)) | (focus (simp [*]; done)) | omega | (focus (simp only [List.length_set]; omega))); (first | assumption | (refine Cells.ext ?_ (by assumption); exact extA)); exact rfl; exact rfl; (exact extA); (first | omega | (simp; omega) | (simp at *; omega)); intro a' cap' w' hO hX' hU hF; (first | replace hS := Sep.updRow (i := 0) rfl hU hO hF hS (by (exact extA)) (by (first | exact Nat.le_refl _ | exact Below.size (by (exact extA)))) | replace hS := Sep.updRow (i := 1) rfl hU hO hF hS (by (exact extA)) (by (first | exact Nat.le_refl _ | exact Below.size (by (exact extA)))) | replace hS := Sep.updRow (i := 2) rfl hU hO hF hS (by (exact extA)) (by (first | exact Nat.le_refl _ | exact Below.size (by (exact extA)))) | replace hS := Sep.updRow (i := 3) rfl hU hO hF hS (by (exact extA)) (by (first | exact Nat.le_refl _ | exact Below.size (by (exact extA)))) | replace hS := Sep.updRow (i := 4) rfl hU hO hF hS (by (exact extA)) (by (first | exact Nat.le_refl _ | exact Below.size (by (exact extA)))) | replace hS := Sep.updRow (i := 5) rfl hU hO hF hS (by (exact extA)) (by (first | exact Nat.le_refl _ | exact Below.size (by (exact extA))))); (try simp only [List.set_cons_zero, List.set_cons_succ] at hS); (try have hR0 := hS.row (i := 0) rfl); (try have hR1 := hS.row (i := 1) rfl); (try have hR2 := hS.row (i := 2) rfl); (try have hR3 := hS.row (i := 3) rfl); (try have hR4 := hS.row (i := 4) rfl); (try have hC0 := hS.cell (i := 0) rfl); (try have hD0 := (cells_heap hC0).1); (try have hE0 := (cells_heap hC0).2.1); (try have hF0 := (cells_heap hC0).2.2.1); (try have hG0 := (cells_heap hC0).2.2.2.1); (try have hC1 := hS.cell (i := 1) rfl); (try have hD1 := (cells_heap hC1).1); (try have hE1 := (cells_heap hC1).2.1); (try have hF1 := (cells_heap hC1).2.2.1); (try have hG1 := (cells_heap hC1).2.2.2.1); (try have hC2 := hS.cell (i := 2) rfl); (try have hD2 := (cells_heap hC2).1); (try have hE2 := (cells_heap hC2).2.1); (try have hF2 := (cells_heap hC2).2.2.1); (try have hG2 := (cells_heap hC2).2.2.2.1); (try have hC3 := hS.cell (i := 3) rfl); (try have hD3 := (cells_heap hC3).1); (try have hE3 := (cells_heap hC3).2.1); (try have hF3 := (cells_heap hC3).2.2.1); (try have hG3 := (cells_heap hC3).2.2.2.1); (try have hC4 := hS.cell (i := 4) rfl); (try have hD4 := (cells_heap hC4).1); (try have hE4 := (cells_heap hC4).2.1); (try have hF4 := (cells_heap hC4).2.2.1); (try have hG4 := (cells_heap hC4).2.2.2.1); (try have hM0 := hS.map (i := 0) rfl); (try have hM1 := hS.map (i := 1) rfl); (try have hM2 := hS.map (i := 2) rfl); (try have hM3 := hS.map (i := 3) rfl); (try have hM4 := hS.map (i := 4) rfl))
      | (show WL _ _ _ _ _ _ _; first | apply WL.nil | (refine WL.au (k := ?_)) | (apply WL.index tOk; exact rfl; exact rfl; exact rfl; exact rfl; exact rfl; exact rfl; exact rfl; exact rfl; assumption; (exact extA); exact rfl; omega; assumption; intro b off h; have hcc := h; first | (obtain ⟨h1, h2, h3, h4, h5, h6, _⟩ := h) | (obtain ⟨h1, h2, h3, _⟩ := h) | (obtain ⟨h1, h2, _⟩ := h) | (obtain ⟨h1, _⟩ := h)))
      | (show Z _ _ _ _ _; apply Z.then_normal)
      | (show W _ _ _ _ _ _; first | apply W.seq | apply W.region | apply W.block | apply W.skip)
      | fail)
    have le3 : ((cS1 c.t k).1 ++ [((-1 : Int), (0 : Int))]).length = k + 1 := by rw [List.length_append, hl1.1]; rfl
    have le5 : 2 * (((cS1 c.t k).1 ++ [((-1 : Int), (0 : Int))]).length : Int) = 2 * (((cS1 c.t k).1.length : Int) + 1) := by rw [le3, hl1.1]; rfl
    obtain ⟨a2, rfl⟩ : ∃ x, x = a' := ⟨_, rfl⟩; obtain ⟨cp2, rfl⟩ : ∃ x, x = cap' := ⟨_, rfl⟩
    repeat' (first
      | (apply WL.storeO (z' := (2 * (((cS1 c.t k).1 ++ [((-1 : Int), (0 : Int))]).length : Int))) tOk; exact rfl; exact rfl; exact rfl; exact rfl; assumption; (exact extA); exact rfl; exact rfl; exact rfl; exact encI_ok; assumption; exact rfl; (exact extA); intro w' hO hX' hU; (first | replace hS := Sep.updRow (i := 0) rfl hU hO (.inl rfl) hS (by (exact extA)) (by (first | exact Nat.le_refl _ | exact Below.size (by (exact extA)))) | replace hS := Sep.updRow (i := 1) rfl hU hO (.inl rfl) hS (by (exact extA)) (by (first | exact Nat.le_refl _ | exact Below.size (by (exact extA)))) | replace hS := Sep.updRow (i := 2) rfl hU hO (.inl rfl) hS (by (exact extA)) (by (first | exact Nat.le_refl _ | exact Below.size (by (exact extA)))) | replace hS := Sep.updRow (i := 3) rfl hU hO (.inl rfl) hS (by (exact extA)) (by (first | exact Nat.le_refl _ | exact Below.size (by (exact extA)))) | replace hS := Sep.updRow (i := 4) rfl hU hO (.inl rfl) hS (by (exact extA)) (by (first | exact Nat.le_refl _ | exact Below.size (by (exact extA)))) | replace hS := Sep.updRow (i := 5) rfl hU hO (.inl rfl) hS (by (exact extA)) (by (first | exact Nat.le_refl _ | exact Below.size (by (exact extA))))); (try simp only [List.set_cons_zero, List.set_cons_succ] at hS); (try have hR0 := hS.row (i := 0) rfl); (try have hR1 := hS.row (i := 1) rfl); (try have hR2 := hS.row (i := 2) rfl); (try have hR3 := hS.row (i := 3) rfl); (try have hR4 := hS.row (i := 4) rfl); (try have hC0 := hS.cell (i := 0) rfl); (try have hD0 := (cells_heap hC0).1); (try have hE0 := (cells_heap hC0).2.1); (try have hF0 := (cells_heap hC0).2.2.1); (try have hG0 := (cells_heap hC0).2.2.2.1); (try have hC1 := hS.cell (i := 1) rfl); (try have hD1 := (cells_heap hC1).1); (try have hE1 := (cells_heap hC1).2.1); (try have hF1 := (cells_heap hC1).2.2.1); (try have hG1 := (cells_heap hC1).2.2.2.1); (try have hC2 := hS.cell (i := 2) rfl); (try have hD2 := (cells_heap hC2).1); (try have hE2 := (cells_heap hC2).2.1); (try have hF2 := (cells_heap hC2).2.2.1); (try have hG2 := (cells_heap hC2).2.2.2.1); (try have hC3 := hS.cell (i := 3) rfl); (try have hD3 := (cells_heap hC3).1); (try have hE3 := (cells_heap hC3).2.1); (try have hF3 := (cells_heap hC3).2.2.1); (try have hG3 := (cells_heap hC3).2.2.2.1); (try have hC4 := hS.cell (i := 4) rfl); (try have hD4 := (cells_heap hC4).1); (try have hE4 := (cells_heap hC4).2.1); (try have hF4 := (cells_heap hC4).2.2.1); (try have hG4 := (cells_heap hC4).2.2.2.1); (try have hM0 := hS.map (i := 0) rfl); (try have hM1 := hS.map (i := 1) rfl); (try have hM2 := hS.map (i := 2) rfl); (try have hM3 := hS.map (i := 3) rfl); (try have hM4 := hS.map (i := 4) rfl))
      | (apply WL.indexO tOk; exact rfl; exact rfl; exact rfl; exact rfl; exact rfl; exact rfl; exact rfl; exact rfl; assumption; (exact extA); exact encI_ok; (first | exact rfl | (focus (simp only [List.length_set]; done)) | (focus (simp; done)) | (focus (simp [*]; done)) | omega | (focus (simp only [List.length_set]; omega))); omega; assumption; intro gb ha hc; cases ha; have hcc := hc; first | (obtain ⟨h1, h2, h3, _⟩ := hc) | (obtain ⟨h1, h2, _⟩ := hc) | (obtain ⟨h1, _⟩ := hc))
      | (show WL _ _ _ _ _ _ _; first | apply WL.nil | (refine WL.au (k := ?_)))
      | (show Z _ _ _ _ _; first | apply Z.then_normal | apply Z.block_normal)
      | (show W _ _ _ _ _ _; apply W.region)
      | fail)
    rw [le5] at hS
    exact Z.againO2 a2 cp2 (some ⟨gb, 0, none⟩) dp ⟨by omega, (by (exact extA)), by rw [e1]; exact hS⟩ (by repeat' first | exact trivial | (refine And.intro ?_ ?_) | exact rfl | (rw [e1]; exact rfl) | (rw [e1]; show _ = some (Value.slice _ (List.set _ _ _).length _); rw [List.length_set]; exact rfl))
  obtain rfl : k = c.ins.2.2.length := by omega
  repeat' (first
    | (apply W.condKF; exact rfl; (focus (exact dec_false (by omega); done)))
    | (show WL _ _ _ _ _ _ _; first | apply WL.nil | (refine WL.au (k := ?_)))
    | (show Z _ _ _ _ _; first | apply Z.then_normal | apply Z.then_exit | apply Z.block_exit)
    | (show W _ _ _ _ _ _; first | apply W.seq | apply W.region | apply W.block | apply W.exit)
    | fail)
  have e20 := cS2_0 c.t
  have e20 : cS2 c.t 0 = cS1 c.t c.ins.2.2.length := e20
  refine W.loopO2 c.lat.2.2.length (fun k a cp d dp w' => k ≤ c.lat.2.2.length ∧ Ext wc w' ∧ Lt.Sep wc.heap.size w' [prow 1 encI 3 wc.heap.size d dp (cS2 c.t k).2, prow 2 encN 70 wc.heap.size a cp (cS2 c.t k).1]) (fun k a cp d dp => [(1, .pointer (some ⟨gc, 0, none⟩)), (4, .slice a (cS2 c.t k).1.length cp), (5, .slice d (cS2 c.t k).2.length dp), (8, .int .i64 k)]) a cp d dp ⟨Nat.zero_le _, hX2, by rw [e20]; exact hS⟩ (fun k a cp d dp w' h => h.1) (by rw [e20]; exact ⟨rfl, rfl, rfl, rfl, trivial⟩) ?_
  clear hS hR0 hR1 hX2 hl1 hk
  rintro k a cp d dp w2 ⟨hk, hX2, hS⟩
  have hR0 := hS.row (i := 0) rfl
  have hR1 := hS.row (i := 1) rfl
  have hl1 : (cS2 c.t k).1.length = c.ins.2.2.length + k ∧ (cS2 c.t k).2.length = c.max.toNat + 1 := cS2_len c.t hk
  by_cases hlt : k < c.lat.2.2.length
  · obtain ⟨x, hgx⟩ := getI c.lat.2.2 hlt
    have hxo := hown2 x (List.mem_of_getElem? hgx)
    have e1 := cS2_s (c := c.t) hgx
    obtain ⟨yv, hgy⟩ := getI (cS2 c.t k).2 (show (x.1 / 2).toNat < _ by omega)
    have le3 : ((cS2 c.t k).1 ++ [((-1 : Int), (0 : Int))]).length = c.ins.2.2.length + k + 1 := by rw [List.length_append, hl1.1]; rfl
    have le5 : 2 * (((cS2 c.t k).1 ++ [((-1 : Int), (0 : Int))]).length : Int) = 2 * (((cS2 c.t k).1.length : Int) + 1) := by rw [le3, hl1.1]; rfl
    repeat' (first
      | (apply W.condKT; exact rfl; (focus (exact dec_true (by omega); done)))
      | (apply WL.build tOk; exact rfl; exact rfl; exact rfl; exact rfl; exact rfl; exact rfl; exact rfl; kernel_rfl)
      | (apply WL.lit tOk; exact rfl; exact rfl; exact rfl; exact rfl; exact rfl; exact rfl; (first | exact rfl | kernel_rfl | (simp [Instr.fill, catCells]; done)); exact rfl; intro gb w' hb hge hc hx)
      | (apply WL.append1 (z := (((-1 : Int), (0 : Int)))) tOk encN_ok; exact rfl; exact rfl; exact rfl; exact rfl; exact rfl; exact rfl; exact rfl; exact rfl; exact rfl; exact rfl; assumption; (exact extA); (first | exact rfl | (focus (simp only [List.length_set]; done)) | (focus (simp; done)) | (focus (simp [*]; done)) | omega | (focus (simp only [List.length_set]; omega))); (first | assumption | (refine Cells.ext ?_ (by assumption); exact extA)); exact rfl; exact rfl; (exact extA); (first | omega | (simp; omega) | (simp at *; omega)); intro a' cap' w' hO hX' hU hF; (first | replace hS := Sep.updRow (i := 0) rfl hU hO hF hS (by (exact extA)) (by (first | exact Nat.le_refl _ | exact Below.size (by (exact extA)))) | replace hS := Sep.updRow (i := 1) rfl hU hO hF hS (by (exact extA)) (by (first | exact Nat.le_refl _ | exact Below.size (by (exact extA)))) | replace hS := Sep.updRow (i := 2) rfl hU hO hF hS (by (exact extA)) (by (first | exact Nat.le_refl _ | exact Below.size (by (exact extA)))) | replace hS := Sep.updRow (i := 3) rfl hU hO hF hS (by (exact extA)) (by (first | exact Nat.le_refl _ | exact Below.size (by (exact extA)))) | replace hS := Sep.updRow (i := 4) rfl hU hO hF hS (by (exact extA)) (by (first | exact Nat.le_refl _ | exact Below.size (by (exact extA)))) | replace hS := Sep.updRow (i := 5) rfl hU hO hF hS (by (exact extA)) (by (first | exact Nat.le_refl _ | exact Below.size (by (exact extA))))); (try simp only [List.set_cons_zero, List.set_cons_succ] at hS); (try have hR0 := hS.row (i := 0) rfl); (try have hR1 := hS.row (i := 1) rfl); (try have hR2 := hS.row (i := 2) rfl); (try have hR3 := hS.row (i := 3) rfl); (try have hR4 := hS.row (i := 4) rfl); (try have hC0 := hS.cell (i := 0) rfl); (try have hD0 := (cells_heap hC0).1); (try have hE0 := (cells_heap hC0).2.1); (try have hF0 := (cells_heap hC0).2.2.1); (try have hG0 := (cells_heap hC0).2.2.2.1); (try have hC1 := hS.cell (i := 1) rfl); (try have hD1 := (cells_heap hC1).1); (try have hE1 := (cells_heap hC1).2.1); (try have hF1 := (cells_heap hC1).2.2.1); (try have hG1 := (cells_heap hC1).2.2.2.1); (try have hC2 := hS.cell (i := 2) rfl); (try have hD2 := (cells_heap hC2).1); (try have hE2 := (cells_heap hC2).2.1); (try have hF2 := (cells_heap hC2).2.2.1); (try have hG2 := (cells_heap hC2).2.2.2.1); (try have hC3 := hS.cell (i := 3) rfl); (try have hD3 := (cells_heap hC3).1); (try have hE3 := (cells_heap hC3).2.1); (try have hF3 := (cells_heap hC3).2.2.1); (try have hG3 := (cells_heap hC3).2.2.2.1); (try have hC4 := hS.cell (i := 4) rfl); (try have hD4 := (cells_heap hC4).1); (try have hE4 := (cells_heap hC4).2.1); (try have hF4 := (cells_heap hC4).2.2.1); (try have hG4 := (cells_heap hC4).2.2.2.1); (try have hM0 := hS.map (i := 0) rfl); (try have hM1 := hS.map (i := 1) rfl); (try have hM2 := hS.map (i := 2) rfl); (try have hM3 := hS.map (i := 3) rfl); (try have hM4 := hS.map (i := 4) rfl))
      | (show WL _ _ _ _ _ _ _; first | apply WL.nil | (refine WL.au (k := ?_)) | (apply WL.index tOk; exact rfl; exact rfl; exact rfl; exact rfl; exact rfl; exact rfl; exact rfl; exact rfl; assumption; (exact extA); exact rfl; omega; assumption; intro b off h; have hcc := h; first | (obtain ⟨h1, h2, h3, h4, h5, h6, _⟩ := h) | (obtain ⟨h1, h2, h3, _⟩ := h) | (obtain ⟨h1, h2, _⟩ := h) | (obtain ⟨h1, _⟩ := h)))
      | (show Z _ _ _ _ _; apply Z.then_normal)
      | (show W _ _ _ _ _ _; first | apply W.seq | apply W.region | apply W.block | apply W.skip)
      | fail)
    obtain ⟨a2, rfl⟩ : ∃ x, x = a' := ⟨_, rfl⟩; obtain ⟨cp2, rfl⟩ : ∃ x, x = cap' := ⟨_, rfl⟩
    repeat' (first
      | (apply WL.storeO (z' := (2 * (((cS2 c.t k).1 ++ [((-1 : Int), (0 : Int))]).length : Int))) tOk; exact rfl; exact rfl; exact rfl; exact rfl; assumption; (exact extA); exact rfl; exact rfl; exact rfl; exact encI_ok; assumption; exact rfl; (exact extA); intro w' hO hX' hU; (first | replace hS := Sep.updRow (i := 0) rfl hU hO (.inl rfl) hS (by (exact extA)) (by (first | exact Nat.le_refl _ | exact Below.size (by (exact extA)))) | replace hS := Sep.updRow (i := 1) rfl hU hO (.inl rfl) hS (by (exact extA)) (by (first | exact Nat.le_refl _ | exact Below.size (by (exact extA)))) | replace hS := Sep.updRow (i := 2) rfl hU hO (.inl rfl) hS (by (exact extA)) (by (first | exact Nat.le_refl _ | exact Below.size (by (exact extA)))) | replace hS := Sep.updRow (i := 3) rfl hU hO (.inl rfl) hS (by (exact extA)) (by (first | exact Nat.le_refl _ | exact Below.size (by (exact extA)))) | replace hS := Sep.updRow (i := 4) rfl hU hO (.inl rfl) hS (by (exact extA)) (by (first | exact Nat.le_refl _ | exact Below.size (by (exact extA)))) | replace hS := Sep.updRow (i := 5) rfl hU hO (.inl rfl) hS (by (exact extA)) (by (first | exact Nat.le_refl _ | exact Below.size (by (exact extA))))); (try simp only [List.set_cons_zero, List.set_cons_succ] at hS); (try have hR0 := hS.row (i := 0) rfl); (try have hR1 := hS.row (i := 1) rfl); (try have hR2 := hS.row (i := 2) rfl); (try have hR3 := hS.row (i := 3) rfl); (try have hR4 := hS.row (i := 4) rfl); (try have hC0 := hS.cell (i := 0) rfl); (try have hD0 := (cells_heap hC0).1); (try have hE0 := (cells_heap hC0).2.1); (try have hF0 := (cells_heap hC0).2.2.1); (try have hG0 := (cells_heap hC0).2.2.2.1); (try have hC1 := hS.cell (i := 1) rfl); (try have hD1 := (cells_heap hC1).1); (try have hE1 := (cells_heap hC1).2.1); (try have hF1 := (cells_heap hC1).2.2.1); (try have hG1 := (cells_heap hC1).2.2.2.1); (try have hC2 := hS.cell (i := 2) rfl); (try have hD2 := (cells_heap hC2).1); (try have hE2 := (cells_heap hC2).2.1); (try have hF2 := (cells_heap hC2).2.2.1); (try have hG2 := (cells_heap hC2).2.2.2.1); (try have hC3 := hS.cell (i := 3) rfl); (try have hD3 := (cells_heap hC3).1); (try have hE3 := (cells_heap hC3).2.1); (try have hF3 := (cells_heap hC3).2.2.1); (try have hG3 := (cells_heap hC3).2.2.2.1); (try have hC4 := hS.cell (i := 4) rfl); (try have hD4 := (cells_heap hC4).1); (try have hE4 := (cells_heap hC4).2.1); (try have hF4 := (cells_heap hC4).2.2.1); (try have hG4 := (cells_heap hC4).2.2.2.1); (try have hM0 := hS.map (i := 0) rfl); (try have hM1 := hS.map (i := 1) rfl); (try have hM2 := hS.map (i := 2) rfl); (try have hM3 := hS.map (i := 3) rfl); (try have hM4 := hS.map (i := 4) rfl))
      | (apply WL.indexO tOk; exact rfl; exact rfl; exact rfl; exact rfl; exact rfl; exact rfl; exact rfl; exact rfl; assumption; (exact extA); exact encI_ok; (first | exact rfl | (focus (simp only [List.length_set]; done)) | (focus (simp; done)) | (focus (simp [*]; done)) | omega | (focus (simp only [List.length_set]; omega))); omega; assumption; intro gb ha hc; cases ha; have hcc := hc; first | (obtain ⟨h1, h2, h3, _⟩ := hc) | (obtain ⟨h1, h2, _⟩ := hc) | (obtain ⟨h1, _⟩ := hc))
      | (show WL _ _ _ _ _ _ _; first | apply WL.nil | (refine WL.au (k := ?_)))
      | (show Z _ _ _ _ _; first | apply Z.then_normal | apply Z.block_normal)
      | (show W _ _ _ _ _ _; apply W.region)
      | fail)
    rw [le5] at hS
    exact Z.againO2 a2 cp2 (some ⟨gb, 0, none⟩) dp ⟨by omega, (by (exact extA)), by rw [e1]; exact hS⟩ (by repeat' first | exact trivial | (refine And.intro ?_ ?_) | exact rfl | (rw [e1]; exact rfl) | (rw [e1]; show _ = some (Value.slice _ (List.set _ _ _).length _); rw [List.length_set]; exact rfl))
  obtain rfl : k = c.lat.2.2.length := by omega
  have hgm : ∀ g ∈ c.gates.2.2, g.1 ∈ c.t.own ∧ g.2.1 ∈ c.t.used ∧ g.2.2 ∈ c.t.used := fun g hg =>
    ⟨List.mem_append.2 (.inr (List.mem_map.2 ⟨g, hg, rfl⟩)), List.mem_append.2 (.inr (List.mem_flatMap.2 ⟨g, hg, by simp⟩)), List.mem_append.2 (.inr (List.mem_flatMap.2 ⟨g, hg, by simp⟩))⟩
  have hok : gsOk c.gates.2.2 := fun g hg => by
    obtain ⟨r1, r2, r3⟩ := hgm g hg
    have := hown _ r1
    have := hused _ r2
    have := hused _ r3
    omega
  have hcells2 := hcells.ext hX2
  repeat' (first
    | (apply W.condKF; exact rfl; (focus (exact dec_false (by omega); done)))
    | ((show WL _ _ _ (⟨_, .call ⟨.value (.func 83), _, _⟩, _, _, _, _⟩ :: _) _ _ _); apply WL.call; exact rfl; exact rfl; exact rfl; exact rfl; exact ref11_Order c _ (Rg.ext (by (exact extA))) hok (by omega); rintro v' w' ⟨hx, a', cap', rfl, hO⟩; (obtain ⟨hOd, rfl⟩ : ∃ x, x = hO := ⟨_, rfl⟩; obtain ⟨hxd, rfl⟩ : ∃ x, x = hx := ⟨_, rfl⟩; obtain ⟨wd, rfl⟩ : ∃ x, x = w' := ⟨_, rfl⟩; obtain ⟨ad, rfl⟩ : ∃ x, x = a' := ⟨_, rfl⟩; obtain ⟨cd, rfl⟩ : ∃ x, x = cap' := ⟨_, rfl⟩))
    | (show WL _ _ _ _ _ _ _; first | apply WL.nil | (refine WL.au (k := ?_)))
    | (show Z _ _ _ _ _; first | apply Z.then_normal | apply Z.then_exit | apply Z.block_exit)
    | (show W _ _ _ _ _ _; first | apply W.seq | apply W.region | apply W.block | apply W.exit)
    | fail)
  have hS := hS.newRow' hxd hOd (Below.size hX2)
  have hXd : Ext wc wd := (by (exact extA))
  have e30 : cS3 c.t 0 = cS2 c.t c.lat.2.2.length := cS3_0 c.t
  have hnl : (natI (ordL c.gates.2.2)).length = (ordL c.gates.2.2).length := by simp [natI]
  refine W.loopO2 (ordL c.gates.2.2).length (fun k a cp d dp w' => k ≤ (ordL c.gates.2.2).length ∧ Ext wc w' ∧ Lt.Sep wc.heap.size w' [prow 1 encI 3 wc.heap.size ad cd (natI (ordL c.gates.2.2)), prow 1 encI 3 wc.heap.size d dp (cS3 c.t k).2, prow 2 encN 70 wc.heap.size a cp (cS3 c.t k).1]) (fun k a cp d dp => [(1, .pointer (some ⟨gc, 0, none⟩)), (4, .slice a (cS3 c.t k).1.length cp), (5, .slice d (cS3 c.t k).2.length dp), (9, .slice ad (natI (ordL c.gates.2.2)).length cd), (10, .int .i64 k)]) a cp d dp ⟨Nat.zero_le _, hXd, by rw [e30]; exact hS⟩ (fun k a cp d dp w' h => h.1) (by rw [e30]; exact ⟨rfl, rfl, rfl, rfl, rfl, trivial⟩) ?_
  have hol : (ordL c.gates.2.2).length ≤ c.gates.2.2.length := (ordL_is c.gates.2.2).1.le
  clear hS hR0 hR1 hX2 hl1 hk hXd
  rintro k a cp d dp w2 ⟨hk, hX2, hS⟩
  have hR0 := hS.row (i := 0) rfl
  have hR1 := hS.row (i := 1) rfl
  have hR2 := hS.row (i := 2) rfl
  have RO := Own.row encI_ok hR0
  have hl1 : (cS3 c.t k).1.length = c.ins.2.2.length + c.lat.2.2.length + k ∧ (cS3 c.t k).2.length = c.max.toNat + 1 := cS3_len c.t hk
  by_cases hlt : k < (ordL c.gates.2.2).length
  · obtain ⟨i, hi⟩ := getI (ordL c.gates.2.2) hlt
    obtain ⟨g, za, zb, hgg, hza, hzb, ka, kb⟩ := cS3_get hg (c := c.t) hi
    have hgg : c.gates.2.2[i]? = some g := hgg
    have hgo := hok g (List.mem_of_getElem? hgg)
    have hgw := hown g.1 (hgm g (List.mem_of_getElem? hgg)).1
    have hgl := lt_of_get hgg
    have hni : (natI (ordL c.gates.2.2))[k]? = some (i : Int) := by rw [natI, List.getElem?_map, hi]; rfl
    obtain ⟨yv, hgy⟩ := getI (cS3 c.t k).2 (show (g.1 / 2).toNat < _ by omega)
    have e1 : cS3 c.t (k + 1) = cput (cS3 c.t k) g.1 (litI (cS3 c.t k).2 g.2.1, litI (cS3 c.t k).2 g.2.2) := by rw [cS3_s (c := c.t) hi]; unfold cGate; rw [gAt_of hgg]
    have le3 : ((cS3 c.t k).1 ++ [(litI (cS3 c.t k).2 g.2.1, litI (cS3 c.t k).2 g.2.2)]).length = c.ins.2.2.length + c.lat.2.2.length + k + 1 := by rw [List.length_append, hl1.1]; rfl
    have le5 : 2 * (((cS3 c.t k).1 ++ [(litI (cS3 c.t k).2 g.2.1, litI (cS3 c.t k).2 g.2.2)]).length : Int) = 2 * (((cS3 c.t k).1.length : Int) + 1) := by rw [le3, hl1.1]; rfl
    have y6w : w2.cell? ⟨gc, 0 + 1 + 1 + 1 + 1 + 1 + 1, none⟩ = some (rowVal c.gates) := (hcells.ext hX2).2.2.2.2.2.2.1
    have Rg2 := Rg.ext hX2
    repeat' (first
      | (apply W.condKT; exact rfl; (focus (exact dec_true (by omega); done)))
      | (show W _ _ (.region 20 _ _) _ _ _; apply W.regionGX (.fl true 0 (.fl true 2 (.fl true 3 (.fl true 4 (.fl false 1 (.fl false 5 (.fl true 6 (.fl false 7 (.br 8 (.br 9 .done .stop) .stop))))))))) [5, 7, 8] tMix; kernel_rfl)
      | (apply WL.alloc tOk; exact rfl; exact rfl; exact rfl; intro gb w' hb hge hx; replace hS := Sep.newCell (Sep.ext hS (by (exact extA))) hx hb hge (by (first | exact Nat.le_refl _ | exact Below.size (by (exact extA)))); (try simp only [List.set_cons_zero, List.set_cons_succ] at hS); (try have hR0 := hS.row (i := 0) rfl); (try have hR1 := hS.row (i := 1) rfl); (try have hR2 := hS.row (i := 2) rfl); (try have hR3 := hS.row (i := 3) rfl); (try have hR4 := hS.row (i := 4) rfl); (try have hC0 := hS.cell (i := 0) rfl); (try have hD0 := (cells_heap hC0).1); (try have hE0 := (cells_heap hC0).2.1); (try have hF0 := (cells_heap hC0).2.2.1); (try have hG0 := (cells_heap hC0).2.2.2.1); (try have hC1 := hS.cell (i := 1) rfl); (try have hD1 := (cells_heap hC1).1); (try have hE1 := (cells_heap hC1).2.1); (try have hF1 := (cells_heap hC1).2.2.1); (try have hG1 := (cells_heap hC1).2.2.2.1); (try have hC2 := hS.cell (i := 2) rfl); (try have hD2 := (cells_heap hC2).1); (try have hE2 := (cells_heap hC2).2.1); (try have hF2 := (cells_heap hC2).2.2.1); (try have hG2 := (cells_heap hC2).2.2.2.1); (try have hC3 := hS.cell (i := 3) rfl); (try have hD3 := (cells_heap hC3).1); (try have hE3 := (cells_heap hC3).2.1); (try have hF3 := (cells_heap hC3).2.2.1); (try have hG3 := (cells_heap hC3).2.2.2.1); (try have hC4 := hS.cell (i := 4) rfl); (try have hD4 := (cells_heap hC4).1); (try have hE4 := (cells_heap hC4).2.1); (try have hF4 := (cells_heap hC4).2.2.1); (try have hG4 := (cells_heap hC4).2.2.2.1); (try have hM0 := hS.map (i := 0) rfl); (try have hM1 := hS.map (i := 1) rfl); (try have hM2 := hS.map (i := 2) rfl); (try have hM3 := hS.map (i := 3) rfl); (try have hM4 := hS.map (i := 4) rfl))
      | (apply WL.storeB (w0 := wc) tOk; exact rfl; exact rfl; exact rfl; exact rfl; assumption; (exact extA); exact rfl; exact rfl; exact rfl; (exact extA); (first | assumption | omega | (focus (apply Nat.le_trans; rotate_left; assumption; exact Below.size (by (exact extA)); done))); intro w' hb hc hX' hU; have hcc := hc; obtain ⟨h1, h2, _⟩ := hc; replace hS := Sep.updCell (i := 0) rfl hU hb hS (by (exact extA)) (by (first | exact Nat.le_refl _ | exact Below.size (by (exact extA)))); (try simp only [List.set_cons_zero, List.set_cons_succ] at hS); (try have hR0 := hS.row (i := 0) rfl); (try have hR1 := hS.row (i := 1) rfl); (try have hR2 := hS.row (i := 2) rfl); (try have hR3 := hS.row (i := 3) rfl); (try have hR4 := hS.row (i := 4) rfl); (try have hC0 := hS.cell (i := 0) rfl); (try have hD0 := (cells_heap hC0).1); (try have hE0 := (cells_heap hC0).2.1); (try have hF0 := (cells_heap hC0).2.2.1); (try have hG0 := (cells_heap hC0).2.2.2.1); (try have hC1 := hS.cell (i := 1) rfl); (try have hD1 := (cells_heap hC1).1); (try have hE1 := (cells_heap hC1).2.1); (try have hF1 := (cells_heap hC1).2.2.1); (try have hG1 := (cells_heap hC1).2.2.2.1); (try have hC2 := hS.cell (i := 2) rfl); (try have hD2 := (cells_heap hC2).1); (try have hE2 := (cells_heap hC2).2.1); (try have hF2 := (cells_heap hC2).2.2.1); (try have hG2 := (cells_heap hC2).2.2.2.1); (try have hC3 := hS.cell (i := 3) rfl); (try have hD3 := (cells_heap hC3).1); (try have hE3 := (cells_heap hC3).2.1); (try have hF3 := (cells_heap hC3).2.2.1); (try have hG3 := (cells_heap hC3).2.2.2.1); (try have hC4 := hS.cell (i := 4) rfl); (try have hD4 := (cells_heap hC4).1); (try have hE4 := (cells_heap hC4).2.1); (try have hF4 := (cells_heap hC4).2.2.1); (try have hG4 := (cells_heap hC4).2.2.2.1); (try have hM0 := hS.map (i := 0) rfl); (try have hM1 := hS.map (i := 1) rfl); (try have hM2 := hS.map (i := 2) rfl); (try have hM3 := hS.map (i := 3) rfl); (try have hM4 := hS.map (i := 4) rfl))
      | (show SX _ _ _ _ _ _ _ _ _; first | (apply SX.done; intro w' hx) | (apply SX.fl0; exact rfl) | (apply SX.fl1; exact rfl; (exact extA)) | (apply SX.br1; exact rfl; intro w' hx))
      | (show FL _ _ _ _ _ _ _ _; first | apply FL.nilX | (apply FL.loadE tOk; exact rfl; exact rfl; exact rfl; exact rfl; exact rfl; (first | assumption | (focus (apply Ext.cell; rotate_left; assumption; exact extA; done)))) | (apply FL.loadAE tOk; exact rfl; exact rfl; exact rfl; exact rfl; exact rfl; assumption; exact rfl) | (apply FL.indexE tOk; exact rfl; exact rfl; exact rfl; exact rfl; exact rfl; exact rfl; exact rfl; exact rfl; assumption; exact rfl; omega; assumption; intro b off h; have hcc := h; first | (obtain ⟨h1, h2, h3, h4, h5, h6, _⟩ := h) | (obtain ⟨h1, h2, h3, _⟩ := h) | (obtain ⟨h1, h2, _⟩ := h) | (obtain ⟨h1, _⟩ := h)))
      | (show FL _ _ _ _ _ _ _ _; (refine FL.au (k := ?_)))
      | (show Z _ _ _ _ _; first | (apply Z.sxL; exact rfl) | (apply Z.sxE; (exact extA)))
      | (show WL _ _ _ _ _ _ _; first | apply WL.nil | (refine WL.au (k := ?_)))
      | (show Z _ _ _ _ _; apply Z.then_normal)
      | (show W _ _ _ _ _ _; first | apply W.seq | apply W.region | apply W.block | apply W.skip)
      | fail)
    replace hS := hS.ext hx
    (try simp only [List.set_cons_zero, List.set_cons_succ] at hS); (try have hR0 := hS.row (i := 0) rfl); (try have hR1 := hS.row (i := 1) rfl); (try have hR2 := hS.row (i := 2) rfl); (try have hR3 := hS.row (i := 3) rfl); (try have hR4 := hS.row (i := 4) rfl); (try have hC0 := hS.cell (i := 0) rfl); (try have hD0 := (cells_heap hC0).1); (try have hE0 := (cells_heap hC0).2.1); (try have hF0 := (cells_heap hC0).2.2.1); (try have hG0 := (cells_heap hC0).2.2.2.1); (try have hC1 := hS.cell (i := 1) rfl); (try have hD1 := (cells_heap hC1).1); (try have hE1 := (cells_heap hC1).2.1); (try have hF1 := (cells_heap hC1).2.2.1); (try have hG1 := (cells_heap hC1).2.2.2.1); (try have hC2 := hS.cell (i := 2) rfl); (try have hD2 := (cells_heap hC2).1); (try have hE2 := (cells_heap hC2).2.1); (try have hF2 := (cells_heap hC2).2.2.1); (try have hG2 := (cells_heap hC2).2.2.2.1); (try have hC3 := hS.cell (i := 3) rfl); (try have hD3 := (cells_heap hC3).1); (try have hE3 := (cells_heap hC3).2.1); (try have hF3 := (cells_heap hC3).2.2.1); (try have hG3 := (cells_heap hC3).2.2.2.1); (try have hC4 := hS.cell (i := 4) rfl); (try have hD4 := (cells_heap hC4).1); (try have hE4 := (cells_heap hC4).2.1); (try have hF4 := (cells_heap hC4).2.2.1); (try have hG4 := (cells_heap hC4).2.2.2.1); (try have hM0 := hS.map (i := 0) rfl); (try have hM1 := hS.map (i := 1) rfl); (try have hM2 := hS.map (i := 2) rfl); (try have hM3 := hS.map (i := 3) rfl); (try have hM4 := hS.map (i := 4) rfl)
    obtain ⟨w3, rfl⟩ : ∃ x, x = w' := ⟨_, rfl⟩
    have hX3 : Ext wc w3 := (by (exact extA))
    repeat' (first
      | (apply FL.build tOk; exact rfl; exact rfl; exact rfl; exact rfl; exact rfl; exact rfl; exact rfl; kernel_rfl)
      | (show W _ _ (.region 21 _ _) _ _ _; apply W.regionGB (.fl true 0 (.fl true 1 (.fl true 2 (.fl true 5 (.fl true 6 (.br 3 (.br 4 (.br 7 (.br 8 (.fl true 9 (.br 10 (.br 11 (.fl true 12 .done) .stop) .stop)) .stop) .stop) (.br 7 (.br 4 (.br 8 (.fl true 9 (.br 10 (.br 11 (.fl true 12 .done) .stop) .stop)) .stop) .stop) .stop)) (.br 7 (.br 3 (.br 4 (.br 8 (.fl true 9 (.br 10 (.br 11 (.fl true 12 .done) .stop) .stop)) .stop) .stop) .stop) .stop))))))) [] (none) tMix; kernel_rfl)
      | ((show WL _ _ _ (⟨_, .call ⟨.value (.func 91), _, _⟩, _, _, _, _⟩ :: _) _ _ _); apply WL.callS; exact rfl; exact rfl; exact rfl; exact rfl; exact ref11_lit _ _ (cS3 c.t k).2 g.2.1 _ _ ((Own.row encI_ok hR2).ext (by (exact extA))) (by omega) (by omega) hza (by omega))
      | ((show WL _ _ _ (⟨_, .call ⟨.value (.func 91), _, _⟩, _, _, _, _⟩ :: _) _ _ _); apply WL.callS; exact rfl; exact rfl; exact rfl; exact rfl; exact ref11_lit _ _ (cS3 c.t k).2 g.2.2 _ _ ((Own.row encI_ok hR2).ext (by (exact extA))) (by omega) (by omega) hzb (by omega))
      | (apply WL.lit tOk; exact rfl; exact rfl; exact rfl; exact rfl; exact rfl; exact rfl; (first | exact rfl | kernel_rfl | (simp [Instr.fill, catCells]; done)); exact rfl; intro gb w' hb hge hc hx)
      | (apply WL.append1 (z := ((litI (cS3 c.t k).2 g.2.1, litI (cS3 c.t k).2 g.2.2))) tOk encN_ok; exact rfl; exact rfl; exact rfl; exact rfl; exact rfl; exact rfl; exact rfl; exact rfl; exact rfl; exact rfl; assumption; (exact extA); (first | exact rfl | (focus (simp only [List.length_set]; done)) | (focus (simp; done)) | (focus (simp [*]; done)) | omega | (focus (simp only [List.length_set]; omega))); (first | assumption | (refine Cells.ext ?_ (by assumption); exact extA)); exact rfl; exact rfl; (exact extA); (first | omega | (simp; omega) | (simp at *; omega)); intro a' cap' w' hO hX' hU hF; (first | replace hS := Sep.updRow (i := 0) rfl hU hO hF hS (by (exact extA)) (by (first | exact Nat.le_refl _ | exact Below.size (by (exact extA)))) | replace hS := Sep.updRow (i := 1) rfl hU hO hF hS (by (exact extA)) (by (first | exact Nat.le_refl _ | exact Below.size (by (exact extA)))) | replace hS := Sep.updRow (i := 2) rfl hU hO hF hS (by (exact extA)) (by (first | exact Nat.le_refl _ | exact Below.size (by (exact extA)))) | replace hS := Sep.updRow (i := 3) rfl hU hO hF hS (by (exact extA)) (by (first | exact Nat.le_refl _ | exact Below.size (by (exact extA)))) | replace hS := Sep.updRow (i := 4) rfl hU hO hF hS (by (exact extA)) (by (first | exact Nat.le_refl _ | exact Below.size (by (exact extA)))) | replace hS := Sep.updRow (i := 5) rfl hU hO hF hS (by (exact extA)) (by (first | exact Nat.le_refl _ | exact Below.size (by (exact extA))))); (try simp only [List.set_cons_zero, List.set_cons_succ] at hS); (try have hR0 := hS.row (i := 0) rfl); (try have hR1 := hS.row (i := 1) rfl); (try have hR2 := hS.row (i := 2) rfl); (try have hR3 := hS.row (i := 3) rfl); (try have hR4 := hS.row (i := 4) rfl); (try have hC0 := hS.cell (i := 0) rfl); (try have hD0 := (cells_heap hC0).1); (try have hE0 := (cells_heap hC0).2.1); (try have hF0 := (cells_heap hC0).2.2.1); (try have hG0 := (cells_heap hC0).2.2.2.1); (try have hC1 := hS.cell (i := 1) rfl); (try have hD1 := (cells_heap hC1).1); (try have hE1 := (cells_heap hC1).2.1); (try have hF1 := (cells_heap hC1).2.2.1); (try have hG1 := (cells_heap hC1).2.2.2.1); (try have hC2 := hS.cell (i := 2) rfl); (try have hD2 := (cells_heap hC2).1); (try have hE2 := (cells_heap hC2).2.1); (try have hF2 := (cells_heap hC2).2.2.1); (try have hG2 := (cells_heap hC2).2.2.2.1); (try have hC3 := hS.cell (i := 3) rfl); (try have hD3 := (cells_heap hC3).1); (try have hE3 := (cells_heap hC3).2.1); (try have hF3 := (cells_heap hC3).2.2.1); (try have hG3 := (cells_heap hC3).2.2.2.1); (try have hC4 := hS.cell (i := 4) rfl); (try have hD4 := (cells_heap hC4).1); (try have hE4 := (cells_heap hC4).2.1); (try have hF4 := (cells_heap hC4).2.2.1); (try have hG4 := (cells_heap hC4).2.2.2.1); (try have hM0 := hS.map (i := 0) rfl); (try have hM1 := hS.map (i := 1) rfl); (try have hM2 := hS.map (i := 2) rfl); (try have hM3 := hS.map (i := 3) rfl); (try have hM4 := hS.map (i := 4) rfl); (obtain ⟨a2, rfl⟩ : ∃ x, x = a' := ⟨_, rfl⟩; obtain ⟨cp2, rfl⟩ : ∃ x, x = cap' := ⟨_, rfl⟩))
      | (apply WL.storeO (z' := (2 * (((cS3 c.t k).1 ++ [(litI (cS3 c.t k).2 g.2.1, litI (cS3 c.t k).2 g.2.2)]).length : Int))) tOk; exact rfl; exact rfl; exact rfl; exact rfl; assumption; (exact extA); exact rfl; exact rfl; exact rfl; exact encI_ok; assumption; exact rfl; (exact extA); intro w' hO hX' hU; (first | replace hS := Sep.updRow (i := 0) rfl hU hO (.inl rfl) hS (by (exact extA)) (by (first | exact Nat.le_refl _ | exact Below.size (by (exact extA)))) | replace hS := Sep.updRow (i := 1) rfl hU hO (.inl rfl) hS (by (exact extA)) (by (first | exact Nat.le_refl _ | exact Below.size (by (exact extA)))) | replace hS := Sep.updRow (i := 2) rfl hU hO (.inl rfl) hS (by (exact extA)) (by (first | exact Nat.le_refl _ | exact Below.size (by (exact extA)))) | replace hS := Sep.updRow (i := 3) rfl hU hO (.inl rfl) hS (by (exact extA)) (by (first | exact Nat.le_refl _ | exact Below.size (by (exact extA)))) | replace hS := Sep.updRow (i := 4) rfl hU hO (.inl rfl) hS (by (exact extA)) (by (first | exact Nat.le_refl _ | exact Below.size (by (exact extA)))) | replace hS := Sep.updRow (i := 5) rfl hU hO (.inl rfl) hS (by (exact extA)) (by (first | exact Nat.le_refl _ | exact Below.size (by (exact extA))))); (try simp only [List.set_cons_zero, List.set_cons_succ] at hS); (try have hR0 := hS.row (i := 0) rfl); (try have hR1 := hS.row (i := 1) rfl); (try have hR2 := hS.row (i := 2) rfl); (try have hR3 := hS.row (i := 3) rfl); (try have hR4 := hS.row (i := 4) rfl); (try have hC0 := hS.cell (i := 0) rfl); (try have hD0 := (cells_heap hC0).1); (try have hE0 := (cells_heap hC0).2.1); (try have hF0 := (cells_heap hC0).2.2.1); (try have hG0 := (cells_heap hC0).2.2.2.1); (try have hC1 := hS.cell (i := 1) rfl); (try have hD1 := (cells_heap hC1).1); (try have hE1 := (cells_heap hC1).2.1); (try have hF1 := (cells_heap hC1).2.2.1); (try have hG1 := (cells_heap hC1).2.2.2.1); (try have hC2 := hS.cell (i := 2) rfl); (try have hD2 := (cells_heap hC2).1); (try have hE2 := (cells_heap hC2).2.1); (try have hF2 := (cells_heap hC2).2.2.1); (try have hG2 := (cells_heap hC2).2.2.2.1); (try have hC3 := hS.cell (i := 3) rfl); (try have hD3 := (cells_heap hC3).1); (try have hE3 := (cells_heap hC3).2.1); (try have hF3 := (cells_heap hC3).2.2.1); (try have hG3 := (cells_heap hC3).2.2.2.1); (try have hC4 := hS.cell (i := 4) rfl); (try have hD4 := (cells_heap hC4).1); (try have hE4 := (cells_heap hC4).2.1); (try have hF4 := (cells_heap hC4).2.2.1); (try have hG4 := (cells_heap hC4).2.2.2.1); (try have hM0 := hS.map (i := 0) rfl); (try have hM1 := hS.map (i := 1) rfl); (try have hM2 := hS.map (i := 2) rfl); (try have hM3 := hS.map (i := 3) rfl); (try have hM4 := hS.map (i := 4) rfl))
      | (apply WL.indexO tOk; exact rfl; exact rfl; exact rfl; exact rfl; exact rfl; exact rfl; exact rfl; exact rfl; assumption; (exact extA); exact encI_ok; (first | exact rfl | (focus (simp only [List.length_set]; done)) | (focus (simp; done)) | (focus (simp [*]; done)) | omega | (focus (simp only [List.length_set]; omega))); omega; assumption; intro gb ha hc; cases ha; have hcc := hc; first | (obtain ⟨h1, h2, h3, _⟩ := hc) | (obtain ⟨h1, h2, _⟩ := hc) | (obtain ⟨h1, _⟩ := hc))
      | (show WL _ _ _ _ _ _ _; first | apply WL.nil | (refine WL.au (k := ?_)))
      | (show SG _ _ _ _ _ _ _ _ _; first | apply SG.done | (apply SG.fl0; exact rfl) | (apply SG.br1; exact rfl) | (apply SG.br; exact rfl))
      | (show FL _ _ _ _ _ _ _ _; first | apply FL.nilS | (refine FL.au (k := ?_)))
      | (show Z _ _ _ _ _; (apply Z.sgL; exact rfl))
      | (show Z _ _ _ _ _; first | apply Z.then_normal | apply Z.block_normal)
      | (show W _ _ _ _ _ _; apply W.region)
      | fail)
    all_goals
      rw [le5] at hS
      exact Z.againO2 a2 cp2 (some ⟨gb, 0, none⟩) dp ⟨by omega, (by (exact extA)), by rw [e1]; exact hS.drop 1⟩ (by repeat' first | exact trivial | (refine And.intro ?_ ?_) | exact rfl | (rw [e1]; exact rfl) | (rw [e1]; show _ = some (Value.slice _ (List.set _ _ _).length _); rw [List.length_set]; exact rfl))
  obtain rfl : k = (ordL c.gates.2.2).length := by omega
  repeat' (first
    | (apply W.condKF; exact rfl; (focus (exact dec_false (by omega); done)))
    | (show WL _ _ _ _ _ _ _; first | apply WL.nil | (refine WL.au (k := ?_)))
    | (show Z _ _ _ _ _; first | apply Z.then_normal | apply Z.then_exit | apply Z.block_exit)
    | (show W _ _ _ _ _ _; first | apply W.seq | apply W.region | apply W.ret | apply W.exit)
    | fail)
  have e39 : cS3 c.t (ordL c.gates.2.2).length = cNet c.t := cS3_all c.t
  rw [e39] at hR1 hR2
  have hwc := Below.size hxc
  exact Z.body2 Try.results60 rfl rfl fun m => ⟨Ext.at (by (exact extA)) m, a, cp, d, dp, by rw [e39], (hR2.base hwc).ext ((Ext.refl _).at m), (hR1.base hwc).ext ((Ext.refl _).at m)⟩
end Go.Proofs.Ytlcenenkloicjaa
namespace Go.Proofs.Ytlcenenkloicjaa
open Go Go.Lt Go.RowKit
set_option linter.unusedVariables false
set_option linter.unusedSimpArgs false
set_option maxRecDepth 20000

/-- So many values of some. -/
def brV (l : List Bool) (m : Nat) : List Bool := (List.range m).map fun i => l.getD i false
theorem brV_len (l : List Bool) (m : Nat) : (brV l m).length = m := by simp [brV]
theorem brV_get (l : List Bool) {m i : Nat} (h : i < m) : (brV l m)[i]? = some (l.getD i false) := by
  unfold brV; rw [List.getElem?_map, List.getElem?_range h]; rfl
theorem brV_succ (l : List Bool) (m : Nat) : brV l (m + 1) = brV l m ++ [l.getD m false] := by
  unfold brV; rw [List.range_succ, List.map_append]; rfl
noncomputable def insV (c : CirT) (s i : List Bool) : List Bool := brV i c.ins.length ++ brV s c.lat.length
noncomputable def stepV (c : CirT) (s i : List Bool) : List Bool := values (cNet c).1 (insV c s i)
/-- A literal's value in a state, with an input. -/
noncomputable def litV (c : CirT) (s i : List Bool) (l : Int) : Bool := ofL (stepV c s i) (litI (cNet c).2 l)
theorem litV_ref {A : List Int} {V : List Bool} {l z : Int} (h1 : A[(l / 2).toNat]? = some z) (h2 : 0 ≤ z) : (ofL V z != decide (l % 2 = 1)) = ofL V (litI A l) := by
  rw [litI_some h1]
  unfold xorI
  by_cases h : l % 2 = 1
  · rw [if_pos h, ofL_xor1 _ h2, decide_eq_true h]; simp
  · rw [if_neg h, decide_eq_false h]; simp
theorem used_next {c : CirT} {x : T3} (h : x ∈ c.lat) : x.2.1 ∈ c.used := List.mem_append_left _ (List.mem_append_right _ (List.mem_map.2 ⟨x, h, rfl⟩))
theorem net_len {c : CirT} (h : GoodC' c) (hz : SzC c 100000) : (cNet c).1.length ≤ 300000 := by
  rw [(cNet_ok h).1.len1]
  have h2 := (ordL_is c.gates).1.le
  obtain ⟨z1, z2, z3, z4, z5, z6⟩ := hz
  show (c.ins ++ c.lat.map (·.1) ++ (ordL c.gates).map (fun i => (gAt c.gates i).1)).length ≤ _
  simp; omega
end Go.Proofs.Ytlcenenkloicjaa
namespace Go.Proofs.Ytlcenenkloicjaa
open Go Go.Lt Go.RowKit
set_option linter.unusedVariables false
set_option linter.unusedSimpArgs false
set_option maxRecDepth 20000

def KnL (c : CirT) (l : Int) : Prop := 0 ≤ l ∧ (1 < l → l - l % 2 ∈ c.own)
theorem knL_lit {c : CirT} (h : GoodC' c) {l : Int} (hl : KnL c l) : ∃ z, (cNet c).2[(l / 2).toNat]? = some z ∧ 0 ≤ z ∧ z % 2 = 0 ∧ z ≤ 2 * ((cNet c).1.length : Int) := by
  have h0 := (cNet_ok h).1
  refine h0.ge ?_
  rcases Int.lt_or_le 1 l with h2 | h2
  · exact .inr ⟨_, seq_all h (hl.2 h2), by omega⟩
  · left; have := hl.1; omega
theorem knL_max {c : CirT} (h : GoodC' c) {l : Int} (hl : KnL c l) : l ≤ 2 * c.max + 1 := by
  have hm := h.max
  by_cases h1 : 1 < l
  · have := h.own _ (hl.2 h1); omega
  · omega
theorem knL_range {c : CirT} (h : GoodC' c) {l : Int} (hl : KnL c l) : 0 ≤ litI (cNet c).2 l ∧ litI (cNet c).2 l ≤ 2 * ((cNet c).1.length : Int) + 1 := by
  obtain ⟨z, h1, h2, h3, h4⟩ := knL_lit h hl
  rw [litI_some h1]
  unfold xorI Lt.xor1
  split <;> (try split) <;> omega
theorem cIn_nodes : ∀ (ls : List Int) (s : NA), (cIn s ls).1 = s.1 ++ ls.map (fun _ => ((-1, 0) : Int × Int))
  | [], s => by simp [cIn]
  | l :: ls, s => by
    have ih := cIn_nodes ls (cput s l (-1, 0))
    show (cIn (cput s l (-1, 0)) ls).1 = _
    rw [ih]
    simp [cput]
theorem net_nodes {c : CirT} (h : GoodC' c) : ∀ k, k ≤ (ordL c.gates).length →
    ∀ (j : Nat) x, (cGates c.gates (cIn ([], cAt0 c.max) c.inl) ((ordL c.gates).take k)).1[j]? = some x → (x.1 < 0 ↔ j < c.inl.length) := by
  intro k
  induction k with
  | zero =>
    intro _ j x hx
    have e : (cGates c.gates (cIn ([], cAt0 c.max) c.inl) ((ordL c.gates).take 0)).1 = c.inl.map (fun _ => ((-1, 0) : Int × Int)) := by
      show (cIn ([], cAt0 c.max) c.inl).1 = _
      rw [cIn_nodes]; rfl
    rw [e, List.getElem?_map] at hx
    cases hl : c.inl[j]? with
    | none => rw [hl] at hx; cases hx
    | some y =>
      rw [hl] at hx
      rw [← Option.some.inj hx]
      exact ⟨fun _ => lt_of_get hl, fun _ => (show (-1 : Int) < 0 by decide)⟩
  | succ k ih =>
    intro hk j x hx
    obtain ⟨i, hi⟩ := getI (ordL c.gates) (show k < _ by omega)
    have ih' := ih (by omega)
    have h1 := (net_to h k (by omega)).1
    have hO := (ordL_is c.gates).1
    obtain ⟨g, hg, hn, hr⟩ := (hO k i hi).1
    have hm' := List.mem_of_getElem? hg
    have ua : g.2.1 ∈ c.used := List.mem_append_right _ (List.mem_flatMap.2 ⟨g, hm', by simp⟩)
    obtain ⟨za, a1, a2, a3, a4⟩ := h1.ge (used_put h ua fun j x hx hj => (hr j x hx hj).1)
    have eg : gAt c.gates i = g := gAt_of hg
    rw [take_succ' hi, cGates_snoc] at hx
    unfold cGate at hx
    rw [eg] at hx
    have hx' : ((cGates c.gates (cIn ([], cAt0 c.max) c.inl) ((ordL c.gates).take k)).1 ++ [_])[j]? = some x := hx
    rw [litI_some a1] at hx'
    have hlen := h1.len1
    rw [List.length_append] at hlen
    by_cases hj : j < (cGates c.gates (cIn ([], cAt0 c.max) c.inl) ((ordL c.gates).take k)).1.length
    · rw [List.getElem?_append_left hj] at hx'; exact ih' j x hx'
    · rw [List.getElem?_append_right (by omega)] at hx'
      have h0 : j - (cGates c.gates (cIn ([], cAt0 c.max) c.inl) ((ordL c.gates).take k)).1.length = 0 := by have := lt_of_get hx'; simpa using this
      rw [h0] at hx'
      simp only [List.getElem?_cons_zero, Option.some.injEq] at hx'
      subst hx'
      have ka : 0 ≤ xorI za (g.2.1 % 2) := by unfold xorI Lt.xor1; split <;> (try split) <;> omega
      constructor
      · intro hh; dsimp only at hh; omega
      · intro hh; omega
theorem net_in {c : CirT} (h : GoodC' c) {j : Nat} {x : Int × Int} (hx : (cNet c).1[j]? = some x) : x.1 < 0 ↔ j < c.inl.length := by
  have := net_nodes h (ordL c.gates).length (Nat.le_refl _) j x
  rw [List.take_length] at this
  exact this hx
theorem inl_len (c : CirT) : c.inl.length = c.ins.length + c.lat.length := by show (c.ins ++ c.lat.map (·.1)).length = _; simp
theorem net_cnt {c : CirT} (h : GoodC' c) : ∀ k, k ≤ (cNet c).1.length → cnt (cNet c).1 k = min k c.inl.length
  | 0, _ => by simp [cnt]
  | k + 1, hk => by
    obtain ⟨x, hx⟩ := getI (cNet c).1 (show k < _ by omega)
    have ih := net_cnt h k (by omega)
    have hi := net_in h hx
    by_cases hin : x.1 < 0
    · have := hi.1 hin
      rw [cnt_in hx hin, ih]; omega
    · have : ¬ k < c.inl.length := fun hh => hin (hi.2 hh)
      rw [cnt_gate hx hin, ih]; omega
theorem net_all {c : CirT} (h : GoodC' c) : cnt (cNet c).1 (cNet c).1.length = c.ins.length + c.lat.length := by
  rw [net_cnt h _ (Nat.le_refl _), inl_len]
  have h1 := (cNet_ok h).1.len1
  have h2 : (c.inl ++ (ordL c.gates).map (fun i => (gAt c.gates i).1)).length = c.inl.length + (ordL c.gates).length := by rw [List.length_append, List.length_map]
  rw [show c.seq = c.inl ++ (ordL c.gates).map (fun i => (gAt c.gates i).1) from rfl, h2, inl_len] at h1
  omega

def b3 (b : Bool) : Int := if b = true then 1 else 0
def v3 (l : List Bool) : List Int := l.map b3
theorem v3_len (l : List Bool) : (v3 l).length = l.length := List.length_map _
noncomputable def lifI (c : CirT) (s i : List Bool) : List Int := v3 (brV i c.ins.length) ++ v3 (brV s c.lat.length)
noncomputable def lifW (c : CirT) (want : List Int) : List Int := want.map (litI (cNet c).2)
def lifK (c : CirT) : List Bool := List.replicate c.ins.length true
noncomputable def lifD (c : CirT) (s i : List Bool) (want : List Int) : List Int := dropL (cNet c).1 (lifI c s i) (lifW c want) (lifK c)
def LifP (c : CirT) (s i : List Bool) (want : List Int) : Prop := SureP (cNet c).1 (lifI c s i) (lifW c want)
/-- The cube of the first m latches. -/
def cubV (d : List Int) (ni : Nat) : Nat → List Int
  | 0 => []
  | m + 1 => cubV d ni m ++ (if d.getD (ni + m) 2 = 2 then [] else [2 * (m : Int) + 1 - d.getD (ni + m) 2])
noncomputable def lifC (c : CirT) (s i : List Bool) (want : List Int) : List Int := cubV (lifD c s i want) c.ins.length c.lat.length
theorem cubV_len (d : List Int) (ni : Nat) : ∀ m, (cubV d ni m).length ≤ m
  | 0 => Nat.le_refl _
  | m + 1 => by
    have := cubV_len d ni m
    unfold cubV
    rw [List.length_append]
    split <;> simp <;> omega
theorem cubV_mem {d : List Int} {ni m j : Nat} (hj : j < m) (h : d.getD (ni + j) 2 ≠ 2) : 2 * (j : Int) + 1 - d.getD (ni + j) 2 ∈ cubV d ni m := by
  induction m with
  | zero => omega
  | succ m ih =>
    unfold cubV
    by_cases e : j = m
    · subst e; rw [if_neg h]; simp
    · exact List.mem_append_left _ (ih (by omega))
theorem lifI_len (c : CirT) (s i : List Bool) : (lifI c s i).length = c.ins.length + c.lat.length := by unfold lifI; rw [List.length_append, v3_len, v3_len, brV_len, brV_len]
theorem lifI_in {c : CirT} {s i : List Bool} {k : Nat} (h : k < c.ins.length) : tin (lifI c s i) k = b3 (i.getD k false) := by
  unfold tin lifI v3
  have e : (((brV i c.ins.length).map b3) ++ ((brV s c.lat.length).map b3))[k]? = some (b3 (i.getD k false)) := by
    rw [List.getElem?_append_left (by rw [List.length_map, brV_len]; exact h), List.getElem?_map, brV_get i h]; rfl
  rw [getD_of e]; unfold b3 val3; split <;> rfl
theorem lifI_lat {c : CirT} {s i : List Bool} {k : Nat} (h : k < c.lat.length) : tin (lifI c s i) (c.ins.length + k) = b3 (s.getD k false) := by
  unfold tin lifI v3
  have e : (((brV i c.ins.length).map b3) ++ ((brV s c.lat.length).map b3))[c.ins.length + k]? = some (b3 (s.getD k false)) := by
    rw [List.getElem?_append_right (by rw [List.length_map, brV_len]; omega), List.length_map, brV_len, Nat.add_sub_cancel_left, List.getElem?_map, brV_get s h]; rfl
  rw [getD_of e]; unfold b3 val3; split <;> rfl
theorem tin_tab {n : List (Int × Int)} {ins : List Int} {c : Nat} : tin (tab (cnt n n.length) (tin ins)) c = if c < cnt n n.length then tin ins c else 2 := by
  by_cases h : c < cnt n n.length
  · rw [if_pos h]
    unfold tin
    rw [getD_of (tab_get _ h)]
    unfold val3; split <;> (try split) <;> omega
  · rw [if_neg h]
    unfold tin
    rw [List.getD, List.getElem?_eq_none (by rw [tab_len]; omega)]; rfl
/-- Which state is in a cube. -/
def InCube (k : List Int) (st : List Bool) : Prop := ∀ x ∈ k, 0 ≤ x ∧ (x / 2).toNat < st.length ∧ st.getD (x / 2).toNat false = decide (x % 2 = 0)
section
variable {c : CirT} {s i : List Bool} {want : List Int}
theorem sure_tab (h : GoodC' c) (hn : (cNet c).1.length ≤ 1048576) (hs : LifP c s i want) : SureP (cNet c).1 (tab (cnt (cNet c).1 (cNet c).1.length) (tin (lifI c s i))) (lifW c want) := by
  refine sure_mono (cNet_ok h).2 hn (fun q => ?_) hs
  rw [tin_tab]
  by_cases hq : q < cnt (cNet c).1 (cNet c).1.length
  · rw [if_pos hq]; exact .inr rfl
  · rw [if_neg hq]
    left
    unfold tin
    rw [List.getD, List.getElem?_eq_none (by rw [lifI_len, ← net_all h]; omega)]; rfl
theorem lifD_len (h : GoodC' c) (hn : (cNet c).1.length ≤ 1048576) (hs : LifP c s i want) : (lifD c s i want).length = c.ins.length + c.lat.length := by
  unfold lifD dropL
  rw [if_pos (sure_tab h hn hs), dropTo_len, net_all h]
theorem dropTo_keep {n : List (Int × Int)} {ins l : List Int} {keep : List Bool} {q : Nat} (hk : keep.getD q false = true) : ∀ k, (dropTo n ins l keep k).getD q 2 = (tab (cnt n n.length) (tin ins)).getD q 2
  | 0 => rfl
  | k + 1 => by
    rw [dropTo, dstep]
    by_cases hq : k = q
    · subst hq; rw [if_pos (.inr hk)]; exact dropTo_keep hk k
    · split
      · exact dropTo_keep hk k
      · split
        · rw [List.getD, List.getElem?_set, if_neg hq]; exact dropTo_keep hk k
        · exact dropTo_keep hk k
theorem lifD_in (h : GoodC' c) (hn : (cNet c).1.length ≤ 1048576) (hs : LifP c s i want) {q : Nat} (hq : q < c.ins.length) : (lifD c s i want).getD q 2 = b3 (i.getD q false) := by
  unfold lifD dropL
  rw [if_pos (sure_tab h hn hs), dropTo_keep (by unfold lifK; rw [List.getD, List.getElem?_replicate, if_pos hq]; rfl)]
  rw [tab_getD _ _ (by rw [net_all h]; omega), lifI_in hq]
theorem lifD_lat (h : GoodC' c) (hn : (cNet c).1.length ≤ 1048576) (hs : LifP c s i want) {q : Nat} (hq : q < c.lat.length) : (lifD c s i want).getD (c.ins.length + q) 2 = 2 ∨ (lifD c s i want).getD (c.ins.length + q) 2 = b3 (s.getD q false) := by
  unfold lifD dropL
  rw [if_pos (sure_tab h hn hs)]
  rcases dropTo_le (n := (cNet c).1) (ins := lifI c s i) (l := lifW c want) (keep := lifK c) (k := 0) (Nat.zero_le (cnt (cNet c).1 (cNet c).1.length)) (c.ins.length + q) with h1 | h1
  · exact .inl h1
  · right
    rw [h1]
    show (tab (cnt (cNet c).1 (cNet c).1.length) (tin (lifI c s i))).getD (c.ins.length + q) 2 = _
    rw [tab_getD _ _ (by rw [net_all h]; omega), lifI_lat hq]
/-- All states in the cube have the literals. -/
theorem lift_all (h : GoodC' c) (hn : (cNet c).1.length ≤ 300000) (hs : LifP c s i want) (hw : ∀ x ∈ want, KnL c x) {st : List Bool} (hl : st.length = c.lat.length) (hc : InCube (lifC c s i want) st) : ∀ x ∈ want, litV c st i x = true := by
  have hg := (cNet_ok h).2
  have hsd : SureP (cNet c).1 (lifD c s i want) (lifW c want) := by
    unfold lifD dropL
    rw [if_pos (sure_tab h (by omega) hs)]
    exact dropTo_sure (sure_tab h (by omega) hs) _
  have hfull : ∀ k x, (cNet c).1[k]? = some x → x.1 < 0 → (tin (lifD c s i want) (cnt (cNet c).1 k) = 0 → (insV c st i).getD (cnt (cNet c).1 k) false = false) ∧ (tin (lifD c s i want) (cnt (cNet c).1 k) = 1 → (insV c st i).getD (cnt (cNet c).1 k) false = true) := by
    intro k x hx hin
    have hk := (net_in h hx).1 hin
    have hkl := lt_of_get hx
    rw [net_cnt h k (by omega), Nat.min_eq_left (by omega)]
    rw [inl_len] at hk
    by_cases hki : k < c.ins.length
    · have e1 : (insV c st i).getD k false = i.getD k false := by
        unfold insV
        rw [List.getD, List.getElem?_append_left (by rw [brV_len]; exact hki), brV_get i hki]; rfl
      have e2 : tin (lifD c s i want) k = b3 (i.getD k false) := by
        unfold tin; rw [lifD_in h (by omega) hs hki]; unfold b3 val3; split <;> rfl
      rw [e1, e2]
      unfold b3
      cases i.getD k false <;> simp
    · obtain ⟨q, rfl⟩ : ∃ q, k = c.ins.length + q := ⟨k - c.ins.length, by omega⟩
      have hq : q < c.lat.length := by omega
      have e1 : (insV c st i).getD (c.ins.length + q) false = st.getD q false := by
        unfold insV
        rw [List.getD, List.getElem?_append_right (by rw [brV_len]; omega), brV_len, Nat.add_sub_cancel_left, brV_get st hq]; rfl
      rw [e1]
      have hd := lifD_lat h (by omega) hs hq
      by_cases h2 : (lifD c s i want).getD (c.ins.length + q) 2 = 2
      · have e2 : tin (lifD c s i want) (c.ins.length + q) = 2 := by unfold tin; rw [h2]; rfl
        rw [e2]; exact ⟨fun hh => by omega, fun hh => by omega⟩
      · have hd2 := hd.resolve_left h2
        have hm := hc _ (cubV_mem hq h2)
        rw [hd2] at hm
        have e2 : tin (lifD c s i want) (c.ins.length + q) = b3 (s.getD q false) := by
          unfold tin; rw [hd2]; unfold b3 val3; split <;> rfl
        rw [e2]
        unfold b3 at hm ⊢
        cases hb : s.getD q false with
        | true =>
          rw [hb] at hm
          simp only [if_true] at hm ⊢
          have ei : ((2 * (q : Int) + 1 - 1) / 2).toNat = q := by omega
          rw [ei] at hm
          have := hm.2.2
          rw [decide_eq_true (by omega)] at this
          exact ⟨fun hh => by omega, fun _ => this⟩
        | false =>
          rw [hb] at hm
          simp only [Bool.false_eq_true, if_false] at hm ⊢
          have ei : ((2 * (q : Int) + 1 - 0) / 2).toNat = q := by omega
          rw [ei] at hm
          have := hm.2.2
          rw [decide_eq_false (by omega)] at this
          exact ⟨fun _ => this, fun hh => by omega⟩
  have hsnd := tern_sound hg (by omega) hfull
  intro x hx
  have hr := knL_range h (hw x hx)
  have h1 := hsd _ (List.mem_map.2 ⟨x, hx, rfl⟩)
  have hlt : (litI (cNet c).2 x / 2).toNat ≤ (cNet c).1.length := by omega
  rw [lit3_tl (tvals_zero _ _) hr.1 (by rw [tvals_len]; omega) (by omega)] at h1
  have h2 := hsnd _ hlt
  show ofL (values (cNet c).1 (insV c st i)) (litI (cNet c).2 x) = true
  unfold tl at h1
  unfold ofL
  rw [tvals_three hg (by omega)] at h1
  by_cases hy : litI (cNet c).2 x % 2 = 1
  · rw [if_pos hy] at h1
    rw [decide_eq_true hy]
    unfold not3 at h1
    rw [h2.1 (by split at h1 <;> (try split at h1) <;> omega)]; rfl
  · rw [if_neg hy] at h1
    rw [decide_eq_false hy, h2.2 h1]; rfl
end
end Go.Proofs.Ytlcenenkloicjaa
namespace Go.Proofs.Ytlcenenkloicjaa
open Go Go.Lt Go.RowKit
set_option linter.unusedVariables false
set_option linter.unusedSimpArgs false
set_option maxRecDepth 20000

theorem rs_Not (l : Int) (w : World) (h : l ≤ 9223372036854775807) : Still Try.prog 78 [.int .i64 l] w (.int .i64 (notL l)) := by
  refine Spec.of _ Try.func78 rfl Try.ntmps78 (by kernel_rfl) rfl ?_
  repeat' (first
    | (show WL _ _ _ _ _ _ _; first | apply WL.nil | (refine WL.au (k := ?_)))
    | (show Z _ _ _ _ _; first | apply Z.then_normal | apply Z.then_ret)
    | (show W _ _ _ _ _ _; first | apply W.seq | apply W.region | apply W.skip | apply W.ret | (apply W.condD; exact rfl; all_goals intro _))
    | fail)
  all_goals (refine Z.body1 Try.results78 rfl fun m => ⟨?_, m, rfl⟩; congr 1; unfold notL Lt.xor1; first | (rw [if_pos (by assumption)]; done) | (rw [if_neg (by assumption), if_pos (by omega)]; done) | (rw [if_neg (by assumption), if_neg (by omega)]; done))
end Go.Proofs.Ytlcenenkloicjaa
namespace Go.Proofs.Ytlcenenkloicjaa
open Go Go.Lt Go.RowKit
set_option linter.unusedVariables false
set_option linter.unusedSimpArgs false
set_option maxRecDepth 20000

/-- A machine in memory: the circuit, its net, and where its variables are. -/
structure MAt (w : World) (gm : Nat) (c : Circ) (rn : RowV (Int × Int)) (ra : RowV Int) : Prop where
  cells : Cells w gm 0 (c.vals ++ [rowVal rn, rowVal ra])
  cat : CAt w c
  net : Row 2 encN w rn.1 rn.2.2
  at_ : Row 1 encI w ra.1 ra.2.2
  en : rn.2.2 = (cNet c.t).1
  ea : ra.2.2 = (cNet c.t).2
  good : GoodC' c.t
  size : SzC c.t 100000
theorem MAt.ext {w w' : World} {gm : Nat} {c : Circ} {rn : RowV (Int × Int)} {ra : RowV Int} (h : MAt w gm c rn ra) (hx : Ext w w') : MAt w' gm c rn ra :=
  ⟨h.cells.ext hx, h.cat.ext hx, h.net.ext hx, h.at_.ext hx, h.en, h.ea, h.good, h.size⟩

theorem ref17_Brought (a : Option Addr) (cap : Nat) (l : List Bool) (m : Nat) (w : World) (R : Row 1 encB w a l) (hm : m ≤ 1048576) :
    Lt.Spec Try.prog 35 [.slice a l.length cap, .int .i64 (m : Nat)] w (IsFresh 1 encB 4 w (brV l m)) := by
  have hlen := R.len
  refine Spec.of _ Try.func35 rfl Try.ntmps35 (by kernel_rfl) rfl ?_
  repeat' (first
    | (apply WL.lit (len := 0) tOk; exact rfl; exact rfl; exact rfl; exact rfl; exact rfl; exact rfl; (first | exact rfl | kernel_rfl | (simp [Instr.fill, catCells]; done)); exact rfl; intro gb w' hb hge hc hx; have hO0 := Own.of_block0 (enc := encB) (s := 1) hb hge)
    | (show WL _ _ _ _ _ _ _; first | apply WL.nil | (refine WL.au (k := ?_)))
    | (show Z _ _ _ _ _; apply Z.then_normal)
    | (show W _ _ _ _ _ _; first | apply W.seq | apply W.region | apply W.block)
    | fail)
  refine W.loopO m (fun k d dp w' => k ≤ m ∧ Ext w w' ∧ Own 1 encB 4 w.heap.size w' d dp (brV l k)) (fun k d dp => [(0, .slice a l.length cap), (1, .int .i64 (m : Nat)), (5, .slice d (brV l k).length dp), (6, .int .i64 k)]) (some ⟨gb, 0, none⟩) 0 ⟨Nat.zero_le _, hx, hO0⟩ (fun k d dp w' h => h.1) ⟨rfl, rfl, rfl, rfl, trivial⟩ ?_
  rintro k d dp w' ⟨hk, hx', hO'⟩
  have hbl := brV_len l k
  have e1 := brV_succ l k
  by_cases hlt : k < m
  · by_cases hkl : k < l.length
    · obtain ⟨z, hz⟩ := getI l hkl
      rw [getD_of hz] at e1
      repeat' (first
        | (apply WL.gT; exact rfl; exact rfl; (focus (first | exact dec_true (by omega); done)))
        | (apply W.condKT; exact rfl; (focus (first | exact dec_true (by omega); done)))
        | (apply WL.lit tOk; exact rfl; exact rfl; exact rfl; exact rfl; exact rfl; exact rfl; (first | exact rfl | kernel_rfl | (simp [Instr.fill, catCells]; done)); exact rfl; intro gb w' hb hge hc hx)
        | (apply WL.append1 (z := (z)) tOk encB_ok; exact rfl; exact rfl; exact rfl; exact rfl; exact rfl; exact rfl; exact rfl; exact rfl; exact rfl; exact rfl; assumption; (exact extA); (first | exact rfl | (focus (simp only [List.length_set]; done)) | (focus (simp; done)) | (focus (simp [*]; done)) | omega | (focus (simp only [List.length_set]; omega))); (first | assumption | (refine Cells.ext ?_ (by assumption); exact extA)); exact rfl; exact rfl; (exact extA); (first | omega | (simp; omega) | (simp at *; omega)); intro a' cap' w' hO hX' hU hF)
        | (show WL _ _ _ _ _ _ _; first | apply WL.nil | (refine WL.au (k := ?_)) | (apply WL.index tOk; exact rfl; exact rfl; exact rfl; exact rfl; exact rfl; exact rfl; exact rfl; exact rfl; assumption; (exact extA); exact rfl; omega; assumption; intro b off h; have hcc := h; first | (obtain ⟨h1, h2, h3, h4, h5, h6, _⟩ := h) | (obtain ⟨h1, h2, h3, _⟩ := h) | (obtain ⟨h1, h2, _⟩ := h) | (obtain ⟨h1, _⟩ := h)))
        | (show Z _ _ _ _ _; first | apply Z.then_normal | apply Z.block_normal)
        | (show W _ _ _ _ _ _; first | apply W.seq | apply W.region | apply W.block | apply W.skip)
        | fail)
      exact Z.againO a' cap' ⟨by omega, hX', by rw [e1]; exact hO⟩ (by repeat' first | exact trivial | (refine And.intro ?_ ?_) | exact rfl | (rw [e1]; exact rfl))
    · rw [List.getD, List.getElem?_eq_none (by omega)] at e1
      have e1 : brV l (k + 1) = brV l k ++ [false] := e1
      repeat' (first
        | (apply WL.gF; exact rfl; exact rfl; (focus (first | exact dec_true (by omega) | exact dec_false (by omega); done)))
        | (apply W.condKT; exact rfl; (focus (first | exact dec_true (by omega) | exact dec_false (by omega); done)))
        | (apply WL.lit tOk; exact rfl; exact rfl; exact rfl; exact rfl; exact rfl; exact rfl; (first | exact rfl | kernel_rfl | (simp [Instr.fill, catCells]; done)); exact rfl; intro gb w' hb hge hc hx)
        | (apply WL.append1 (z := (false)) tOk encB_ok; exact rfl; exact rfl; exact rfl; exact rfl; exact rfl; exact rfl; exact rfl; exact rfl; exact rfl; exact rfl; assumption; (exact extA); (first | exact rfl | (focus (simp only [List.length_set]; done)) | (focus (simp; done)) | (focus (simp [*]; done)) | omega | (focus (simp only [List.length_set]; omega))); (first | assumption | (refine Cells.ext ?_ (by assumption); exact extA)); exact rfl; exact rfl; (exact extA); (first | omega | (simp; omega) | (simp at *; omega)); intro a' cap' w' hO hX' hU hF)
        | (show WL _ _ _ _ _ _ _; first | apply WL.nil | (refine WL.au (k := ?_)) | (apply WL.guardF; exact rfl; exact rfl))
        | (show Z _ _ _ _ _; first | apply Z.then_normal | apply Z.block_normal)
        | (show W _ _ _ _ _ _; first | apply W.seq | apply W.region | apply W.block | apply W.skip)
        | fail)
      exact Z.againO a' cap' ⟨by omega, hX', by rw [e1]; exact hO⟩ (by repeat' first | exact trivial | (refine And.intro ?_ ?_) | exact rfl | (rw [e1]; exact rfl))
  · obtain rfl : k = m := by omega
    repeat' (first
      | (apply W.condKF; exact rfl; (focus (exact dec_false (by omega); done)))
      | (show WL _ _ _ _ _ _ _; first | apply WL.nil | (refine WL.au (k := ?_)))
      | (show Z _ _ _ _ _; first | apply Z.then_normal | apply Z.then_exit | apply Z.block_exit)
      | (show W _ _ _ _ _ _; first | apply W.seq | apply W.region | apply W.ret | apply W.exit)
      | fail)
    exact Z.body1 Try.results35 rfl fun m => ⟨hx'.at m, d, dp, rfl, hO'⟩

end Go.Proofs.Ytlcenenkloicjaa
namespace Go.Lt
open Go.RowKit
set_option linter.unusedVariables false

theorem OwnRR.nil {α : Type} {s : Nat} {enc : α → List Value} {el elO B : Nat} {w : World} {a : Option Addr} {cap : Nat} (h : Own 1 encRow elO B w a cap ([] : List (RowV α))) : OwnRR s enc el elO B w a cap [] :=
  ⟨h, fun i r hr => by simp at hr, fun i r hr => by simp at hr, fun i j r q hr => by simp at hr⟩
/-- Rows told, and one more that is not put behind yet. -/
structure RR1 {α : Type} (s : Nat) (enc : α → List Value) (el elO B : Nat) (w : World) (a : Option Addr) (cap : Nat) (rs : List (RowV α)) (b : Option Addr) (dp : Nat) (S : List α) : Prop where
  rr : OwnRR s enc el elO B w a cap rs
  own : Own s enc el B w b dp S
  apartO : blk b = none ∨ blk b ≠ blk a
  apart : ∀ (i : Nat) (q : RowV α), rs[i]? = some q → blk q.1 = none ∨ blk q.1 ≠ blk b
section
variable {α : Type} {s : Nat} {enc : α → List Value} {el elO B : Nat} {w w1 w2 w3 : World} {a a' b : Option Addr} {cap cap' dp : Nat} {rs : List (RowV α)} {S : List α}
theorem RR1.ext (h : RR1 s enc el elO B w a cap rs b dp S) (hx : Ext w w1) : RR1 s enc el elO B w1 a cap rs b dp S := ⟨h.rr.ext hx, h.own.ext hx, h.apartO, h.apart⟩
theorem RR1.new (h : OwnRR s enc el elO B w1 a cap rs) (hx : Ext w1 w2) (hO : Own s enc el w1.heap.size w2 b dp S) (hB : B ≤ w1.heap.size) : RR1 s enc el elO B w2 a cap rs b dp S := by
  refine ⟨h.ext hx, hO.base hB, ?_, fun i q hq => ?_⟩
  · cases hb : blk b with
    | none => exact .inl rfl
    | some k =>
      refine .inr fun he => ?_
      have h1 := (hO.blk_lt k hb).1
      have h2 := (h.outer.blk_lt k he.symm).2
      omega
  · cases hb : blk q.1 with
    | none => exact .inl rfl
    | some k =>
      refine .inr fun he => ?_
      have h1 := ((h.inner i q hq).blk_lt k hb).2
      have h2 := (hO.blk_lt k he.symm).1
      omega
theorem RR1.first {g c0 : Nat} (hO : Own s enc el B w b dp S) (h : Own 1 encRow elO B w (some ⟨g, 0, none⟩) c0 ([] : List (RowV α))) (hg : ∀ k, blk b = some k → k ≠ g) : RR1 s enc el elO B w (some ⟨g, 0, none⟩) c0 [] b dp S := by
  refine ⟨OwnRR.nil h, hO, ?_, fun i q hq => by simp at hq⟩
  cases hb : blk b with
  | none => exact .inl rfl
  | some k =>
    refine .inr fun he => hg k hb ?_
    simp only [blk, Option.map_some, Option.some.injEq] at he; exact he
theorem RR1.push (h : RR1 s enc el elO B w2 a cap rs b dp S) (hU : Upd B a w2 w3) (hO : Own 1 encRow elO B w3 a' cap' (rs ++ [(b, dp, S)])) (hF : blk a' = blk a ∨ ∃ k, blk a' = some k ∧ w2.heap.size ≤ k) : OwnRR s enc el elO B w3 a' cap' (rs ++ [(b, dp, S)]) := by
  obtain ⟨hr, ho, hA, hI⟩ := h
  have get : ∀ (i : Nat) (q : RowV α), (rs ++ [(b, dp, S)])[i]? = some q → (i < rs.length ∧ rs[i]? = some q) ∨ (i = rs.length ∧ q = (b, dp, S)) := fun i q hq => by
    by_cases hi : i < rs.length
    · rw [List.getElem?_append_left hi] at hq; exact .inl ⟨hi, hq⟩
    · rw [List.getElem?_append_right (by omega)] at hq
      have h0 := lt_of_get hq
      simp at h0
      have h1 : i - rs.length = 0 := by omega
      rw [h1] at hq
      simp at hq
      exact .inr ⟨by omega, hq.symm⟩
  have lt2 : ∀ (i : Nat) (q : RowV α) (k : Nat), (rs ++ [(b, dp, S)])[i]? = some q → blk q.1 = some k → k < w2.heap.size := fun i q k hq hk => by
    rcases get i q hq with ⟨_, hq⟩ | ⟨_, rfl⟩
    · exact ((hr.inner i q hq).blk_lt k hk).2
    · exact (ho.blk_lt k hk).2
  have apA : ∀ (i : Nat) (q : RowV α), (rs ++ [(b, dp, S)])[i]? = some q → blk q.1 = none ∨ blk q.1 ≠ blk a := fun i q hq => by
    rcases get i q hq with ⟨_, hq⟩ | ⟨_, rfl⟩
    · exact hr.apartO i q hq
    · exact hA
  refine ⟨hO, fun i q hq => ?_, fun i q hq => ?_, fun i j q p h1 h2 hne => ?_⟩
  · rcases get i q hq with ⟨_, hq'⟩ | ⟨_, rfl⟩
    · exact hU.own (hr.inner i q hq') (hr.apartO i q hq')
    · exact hU.own ho hA
  · rcases hF with hF | ⟨k, hk, hle⟩
    · rw [hF]; exact apA i q hq
    · cases hb : blk q.1 with
      | none => exact .inl rfl
      | some b =>
        refine .inr fun he => ?_
        have := lt2 i q b hq hb
        rw [hk] at he
        have := Option.some.inj he
        omega
  · rcases get i q h1 with ⟨_, h1'⟩ | ⟨rfl, rfl⟩
    · rcases get j p h2 with ⟨_, h2'⟩ | ⟨rfl, rfl⟩
      · exact hr.apart i j q p h1' h2' hne
      · exact hI i q h1'
    · rcases get j p h2 with ⟨_, h2'⟩ | ⟨rfl, rfl⟩
      · show blk b = none ∨ blk b ≠ blk p.1
        cases hb : blk b with
        | none => exact .inl rfl
        | some k =>
          refine .inr fun he => ?_
          rcases hI j p h2' with h3 | h3
          · rw [h3] at he; cases he
          · exact h3 (by rw [hb]; exact he.symm)
      · exact absurd rfl hne
end
theorem OwnRR.base {α : Type} {s : Nat} {enc : α → List Value} {el elO B C : Nat} {w : World} {a : Option Addr} {cap : Nat} {rs : List (RowV α)} (h : OwnRR s enc el elO C w a cap rs) (hB : B ≤ C) : OwnRR s enc el elO B w a cap rs := ⟨h.outer.base hB, fun i r hr => (h.inner i r hr).base hB, h.apartO, h.apart⟩
theorem OwnRR.row {α : Type} {s : Nat} {enc : α → List Value} {el elO B : Nat} {w : World} {a : Option Addr} {cap : Nat} {rs : List (RowV α)} (h : OwnRR s enc el elO B w a cap rs) (hE : Enc s enc) {i : Nat} {r : RowV α} (hr : rs[i]? = some r) : Row s enc w r.1 r.2.2 := (h.inner i r hr).row hE
theorem OwnRR.at {α : Type} {s : Nat} {enc : α → List Value} {el elO B : Nat} {w : World} {a : Option Addr} {cap : Nat} {rs : List (RowV α)} (h : OwnRR s enc el elO B w a cap rs) (m : Nat) : OwnRR s enc el elO B (at' w m) a cap rs := h.ext ((Ext.refl w).at m)
end Go.Lt
namespace Go.Proofs.Ytlcenenkloicjaa
open Go Go.Lt Go.RowKit
set_option linter.unusedVariables false
set_option linter.unusedSimpArgs false
set_option maxRecDepth 20000

set_option maxHeartbeats 1000000 in
theorem ref17_New (c : Circ) (w : World) (hC : CAt w c) (hg : GoodC' c.t) (hz : SzC c.t 100000) :
    Lt.Spec Try.prog 28 [c.val] w (fun v w' => Ext w w' ∧ ∃ gm rn ra, v = .pointer (some ⟨gm, 0, none⟩) ∧ MAt w' gm c rn ra ∧ w.heap.size ≤ gm) := by
  refine Spec.of _ Try.func28 rfl Try.ntmps28 (by kernel_rfl) rfl ?_
  repeat' (first
    | (apply WL.box; exact rfl; exact rfl; exact rfl; intro gb w' hb hge hc hx; have hcc := hc; (first | (obtain ⟨h1, h2, h3, _⟩ := hc) | (obtain ⟨h1, h2, _⟩ := hc)); (first | (have h_0 := hcells; clear h_0) | (have hcells := hcc; obtain ⟨gc, rfl⟩ : ∃ x, x = gb := ⟨_, rfl⟩; obtain ⟨wc, rfl⟩ : ∃ x, x = w' := ⟨_, rfl⟩; obtain ⟨hxc, rfl⟩ : ∃ x, x = hx := ⟨_, rfl⟩)))
    | (((show WL _ _ _ (⟨_, .call ⟨.value (.func 60), _, _⟩, _, _, _, _⟩ :: _) _ _ _); apply WL.call; exact rfl; exact rfl; exact rfl; exact rfl; exact ref11_Net c _ (hC.ext (by (exact extA))) hg hz; rintro v' w7 ⟨hx7, am, cm, ab, cb, rfl, hOm, hOb⟩; have hcells7 := hcells.ext hx7; have Rm := hOm.row encN_ok; have Rb := hOb.row encI_ok))
    | (apply WL.build tOk; exact rfl; exact rfl; exact rfl; exact rfl; exact rfl; exact rfl; exact rfl; kernel_rfl)
    | (show WL _ _ _ _ _ _ _; first | apply WL.nil | (refine WL.au (k := ?_)))
    | (show Z _ _ _ _ _; apply Z.then_normal)
    | (show W _ _ _ _ _ _; first | apply W.seq | apply W.region | apply W.ret)
    | fail)
  have hcm : Cells w' gb 0 (c.vals ++ [.slice am (cNet c.t).1.length cm, .slice ab (cNet c.t).2.length cb]) := hcc
  exact Z.body1 Try.results28 rfl fun m => ⟨Ext.at (by (exact extA)) m, gb, (am, cm, (cNet c.t).1), (ab, cb, (cNet c.t).2), rfl, (MAt.mk hcm (hC.ext (by (exact extA))) (Rm.ext (by (exact extA))) (Rb.ext (by (exact extA))) rfl rfl hg hz : MAt w' gb c (am, cm, (cNet c.t).1) (ab, cb, (cNet c.t).2)).ext ((Ext.refl _).at m), Nat.le_trans (Below.size (show Ext w w7 from (by (exact extA)))) hge⟩

abbrev encRB : RowV Bool → List Value := encRow
/-- A run by value: its rows, with where they lie. -/
structure RunV where
  st : RowV Bool
  ins : RowV (RowV Bool)
abbrev RunV.val (r : RunV) : Value := .agg #[rowVal r.st, rowVal r.ins]
abbrev RunV.s (r : RunV) : List Bool := r.st.2.2
abbrev RunV.i (r : RunV) : List (List Bool) := r.ins.2.2.map (·.2.2)
structure RAt (w : World) (r : RunV) : Prop where
  st : Row 1 encB w r.st.1 r.st.2.2
  ins : Row 1 encRB w r.ins.1 r.ins.2.2
  each : ∀ x ∈ r.ins.2.2, Row 1 encB w x.1 x.2.2
theorem RAt.ext {w w' : World} {r : RunV} (h : RAt w r) (hx : Ext w w') : RAt w' r := ⟨h.st.ext hx, h.ins.ext hx, fun x h1 => (h.each x h1).ext hx⟩
end Go.Proofs.Ytlcenenkloicjaa
namespace Go.Lt
open Go.RowKit
set_option linter.unusedVariables false
set_option linter.unusedSimpArgs false

/-- Keys that are found by what they are. -/
structure KeyF {κ : Type} (P : Program) (kt : TypeId) (kv : κ → Value) : Prop where
  find : ∀ {ν : Type} (vv : ν → Value) (a : κ) (w : World) (es : List MapEntry) (L : List (κ × ν)), es.map (fun e => (e.key, e.val)) = L.map (fun x => (kv x.1, vv x.2)) → (Instr.findKey kt (kv a) es).run P w = .ok (mfind vv a L 0) w
  chk : ∀ empty a w, (Instr.checkKey empty 10000 kt (kv a)).run P w = .ok () w
  same : ∀ a, Instr.sameBits 10000 (kv a) (kv a) = true
theorem findNow_of {κ ν : Type} {d : TypeDesc} {kv : κ → Value} {vv : ν → Value} (h : ∀ a b, Instr.sameNow d (kv a) (kv b) = some (dec (a = b))) (a : κ) : ∀ (es : List MapEntry) (L : List (κ × ν)) (i : Nat), es.map (fun e => (e.key, e.val)) = L.map (fun x => (kv x.1, vv x.2)) → Instr.findNow d (kv a) es i = some (mfind vv a L i)
  | [], [], i, _ => rfl
  | [], x :: r, i, h' => by simp at h'
  | e :: es, [], i, h' => by simp at h'
  | e :: es, x :: r, i, h' => by
    simp only [List.map_cons, List.cons.injEq, Prod.mk.injEq] at h'
    obtain ⟨⟨h1, h2⟩, h3⟩ := h'
    have ih := findNow_of (vv := vv) h a es r (i + 1) h3
    unfold Instr.findNow mfind
    rw [h1, h a x.1]
    cases dec (a = x.1)
    · exact ih
    · simp only [cond_true, h2]
theorem keyF_of {κ : Type} {P : Program} {kt : TypeId} {d : TypeDesc} {kv : κ → Value} (hu : P.underlying kt = some d) (h : ∀ a b, Instr.sameNow d (kv a) (kv b) = some (dec (a = b))) (hc : ∀ empty a w, (Instr.checkKey empty 10000 kt (kv a)).run P w = .ok () w) (hs : ∀ a, Instr.sameBits 10000 (kv a) (kv a) = true) : KeyF P kt kv :=
  ⟨fun vv a w es L he => by
    have hu' : (underlying kt).run P w = .ok d w := by simp [underlying, program, Sem.run, hu]
    simp only [Instr.findKey, Sem.run_bind, hu', Result.andThen_ok, findNow_of h a es L 0 he]
    rfl, hc, hs⟩
theorem keyF_int {P : Program} {kt : TypeId} {k : IntKind} (hu : P.underlying kt = some (.int k)) : KeyF P kt (fun n : Int => .int k n) := by
  refine keyF_of hu (fun a b => ?_) (fun em a w => ?_) (fun a => ?_)
  · simp only [Instr.sameNow, if_true]
    rw [dec_decide]; rfl
  · have hu' : (underlying kt).run P w = .ok (.int k) w := by simp [underlying, program, Sem.run, hu]
    rw [show (10000 : Nat) = 9999 + 1 from rfl, Instr.checkKey]
    simp only [Sem.run_bind, hu', Result.andThen_ok]
    rfl
  · simp [Instr.sameBits]
/-- A value anew. -/
noncomputable def mset {κ ν : Type} (a : κ) (v : ν) : List (κ × ν) → List (κ × ν)
  | [] => []
  | x :: r => bif dec (a = x.1) then (x.1, v) :: r else x :: mset a v r

section rules
variable {P : Program} {N : Nat} {e : Env} {w : World} {Q : Exit → Act → World → Prop} {ops : List Oper} {l : List Oper} {T : Tab} {C : World → Prop}
  {d : Nat} {tt t : TypeId} {ps : String} {af : Array Edge} {g : Option (Nat × Bool)} {x y z : Operand} {ti ei : TI} {κ ν : Type} {kt et : TypeId} {kv : κ → Value} {vv : ν → Value} {L : List (κ × ν)} {a : κ} {v : ν} {r : Nat}
theorem run_lookupF (hT : OkTab P T) (hk : KeyF P kt kv) (ht : tget T t = some ti) (htd : ti.desc = .map kt et) (he : tget T et = some ei) (hM : MapIs kv vv w r L) (b : Bool) :
    (Instr.lookup t (.map (some r)) (kv a) b).run P w = .ok (bif b then .tuple #[((mget a L).map vv).getD ei.zero, .bool (mget a L).isSome] else ((mget a L).map vv).getD ei.zero) w := by
  obtain ⟨es, clock, h1, h2⟩ := hM
  have hu := run_underlying' (hT.at ht) w; rw [htd] at hu
  have hz := run_zeroValue' (hT.at he) w
  have hf := hk.find vv a w es.toList L h2
  have hg : (getObj r).run P w = .ok (.map es clock) w := by simp [getObj, Sem.run, h1]
  have hmg := mfind_get vv a L 0
  simp only [Instr.lookup, Sem.run_bind, hu, Result.andThen_ok, hg, Sem.run_pure, hk.chk, hf]
  cases hm : mfind vv a L 0 with
  | none =>
    rw [hm] at hmg
    cases hg2 : mget a L with
    | none => cases b <;> simp [hz]
    | some q => rw [hg2] at hmg; simp at hmg
  | some q =>
    rw [hm] at hmg
    cases hg2 : mget a L with
    | none => rw [hg2] at hmg; simp at hmg
    | some u =>
      rw [hg2] at hmg
      simp only [Option.map_some, Option.some.injEq] at hmg
      obtain ⟨qi, qv⟩ := q
      simp only at hmg
      subst hmg
      cases b <;> simp
theorem ylookupF [Cls C w] (hT : OkTab P T) (hk : KeyF P kt kv) (hx : ev e x = some (.map (some r))) (hy : ev e y = some (kv a)) (ht : tget T t = some ti) (htd : ti.desc = .map kt et) (he : tget T et = some ei) (hM : MapIs kv vv w r L) (b : Bool) {dd : Option Tmp} :
    YieldsIn P e C ⟨dd, .lookup t x y b, tt, ps, af, g⟩ (bif b then .tuple #[((mget a L).map vv).getD ei.zero, .bool (mget a L).isSome] else ((mget a L).map vv).getD ei.zero) := by
  intro ρ hρ w' hw'
  have hr := run_lookupF (P := P) (a := a) hT hk ht htd he (hM.ext (Cls.keeps (C := C) w' hw')) b
  simp [execOp, hρ _ _ hx, hρ _ _ hy, hr]
theorem WL.lookSomeF {v : ν} (hT : OkTab P T) (hk : KeyF P kt kv) (hg : gate ops e g = some true) (hd : Nat.blt d N = true) (hx : ev e x = some (.map (some r))) (hy : ev e y = some (kv a)) (ht : tget T t = some ti) (htd : ti.desc = .map kt et) (he : tget T et = some ei) (hM : MapIs kv vv w r L) (hm : mget a L = some v)
    (k : WL P N ops.toArray l ((d, .tuple #[vv v, .bool true]) :: e) w Q) : WL P N ops.toArray (⟨some d, .lookup t x y true, tt, ps, af, g⟩ :: l) e w Q :=
  WL.step hg hd (ylookupF (C := Same w) hT hk hx hy ht htd he hM true) (by rw [hm]; exact k)
theorem WL.lookNoneF (hT : OkTab P T) (hk : KeyF P kt kv) (hg : gate ops e g = some true) (hd : Nat.blt d N = true) (hx : ev e x = some (.map (some r))) (hy : ev e y = some (kv a)) (ht : tget T t = some ti) (htd : ti.desc = .map kt et) (he : tget T et = some ei) (hM : MapIs kv vv w r L) (hm : mget a L = none)
    (k : WL P N ops.toArray l ((d, .tuple #[ei.zero, .bool false]) :: e) w Q) : WL P N ops.toArray (⟨some d, .lookup t x y true, tt, ps, af, g⟩ :: l) e w Q :=
  WL.step hg hd (ylookupF (C := Same w) hT hk hx hy ht htd he hM true) (by rw [hm]; exact k)
theorem WL.look1F (hT : OkTab P T) (hk : KeyF P kt kv) (hg : gate ops e g = some true) (hd : Nat.blt d N = true) (hx : ev e x = some (.map (some r))) (hy : ev e y = some (kv a)) (ht : tget T t = some ti) (htd : ti.desc = .map kt et) (he : tget T et = some ei) (hM : MapIs kv vv w r L)
    (k : WL P N ops.toArray l ((d, ((mget a L).map vv).getD ei.zero) :: e) w Q) : WL P N ops.toArray (⟨some d, .lookup t x y false, tt, ps, af, g⟩ :: l) e w Q :=
  WL.step hg hd (ylookupF (C := Same w) hT hk hx hy ht htd he hM false) k
theorem QL.look1F [Cls C w] (hT : OkTab P T) (hk : KeyF P kt kv) (hg : gate ops e g = some true) (hd : Nat.blt d N = true) (hx : ev e x = some (.map (some r))) (hy : ev e y = some (kv a)) (ht : tget T t = some ti) (htd : ti.desc = .map kt et) (he : tget T et = some ei) (hM : MapIs kv vv w r L)
    (k : QL P N C ops.toArray l ((d, ((mget a L).map vv).getD ei.zero) :: e) Q) : QL P N C ops.toArray (⟨some d, .lookup t x y false, tt, ps, af, g⟩ :: l) e Q :=
  QL.step hg hd (ylookupF hT hk hx hy ht htd he hM false) k
theorem mfind_mset {κ ν : Type} {kv : κ → Value} {vv : ν → Value} (a : κ) (v : ν) : ∀ (L : List (κ × ν)) (i j : Nat) (q : Value), mfind vv a L i = some (j, q) → i ≤ j ∧ j - i < L.length ∧ (L.map (fun x => (kv x.1, vv x.2))).modify (j - i) (fun p => (kv a, vv v)) = (mset a v L).map (fun x => (kv x.1, vv x.2)) ∧ (L.map (fun x => kv x.1))[j - i]? = some (kv a)
  | [], i, j, q, h => by cases h
  | x :: r, i, j, q, h => by
    unfold mfind at h
    by_cases hax : a = x.1
    · rw [dec_true hax] at h
      simp only [cond_true, Option.some.injEq, Prod.mk.injEq] at h
      obtain ⟨rfl, _⟩ := h
      refine ⟨Nat.le_refl _, by simp, ?_, by simp [hax]⟩
      rw [Nat.sub_self]
      unfold mset
      rw [dec_true hax]
      simp [hax]
    · rw [dec_false hax] at h
      simp only [cond_false] at h
      obtain ⟨h1, h2, h3, h4⟩ := mfind_mset (kv := kv) a v r (i + 1) j q h
      have e : j - i = (j - (i + 1)) + 1 := by omega
      refine ⟨by omega, by simp only [List.length_cons]; omega, ?_, ?_⟩
      · rw [e]
        unfold mset
        rw [dec_false hax]
        simp only [cond_false, List.map_cons, List.modify_succ_cons]
        rw [h3]
      · rw [e]; simpa using h4
/-- A new key, or a value anew. -/
theorem WL.mapPutF {B : Nat} {w0 : World} (hT : OkTab P T) (hk : KeyF P kt kv) (hg : gate ops e g = some true) (hx : ev e x = some (.map (some r))) (hy : ev e y = some (kv a)) (hz : ev e z = some (vv v)) (ht : tget T t = some ti) (htd : ti.desc = .map kt et) (hM : MapIs kv vv w r L) (hX : Ext w0 w) (hB : w0.heap.size ≤ r)
    (k : ∀ w', MapIs kv vv w' r (match mget a L with | none => L ++ [(a, v)] | some _ => mset a v L) → Ext w0 w' → Upd r (some ⟨r, 0, none⟩) w w' → WL P N ops.toArray l e w' Q) :
    WL P N ops.toArray (⟨none, .mapUpdate t x y z, tt, ps, af, g⟩ :: l) e w Q := by
  obtain ⟨es, clock, h1, h2⟩ := hM
  have hlt := heap_lt h1
  have hmg := mfind_get vv a L 0
  cases hm : mfind vv a L 0 with
  | none =>
    have hnew : mget a L = none := by
      cases hg2 : mget a L with
      | none => rfl
      | some u => rw [hm, hg2] at hmg; simp at hmg
    rw [hnew] at k
    refine WL.effN (w' := fun m => { at' w m with heap := w.heap.setIfInBounds r (.map (es.push { key := kv a, val := vv v, born := clock }) (clock + 1)) }) hg ?_ (fun m => ?_)
    · intro ρ hρ m
      have hu := run_underlying' (hT.at ht) (at' w m); rw [htd] at hu
      have hf := hk.find vv a (at' w m) es.toList L h2
      have hg : (getObj r).run P (at' w m) = .ok (.map es clock) (at' w m) := by simp [getObj, Sem.run, h1]
      rw [hm] at hf
      have hset : (setObj r (.map (es.push { key := kv a, val := vv v, born := clock }) (clock + 1))).run P (at' w m) = .ok () { at' w m with heap := w.heap.setIfInBounds r (.map (es.push { key := kv a, val := vv v, born := clock }) (clock + 1)) } := by simp [setObj, Sem.run, h1]
      have hrun : (Instr.mapUpdate t (.map (some r)) (kv a) (vv v)).run P (at' w m) = .ok () { at' w m with heap := w.heap.setIfInBounds r (.map (es.push { key := kv a, val := vv v, born := clock }) (clock + 1)) } := by
        simp only [Instr.mapUpdate, Sem.run_bind, hu, Result.andThen_ok, hg, hk.chk, hf, hset]
      simp [execOp, hρ _ _ hx, hρ _ _ hy, hρ _ _ hz, hrun]
    · have hU : Upd r (some ⟨r, 0, none⟩) w { at' w m with heap := w.heap.setIfInBounds r (.map (es.push { key := kv a, val := vv v, born := clock }) (clock + 1)) } :=
        ⟨⟨rfl, rfl, rfl, by simp, fun q hq hne => by
          simp only [blk, Option.map_some, ne_eq, Option.some.injEq] at hne
          simp only [Array.getElem?_setIfInBounds]
          rw [if_neg (fun h => hne h.symm)]⟩, fun q hq => by simp only [blk, Option.map_some, Option.some.injEq] at hq; omega⟩
      refine k _ ⟨_, _, by simp [Array.getElem?_setIfInBounds, hlt]; exact ⟨rfl, rfl⟩, ?_⟩ (hU.ext hX hB) hU
      simp [h2]
  | some q =>
    obtain ⟨j, qv⟩ := q
    obtain ⟨u, hu2⟩ : ∃ u, mget a L = some u := by
      cases hg2 : mget a L with
      | none => rw [hm, hg2] at hmg; simp at hmg
      | some u => exact ⟨u, rfl⟩
    rw [hu2] at k
    obtain ⟨m1, m2, m3, m4⟩ := mfind_mset (kv := kv) a v L 0 j qv hm
    rw [Nat.sub_zero] at m2 m3 m4
    have hlen : es.toList.length = L.length := by have := congrArg List.length h2; simpa using this
    have hkey : (((es[j]?).map (·.key)).getD (kv a)) = kv a := by
      have h3 := congrArg (fun l => (l.map Prod.fst)[j]?) h2
      simp only [List.map_map] at h3
      have e1 : (L.map (Prod.fst ∘ fun x => (kv x.1, vv x.2)))[j]? = some (kv a) := m4
      rw [e1] at h3
      rw [List.getElem?_map] at h3
      obtain ⟨en, hen, hek⟩ := Option.map_eq_some_iff.1 h3
      have : es[j]? = some en := by simpa using hen
      rw [this]; exact hek
    refine WL.effN (w' := fun m => { at' w m with heap := w.heap.setIfInBounds r (.map (es.modify j fun e => { e with key := kv a, val := vv v }) clock) }) hg ?_ (fun m => ?_)
    · intro ρ hρ m
      have hu := run_underlying' (hT.at ht) (at' w m); rw [htd] at hu
      have hf := hk.find vv a (at' w m) es.toList L h2
      have hg : (getObj r).run P (at' w m) = .ok (.map es clock) (at' w m) := by simp [getObj, Sem.run, h1]
      rw [hm] at hf
      have hset : (setObj r (.map (es.modify j fun e => { e with key := kv a, val := vv v }) clock)).run P (at' w m) = .ok () { at' w m with heap := w.heap.setIfInBounds r (.map (es.modify j fun e => { e with key := kv a, val := vv v }) clock) } := by simp [setObj, Sem.run, h1]
      have hstay : (Instr.keyThatStays (kv a) (kv a)).run P (at' w m) = .ok (kv a) (at' w m) := by unfold Instr.keyThatStays; rw [hk.same a]; rfl
      have hrun : (Instr.mapUpdate t (.map (some r)) (kv a) (vv v)).run P (at' w m) = .ok () { at' w m with heap := w.heap.setIfInBounds r (.map (es.modify j fun e => { e with key := kv a, val := vv v }) clock) } := by
        simp only [Instr.mapUpdate, Sem.run_bind, hu, Result.andThen_ok, hg, hk.chk, hf, hkey, hstay, hset]
      simp [execOp, hρ _ _ hx, hρ _ _ hy, hρ _ _ hz, hrun]
    · have hU : Upd r (some ⟨r, 0, none⟩) w { at' w m with heap := w.heap.setIfInBounds r (.map (es.modify j fun e => { e with key := kv a, val := vv v }) clock) } :=
        ⟨⟨rfl, rfl, rfl, by simp, fun q hq hne => by
          simp only [blk, Option.map_some, ne_eq, Option.some.injEq] at hne
          simp only [Array.getElem?_setIfInBounds]
          rw [if_neg (fun h => hne h.symm)]⟩, fun q hq => by simp only [blk, Option.map_some, Option.some.injEq] at hq; omega⟩
      refine k _ ⟨_, _, by simp [Array.getElem?_setIfInBounds, hlt]; exact ⟨rfl, rfl⟩, ?_⟩ (hU.ext hX hB) hU
      rw [← m3, ← h2]
      apply List.ext_getElem?
      intro i
      simp only [Array.toList_modify, List.getElem?_map, List.getElem?_modify, Option.map_map]
      by_cases hij : j = i
      · subst hij; simp [Function.comp_def]
      · simp [hij, Function.comp_def]
end rules
end Go.Lt
namespace Go.Lt
open Go.RowKit
set_option linter.unusedVariables false
set_option linter.unusedSimpArgs false

section rules
variable {P : Program} {N : Nat} {e : Env} {w : World} {Q : Exit → Act → World → Prop} {ops : List Oper} {l : List Oper} {T : Tab} {C : World → Prop}
  {d : Nat} {tt t : TypeId} {ps : String} {af : Array Edge} {g : Option (Nat × Bool)} {x y z : Operand} {ti ei : TI} {κ ν : Type} {kt et : TypeId} {kv : κ → Value} {vv : ν → Value} {L : List (κ × ν)} {a : κ} {v : ν} {r : Nat}
/-- A new key, or a value anew. -/
theorem WL.insertF {B : Nat} {w0 : World} (hT : OkTab P T) (hk : KeyF P kt kv) (hg : gate ops e g = some true) (hx : ev e x = some (.map (some r))) (hy : ev e y = some (kv a)) (hz : ev e z = some (vv v)) (ht : tget T t = some ti) (htd : ti.desc = .map kt et) (hM : MapIs kv vv w r L) (hX : Ext w0 w) (hB : w0.heap.size ≤ r)
    (k : ∀ w', MapIs kv vv w' r (match mget a L with | none => L ++ [(a, v)] | some _ => mset a v L) → Ext w0 w' → Upd r (some ⟨r, 0, none⟩) w w' → WL P N ops.toArray l e w' Q) :
    WL P N ops.toArray (⟨none, .insert t x y z, tt, ps, af, g⟩ :: l) e w Q := by
  obtain ⟨es, clock, h1, h2⟩ := hM
  have hlt := heap_lt h1
  have hmg := mfind_get vv a L 0
  cases hm : mfind vv a L 0 with
  | none =>
    have hnew : mget a L = none := by
      cases hg2 : mget a L with
      | none => rfl
      | some u => rw [hm, hg2] at hmg; simp at hmg
    rw [hnew] at k
    refine WL.effN (w' := fun m => { at' w m with heap := w.heap.setIfInBounds r (.map (es.push { key := kv a, val := vv v, born := clock }) (clock + 1)) }) hg ?_ (fun m => ?_)
    · intro ρ hρ m
      have hu := run_underlying' (hT.at ht) (at' w m); rw [htd] at hu
      have hf := hk.find vv a (at' w m) es.toList L h2
      have hg : (getObj r).run P (at' w m) = .ok (.map es clock) (at' w m) := by simp [getObj, Sem.run, h1]
      rw [hm] at hf
      have hset : (setObj r (.map (es.push { key := kv a, val := vv v, born := clock }) (clock + 1))).run P (at' w m) = .ok () { at' w m with heap := w.heap.setIfInBounds r (.map (es.push { key := kv a, val := vv v, born := clock }) (clock + 1)) } := by simp [setObj, Sem.run, h1]
      have hrun : (Instr.mapUpdate t (.map (some r)) (kv a) (vv v)).run P (at' w m) = .ok () { at' w m with heap := w.heap.setIfInBounds r (.map (es.push { key := kv a, val := vv v, born := clock }) (clock + 1)) } := by
        simp only [Instr.mapUpdate, Sem.run_bind, hu, Result.andThen_ok, hg, hk.chk, hf, hset]
      simp [execOp, hρ _ _ hx, hρ _ _ hy, hρ _ _ hz, hrun]
    · have hU : Upd r (some ⟨r, 0, none⟩) w { at' w m with heap := w.heap.setIfInBounds r (.map (es.push { key := kv a, val := vv v, born := clock }) (clock + 1)) } :=
        ⟨⟨rfl, rfl, rfl, by simp, fun q hq hne => by
          simp only [blk, Option.map_some, ne_eq, Option.some.injEq] at hne
          simp only [Array.getElem?_setIfInBounds]
          rw [if_neg (fun h => hne h.symm)]⟩, fun q hq => by simp only [blk, Option.map_some, Option.some.injEq] at hq; omega⟩
      refine k _ ⟨_, _, by simp [Array.getElem?_setIfInBounds, hlt]; exact ⟨rfl, rfl⟩, ?_⟩ (hU.ext hX hB) hU
      simp [h2]
  | some q =>
    obtain ⟨j, qv⟩ := q
    obtain ⟨u, hu2⟩ : ∃ u, mget a L = some u := by
      cases hg2 : mget a L with
      | none => rw [hm, hg2] at hmg; simp at hmg
      | some u => exact ⟨u, rfl⟩
    rw [hu2] at k
    obtain ⟨m1, m2, m3, m4⟩ := mfind_mset (kv := kv) a v L 0 j qv hm
    rw [Nat.sub_zero] at m2 m3 m4
    have hlen : es.toList.length = L.length := by have := congrArg List.length h2; simpa using this
    have hkey : (((es[j]?).map (·.key)).getD (kv a)) = kv a := by
      have h3 := congrArg (fun l => (l.map Prod.fst)[j]?) h2
      simp only [List.map_map] at h3
      have e1 : (L.map (Prod.fst ∘ fun x => (kv x.1, vv x.2)))[j]? = some (kv a) := m4
      rw [e1] at h3
      rw [List.getElem?_map] at h3
      obtain ⟨en, hen, hek⟩ := Option.map_eq_some_iff.1 h3
      have : es[j]? = some en := by simpa using hen
      rw [this]; exact hek
    refine WL.effN (w' := fun m => { at' w m with heap := w.heap.setIfInBounds r (.map (es.modify j fun e => { e with key := kv a, val := vv v }) clock) }) hg ?_ (fun m => ?_)
    · intro ρ hρ m
      have hu := run_underlying' (hT.at ht) (at' w m); rw [htd] at hu
      have hf := hk.find vv a (at' w m) es.toList L h2
      have hg : (getObj r).run P (at' w m) = .ok (.map es clock) (at' w m) := by simp [getObj, Sem.run, h1]
      rw [hm] at hf
      have hset : (setObj r (.map (es.modify j fun e => { e with key := kv a, val := vv v }) clock)).run P (at' w m) = .ok () { at' w m with heap := w.heap.setIfInBounds r (.map (es.modify j fun e => { e with key := kv a, val := vv v }) clock) } := by simp [setObj, Sem.run, h1]
      have hstay : (Instr.keyThatStays (kv a) (kv a)).run P (at' w m) = .ok (kv a) (at' w m) := by unfold Instr.keyThatStays; rw [hk.same a]; rfl
      have hrun : (Instr.mapUpdate t (.map (some r)) (kv a) (vv v)).run P (at' w m) = .ok () { at' w m with heap := w.heap.setIfInBounds r (.map (es.modify j fun e => { e with key := kv a, val := vv v }) clock) } := by
        simp only [Instr.mapUpdate, Sem.run_bind, hu, Result.andThen_ok, hg, hk.chk, hf, hkey, hstay, hset]
      simp [execOp, hρ _ _ hx, hρ _ _ hy, hρ _ _ hz, hrun]
    · have hU : Upd r (some ⟨r, 0, none⟩) w { at' w m with heap := w.heap.setIfInBounds r (.map (es.modify j fun e => { e with key := kv a, val := vv v }) clock) } :=
        ⟨⟨rfl, rfl, rfl, by simp, fun q hq hne => by
          simp only [blk, Option.map_some, ne_eq, Option.some.injEq] at hne
          simp only [Array.getElem?_setIfInBounds]
          rw [if_neg (fun h => hne h.symm)]⟩, fun q hq => by simp only [blk, Option.map_some, Option.some.injEq] at hq; omega⟩
      refine k _ ⟨_, _, by simp [Array.getElem?_setIfInBounds, hlt]; exact ⟨rfl, rfl⟩, ?_⟩ (hU.ext hX hB) hU
      rw [← m3, ← h2]
      apply List.ext_getElem?
      intro i
      simp only [Array.toList_modify, List.getElem?_map, List.getElem?_modify, Option.map_map]
      by_cases hij : j = i
      · subst hij; simp [Function.comp_def]
      · simp [hij, Function.comp_def]

end rules
end Go.Lt
namespace Go.Lt
open Go.RowKit
set_option linter.unusedVariables false
set_option linter.unusedSimpArgs false

/-- What is known of an operation's value; which block is its own. -/
inductive Pr where
  | any : Pr
  | is : Value → Pr
  | ex (F : Value → World → Prop) (b : Value → Option Nat) (keep : ∀ x w w', F x w → Ext w w' → F x w') (lt : ∀ x w k, F x w → b x = some k → k < w.heap.size) : Pr
def Pr.holds : Pr → Value → World → Prop
  | .any, _, _ => True
  | .is v, x, _ => x = v
  | .ex F _ _ _, x, w => F x w
def Pr.bl : Pr → Value → Option Nat
  | .ex _ b _ _, x => b x
  | _, _ => none
theorem Pr.keeps : ∀ {p : Pr} {x : Value} {w w' : World}, p.holds x w → Ext w w' → p.holds x w'
  | .any, _, _, _, _, _ => trivial
  | .is _, _, _, _, h, _ => h
  | .ex _ _ k _, _, _, _, h, hx => k _ _ _ h hx
theorem Pr.lts : ∀ {p : Pr} {x : Value} {w : World} {k : Nat}, p.holds x w → p.bl x = some k → k < w.heap.size
  | .any, _, _, _, _, hb => by cases hb
  | .is _, _, _, _, _, hb => by cases hb
  | .ex _ _ _ l, _, _, _, h, hb => l _ _ _ h hb
def prAt : List Pr → Nat → Pr
  | [], _ => .any
  | p :: _, 0 => p
  | _ :: r, i + 1 => prAt r i

section
variable {P : Program} {N : Nat} {prs : List Pr} {pre : List Oper}

/-- Slots become known, one by one. -/
def need (prs : List Pr) (pre : List Oper) (w : World) (K : Env → List (Option Nat) → Prop) : List Nat → Env → List (Option Nat) → Prop
  | [], E, bs => K E bs
  | j :: r, E, bs =>
    match dstAt pre j with
    | none => need prs pre w K r E bs
    | some d =>
      match prAt prs j with
      | .any => need prs pre w K r E bs
      | .is v => need prs pre w K r ((d, v) :: E) bs
      | .ex F b _ _ => ∀ x, F x w → need prs pre w K r ((d, x) :: E) (b x :: bs)

def valO (pre : List Oper) (a : Act) (j : Nat) : Value :=
  match dstAt pre j with
  | some d => a.tmps.getD d undef
  | none => undef
def bsOf (prs : List Pr) (pre : List Oper) (a : Act) : List Nat → List (Option Nat) → List (Option Nat)
  | [], bs => bs
  | j :: r, bs =>
    match dstAt pre j with
    | none => bsOf prs pre a r bs
    | some d =>
      match prAt prs j with
      | .ex _ b _ _ => bsOf prs pre a r (b (valO pre a j) :: bs)
      | _ => bsOf prs pre a r bs

theorem Fit.cons {e : Env} {a : Act} (h : Fit N e a) {d : Nat} {v : Value} (hd : a.tmps[d]? = some v) : Fit N ((d, v) :: e) a := by
  refine ⟨h.size, h.defers, fun t u hu => ?_⟩
  rw [get_cons] at hu
  by_cases hdt : d = t
  · subst hdt; rw [if_pos rfl] at hu; cases hu; exact hd
  · rw [if_neg hdt] at hu; exact h.slots _ _ hu
theorem get_appE (e1 e2 : Env) (t : Nat) : get (e1 ++ e2) t = (get e1 t).or (get e2 t) := by
  induction e1 with
  | nil => simp [get]
  | cons p r ih =>
    obtain ⟨k, v⟩ := p
    rw [List.cons_append, get_cons, get_cons]
    by_cases hk : k = t
    · rw [if_pos hk, if_pos hk]; rfl
    · rw [if_neg hk, if_neg hk, ih]
/-- All slots of a frame. -/
def slotsE (a : Act) : Nat → Env
  | 0 => []
  | n + 1 => (n, a.tmps.getD n undef) :: slotsE a n
theorem slotsE_get {a : Act} : ∀ {n t : Nat}, t < n → get (slotsE a n) t = some (a.tmps.getD t undef)
  | n + 1, t, h => by
    rw [slotsE, get_cons]
    by_cases hk : n = t
    · subst hk; rw [if_pos rfl]
    · rw [if_neg hk]; exact slotsE_get (by omega)
theorem slotsE_lt {a : Act} : ∀ {n t : Nat} {v : Value}, get (slotsE a n) t = some v → t < n
  | 0, t, v, h => by cases h
  | n + 1, t, v, h => by
    rw [slotsE, get_cons] at h
    by_cases hk : n = t
    · omega
    · rw [if_neg hk] at h; have := slotsE_lt h; omega
theorem getD_some {a : Act} {t : Nat} (h : t < a.tmps.size) : a.tmps[t]? = some (a.tmps.getD t undef) := by
  simp [Array.getD_eq_getD_getElem?, h]
theorem Fit.all {e : Env} {a : Act} (h : Fit N e a) : Fit N (e ++ slotsE a N) a := by
  refine ⟨h.size, h.defers, fun t u hu => ?_⟩
  rw [get_appE] at hu
  cases hg : get e t with
  | some x => rw [hg] at hu; simp at hu; subst hu; exact h.slots _ _ hg
  | none =>
    rw [hg] at hu
    simp at hu
    have hlt := slotsE_lt hu
    rw [slotsE_get hlt] at hu
    cases hu
    exact getD_some (by rw [h.size]; exact hlt)

theorem need_out {w : World} {K : Env → List (Option Nat) → Prop} {a : Act} (hN : ∀ j d, dstAt pre j = some d → d < N) : ∀ (ds : List Nat) (E : Env) (bs : List (Option Nat)), need prs pre w K ds E bs → Fit N E a → (∀ j ∈ ds, (prAt prs j).holds (valO pre a j) w) →
    ∃ E', K E' (bsOf prs pre a ds bs) ∧ Fit N E' a ∧ ∀ t, get E t ≠ none → get E' t ≠ none
  | [], E, bs, h, hf, _ => ⟨E, h, hf, fun t ht => ht⟩
  | j :: r, E, bs, h, hf, hh => by
    have hr : ∀ k ∈ r, (prAt prs k).holds (valO pre a k) w := fun k hk => hh k (by simp [hk])
    unfold need at h
    unfold bsOf
    cases hd : dstAt pre j with
    | none => rw [hd] at h; exact need_out hN r E bs h hf hr
    | some d =>
      rw [hd] at h
      have hv : valO pre a j = a.tmps.getD d undef := by unfold valO; rw [hd]
      have hs : a.tmps[d]? = some (a.tmps.getD d undef) := getD_some (by rw [hf.size]; exact hN j d hd)
      have hj := hh j (by simp)
      cases hp : prAt prs j with
      | any => rw [hp] at h; exact need_out hN r E bs h hf hr
      | is v =>
        rw [hp] at h hj
        have hj' : valO pre a j = v := hj
        have hf' : Fit N ((d, v) :: E) a := hf.cons (by rw [hs, ← hv, hj'])
        obtain ⟨E', k1, k2, k3⟩ := need_out hN r _ bs h hf' hr
        refine ⟨E', k1, k2, fun t ht => k3 t ?_⟩
        rw [get_cons]; split
        · simp
        · exact ht
      | ex F b kp lt =>
        rw [hp] at h hj
        have hf' : Fit N ((d, valO pre a j) :: E) a := hf.cons (by rw [hs, ← hv])
        obtain ⟨E', k1, k2, k3⟩ := need_out hN r _ _ (h _ hj) hf' hr
        refine ⟨E', k1, k2, fun t ht => k3 t ?_⟩
        rw [get_cons]; split
        · simp
        · exact ht

abbrev Apart (bs : List (Option Nat)) : Prop := bs.Pairwise fun x y => x = none ∨ x ≠ y
theorem bsOf_apart {a : Act} : ∀ (ds : List Nat) (bs : List (Option Nat)), ds.Nodup → Apart bs → (∀ i ∈ ds, ∀ b ∈ bs, (prAt prs i).bl (valO pre a i) = none ∨ (prAt prs i).bl (valO pre a i) ≠ b) →
    (∀ i ∈ ds, ∀ j ∈ ds, i ≠ j → (prAt prs i).bl (valO pre a i) = none ∨ (prAt prs i).bl (valO pre a i) ≠ (prAt prs j).bl (valO pre a j)) → Apart (bsOf prs pre a ds bs)
  | [], bs, _, h, _, _ => h
  | j :: r, bs, hn, h, h1, h2 => by
    have hn' := List.nodup_cons.1 hn
    have e1 : ∀ i ∈ r, ∀ b ∈ bs, (prAt prs i).bl (valO pre a i) = none ∨ (prAt prs i).bl (valO pre a i) ≠ b := fun i hi => h1 i (by simp [hi])
    have e2 : ∀ i ∈ r, ∀ k ∈ r, i ≠ k → (prAt prs i).bl (valO pre a i) = none ∨ (prAt prs i).bl (valO pre a i) ≠ (prAt prs k).bl (valO pre a k) := fun i hi k hk => h2 i (by simp [hi]) k (by simp [hk])
    unfold bsOf
    cases hd : dstAt pre j with
    | none => exact bsOf_apart r bs hn'.2 h e1 e2
    | some d =>
      cases hp : prAt prs j with
      | any => exact bsOf_apart r bs hn'.2 h e1 e2
      | is v => exact bsOf_apart r bs hn'.2 h e1 e2
      | ex F b kp lt =>
        have hb : (prAt prs j).bl (valO pre a j) = b (valO pre a j) := by rw [hp]; rfl
        refine bsOf_apart r _ hn'.2 (List.pairwise_cons.2 ⟨fun y hy => ?_, h⟩) (fun i hi y hy => ?_) e2
        · rw [← hb]; exact h1 j (by simp) y hy
        · rcases List.mem_cons.1 hy with rfl | hy
          · rw [← hb]; exact h2 i (by simp [hi]) j (by simp) (fun he => hn'.1 (he ▸ hi))
          · exact e1 i hi y hy

def postI (N d : Nat) (p : Pr) (w : World) (E : Env) : Exit → Act → World → Prop := onlyN fun a w' => ∃ v, Fit N ((d, v) :: E) a ∧ Ext w w' ∧ p.holds v w' ∧ ∀ k, p.bl v = some k → w.heap.size ≤ k
structure NO (P : Program) (N : Nat) (pre : List Oper) (prs : List Pr) (o : Oper) (d : Nat) (p : Pr) (w : World) (ds : List Nat) (E : Env) : Prop where
  go : ∀ bs, need prs pre w (fun E' _ => WL P N pre.toArray [o] E' w (postI N d p w E')) ds E bs
def depsOf (o : Oper) : List Nat := o.after.toList.filterMap fun e => if Region.binds .any e then some e.on else none
structure OBL (P : Program) (N : Nat) (pre : List Oper) (prs : List Pr) (e : Env) (w : World) (i : Nat) (l : List Oper) : Prop where
  go : ∀ (k : Nat) (o : Oper), l[k]? = some o → ∃ d, o.dst = some d ∧ d < N ∧ ∀ w', Ext w w' → ∀ rest, NO P N pre prs o d (prAt prs (i + k)) w' (depsOf o) (e ++ rest)
theorem OBL.nil {e : Env} {w : World} {i : Nat} : OBL P N pre prs e w i [] := ⟨fun k o h => by simp at h⟩
theorem OBL.cons {e : Env} {w : World} {i d : Nat} {o : Oper} {r : List Oper} {p : Pr} {ds : List Nat} (hd : o.dst = some d) (hN : Nat.blt d N = true) (hp : prAt prs i = p) (hds : depsOf o = ds)
    (h : ∀ w', Ext w w' → ∀ rest, NO P N pre prs o d p w' ds (e ++ rest)) (k : OBL P N pre prs e w (i + 1) r) : OBL P N pre prs e w i (o :: r) := by
  refine ⟨fun j o' hj => ?_⟩
  cases j with
  | zero => simp at hj; subst hj; exact ⟨d, hd, by simpa [Nat.blt_eq] using hN, by rw [Nat.add_zero, hp, hds]; exact h⟩
  | succ j =>
    have := k.go j o' (by simpa using hj)
    rwa [show i + 1 + j = i + (j + 1) by omega] at this
theorem NO.nil {o : Oper} {d : Nat} {p : Pr} {w : World} {E : Env} (h : WL P N pre.toArray [o] E w (postI N d p w E)) : NO P N pre prs o d p w [] E := ⟨fun _ => h⟩
theorem NO.any {o : Oper} {d j : Nat} {p : Pr} {w : World} {E : Env} {r : List Nat} (hp : prAt prs j = .any) (h : NO P N pre prs o d p w r E) : NO P N pre prs o d p w (j :: r) E := ⟨fun bs => by
  unfold need
  cases dstAt pre j with
  | none => exact h.go bs
  | some d => dsimp only; rw [hp]; exact h.go bs⟩
theorem NO.is {o : Oper} {d dj j : Nat} {p : Pr} {w : World} {E : Env} {v : Value} {r : List Nat} (hd : dstAt pre j = some dj) (hp : prAt prs j = .is v) (h : NO P N pre prs o d p w r ((dj, v) :: E)) : NO P N pre prs o d p w (j :: r) E := ⟨fun bs => by
  unfold need
  rw [hd]; dsimp only; rw [hp]; exact h.go bs⟩
theorem NO.ex {o : Oper} {d dj j : Nat} {p : Pr} {w : World} {E : Env} {F : Value → World → Prop} {b : Value → Option Nat} {kp : ∀ x w w', F x w → Ext w w' → F x w'} {lt : ∀ x w k, F x w → b x = some k → k < w.heap.size} {r : List Nat} (hd : dstAt pre j = some dj) (hp : prAt prs j = .ex F b kp lt)
    (h : ∀ x, F x w → NO P N pre prs o d p w r ((dj, x) :: E)) : NO P N pre prs o d p w (j :: r) E := ⟨fun bs => by
  unfold need
  rw [hd]; dsimp only; rw [hp]; exact fun x hx => (h x hx).go _⟩

def dstsB (e : Env) : List Oper → Bool
  | [] => true
  | o :: r => (match o.dst with
    | some d => (match get e d with | some _ => false | none => true) && r.all (fun q => match q.dst with | some d' => !Nat.beq d d' | none => true)
    | none => false) && dstsB e r
theorem dstsB_spec {e : Env} : ∀ {l : List Oper}, dstsB e l = true → (∀ j d, dstAt l j = some d → get e d = none) ∧ ∀ i j d d', dstAt l i = some d → dstAt l j = some d' → i ≠ j → d ≠ d'
  | [], _ => ⟨fun j d h => (by cases h), fun i j d d' h => (by cases h)⟩
  | o :: r, h => by
    simp only [dstsB, Bool.and_eq_true] at h
    obtain ⟨h1, h2⟩ := h
    obtain ⟨k1, k2⟩ := dstsB_spec h2
    cases hd : o.dst with
    | none => rw [hd] at h1; cases h1
    | some d0 =>
      rw [hd] at h1
      simp only [Bool.and_eq_true] at h1
      have hno : get e d0 = none := by
        cases hg : get e d0 with
        | none => rfl
        | some x => rw [hg] at h1; exact absurd h1.1 (by simp)
      have hall : ∀ j d, dstAt r j = some d → d0 ≠ d := by
        intro j d hj
        rw [← dstAt_eq] at hj
        cases ho : r.toArray[j]? with
        | none => rw [ho] at hj; cases hj
        | some q =>
          rw [ho] at hj
          simp only [Option.bind_some] at hj
          have hq : q ∈ r := by have : r[j]? = some q := by simpa using ho
                                exact List.mem_of_getElem? this
          have := List.all_eq_true.1 h1.2 q hq
          rw [hj] at this
          intro he
          subst he
          simp at this
      refine ⟨fun j d hj => ?_, fun i j d d' hi hj hne => ?_⟩
      · cases j with
        | zero => simp only [dstAt, hd] at hj; cases hj; exact hno
        | succ j => exact k1 j d hj
      · cases i with
        | zero =>
          simp only [dstAt, hd] at hi; cases hi
          cases j with
          | zero => exact absurd rfl hne
          | succ j => exact hall j d' hj
        | succ i =>
          cases j with
          | zero => simp only [dstAt, hd] at hj; cases hj; exact fun he => hall i d hi he.symm
          | succ j => exact k2 i j d d' hi hj (by omega)

structure InvI (N : Nat) (prs : List Pr) (pre : List Oper) (e : Env) (w0 : World) (L : Array Bool) (a : Act) (w : World) : Prop where
  ext : Ext w0 w
  fit : Fit N e a
  holds : ∀ i, i < pre.length → L.getD i false = true → (prAt prs i).holds (valO pre a i) w
  apart : ∀ i j, i < pre.length → j < pre.length → L.getD i false = true → L.getD j false = true → i ≠ j → (prAt prs i).bl (valO pre a i) = none ∨ (prAt prs i).bl (valO pre a i) ≠ (prAt prs j).bl (valO pre a j)

theorem dstAt_of {l : List Oper} {i d : Nat} {o : Oper} (h : l[i]? = some o) (hd : o.dst = some d) : dstAt l i = some d := by
  rw [← dstAt_eq, show l.toArray[i]? = some o by simpa using h]; exact hd

theorem wpAny_inv {e : Env} {w0 : World} {Q' : Exit → Act → World → Prop} (hO : OBL P N pre prs e w0 0 pre) (hlow : lowB pre.toArray pre.length = true) (hd : dstsB e pre = true)
    (hK : ∀ L a w, InvI N prs pre e w0 L a w → (∀ i, i < pre.length → L.getD i false = true) → Q' .normal a w) : ∀ (f : Nat) (L : Array Bool) (a : Act) (w : World), L.size = pre.length → todo L pre.length = f → InvI N prs pre e w0 L a w → wpAny P .any pre.toArray Q' f L a w := by
  obtain ⟨hd1, hd2⟩ := dstsB_spec hd
  have hN : ∀ j d, dstAt pre j = some d → d < N := fun j d hj => by
    rw [← dstAt_eq] at hj
    cases ho : pre.toArray[j]? with
    | none => rw [ho] at hj; cases hj
    | some q =>
      rw [ho] at hj
      simp only [Option.bind_some] at hj
      obtain ⟨d', h1, h2, _⟩ := hO.go j q (by simpa using ho)
      rw [h1] at hj; cases hj; exact h2
  intro f
  induction f with
  | zero =>
    intro L a w hsz ht hI
    refine ⟨?_, hK L a w hI fun i hi => todo_zero ht hi⟩
    rw [List.eq_nil_iff_forall_not_mem]
    intro i hi
    have h1 := (mem_ready.1 hi).1
    by_cases hin : i < pre.length
    · have := todo_zero ht hin
      simp [Array.getD_eq_getD_getElem?, show i < L.size by omega] at h1 this
      rw [this] at h1; cases h1
    · simp [Array.getD_eq_getD_getElem?, Array.getElem?_eq_none (show L.size ≤ i by omega)] at h1
  | succ f ih =>
    intro L a w hsz ht hI
    have hun : ∃ i, i < pre.length ∧ L.getD i false = false ∧ ∀ j, j < i → L.getD j false = true := by
      by_cases hall : ∀ i, i < pre.length → L.getD i false = true
      · exfalso
        have : todo L pre.length = 0 := List.countP_eq_zero.2 (fun i hi => by simp [hall i (List.mem_range.1 hi)])
        omega
      · simp only [Classical.not_forall] at hall
        have hex : ∃ i, i < pre.length ∧ L.getD i false = false := by
          obtain ⟨i, hi, hf⟩ := hall
          exact ⟨i, hi, by simpa using hf⟩
        obtain ⟨i, ⟨hi, hf⟩, hmin⟩ := exists_least (p := fun i => i < pre.length ∧ L.getD i false = false) hex
        refine ⟨i, hi, hf, fun j hj => ?_⟩
        cases hb : L.getD j false with
        | true => rfl
        | false => have := hmin j ⟨by omega, hb⟩; omega
    obtain ⟨i0, hi0, hf0, hmin0⟩ := hun
    have hi0r : i0 ∈ Region.ready .any pre.toArray L := by
      obtain ⟨o, ho, hedge, _⟩ := lowB_spec hlow hi0
      exact mem_ready.2 ⟨getD_in (by omega) hf0, o, ho, fun e he hb => hmin0 _ (hedge e he hb)⟩
    refine ⟨fun h0 => (by rw [h0] at hi0r; cases hi0r), fun i hir => ?_⟩
    obtain ⟨h1, o, ho, hdeps⟩ := mem_ready.1 hir
    have hin : i < pre.length := by have := (Array.getElem?_eq_some_iff.1 ho).1; simpa using this
    have hfi : L.getD i false = false := getD_both h1
    have ho' : pre[i]? = some o := by simpa using ho
    obtain ⟨d, hod, hdN, hno⟩ := hO.go i o ho'
    rw [Nat.zero_add] at hno
    have hdi : dstAt pre i = some d := dstAt_of ho' hod
    obtain ⟨E', k1, k2, k3⟩ := need_out (K := fun E' _ => WL P N pre.toArray [o] E' w (postI N d (prAt prs i) w E')) hN (depsOf o) _ [] ((hno w hI.ext (slotsE a N)).go []) hI.fit.all (fun j hj => by
      obtain ⟨ed, hed, hj'⟩ := List.mem_filterMap.1 hj
      split at hj'
      · rename_i hb
        cases hj'
        have hl := hdeps ed (by simpa using hed) hb
        refine hI.holds _ ?_ hl
        refine Classical.byContradiction fun hge => ?_
        simp [Array.getD_eq_getD_getElem?, Array.getElem?_eq_none (show L.size ≤ ed.on by omega)] at hl
      · cases hj')
    have hfull : ∀ t, t < N → ∃ u, get E' t = some u := fun t ht => by
      have := k3 t (by rw [get_appE, slotsE_get ht]; cases get e t <;> simp)
      cases hg : get E' t with
      | none => exact absurd hg this
      | some u => exact ⟨u, rfl⟩
    refine wpOp_of_list ho (k1.go a w.drawn k2) _ fun a' w' h' => ?_
    have h'' : ∃ v, Fit N ((d, v) :: E') a' ∧ Ext w w' ∧ (prAt prs i).holds v w' ∧ ∀ k, (prAt prs i).bl v = some k → w.heap.size ≤ k := h'
    obtain ⟨v, g1, g2, g3, g4⟩ := h''
    have same : ∀ t, t ≠ d → t < N → a'.tmps[t]? = a.tmps[t]? := fun t htd ht => by
      obtain ⟨u, hu⟩ := hfull t ht
      rw [k2.slots t u hu]
      exact g1.slots t u (by rw [get_cons, if_neg (fun h => htd h.symm)]; exact hu)
    have hvi : valO pre a' i = v := by
      unfold valO
      rw [hdi]
      have := g1.slots d v (by rw [get_cons, if_pos rfl])
      simp [Array.getD_eq_getD_getElem?, this]
    have hvj : ∀ j, j ≠ i → valO pre a' j = valO pre a j := fun j hj => by
      unfold valO
      cases hdj : dstAt pre j with
      | none => rfl
      | some d' =>
        have := same d' (hd2 j i d' d hdj hdi hj) (hN j d' hdj)
        simp [Array.getD_eq_getD_getElem?, this]
    have hLi : ∀ j, j ≠ i → (L.setIfInBounds i true).getD j false = L.getD j false := fun j hj => getD_set_ne false (Ne.symm hj)
    refine ih _ a' w' (by simp [hsz]) (by have := todo_set (listed := L) (by omega) hfi pre.length hin; omega) ⟨hI.ext.trans g2, ⟨g1.size, g1.defers, fun t u hu => ?_⟩, fun j hj hl => ?_, fun j k hj hk hlj hlk hjk => ?_⟩
    · have htd : t ≠ d := fun h => by rw [h, hd1 i d hdi] at hu; cases hu
      have hat := hI.fit.slots t u hu
      have htN : t < N := by have := (Array.getElem?_eq_some_iff.1 hat).1; rw [hI.fit.size] at this; exact this
      rw [same t htd htN, hat]
    · by_cases hji : j = i
      · subst hji; rw [hvi]; exact g3
      · rw [hLi j hji] at hl; rw [hvj j hji]; exact Pr.keeps (hI.holds j hj hl) g2
    · by_cases hji : j = i
      · have hki : k ≠ i := fun h => hjk (by rw [hji, h])
        rw [hLi k hki] at hlk
        rw [hji, hvi, hvj k hki]
        cases hb : (prAt prs i).bl v with
        | none => exact .inl rfl
        | some q =>
          refine .inr fun he => ?_
          have h5 := g4 q hb
          have h6 := Pr.lts (hI.holds k hk hlk) he.symm
          omega
      · rw [hLi j hji] at hlj
        rw [hvj j hji]
        by_cases hki : k = i
        · rw [hki, hvi]
          cases hb : (prAt prs j).bl (valO pre a j) with
          | none => exact .inl rfl
          | some q =>
            refine .inr fun he => ?_
            have h5 := g4 q he.symm
            have h6 := Pr.lts (hI.holds j hj hlj) hb
            omega
        · rw [hLi k hki] at hlk
          rw [hvj k hki]
          exact hI.apart j k hj hk hlj hlk hjk

structure NF (P : Program) (N : Nat) (pre : List Oper) (prs : List Pr) (w : World) (K : Env → Prop) (ds : List Nat) (E : Env) (bs : List (Option Nat)) : Prop where
  go : need prs pre w (fun E' bs' => Apart bs' → K E') ds E bs
theorem NF.any {w : World} {K : Env → Prop} {E : Env} {bs : List (Option Nat)} {j : Nat} {r : List Nat} (hp : prAt prs j = .any) (h : NF P N pre prs w K r E bs) : NF P N pre prs w K (j :: r) E bs := ⟨by
  unfold need
  cases dstAt pre j with
  | none => exact h.go
  | some d => dsimp only; rw [hp]; exact h.go⟩
theorem NF.is {w : World} {K : Env → Prop} {E : Env} {bs : List (Option Nat)} {j dj : Nat} {v : Value} {r : List Nat} (hd : dstAt pre j = some dj) (hp : prAt prs j = .is v) (h : NF P N pre prs w K r ((dj, v) :: E) bs) : NF P N pre prs w K (j :: r) E bs := ⟨by
  unfold need
  rw [hd]; dsimp only; rw [hp]; exact h.go⟩
theorem NF.ex {w : World} {K : Env → Prop} {E : Env} {bs : List (Option Nat)} {j dj : Nat} {F : Value → World → Prop} {b : Value → Option Nat} {kp : ∀ x w w', F x w → Ext w w' → F x w'} {lt : ∀ x w k, F x w → b x = some k → k < w.heap.size} {r : List Nat} (hd : dstAt pre j = some dj) (hp : prAt prs j = .ex F b kp lt)
    (h : ∀ x, F x w → NF P N pre prs w K r ((dj, x) :: E) (b x :: bs)) : NF P N pre prs w K (j :: r) E bs := ⟨by
  unfold need
  rw [hd]; dsimp only; rw [hp]; exact fun x hx => (h x hx).go⟩
theorem NF.nilT {l tail : List Oper} {w : World} {Q : Exit → Act → World → Prop} {E : Env} {bs : List (Option Nat)} (h : Apart bs → WL P N l.toArray tail E w Q) : NF P N pre prs w (fun E' => WL P N l.toArray tail E' w Q) [] E bs := ⟨h⟩
def uptoL : Nat → List Nat
  | 0 => []
  | n + 1 => uptoL n ++ [n]
theorem mem_uptoL : ∀ {n i : Nat}, i ∈ uptoL n ↔ i < n
  | 0, i => by simp [uptoL]
  | n + 1, i => by simp only [uptoL, List.mem_append, mem_uptoL, List.mem_singleton]; omega
theorem uptoL_nodup : ∀ n : Nat, (uptoL n).Nodup
  | 0 => by simp [uptoL]
  | n + 1 => by
    simp only [uptoL]
    rw [List.nodup_append]
    exact ⟨uptoL_nodup n, by simp, fun x hx y hy => by have := mem_uptoL.1 hx; simp at hy; omega⟩

theorem inv_done {e : Env} {w0 w : World} {L : Array Bool} {a : Act} {K : Env → Prop} (hN : ∀ j d, dstAt pre j = some d → d < N) (hI : InvI N prs pre e w0 L a w) (hall : ∀ i, i < pre.length → L.getD i false = true) (h : NF P N pre prs w K (uptoL pre.length) e []) : ∃ E', K E' ∧ Fit N E' a := by
  obtain ⟨E', k1, k2, _⟩ := need_out hN _ _ _ h.go hI.fit (fun j hj => hI.holds j (mem_uptoL.1 hj) (hall j (mem_uptoL.1 hj)))
  exact ⟨E', k1 (bsOf_apart _ _ (uptoL_nodup _) List.Pairwise.nil (fun i _ b hb => by cases hb) fun i hi j hj hne => hI.apart i j (mem_uptoL.1 hi) (mem_uptoL.1 hj) (hall i (mem_uptoL.1 hi)) (hall j (mem_uptoL.1 hj)) hne), k2⟩
theorem InvI.start {e : Env} {w0 : World} {a : Act} {m n : Nat} (hf : Fit N e a) : InvI N prs pre e w0 (Array.replicate n false) a (at' w0 m) :=
  ⟨(Ext.refl _).at m, hf, fun i _ h => (by rw [getD_replicate_false] at h; cases h), fun i j _ _ h => (by rw [getD_replicate_false] at h; cases h)⟩
theorem OBL.lt {e : Env} {w0 : World} (hO : OBL P N pre prs e w0 0 pre) : ∀ j d, dstAt pre j = some d → d < N := fun j d hj => by
  rw [← dstAt_eq] at hj
  cases ho : pre.toArray[j]? with
  | none => rw [ho] at hj; cases hj
  | some q =>
    rw [ho] at hj
    simp only [Option.bind_some] at hj
    obtain ⟨d', h1, h2, _⟩ := hO.go j q (by simpa using ho)
    rw [h1] at hj; cases hj; exact h2

theorem todo_start (n m : Nat) : todo (Array.replicate m false) n = n := by
  unfold todo
  rw [List.countP_eq_length.2 (fun i _ => by rw [getD_replicate_false]; rfl)]
  simp

/-- The first n operations so; the others in their order. -/
theorem W.regionI {id : Nat} {l tail : List Oper} {e : Env} {w : World} {Q : Exit → Act → World → Prop} {ds : List Nat} (n : Nat) (prs : List Pr) (hm : P.follows .mixedOrders = true) (hB : Region.lexTailB .any l.toArray n = true) (hc : cutAt n l = some (pre, tail))
    (hlow : lowB l.toArray n = true) (hl : lowB pre.toArray n = true) (hd : dstsB e pre = true) (hds : uptoL n = ds)
    (hO : OBL P N pre prs e w 0 pre) (k : ∀ w', Ext w w' → NF P N pre prs w' (fun E' => WL P N l.toArray tail E' w' Q) ds e []) : W P N (.region id l.toArray true) e w Q := by
  refine ⟨fun a m hf => ?_⟩
  subst hds
  obtain ⟨h1, h2⟩ := cutAt_eq hc
  simp only [Region.lexTailB, Bool.and_eq_true, decide_eq_true_eq] at hB
  obtain ⟨⟨⟨⟨hsel, hn⟩, hs⟩, hcb⟩, hlex⟩ := hB
  have hn' : n < l.length := by simpa using hn
  have hpl : pre.length = n := by rw [← h1]; simp; omega
  have htl : tail.length = l.length - n := by rw [← h2]; simp
  have hH : ∀ j, j < n → pre.toArray[j]? = l.toArray[j]? := fun j hj => by rw [← h1]; simp [hj]
  refine wp_region_any hm ?_
  have hany : wpAny P .any pre.toArray (fun x a' w' => match x with | .normal => wpList P l.toArray Q tail a' w' | _ => False) n (Array.replicate n false) a (at' w (m + 1)) := by
    have := wpAny_inv (P := P) (Q' := fun x a' w' => match x with | .normal => wpList P l.toArray Q tail a' w' | _ => False) hO (by rw [hpl]; exact hl) hd (fun L a w' hI hall => by
      obtain ⟨E', h1, h2⟩ := inv_done hO.lt hI hall (by rw [hpl]; exact k w' hI.ext)
      exact h1.go a w'.drawn h2) n (Array.replicate n false) a (at' w (m + 1)) (by simp [hpl]) (by rw [hpl]; exact todo_start _ _) (InvI.start hf)
    exact this
  have inv0 : HeadInv .any l.toArray n (Array.replicate l.toArray.size false) :=
    ⟨by simp, fun j oj _ hl => (by rw [getD_replicate_false] at hl; cases hl), fun t _ ht => getD_in (by simpa using ht) (getD_replicate_false _ _)⟩
  have key := sim (P := P) (g := l.length - n) (Q := Q) hH (by simpa using hpl) hn hs hcb hlow (fun listed a' w' hsz hfull hrest hk => ?_) (fun x a' w' hx hk => ?_) n (Array.replicate n false) (Array.replicate l.toArray.size false) a (at' w (m + 1)) (by simp) (by simp)
    (fun j hj => by rw [getD_replicate_false, getD_replicate_false]) inv0 (todo_start _ _) hany
  · rw [show n + (l.length - n) = l.toArray.size by simp; omega] at key
    exact key
  · have hseq : Region.seqB .any l.toArray (l.length - n) n listed = true := by
      have : ∀ (f k : Nat) (L : Array Bool), L.size = l.toArray.size → k + f = n → (∀ j, j < k → L.getD j false = true) → (∀ j, k ≤ j → L.getD j false = false) → Region.lexHead .any l.toArray (l.length - n) f k L = true → ∃ L', L'.size = l.toArray.size ∧ (∀ j, j < n → L'.getD j false = true) ∧ (∀ j, n ≤ j → L'.getD j false = false) ∧ Region.seqB .any l.toArray (l.length - n) n L' = true := by
        intro f
        induction f with
        | zero =>
          intro k L h1 h2 h3 h4 h5
          have hkn : k = n := by omega
          rw [hkn] at h3 h4 h5
          exact ⟨L, h1, h3, h4, h5⟩
        | succ f ih =>
          intro k L h1 h2 h3 h4 h5
          simp only [Region.lexHead, Bool.and_eq_true] at h5
          refine ih (k + 1) _ (by simpa using h1) (by omega) (fun j hj => ?_) (fun j hj => ?_) h5.2
          · by_cases hjk : k = j
            · subst hjk
              simp [Array.getD_eq_getD_getElem?, Array.getElem?_setIfInBounds, show k < L.size by rw [h1]; simp; omega]
            · have := h3 j (by omega)
              simpa [Array.getD_eq_getD_getElem?, Array.getElem?_setIfInBounds, hjk] using this
          · have := h4 j (by omega)
            simpa [Array.getD_eq_getD_getElem?, Array.getElem?_setIfInBounds, show k ≠ j by omega] using this
      obtain ⟨L', g1, g2, g3, g4⟩ := this n 0 (Array.replicate l.toArray.size false) (by simp) (by omega) (fun j hj => by omega) (fun j _ => getD_replicate_false _ _) (by simpa using hlex)
      have : listed = L' := by
        apply Array.ext
        · rw [hsz, g1]
        · intro i hi1 hi2
          rcases Nat.lt_or_ge i n with hlt | hge
          · have e1 := hfull i hlt
            have e2 := g2 i hlt
            simp [Array.getD_eq_getD_getElem?, hi1] at e1
            simp [Array.getD_eq_getD_getElem?, hi2] at e2
            rw [e1, e2]
          · have e1 := hrest i hge
            have e2 := g3 i hge
            simp [Array.getD_eq_getD_getElem?, hi1] at e1
            simp [Array.getD_eq_getD_getElem?, hi2] at e2
            rw [e1, e2]
      rw [this]; exact g4
    have := wpAny_of_seq (P := P) (md := .any) (Q' := Q) tail n listed a' w' (fun j => by rw [← h2]; simp [List.getElem?_drop]) (by rw [htl]; exact hseq) hk
    rwa [htl] at this
  · cases x with
    | normal => exact absurd rfl hx
    | _ => exact hk.elim

theorem Z.invIs {d : Nat} {v : Value} {w w' : World} {E : Env} (hx : Ext w w') : Z N (postI N d (.is v) w E) .normal ((d, v) :: E) w' :=
  ⟨fun a m hf => ⟨v, hf, hx.at m, rfl, fun k hk => by cases hk⟩⟩
theorem Z.invEx {d : Nat} {v : Value} {w w' : World} {E : Env} {F : Value → World → Prop} {b : Value → Option Nat} {kp : ∀ x w w', F x w → Ext w w' → F x w'} {lt : ∀ x w k, F x w → b x = some k → k < w.heap.size}
    (hx : Ext w w') (hF : F v w') (hb : ∀ k, b v = some k → w.heap.size ≤ k) : Z N (postI N d (.ex F b kp lt) w E) .normal ((d, v) :: E) w' :=
  ⟨fun a m hf => ⟨v, hf, hx.at m, kp _ _ _ hF ((Ext.refl w').at m), hb⟩⟩
end

/-- An empty slice that is written out. -/
def isLit (el B : Nat) (x : Value) (w : World) : Prop := ∃ gb, x = .slice (some ⟨gb, 0, none⟩) 0 0 ∧ w.heap[gb]? = some (.cells #[] el (0, 0)) ∧ B ≤ gb
def prLit (el B : Nat) : Pr := .ex (isLit el B) (fun _ => none) (fun x w w' ⟨gb, h1, h2, h3⟩ hx => ⟨gb, h1, by rw [hx.block gb (heap_lt h2)]; exact h2, h3⟩) (fun x w k _ h => by cases h)
def sliceBlk : Value → Option Nat
  | .slice a _ _ => blk a
  | _ => none
/-- A row of one's own. -/
def isRow {α : Type} (s : Nat) (enc : α → List Value) (el B : Nat) (l : List α) (x : Value) (w : World) : Prop := ∃ a cap, x = .slice a l.length cap ∧ Own s enc el B w a cap l
open Classical in
noncomputable def prRow {α : Type} (s : Nat) (enc : α → List Value) (el B : Nat) (l : List α) : Pr := .ex (isRow s enc el B l) (fun x => if l = [] then none else sliceBlk x)
  (fun x w w' ⟨a, cap, h1, h2⟩ hx => ⟨a, cap, h1, h2.ext hx⟩) (fun x w k ⟨a, cap, h1, h2⟩ h => by
    subst h1
    by_cases hl : l = []
    · rw [if_pos hl] at h; cases h
    · rw [if_neg hl] at h; exact (h2.blk_lt k h).2)
section
variable {N : Nat}
theorem Z.invLit {d el B gb : Nat} {w w' : World} {E : Env} (hx : Ext w w') (hb : w'.heap[gb]? = some (.cells #[] el (0, 0))) (hge : B ≤ gb) : Z N (postI N d (prLit el B) w E) .normal ((d, .slice (some ⟨gb, 0, none⟩) 0 0) :: E) w' :=
  Z.invEx hx ⟨gb, rfl, hb, hge⟩ (fun k h => by cases h)
theorem Z.invRow {α : Type} {s : Nat} {enc : α → List Value} {d el B cap : Nat} {l : List α} {a : Option Addr} {w w' : World} {E : Env} (hx : Ext w w') (hO : Own s enc el B w' a cap l) (hf : l = [] ∨ ∀ k, blk a = some k → w.heap.size ≤ k) :
    Z N (postI N d (prRow s enc el B l) w E) .normal ((d, .slice a l.length cap) :: E) w' :=
  Z.invEx hx ⟨a, cap, rfl, hO⟩ (fun k h => by
    by_cases hl : l = []
    · rw [if_pos hl] at h; cases h
    · rw [if_neg hl] at h; exact (hf.resolve_left hl) k h)
end

theorem row_cells {α : Type} {s : Nat} {enc : α → List Value} {w : World} {ad : Addr} {ys : List α} (hE : Enc s enc) (hr : Row s enc w (some ad) ys) : ∀ i u, (ys.flatMap enc)[i]? = some u → w.cell? (ad.add i) = some u := by
  intro i u hu
  have hpos := hE.pos
  have hlt : i < ys.length * s := by have := (List.getElem?_eq_some_iff.1 hu).1; rwa [length_flatMap' hE.len] at this
  have hdiv : i / s < ys.length := by rw [Nat.div_lt_iff_lt_mul hpos]; exact hlt
  have hyy : ys[i / s]? = some ys[i / s] := by simp [hdiv]
  obtain ⟨bb, off, hbb, hc⟩ := hr.elem _ _ hyy
  simp only [Option.some.injEq] at hbb
  subst hbb
  have hmod : i % s < s := Nat.mod_lt _ hpos
  have h1 := getElem?_flatMap' hE.len ys (i / s) (i % s) _ hyy hmod
  have h2 : i / s * s + i % s = i := by rw [Nat.mul_comm]; exact Nat.div_add_mod i s
  rw [h2, hu] at h1
  have key : ∀ (L : List Value) (o jj : Nat) (u : Value), Cells w bb o L → L[jj]? = some u → w.cell? ⟨bb, o + jj, none⟩ = some u := by
    intro L
    induction L with
    | nil => intro o jj u _ h; simp at h
    | cons v r ih =>
      intro o jj u hcc h
      cases jj with
      | zero => simp only [List.getElem?_cons_zero, Option.some.injEq] at h; subst h; exact hcc.1
      | succ jj => have := ih (o + 1) jj u hcc.2 (by simpa using h); rwa [show o + 1 + jj = o + (jj + 1) by omega] at this
  have := key _ _ _ u hc h1.symm
  rw [Addr_add_none]
  rw [show off + i / s * s + i % s = off + i by omega] at this
  exact this

section rules
variable {P : Program} {N : Nat} {e : Env} {w : World} {Q : Exit → Act → World → Prop} {ops : List Oper} {l : List Oper} {T : Tab}
  {d : Nat} {tt : TypeId} {ps : String} {af : Array Edge} {g : Option (Nat × Bool)} {t : TypeId} {α : Type} {s : Nat} {enc : α → List Value} {B : Nat} {ti ei : TI} {el : TypeId}
/-- 'append([]T{}, ys...)'. -/
theorem WL.append0 {x y : Operand} {b : Option Addr} {gb m c : Nat} {ys : List α} {wo w1 : World} (hT : OkTab P T) (hE : Enc s enc) (hg : gate ops e g = some true) (hd : Nat.blt d N = true)
    (hx : ev e x = some (.slice (some ⟨gb, 0, none⟩) 0 0)) (hy : ev e y = some (.slice b m c)) (ht : tget T t = some ti) (htd : ti.desc = .slice el) (he : tget T el = some ei) (hs : ei.size = s) (hz : ei.zero.cells.size = s) (hby : Nat.ble ei.bytes 1024 = true)
    (ho : wo.heap[gb]? = some (.cells #[] el (0, 0))) (hB : B ≤ gb) (hwo : Ext wo w) (hr : Row s enc w1 b ys) (hw1 : Ext w1 w) (hm : ys.length = m) (hmc : b = none → c = 0) (hbd : ys.length ≤ 137438953472)
    (k : ∀ a' cap' w', Own s enc el B w' a' cap' ys → Ext w w' → (ys = [] ∨ ∀ k, blk a' = some k → w.heap.size ≤ k) → WL P N ops.toArray l ((d, .slice a' ys.length cap') :: e) w' Q) :
    WL P N ops.toArray (⟨some d, .call ⟨.builtin .append, ⟨[x, y]⟩, ⟨[t, t]⟩⟩, tt, ps, af, g⟩ :: l) e w Q := by
  have hb' := Nat.le_of_ble_eq_true hby
  have hgw : w.heap[gb]? = some (.cells #[] el (0, 0)) := by rw [hwo.block gb (heap_lt ho)]; exact ho
  have hgl := heap_lt hgw
  have hO0 : Own s enc el B w (some ⟨gb, 0, none⟩) 0 ([] : List α) := Own.of_block0 hgw hB
  obtain ⟨j, hj1, hj2, hj3, hj4⟩ := (hT.at he).info
  have hti := (hT.at ht).1
  rw [htd] at hti
  subst hm
  by_cases hy0 : ys = []
  · subst hy0
    refine WL.eff (v := .slice (some ⟨gb, 0, none⟩) 0 0) (w' := fun m => at' w m) hg hd ?_ (fun m => ?_)
    · intro ρ hρ m
      simp only [execOp, resolve, invoke, builtin, Sem.run_bind, Sem.run_pure, Result.andThen_ok, List.map_toArray, List.map_cons, List.map_nil, hρ _ _ hx, hρ _ _ hy]
      by_cases hb : b = none
      · subst hb
        obtain rfl := hmc rfl
        have := run_append_nothing (P := P) (tt := tt) (n := 0) hT ht htd he (w' := at' w m) (xs := ([] : List α)) hO0 hs
        simp only [List.length_nil] at this ⊢
        rw [this]; rfl
      · obtain ⟨ad, rfl⟩ := Option.ne_none_iff_exists'.1 hb
        have := run_append_room (P := P) (at' w m) t tt el j hti hj1 gb 0 0 #[] hgw ad 0 c [] (by simp) (fun q u hq => by simp at hq) (fun u hu => by cases hu) (by omega) (by simp)
        simp only [List.length_nil] at this ⊢
        rw [this]
        have hset : (at' w m).setRow gb #[] = at' w m := by
          have key : ∀ (u : World) (h : Array Obj), h = u.heap → { u with heap := h } = u := fun u h e => by subst e; rfl
          unfold World.setRow
          refine key (at' w m) _ ?_
          apply Array.ext
          · simp
          · intro i h1 h2
            rw [Array.getElem_modify]
            split
            · rename_i hi
              subst hi
              have : (at' w m).heap[gb]? = some (.cells #[] el (0, 0)) := hgw
              rw [Array.getElem?_eq_getElem h2] at this
              simp only [Option.some.injEq] at this
              rw [this]
            · rfl
        simp [hset]
    · have hX : Ext w (at' w m) := (Ext.refl w).at m
      exact k (some ⟨gb, 0, none⟩) 0 (at' w m) (hO0.ext hX) hX (.inl rfl)
  · have hb : b ≠ none := by
      intro h
      subst h
      cases ys with
      | nil => exact hy0 rfl
      | cons z r => obtain ⟨b', off, h1, _⟩ := hr.elem 0 z rfl; cases h1
    have hpos : 0 < ys.length := by cases ys with | nil => exact absurd rfl hy0 | cons z r => simp
    have hbytes : (0 + ys.length) * ei.bytes ≤ 140737488355328 := by
      rw [Nat.zero_add]
      calc ys.length * ei.bytes ≤ 137438953472 * 1024 := Nat.mul_le_mul hbd hb'
        _ ≤ _ := by decide
    obtain ⟨ad, rfl⟩ := Option.ne_none_iff_exists'.1 hb
    have hnews : ∀ (q : Nat) i u, (ys.flatMap enc)[i]? = some u → (at' w q).cell? (ad.add i) = some u := fun q i u hu => row_cells hE (hr.ext hw1) i u hu
    have hone : ∀ u ∈ ys.flatMap enc, u.oneCell' = true := fun u hu => by
      obtain ⟨z, _, hz'⟩ := List.mem_flatMap.1 hu
      exact hE.one z u hz'
    have hlY : (ys.flatMap enc).length = ys.length * j.size := by rw [length_flatMap' hE.len, hj2.trans hs]
    have hfit := growslice_fits (need := 0 + ys.length) (old := 0) (bytes := j.bytes) (by omega) (by rw [hj3]; exact hbytes)
    have hgr : ∀ q, (Builtin.append_ #[t, t] tt #[.slice (some ⟨gb, 0, none⟩) 0 0, .slice (some ad) ys.length c]).run P (at' w q) = .ok (.slice (some ⟨w.heap.size, 0, none⟩) (0 + ys.length) (grownCap (at' w q) (0 + ys.length) 0 el)) ((at' w q).drew.alloc (.cells (([] : List Value).toArray ++ (ys.flatMap enc).toArray ++ Builtin.zeroCells ei.zero.cells (grownCap (at' w q) (0 + ys.length) 0 el - (0 + ys.length))) el)) := fun q =>
      run_append_grow (P := P) (at' w q) t tt el j ei.zero hti hj1 hj4 ⟨gb, 0, none⟩ 0 0 [] (by simp) (fun i u h => by simp at h) ad ys.length c (ys.flatMap enc) hlY (hnews q) (by omega) (by simp only [Nat.zero_add]; omega) hfit
    refine ⟨fun ac q hf => ?_⟩
    unfold wpList
    rw [if_pos (by rw [gate_wanted hf (o := ⟨some d, .call ⟨.builtin .append, ⟨[x, y]⟩, ⟨[t, t]⟩⟩, tt, ps, af, g⟩) hg])]
    refine .inl ?_
    obtain ⟨v', w', hrun, h2, _, _⟩ := run_append_own (P := P) (at' w q) B t tt el j ei.zero s ei.bytes hti hj1 hj4 (hj2.trans hs) hj3 hz hE.pos (.slice (some ⟨gb, 0, none⟩) 0 0) 0 [] hO0 ad ys.length c (ys.flatMap enc)
      (by rw [length_flatMap' hE.len]) (hnews q) hone (by simp only [maxLen]; omega) hbytes (by show B ≤ w.heap.size; omega)
    have hg' := hgr q
    rw [hg'] at hrun
    simp only [Result.ok.injEq] at hrun
    obtain ⟨hv, hw⟩ := hrun
    have hexec : (execOp ac.eval ⟨some d, .call ⟨.builtin .append, ⟨[x, y]⟩, ⟨[t, t]⟩⟩, tt, ps, af, g⟩).run P (at' w q) = .ok (.value v') w' := by
      simp only [execOp, resolve, invoke, builtin, Sem.run_bind, Sem.run_pure, Result.andThen_ok, List.map_toArray, List.map_cons, List.map_nil, hf.eval hx, hf.eval hy, hg', hv, hw]
    unfold Oper.wp
    rw [hexec]
    have hX : Ext w w' := by rw [← hw]; exact ⟨rfl, rfl, rfl, by simp, fun k hk => heap_alloc_old (at' w q).drew _ hk⟩
    have hO : Own s enc el B w' (some ⟨w.heap.size, 0, none⟩) (grownCap (at' w q) (0 + ys.length) 0 el) ys := by
      rw [← hv] at h2
      simp only [List.nil_append, Nat.zero_add] at h2 ⊢
      exact h2
    subst hv
    have := (k _ _ w' hO hX (.inr fun k hk => by simp only [blk, Option.map_some, Option.some.injEq] at hk; omega)).go _ w'.drawn (hf.put (by simpa [Nat.blt_eq] using hd) _)
    simp only [Nat.zero_add] at this ⊢
    exact this
end rules

open Classical in
/-- A row of one's own; if it is empty, nothing is said of it. -/
noncomputable def prowZ {α : Type} (s : Nat) (enc : α → List Value) (el B : Nat) (a : Option Addr) (cap : Nat) (l : List α) : Piece :=
  ⟨if l = [] then none else blk a, fun w => l ≠ [] → Own s enc el B w a cap l, fun {w w'} h hb hl => (h hl).keep fun k hk => hb k (by rw [if_neg hl]; exact hk)⟩
theorem prowZ_b {α : Type} {s : Nat} {enc : α → List Value} {el B cap : Nat} {a : Option Addr} {l : List α} (hl : l ≠ []) : (prowZ s enc el B a cap l).b = blk a := if_neg hl
theorem Sep.rowZ {α : Type} {s : Nat} {enc : α → List Value} {el B cap i : Nat} {a : Option Addr} {l : List α} {w : World} {ps : List Piece} (hS : Sep B w ps) (h : ps[i]? = some (prowZ s enc el B a cap l)) (hl : l ≠ []) : Own s enc el B w a cap l := (hS.holds i _ h).1 hl
theorem Sep.news {B : Nat} {w w' : World} {ps : List Piece} (qs : List Piece) (hS : Sep B w ps) (hx : Ext w w') (hp : ∀ q ∈ qs, q.P w' ∧ ∀ k, q.b = some k → w.heap.size ≤ k ∧ k < w'.heap.size) (ha : Apart (qs.map (·.b))) (hB : B ≤ w.heap.size) : Sep B w' (qs ++ ps) := by
  induction qs with
  | nil => exact hS.ext hx
  | cons q r ih =>
    have ha' := List.pairwise_cons.1 (show List.Pairwise _ (q.b :: r.map (·.b)) from ha)
    have ih' := ih (fun p h => hp p (by simp [h])) ha'.2
    obtain ⟨hq1, hq2⟩ := hp q (by simp)
    have key : ∀ (j : Nat) (p : Piece), (r ++ ps)[j]? = some p → (q.b = none ∨ q.b ≠ p.b) ∧ (p.b = none ∨ p.b ≠ q.b) := by
      intro j p hj
      have base : q.b = none ∨ q.b ≠ p.b := by
        by_cases hlt : j < r.length
        · rw [List.getElem?_append_left hlt] at hj
          exact ha'.1 p.b (List.mem_map.2 ⟨p, List.mem_of_getElem? hj, rfl⟩)
        · rw [List.getElem?_append_right (by omega)] at hj
          cases hb : q.b with
          | none => exact .inl rfl
          | some k =>
            refine .inr fun he => ?_
            have h1 := (hq2 k hb).1
            have h2 := ((hS.holds _ p hj).2 k he.symm).2
            omega
      refine ⟨base, ?_⟩
      rcases base with h | h
      · cases hb : p.b with
        | none => exact .inl rfl
        | some k => exact .inr (by rw [h]; simp)
      · exact .inr (Ne.symm h)
    refine ⟨fun i p h => ?_, fun i j p p' h1 h2 hne => ?_⟩
    · cases i with
      | zero => simp at h; subst h; exact ⟨hq1, fun k hk => ⟨Nat.le_trans hB (hq2 k hk).1, (hq2 k hk).2⟩⟩
      | succ i => exact ih'.holds i p (by simpa using h)
    · cases i with
      | zero =>
        simp at h1; subst h1
        cases j with
        | zero => exact absurd rfl hne
        | succ j => exact (key j p' (by simpa using h2)).1
      | succ i =>
        cases j with
        | zero => simp at h2; subst h2; exact (key i p (by simpa using h1)).2
        | succ j => exact ih'.apart i j p p' (by simpa using h1) (by simpa using h2) (by omega)
theorem prowZ_new {α : Type} {s : Nat} {enc : α → List Value} {el B C cap : Nat} {a : Option Addr} {l : List α} {w : World} (h : Own s enc el B w a cap l) (hB : C ≤ B) : (prowZ s enc el C a cap l).P w ∧ ∀ k, (prowZ s enc el C a cap l).b = some k → B ≤ k ∧ k < w.heap.size := by
  refine ⟨fun _ => h.base hB, fun k hk => ?_⟩
  by_cases hl : l = []
  · have : (prowZ s enc el C a cap l).b = none := if_pos hl
    rw [this] at hk; cases hk
  · rw [prowZ_b hl] at hk; exact h.blk_lt k hk
/-- What is apart stays so where some are left out. -/
theorem apartS {bs cs : List (Option Nat)} (h : Apart bs) (hs : List.Sublist cs bs := by repeat' (first | exact List.Sublist.slnil | apply List.Sublist.cons_cons | apply List.Sublist.cons)) : Apart cs := List.Pairwise.sublist hs h
theorem Sep.takeN {B : Nat} {w : World} {ps : List Piece} (hS : Sep B w ps) (n : Nat) : Sep B w (ps.take n) := by
  have key : ∀ (i : Nat) (p : Piece), (ps.take n)[i]? = some p → ps[i]? = some p := fun i p h => by
    rw [List.getElem?_take] at h; split at h
    · exact h
    · cases h
  exact ⟨fun i p h => hS.holds i p (key i p h), fun i j p q h1 h2 hne => hS.apart i j p q (key i p h1) (key j q h2) hne⟩
end Go.Lt
namespace Go.Lt
open Go.RowKit
set_option linter.unusedVariables false

theorem and1_any (a : Int) : IntKind.i64.wrap (BitVec.ofInt IntKind.i64.bits a &&& BitVec.ofInt IntKind.i64.bits 1).toNat = a % 2 := by
  show IntKind.i64.wrap (BitVec.ofInt 64 a &&& BitVec.ofInt 64 1).toNat = a % 2
  have h1 : (BitVec.ofInt 64 a &&& BitVec.ofInt 64 1).toNat = (BitVec.ofInt 64 a).toNat % 2 := by
    rw [BitVec.toNat_and, show (BitVec.ofInt 64 1).toNat = 1 from rfl, Nat.and_one_is_mod]
  have h2 : ((BitVec.ofInt 64 a).toNat : Int) = a % 18446744073709551616 := by
    rw [BitVec.toNat_ofInt]
    have : (0 : Int) ≤ a % ((2 ^ 64 : Nat) : Int) := Int.emod_nonneg _ (by decide)
    rw [Int.toNat_of_nonneg this]
    rfl
  rw [h1, IntWalk.i64_in _ (by omega)]
  omega
section rules
variable {P : Program} {N : Nat} {e : Env} {w : World} {Q : Exit → Act → World → Prop} {K : Act → World → Prop} {C : World → Prop} {ops : List Oper} {l : List Oper} {Kf : Act → Prop}
  {d : Nat} {tt t ty : TypeId} {ps : String} {af : Array Edge} {g : Option (Nat × Bool)} {x y : Operand} {a : Int}
theorem yandA {dd : Option Tmp} (hx : ev e x = some (.int .i64 a)) (hy : ev e y = some (.int .i64 1)) : Yields P e ⟨dd, .binOp .and t x y ty, tt, ps, af, g⟩ (.int .i64 (a % 2)) := by
  have := Yields.bin (P := P) (d := dd) (op := .and) (t := t) (ty := ty) (tt := tt) (ps := ps) (af := af) (g := g) hx hy (v := .int .i64 (IntKind.i64.wrap (BitVec.ofInt IntKind.i64.bits a &&& BitVec.ofInt IntKind.i64.bits 1).toNat)) rfl
  rwa [and1_any a] at this
theorem WL.andA (hg : gate ops e g = some true) (hd : Nat.blt d N = true) (hx : ev e x = some (.int .i64 a)) (hy : ev e y = some (.int .i64 1)) (k : WL P N ops.toArray l ((d, .int .i64 (a % 2)) :: e) w Q) : WL P N ops.toArray (⟨some d, .binOp .and t x y ty, tt, ps, af, g⟩ :: l) e w Q := WL.step hg hd (yandA hx hy).in k
theorem QL.andA (hg : gate ops e g = some true) (hd : Nat.blt d N = true) (hx : ev e x = some (.int .i64 a)) (hy : ev e y = some (.int .i64 1)) (k : QL P N C ops.toArray l ((d, .int .i64 (a % 2)) :: e) Q) : QL P N C ops.toArray (⟨some d, .binOp .and t x y ty, tt, ps, af, g⟩ :: l) e Q := QL.step hg hd (yandA hx hy).in k
theorem FL.andA (hg : gate ops e g = some true) (hd : Nat.blt d N = true) (hx : ev e x = some (.int .i64 a)) (hy : ev e y = some (.int .i64 1)) (k : FL P N ops.toArray C l ((d, .int .i64 (a % 2)) :: e) w Kf) : FL P N ops.toArray C (⟨some d, .binOp .and t x y ty, tt, ps, af, g⟩ :: l) e w Kf := FL.step hg hd (yandA hx hy).in k
end rules
end Go.Lt
namespace Go.Proofs.Ytlcenenkloicjaa
open Go Go.Lt Go.RowKit
set_option linter.unusedVariables false
set_option linter.unusedSimpArgs false
set_option maxRecDepth 20000

/-- The types of the map that turns. -/
def Tf7 : Tab := [(96, ⟨.func #[3] #[3] false, 1, 8, .nilFunc⟩), (121, ⟨.map 4 96, 1, 8, .map none⟩)]
theorem tf7Ok : OkTab Try.prog Tf7 := ⟨⟨by kernel_rfl, by kernel_rfl⟩, ⟨by kernel_rfl, by kernel_rfl⟩, trivial⟩
abbrev kvB : Bool → Value := fun b => .bool b
abbrev vvF : Nat → Value := fun f => .func (.func f) #[] #[]
theorem keyB : KeyF Try.prog 4 kvB := by
  refine keyF_of Try.underlying4 (fun a b => ?_) (fun em a w => ?_) (fun a => ?_)
  · simp only [Instr.sameNow]
    rw [dec_decide]; cases a <;> cases b <;> rfl
  · have hu' : (underlying 4).run Try.prog w = .ok .bool w := by simp [underlying, program, Sem.run, Try.underlying4]
    rw [show (10000 : Nat) = 9999 + 1 from rfl, Instr.checkKey]
    simp only [Sem.run_bind, hu', Result.andThen_ok]
    rfl
  · simp [Instr.sameBits]
theorem look1S {P : Program} {N : Nat} {e : Env} {w : World} {Q : Exit → Act → World → Prop} {ops : List Oper} {l : List Oper} {T : Tab} {d : Nat} {tt t : TypeId} {ps : String} {af : Array Edge} {g : Option (Nat × Bool)} {x y : Operand} {ti ei : TI} {κ ν : Type} {kt et : TypeId} {kv : κ → Value} {vv : ν → Value} {L : List (κ × ν)} {a : κ} {v : ν} {r : Nat}
    (hT : OkTab P T) (hk : KeyF P kt kv) (hg : gate ops e g = some true) (hd : Nat.blt d N = true) (hx : ev e x = some (.map (some r))) (hy : ev e y = some (kv a)) (ht : tget T t = some ti) (htd : ti.desc = .map kt et) (he : tget T et = some ei) (hM : MapIs kv vv w r L) (hm : mget a L = some v)
    (k : WL P N ops.toArray l ((d, vv v) :: e) w Q) : WL P N ops.toArray (⟨some d, .lookup t x y false, tt, ps, af, g⟩ :: l) e w Q :=
  WL.look1F hT hk hg hd hx hy ht htd he hM (by rw [hm]; exact k)
abbrev saidL : List (Bool × Nat) := [(true, 104), (false, 105)]
theorem lift_said (w : World) : Lt.Spec Try.prog 84 [] w (fun v w' => Ext w w' ∧ ∃ r, v = .map (some r) ∧ MapIs kvB vvF w' r saidL) := by
  refine Spec.of _ Try.func84 rfl Try.ntmps84 (by kernel_rfl) rfl ?_
  repeat' (first
    | ((apply WL.makeMap (kv := kvB) (vv := vvF); exact rfl; exact rfl; intro rm w1 hM1 hge1 hx1))
    | ((first | (apply WL.insertF (B := 0) (w0 := w) (vv := vvF) (a := true) tf7Ok keyB; exact rfl; exact rfl; exact rfl; exact rfl; exact rfl; exact rfl; exact hM1; exact (by (exact extA)); exact hge1; intro w2 hM2 hX2 hU2) | (apply WL.insertF (B := 0) (w0 := w) (vv := vvF) (a := false) tf7Ok keyB; exact rfl; exact rfl; exact rfl; exact rfl; exact rfl; exact rfl; exact hM2; exact (by (exact extA)); exact hge1; intro w3 hM3 hX3 hU3)))
    | (show WL _ _ _ _ _ _ _; first | apply WL.nil | (refine WL.au (k := ?_)))
    | (show Z _ _ _ _ _; apply Z.then_normal)
    | (show W _ _ _ _ _ _; first | apply W.seq | apply W.region | apply W.ret)
    | fail)
  have e2 : mget false ([(true, 104)] : List (Bool × Nat)) = none := by
    show (bif dec (false = true) then _ else _) = _
    rw [dec_false (by simp)]; rfl
  have e1 : mget true ([] : List (Bool × Nat)) = none := rfl
  have hM4 := hM3
  simp only [e1, List.nil_append, e2] at hM4
  exact Z.body1 Try.results84 rfl fun m => ⟨Ext.at hX3 m, rm, rfl, hM4.ext ((Ext.refl _).at m)⟩
theorem said_1 (l : Int) (w : World) : Still Try.prog 104 [.int .i64 l] w (.int .i64 l) := by
  refine Spec.of _ Try.func104 rfl Try.ntmps104 (by kernel_rfl) rfl ?_
  repeat' (first
    | (show WL _ _ _ _ _ _ _; first | apply WL.nil | (refine WL.au (k := ?_)))
    | (show Z _ _ _ _ _; apply Z.then_normal)
    | (show W _ _ _ _ _ _; first | apply W.seq | apply W.region | apply W.ret)
    | fail)
  exact Z.body1 Try.results104 rfl fun m => ⟨rfl, m, rfl⟩
theorem said_2 (l : Int) (w : World) (h : 0 ≤ l ∧ l ≤ 9223372036854775807) : Still Try.prog 105 [.int .i64 l] w (.int .i64 (Lt.xor1 l)) := by
  refine Spec.of _ Try.func105 rfl Try.ntmps105 (by kernel_rfl) rfl ?_
  repeat' (first
    | (apply WL.xorA; exact rfl; exact rfl; exact rfl; exact rfl; omega)
    | (show WL _ _ _ _ _ _ _; first | apply WL.nil | (refine WL.au (k := ?_)))
    | (show Z _ _ _ _ _; apply Z.then_normal)
    | (show W _ _ _ _ _ _; first | apply W.seq | apply W.region | apply W.ret)
    | fail)
  exact Z.body1 Try.results105 rfl fun m => ⟨rfl, m, rfl⟩
theorem ref34_turned (l : Int) (b : Bool) (w : World) (h : 0 ≤ l ∧ l ≤ 9223372036854775806) : Still Try.prog 55 [.int .i64 l, .bool b] w (.int .i64 (if b = true then Lt.xor1 l else l)) := by
  cases b with
  | true =>
    refine Spec.of _ Try.func55 rfl Try.ntmps55 (by kernel_rfl) rfl ?_
    repeat' (first
      | ((show WL _ _ _ (⟨_, .call ⟨.value (.func 78), _, _⟩, _, _, _, _⟩ :: _) _ _ _); apply WL.callS; exact rfl; exact rfl; exact rfl; exact rfl; exact rs_Not l _ (by omega))
      | (show WL _ _ _ _ _ _ _; first | apply WL.nil | (refine WL.au (k := ?_)))
      | (show Z _ _ _ _ _; first | apply Z.then_normal | apply Z.then_ret)
      | (show W _ _ _ _ _ _; first | apply W.seq | apply W.region | apply W.ret | (apply W.condT; exact rfl))
      | fail)
    exact Z.body1 Try.results55 rfl fun m => ⟨by unfold notL; rw [if_neg (by omega)]; rfl, m, rfl⟩
  | false =>
    refine Spec.of _ Try.func55 rfl Try.ntmps55 (by kernel_rfl) rfl ?_
    repeat' (first
      | (show WL _ _ _ _ _ _ _; first | apply WL.nil | (refine WL.au (k := ?_)))
      | (show Z _ _ _ _ _; apply Z.then_normal)
      | (show W _ _ _ _ _ _; first | apply W.seq | apply W.region | apply W.skip | apply W.ret | (apply W.condF; exact rfl))
      | fail)
    exact Z.body1 Try.results55 rfl fun m => ⟨rfl, m, rfl⟩
set_option maxHeartbeats 2000000 in
theorem lift_each (a : Option Addr) (cap : Nat) (k : List Int) (w : World) (R : Row 1 encI w a k) (f : FuncId) (us : List Value) (F : Int → Int) (hk : ∀ x ∈ k, 0 ≤ x ∧ x ≤ 9223372036854775807) (hF : ∀ x ∈ k, 0 ≤ F (x / 2) ∧ F (x / 2) ≤ 9223372036854775806) (hl : k.length ≤ 1048576)
    (hcal : ∀ w9, Ext w w9 → ∀ x ∈ k, Still Try.prog f ([.int .i64 (x / 2)] ++ us) w9 (.int .i64 (F (x / 2)))) :
    Lt.Spec Try.prog 53 [.slice a k.length cap, .func (.func f) #[] us.toArray] w (IsFresh 1 encI 3 w (k.map fun x => xorI (F (x / 2)) (x % 2))) := by
  refine Spec.of _ Try.func53 rfl Try.ntmps53 (by kernel_rfl) rfl ?_
  repeat' (first
    | (show WL _ _ _ _ _ _ _; first | apply WL.nil | (refine WL.au (k := ?_)))
    | (show Z _ _ _ _ _; apply Z.then_normal)
    | (show W _ _ _ _ _ _; first | apply W.seq | apply W.region | apply W.block)
    | fail)
  refine W.loopO k.length (fun j b cp w' => j ≤ k.length ∧ Ext w w' ∧ Own 1 encI 3 w.heap.size w' b cp ((k.take j).map fun x => xorI (F (x / 2)) (x % 2)))
    (fun j b cp => [(1, .func (.func f) #[] us.toArray), (5, .slice b ((k.take j).map fun x => xorI (F (x / 2)) (x % 2)).length cp), (8, .slice a k.length cap), (9, .int .i64 (k.length : Nat)), (10, .int .i64 j)]) none 0 ⟨Nat.zero_le _, Ext.refl _, Own.nil⟩ (fun k a cp w' h => h.1) (by repeat' first | exact trivial | (refine And.intro ?_ ?_) | exact rfl) ?_
  rintro j bb cp w1 ⟨hj, hX1, hO1⟩
  have htl : ((k.take j).map fun x => xorI (F (x / 2)) (x % 2)).length = min j k.length := by rw [List.length_map, List.length_take]
  by_cases hlt : j < k.length
  · obtain ⟨x, hx⟩ := getI k hlt
    have hxm := List.mem_of_getElem? hx
    have hx0 := hk x hxm
    have hFx := hF x hxm
    have R1 := R.ext hX1
    have e1 : (k.take (j + 1)).map (fun x => xorI (F (x / 2)) (x % 2)) = (k.take j).map (fun x => xorI (F (x / 2)) (x % 2)) ++ [xorI (F (x / 2)) (x % 2)] := by rw [take_succ' hx, List.map_append]; rfl
    by_cases hp : x % 2 = 0
    · have hmg : mget (dec (x % 2 = 0)) saidL = some 104 := by rw [dec_true hp]; show (bif dec (true = true) then _ else _) = _; rw [dec_true rfl]; rfl
      have e2 : xorI (F (x / 2)) (x % 2) = F (x / 2) := by unfold xorI; rw [if_neg (by omega)]
      rw [e2] at e1
      repeat' (first
        | (apply W.condKT; exact rfl; (focus (exact dec_true (by omega); done)))
        | (apply FL.andA; exact rfl; exact rfl; exact rfl; exact rfl)
        | (show W _ _ (.region 5 _ _) _ _ _; apply W.regionGX (.fl true 0 (.fl true 2 (.fl true 3 (.fl true 4 (.fl true 6 (.fl true 7 (.fl true 8 (.br 1 (.br 5 (.br 9 (.br 10 (.br 11 (.br 12 (.fl true 13 .done) .stop) .stop) .stop) .stop) (.br 9 (.br 5 (.br 10 (.br 11 (.br 12 (.fl true 13 .done) .stop) .stop) .stop) .stop) .stop)) .stop)))))))) [] tMix; kernel_rfl)
        | (((show WL _ _ _ (⟨_, .call ⟨.value (.func 84), _, _⟩, _, _, _, _⟩ :: _) _ _ _); apply WL.call; exact rfl; exact rfl; exact rfl; exact rfl; exact lift_said _; rintro v' wS ⟨hxS, rS, rfl, hMS⟩))
        | ((apply look1S (a := dec (x % 2 = 0)) tf7Ok keyB; exact rfl; exact rfl; exact rfl; exact rfl; exact rfl; exact rfl; exact rfl; exact hMS.ext (by (exact extA)); exact hmg))
        | ((show WL _ _ _ (⟨_, .call ⟨.value (.tmp _), _, _⟩, _, _, _, _⟩ :: _) _ _ _); apply WL.callS; exact rfl; exact rfl; exact rfl; exact rfl; exact hcal _ (hX1.trans (by (exact extA))) x hxm)
        | ((show WL _ _ _ (⟨_, .call ⟨.value (.tmp _), _, _⟩, _, _, _, _⟩ :: _) _ _ _); apply WL.callS; exact rfl; exact rfl; exact rfl; exact rfl; exact said_1 _ _)
        | (apply WL.lit tOk; exact rfl; exact rfl; exact rfl; exact rfl; exact rfl; exact rfl; (first | exact rfl | kernel_rfl | (simp [Instr.fill, catCells]; done)); exact rfl; intro gb w' hb hge hc hx)
        | (apply WL.append1 (z := (F (x / 2))) tOk encI_ok; exact rfl; exact rfl; exact rfl; exact rfl; exact rfl; exact rfl; exact rfl; exact rfl; exact rfl; exact rfl; assumption; (exact extA); (first | exact rfl | (focus (simp only [List.length_set]; done)) | (focus (simp; done)) | (focus (simp [*]; done)) | omega | (focus (simp only [List.length_set]; omega))); (first | assumption | (refine Cells.ext ?_ (by assumption); exact extA)); exact rfl; exact rfl; (exact extA); (first | omega | (simp; omega) | (simp at *; omega)); intro a' cap' w' hO hX' hU hF)
        | (show SX _ _ _ _ _ _ _ _ _; first | (apply SX.done; intro w' hx) | (apply SX.fl0; exact rfl) | (apply SX.br1; exact rfl; intro w' hx) | (apply SX.br; exact rfl; (intro w' hx)))
        | (show FL _ _ _ _ _ _ _ _; apply FL.nilX)
        | (show FL _ _ _ _ _ _ _ _; (refine FL.au (k := ?_)))
        | (show Z _ _ _ _ _; (apply Z.sxL; exact rfl))
        | (show WL _ _ _ _ _ _ _; first | apply WL.nil | (refine WL.au (k := ?_)) | (apply WL.index tOk; exact rfl; exact rfl; exact rfl; exact rfl; exact rfl; exact rfl; exact rfl; exact rfl; assumption; (exact extA); exact rfl; omega; assumption; intro b off h; have hcc := h; first | (obtain ⟨h1, h2, h3, h4, h5, h6, _⟩ := h) | (obtain ⟨h1, h2, h3, _⟩ := h) | (obtain ⟨h1, h2, _⟩ := h) | (obtain ⟨h1, _⟩ := h)))
        | (show Z _ _ _ _ _; first | apply Z.then_normal | apply Z.block_normal)
        | (show W _ _ _ _ _ _; first | apply W.seq | apply W.region | apply W.block | apply W.skip)
        | fail)
      all_goals exact Z.againO a' cap' ⟨by omega, hX'.trans (by (exact extA)), by rw [e1]; exact hO.ext (by (exact extA))⟩ (by repeat' first | exact trivial | (refine And.intro ?_ ?_) | exact rfl | (rw [e1]; exact rfl))
    · have hmg : mget (dec (x % 2 = 0)) saidL = some 105 := by
        rw [dec_false hp]
        show (bif dec (false = true) then _ else (bif dec (false = false) then _ else _)) = _
        rw [dec_false (by simp), dec_true rfl]; rfl
      have e2 : xorI (F (x / 2)) (x % 2) = Lt.xor1 (F (x / 2)) := by unfold xorI; rw [if_pos (by omega)]
      rw [e2] at e1
      repeat' (first
        | (apply W.condKT; exact rfl; (focus (exact dec_true (by omega); done)))
        | (apply FL.andA; exact rfl; exact rfl; exact rfl; exact rfl)
        | (show W _ _ (.region 5 _ _) _ _ _; apply W.regionGX (.fl true 0 (.fl true 2 (.fl true 3 (.fl true 4 (.fl true 6 (.fl true 7 (.fl true 8 (.br 1 (.br 5 (.br 9 (.br 10 (.br 11 (.br 12 (.fl true 13 .done) .stop) .stop) .stop) .stop) (.br 9 (.br 5 (.br 10 (.br 11 (.br 12 (.fl true 13 .done) .stop) .stop) .stop) .stop) .stop)) .stop)))))))) [] tMix; kernel_rfl)
        | (((show WL _ _ _ (⟨_, .call ⟨.value (.func 84), _, _⟩, _, _, _, _⟩ :: _) _ _ _); apply WL.call; exact rfl; exact rfl; exact rfl; exact rfl; exact lift_said _; rintro v' wS ⟨hxS, rS, rfl, hMS⟩))
        | ((apply look1S (a := dec (x % 2 = 0)) tf7Ok keyB; exact rfl; exact rfl; exact rfl; exact rfl; exact rfl; exact rfl; exact rfl; exact hMS.ext (by (exact extA)); exact hmg))
        | ((show WL _ _ _ (⟨_, .call ⟨.value (.tmp _), _, _⟩, _, _, _, _⟩ :: _) _ _ _); apply WL.callS; exact rfl; exact rfl; exact rfl; exact rfl; exact hcal _ (hX1.trans (by (exact extA))) x hxm)
        | ((show WL _ _ _ (⟨_, .call ⟨.value (.tmp _), _, _⟩, _, _, _, _⟩ :: _) _ _ _); apply WL.callS; exact rfl; exact rfl; exact rfl; exact rfl; exact said_2 _ _ (by omega))
        | (apply WL.lit tOk; exact rfl; exact rfl; exact rfl; exact rfl; exact rfl; exact rfl; (first | exact rfl | kernel_rfl | (simp [Instr.fill, catCells]; done)); exact rfl; intro gb w' hb hge hc hx)
        | (apply WL.append1 (z := (Lt.xor1 (F (x / 2)))) tOk encI_ok; exact rfl; exact rfl; exact rfl; exact rfl; exact rfl; exact rfl; exact rfl; exact rfl; exact rfl; exact rfl; assumption; (exact extA); (first | exact rfl | (focus (simp only [List.length_set]; done)) | (focus (simp; done)) | (focus (simp [*]; done)) | omega | (focus (simp only [List.length_set]; omega))); (first | assumption | (refine Cells.ext ?_ (by assumption); exact extA)); exact rfl; exact rfl; (exact extA); (first | omega | (simp; omega) | (simp at *; omega)); intro a' cap' w' hO hX' hU hF)
        | (show SX _ _ _ _ _ _ _ _ _; first | (apply SX.done; intro w' hx) | (apply SX.fl0; exact rfl) | (apply SX.br1; exact rfl; intro w' hx) | (apply SX.br; exact rfl; (intro w' hx)))
        | (show FL _ _ _ _ _ _ _ _; apply FL.nilX)
        | (show FL _ _ _ _ _ _ _ _; (refine FL.au (k := ?_)))
        | (show Z _ _ _ _ _; (apply Z.sxL; exact rfl))
        | (show WL _ _ _ _ _ _ _; first | apply WL.nil | (refine WL.au (k := ?_)) | (apply WL.index tOk; exact rfl; exact rfl; exact rfl; exact rfl; exact rfl; exact rfl; exact rfl; exact rfl; assumption; (exact extA); exact rfl; omega; assumption; intro b off h; have hcc := h; first | (obtain ⟨h1, h2, h3, h4, h5, h6, _⟩ := h) | (obtain ⟨h1, h2, h3, _⟩ := h) | (obtain ⟨h1, h2, _⟩ := h) | (obtain ⟨h1, _⟩ := h)))
        | (show Z _ _ _ _ _; first | apply Z.then_normal | apply Z.block_normal)
        | (show W _ _ _ _ _ _; first | apply W.seq | apply W.region | apply W.block | apply W.skip)
        | fail)
      all_goals exact Z.againO a' cap' ⟨by omega, hX'.trans (by (exact extA)), by rw [e1]; exact hO.ext (by (exact extA))⟩ (by repeat' first | exact trivial | (refine And.intro ?_ ?_) | exact rfl | (rw [e1]; exact rfl))
  · obtain rfl : j = k.length := by omega
    rw [List.take_length] at hO1
    repeat' (first
      | (apply W.condKF; exact rfl; (focus (exact dec_false (by omega); done)))
      | (show WL _ _ _ _ _ _ _; first | apply WL.nil | (refine WL.au (k := ?_)))
      | (show Z _ _ _ _ _; first | apply Z.then_normal | apply Z.then_exit | apply Z.block_exit)
      | (show W _ _ _ _ _ _; first | apply W.seq | apply W.region | apply W.ret | apply W.exit)
      | fail)
    exact Z.body1 Try.results53 rfl fun m => ⟨Ext.at hX1 m, bb, cp, by rw [List.take_length], hO1⟩
end Go.Proofs.Ytlcenenkloicjaa
namespace Go.Proofs.Ytlcenenkloicjaa
open Go Go.Lt Go.RowKit
set_option linter.unusedVariables false
set_option linter.unusedSimpArgs false
set_option maxRecDepth 20000

def latN (c : CirT) (i : Int) : Int := (c.lat.getD i.toNat (0, 0, 0)).2.1
noncomputable def nextL (c : CirT) (k : List Int) : List Int := k.map fun x => xorI (latN c (x / 2)) (x % 2)
/-- A cube of a circuit's latches. -/
def OfK (c : CirT) (k : List Int) : Prop := ∀ x ∈ k, 0 ≤ x ∧ x ≤ 9223372036854775807 ∧ (x / 2).toNat < c.lat.length
theorem latN_range {c : CirT} (h : GoodC' c) {i : Int} (hi : i.toNat < c.lat.length) : 0 ≤ latN c i ∧ latN c i ≤ 9223372036854775806 := by
  obtain ⟨x, hx⟩ := getI c.lat hi
  unfold latN; rw [getD_of hx]
  have h1 := h.used _ (used_next (List.mem_of_getElem? hx))
  have := h.max; omega
theorem lift_Next1 (gc : Nat) (c : Circ) (i : Int) (w : World) (hc : Cells w gc 0 c.vals) (R : Row 3 enc3 w c.lat.1 c.lat.2.2) (hi : 0 ≤ i ∧ i.toNat < c.lat.2.2.length) :
    Still Try.prog 54 [.int .i64 i, .pointer (some ⟨gc, 0, none⟩)] w (.int .i64 (latN c.t i)) := by
  obtain ⟨x, hx⟩ := getI c.lat.2.2 hi.2
  obtain ⟨y0, y1, y2, _⟩ := hc
  have e : latN c.t i = x.2.1 := by unfold latN; rw [getD_of hx]
  rw [e]
  refine Spec.of _ Try.func54 rfl Try.ntmps54 (by kernel_rfl) rfl ?_
  repeat' (first
    | (show WL _ _ _ _ _ _ _; first | apply WL.nil | (refine WL.au (k := ?_)) | (apply WL.index tOk; exact rfl; exact rfl; exact rfl; exact rfl; exact rfl; exact rfl; exact rfl; exact rfl; assumption; (exact extA); exact rfl; omega; assumption; intro b off h; have hcc := h; first | (obtain ⟨h1, h2, h3, h4, h5, h6, _⟩ := h) | (obtain ⟨h1, h2, h3, _⟩ := h) | (obtain ⟨h1, h2, _⟩ := h) | (obtain ⟨h1, _⟩ := h)))
    | (show Z _ _ _ _ _; apply Z.then_normal)
    | (show W _ _ _ _ _ _; first | apply W.seq | apply W.region | apply W.ret)
    | fail)
  exact Z.body1 Try.results54 rfl fun m => ⟨rfl, m, rfl⟩
theorem lift_Next (c : Circ) (a : Option Addr) (cap : Nat) (k : List Int) (w : World) (hC : CAt w c) (hg : GoodC' c.t) (R : Row 1 encI w a k) (hk : OfK c.t k) (hl : k.length ≤ 1048576) :
    Lt.Spec Try.prog 23 [c.val, .slice a k.length cap] w (IsFresh 1 encI 3 w (nextL c.t k)) := by
  refine Spec.of _ Try.func23 rfl Try.ntmps23 (by kernel_rfl) rfl ?_
  repeat' (first
    | (apply WL.box; exact rfl; exact rfl; exact rfl; intro gb w' hb hge hc hx; have hcc := hc; (first | (obtain ⟨h1, h2, h3, _⟩ := hc) | (obtain ⟨h1, h2, _⟩ := hc)); (obtain ⟨gc, rfl⟩ : ∃ x, x = gb := ⟨_, rfl⟩; obtain ⟨wc, rfl⟩ : ∃ x, x = w' := ⟨_, rfl⟩; obtain ⟨hxc, rfl⟩ : ∃ x, x = hx := ⟨_, rfl⟩; have hcells : Cells wc gc 0 c.vals := hcc))
    | ((show WL _ _ _ (⟨_, .call ⟨.value (.func 53), _, _⟩, _, _, _, _⟩ :: _) _ _ _); apply WL.call; exact rfl; exact rfl; exact rfl; exact rfl; exact lift_each a cap k _ (R.ext (by (exact extA))) 54 [.pointer (some ⟨gc, 0, none⟩)] (latN c.t) (fun x hx => ⟨(hk x hx).1, (hk x hx).2.1⟩) (fun x hx => latN_range hg (hk x hx).2.2) hl (fun w9 h9 x hx => lift_Next1 gc c (x / 2) w9 (hcells.ext h9) (hC.lat.row.ext (hxc.trans h9)) ⟨by have := (hk x hx).1; omega, (hk x hx).2.2⟩); rintro v' w' ⟨hx, a', cap', rfl, hO⟩)
    | (show WL _ _ _ _ _ _ _; first | apply WL.nil | (refine WL.au (k := ?_)))
    | (show Z _ _ _ _ _; apply Z.then_normal)
    | (show W _ _ _ _ _ _; first | apply W.seq | apply W.region | apply W.ret)
    | fail)
  exact Z.body1 Try.results23 rfl fun m => ⟨Ext.at (hxc.trans hx) m, a', cap', rfl, hO.base (Below.size hxc)⟩
theorem trn_xor (l x : Int) : (if dec (x % 2 = 1) = true then Lt.xor1 l else l) = xorI l (x % 2) := by
  unfold xorI
  by_cases h : x % 2 = 1
  · rw [dec_true h, if_pos rfl, if_pos h]
  · rw [dec_false h, if_neg (by simp), if_neg h]
theorem ref34_turnedX (l x : Int) (w : World) (h : 0 ≤ l ∧ l ≤ 9223372036854775806) : Still Try.prog 55 [.int .i64 l, .bool (dec (x % 2 = 1))] w (.int .i64 (xorI l (x % 2))) := by
  rw [← trn_xor]; exact ref34_turned l _ w h
theorem blk_fromL {a a' : Option Addr} {b m : Nat} (h : ∀ q, blk a = some q → b ≤ q) (hF : blk a' = blk a ∨ ∃ k, blk a' = some k ∧ m ≤ k) (hm : b ≤ m) : ∀ q, blk a' = some q → b ≤ q := by
  intro q hq
  rcases hF with hF | ⟨k, hk, hle⟩
  · exact h q (by rw [← hF]; exact hq)
  · rw [hk] at hq; cases hq; omega
theorem UpdNot {B : Nat} {a : Option Addr} {w w1 : World} (h : Upd B a w w1) {b : Nat} {l : List Value} {off : Nat} (hc : Cells w b off l) (hne : blk a ≠ some b) : Cells w1 b off l := But.cells (But.upd h) hne hc
set_option maxHeartbeats 2000000 in
theorem ref34_Next (c : Circ) (a : Option Addr) (cap : Nat) (k : List Int) (w : World) (hC : CAt w c) (hg : GoodC' c.t) (R : Row 1 encI w a k) (hk : OfK c.t k) (hl : k.length ≤ 1048576) :
    Lt.Spec Try.prog 25 [c.val, .slice a k.length cap] w (IsFresh 1 encI 3 w (nextL c.t k)) := by
  have RLt := hC.lat.row
  refine Spec.of _ Try.func25 rfl Try.ntmps25 (by kernel_rfl) rfl ?_
  repeat' (first
    | (apply WL.box; exact rfl; exact rfl; exact rfl; intro gb w' hb hge hc hx; have hcc := hc; (first | (obtain ⟨h1, h2, h3, _⟩ := hc) | (obtain ⟨h1, h2, _⟩ := hc)); (obtain ⟨gc, rfl⟩ : ∃ x, x = gb := ⟨_, rfl⟩; obtain ⟨wc, rfl⟩ : ∃ x, x = w' := ⟨_, rfl⟩; obtain ⟨hxc, rfl⟩ : ∃ x, x = hx := ⟨_, rfl⟩; have hcells : Cells wc gc 0 c.vals := hcc; have hgc := heap_lt hb))
    | (apply WL.lit (len := 0) tOk; exact rfl; exact rfl; exact rfl; exact rfl; exact rfl; exact rfl; (first | exact rfl | kernel_rfl | (simp [Instr.fill, catCells]; done)); exact rfl; intro gb w' hb hge hc hx; have hO0 := Own.of_block0 (enc := encI) (s := 1) hb hge; (obtain ⟨g5, rfl⟩ : ∃ x, x = gb := ⟨_, rfl⟩; obtain ⟨w5, rfl⟩ : ∃ x, x = w' := ⟨_, rfl⟩; obtain ⟨hx5, rfl⟩ : ∃ x, x = hx := ⟨_, rfl⟩))
    | (show WL _ _ _ _ _ _ _; first | apply WL.nil | (refine WL.au (k := ?_)))
    | (show Z _ _ _ _ _; apply Z.then_normal)
    | (show W _ _ _ _ _ _; first | apply W.seq | apply W.region | apply W.block)
    | fail)
  have hz := Below.size hxc
  have hX5 : Ext w w5 := hxc.trans hx5
  refine W.loopO k.length (fun j b cp w' => j ≤ k.length ∧ Ext w w' ∧ Own 1 encI 3 w.heap.size w' b cp (nextL c.t (k.take j)) ∧ (∀ q, blk b = some q → wc.heap.size ≤ q) ∧ Cells w' gc 0 c.vals ∧ wc.heap.size ≤ w'.heap.size)
    (fun j b cp => [(1, .slice a k.length cap), (2, .pointer (some ⟨gc, 0, none⟩)), (5, .slice b (nextL c.t (k.take j)).length cp), (6, .int .i64 j)]) (some ⟨g5, 0, none⟩) 0 ⟨Nat.zero_le _, hX5, hO0.base hz, fun q hq => by have h1 := Option.some.inj hq; simp only at h1; omega, hcells.ext hx5, Below.size hx5⟩ (fun k a cp w' h => h.1) (by repeat' first | exact trivial | (refine And.intro ?_ ?_) | exact rfl) ?_
  clear hO0
  rintro j bb cp w1 ⟨hj, hX1, hO1, hBC, hcl, hz1⟩
  have htl : (nextL c.t (k.take j)).length = min j k.length := by unfold nextL; rw [List.length_map, List.length_take]
  by_cases hlt : j < k.length
  · obtain ⟨x, hx⟩ := getI k hlt
    have hxm := List.mem_of_getElem? hx
    have hk3 := hk x hxm
    obtain ⟨y, hy⟩ := getI c.lat.2.2 (show (x / 2).toNat < c.lat.2.2.length from hk3.2.2)
    have hr := latN_range hg hk3.2.2
    have ey : latN c.t (x / 2) = y.2.1 := by unfold latN; rw [getD_of hy]
    rw [ey] at hr
    have hx0 := hk3.1
    have hx1 := hk3.2.1
    have e1 : nextL c.t (k.take (j + 1)) = nextL c.t (k.take j) ++ [xorI y.2.1 (x % 2)] := by unfold nextL; rw [take_succ' hx, List.map_append, ← ey]; rfl
    have hcl0 := hcl
    obtain ⟨y0, y1, y2, _⟩ := hcl
    repeat' (first
      | (apply W.condKT; exact rfl; (focus (exact dec_true (by omega); done)))
      | (show W _ _ (.region 5 _ _) _ _ _; apply W.regionGB (.fl true 0 (.fl true 1 (.fl true 3 (.fl true 4 (.fl true 5 (.fl true 11 (.fl true 12 (.fl true 13 (.fl false 2 (.fl false 6 (.fl true 7 (.fl true 8 (.fl true 9 (.fl false 10 (.fl false 14 (.fl true 15 (.fl true 16 (.fl false 17 (.br 18 (.br 19 (.fl true 20 .done) .stop) .stop))))))))))))))))))) [6, 7, 8, 9, 10, 14, 15, 16, 17, 18, 19] (blk bb) tMix; kernel_rfl)
      | (apply SG.flS; exact rfl; (focus ((intro m; first | assumption | (apply Ext.at; (exact extA)) | apply But.of_at; first | exact But.upd (by assumption) | exact But.ext (by (exact extA)) | (refine But.trans ?_ (But.upd (by assumption)); exact But.ext (by (exact extA))) | exact But.at _ _ _); done)); exact rfl; exact rfl; exact rfl; exact rfl; (focus (intro w9 hw9; exact ref34_turnedX y.2.1 x _ hr)))
      | (apply WL.lit tOk; exact rfl; exact rfl; exact rfl; exact rfl; exact rfl; exact rfl; (first | exact rfl | kernel_rfl | (simp [Instr.fill, catCells]; done)); exact rfl; intro gb w' hb hge hc hx; (obtain ⟨wL, rfl⟩ : ∃ x, x = w' := ⟨_, rfl⟩; obtain ⟨hxL, rfl⟩ : ∃ x, x = hx := ⟨_, rfl⟩))
      | (apply WL.append1 tOk encI_ok; exact rfl; exact rfl; exact rfl; exact rfl; exact rfl; exact rfl; exact rfl; exact rfl; exact rfl; exact rfl; assumption; (exact extA); (first | exact rfl | (focus (simp only [List.length_set]; done)) | (focus (simp; done)) | (focus (simp [*]; done)) | omega | (focus (simp only [List.length_set]; omega))); assumption; (first | exact rfl | exact (rfl : encI (_, _) = _)); exact rfl; (exact extA); (first | omega | (simp; omega) | (simp at *; omega)); intro a' cap' w' hO hX' hU hF)
      | (show WL _ _ _ _ _ _ _; first | apply WL.nil | (refine WL.au (k := ?_)))
      | (show SG _ _ _ _ _ _ _ _ _; first | apply SG.done | (apply SG.fl0; exact rfl) | (apply SG.fl1; exact rfl; (focus ((intro m; first | assumption | (apply Ext.at; (exact extA)) | apply But.of_at; first | exact But.upd (by assumption) | exact But.ext (by (exact extA)) | (refine But.trans ?_ (But.upd (by assumption)); exact But.ext (by (exact extA))) | exact But.at _ _ _); done))) | (apply SG.br1; exact rfl))
      | (show FL _ _ _ _ _ _ _ _; first | apply FL.nilS | (refine FL.au (k := ?_)) | (apply FL.loadG tOk; exact rfl; exact rfl; exact rfl; exact rfl; exact rfl; (first | assumption | (focus (apply Ext.cell; rotate_left; assumption; (exact extA); done))); (first | (focus (intro h; cases h; done)) | (focus (intro h; have h9 := hBC _ h; (try simp only at h9); omega)) | assumption | (focus (intro h; simp only [blk, Option.map_some, Option.some.injEq] at h; omega)))) | (apply FL.index tOk; exact rfl; exact rfl; exact rfl; exact rfl; exact rfl; exact rfl; exact rfl; exact rfl; assumption; (exact extA); exact rfl; omega; assumption; exact List.cons_ne_nil _ _; intro b off h hbl; have hcc := h; first | (obtain ⟨h1, h2, h3, h4, h5, h6, _⟩ := h) | (obtain ⟨h1, h2, h3, _⟩ := h) | (obtain ⟨h1, h2, _⟩ := h) | (obtain ⟨h1, _⟩ := h)))
      | (show Z _ _ _ _ _; (apply Z.sgE; (focus ((intro m; first | assumption | (apply Ext.at; (exact extA)) | apply But.of_at; first | exact But.upd (by assumption) | exact But.ext (by (exact extA)) | (refine But.trans ?_ (But.upd (by assumption)); exact But.ext (by (exact extA))) | exact But.at _ _ _); done))))
      | (show Z _ _ _ _ _; first | apply Z.then_normal | apply Z.block_normal)
      | (show W _ _ _ _ _ _; first | apply W.seq | apply W.region | apply W.block | apply W.skip)
      | fail)
    have hzL := Below.size hxL
    exact Z.againO a' cap' ⟨by omega, hX', by rw [e1]; exact hO, blk_fromL hBC hF (Nat.le_trans hz1 hzL), UpdNot hU (hcl0.ext hxL) (fun he => by have := hBC gc he; omega), by have := hU.size; omega⟩ (by repeat' first | exact trivial | (refine And.intro ?_ ?_) | exact rfl | (rw [e1]; exact rfl))
  · obtain rfl : j = k.length := by omega
    rw [List.take_length] at hO1
    repeat' (first
      | (apply W.condKF; exact rfl; (focus (exact dec_false (by omega); done)))
      | (show WL _ _ _ _ _ _ _; first | apply WL.nil | (refine WL.au (k := ?_)))
      | (show Z _ _ _ _ _; first | apply Z.then_normal | apply Z.then_exit | apply Z.block_exit)
      | (show W _ _ _ _ _ _; first | apply W.seq | apply W.region | apply W.ret | apply W.exit)
      | fail)
    exact Z.body1 Try.results25 rfl fun m => ⟨Ext.at hX1 m, bb, cp, by rw [List.take_length], hO1⟩
end Go.Proofs.Ytlcenenkloicjaa
