/- Part 2 of what the claim ImplyRuns needs: lemmas and contracts, printed from longer texts. No conditions. -/
import Derived.Test.YtmaekaflpbenmaaRows
import Derived.Lib.SmallJoins
import Derived.KernelRfl
import Derived.WalkKit
import Derived.ProofKit
import Derived.Deep.Quiet
import Derived.Deep.LoopGhost
import Derived.StillTail
import Derived.Test.YtmaekaflpbenmaaProg
import Derived.OpenShut
import Derived.ShutString
import Derived.ChangeOld
import Derived.Deep.Slices
import Derived.SizedLaws
import Derived.Laws.StructEq
import Derived.Laws.Externs
import Derived.MapKept
import Derived.Test.YtmaekaflpbenmaaImplyRunsP1
namespace Go.Lt
open Go.RowKit
set_option linter.unusedVariables false
set_option linter.unusedSimpArgs false

inductive Strat where
  | done : Strat
  | fl : Bool → Nat → Strat → Strat
  | br : Nat → Strat → Strat → Strat
  | stop : Strat

def heads : Strat → List Nat
  | .br i _ more => i :: heads more
  | _ => []
def slen : Strat → Nat
  | .done => 0
  | .fl _ _ k => slen k + 1
  | .br _ k _ => slen k + 1
  | .stop => 0
def isStop : Strat → Bool
  | .stop => true
  | _ => false

def stratB (ops : Array Oper) (early : Nat → Bool) : Bool → Strat → Array Bool → Bool
  | top, .done, L => top && Region.ready .any ops L == []
  | top, .fl b i k, L => top && (Region.ready .any ops L).contains i && (match ops[i]? with
      | some oi => (List.range ops.size).all (fun j => j == i || L.getD j true || waits ops j i || (match ops[j]? with | some oj => oi.apart ops oj && (b || early j) | none => false))
      | none => false) && stratB ops early true k (L.setIfInBounds i true)
  | top, .br i k more, L => (!top || Region.ready .any ops L == i :: heads more) && (isStop more || Nat.beq (slen more) (slen k + 1)) && stratB ops early true k (L.setIfInBounds i true) && stratB ops early false more L
  | top, .stop, _ => !top

section tree
variable {P : Program} {ops : Array Oper} {C : World → Prop} {early : Nat → Bool} {K : Act → World → Prop}

def wpT (P : Program) (ops : Array Oper) (C : World → Prop) (early : Nat → Bool) (K : Act → World → Prop) : Nat → Array Bool → Act → World → Prop
  | 0, listed, a, w => Region.ready .any ops listed = [] ∧ ∀ m, K a (at' w m)
  | n + 1, listed, a, w => Region.ready .any ops listed ≠ [] ∧ ∀ m, ∀ i ∈ Region.ready .any ops listed,
      wpOp P ops (onlyN K) i (fun a' w' => ((∀ m, C (at' w m)) → early i = true → ∀ m, C (at' w' m)) ∧ wpT P ops C early K n (listed.setIfInBounds i true) a' w') a (at' w m)

theorem wpT_at : ∀ {n : Nat} {listed : Array Bool} {a : Act} {w : World} (m : Nat), wpT P ops C early K n listed a w → wpT P ops C early K n listed a (at' w m)
  | 0, _, _, _, _, h => ⟨h.1, fun m' => h.2 m'⟩
  | _ + 1, _, _, _, _, h => ⟨h.1, fun m' => h.2 m'⟩

theorem wpAny_of_T {Q : Exit → Act → World → Prop} (hQ : ∀ a w, K a w → Q .normal a w) : ∀ (fuel : Nat) (listed : Array Bool) (a : Act) (w : World), wpT P ops C early K fuel listed a w → wpAny P .any ops Q fuel listed a w
  | 0, _, _, w, h => ⟨h.1, hQ _ _ (h.2 w.drawn)⟩
  | fuel + 1, _, _, w, h => ⟨fun h0 => absurd h0 h.1, fun i hi => wpOp_mono' (fun a w hh => wpAny_of_T hQ fuel _ a w hh.2) (h.2 w.drawn i hi)⟩

/-- The step yields v, and leaves the world but for draws. -/
def StillAt (P : Program) (s : Sem Next) (w : World) (v : Value) : Prop :=
  s.run P w = .ok (.value v) w ∨ ∃ f args, s.run P w = .ok (.enter f args) w ∧ Calls P f args w (fun x w' => x = .returned v ∧ ∃ m, w' = at' w m)

def SYields (P : Program) (ops : Array Oper) (C : World → Prop) (o : Oper) (v : Value) (a : Act) : Prop :=
  (Region.wanted o (yielded ops a.tmps) = true ∧ ∀ w, C w → StillAt P (execOp a.eval o) w v) ∨ (Region.wanted o (yielded ops a.tmps) = false ∧ v = undef)

theorem SYields.wpOp {i : Nat} {o : Oper} {v : Value} {a : Act} {w : World} {Q : Exit → Act → World → Prop} {K' : Act → World → Prop} (hi : ops[i]? = some o) (hy : SYields P ops C o v a) (hC : C w) (h : ∀ m, K' (a.put o.dst v) (at' w m)) : wpOp P ops Q i K' a w := by
  unfold Go.wpOp
  simp only [hi]
  rcases hy with ⟨hw, hv⟩ | ⟨hw, rfl⟩
  · simp only [hw, if_true]
    refine .inl ?_
    unfold Oper.wp
    rcases hv w hC with hv | ⟨f, args, hv, hc⟩
    · rw [hv]; exact h w.drawn
    · rw [hv]
      refine Calls.mono hc ?_
      rintro x w' ⟨rfl, m, rfl⟩
      exact h m
  · simp only [hw, Bool.false_eq_true, if_false]; exact h w.drawn

theorem SYields.of_same {o : Oper} {v : Value} {a a' : Act} (hy : SYields P ops C o v a) (he : execOp a'.eval o = execOp a.eval o)
    (hw : Region.wanted o (yielded ops a'.tmps) = Region.wanted o (yielded ops a.tmps)) : SYields P ops C o v a' := by
  unfold SYields at *
  rw [he, hw]
  exact hy

theorem wpOp_putS {j : Nat} {oi oj : Oper} {v : Value} {C : World → Prop} (hj : ops[j]? = some oj) (hap : oi.apart ops oj = true)
    (hsi : ∀ cs b, oi.op ≠ .select cs b) (hsj : ∀ cs b, oj.op ≠ .select cs b) {K0 K1 : Act → World → Prop} {a : Act} {w : World}
    (hy : SYields P ops C oi v a) (h : wpOp P ops (onlyN K0) j K1 (a.put oi.dst v) w) :
    wpOp P ops (onlyN K0) j (fun a' w' => SYields P ops C oi v a' ∧ K1 (a'.put oi.dst v) w') a w := by
  obtain ⟨h1, h2, h3⟩ := Oper.apart_spec hap
  have keep : ∀ u, SYields P ops C oi v (a.put oj.dst u) := fun u => hy.of_same (execOp_put oi hsi a oj.dst u h3) (wanted_put oi a oj.dst u h3)
  have swap : ∀ u, (a.put oi.dst v).put oj.dst u = (a.put oj.dst u).put oi.dst v := fun u => Act.put_comm a v u h2
  have lets : ¬ LetsOut (onlyN K0) := fun ⟨_, _, hq⟩ => hq
  unfold Go.wpOp at *
  simp only [hj] at *
  rw [wanted_put oj a oi.dst v h1] at h
  split
  · rename_i hw
    simp only [hw, if_true] at h
    rcases h with h | ⟨_, hq⟩
    · refine .inl ?_
      unfold Oper.wp at h ⊢
      rw [execOp_put oj hsj a oi.dst v h1] at h
      revert h
      generalize (execOp a.eval oj).run P w = r
      intro h
      unfold Oper.upon at h ⊢
      split at h
      · exact ⟨keep _, by rw [← swap]; exact h⟩
      · exact ⟨keep _, by rw [← swap]; exact h⟩
      · rename_i d w'
        have e1 : ({ a with defers := d :: a.defers }.put oj.dst undef).put oi.dst v = { a.put oi.dst v with defers := d :: (a.put oi.dst v).defers }.put oj.dst undef := by
          rw [Act.put_comm _ undef v (fun q hq hh => h2 q hh hq)]
          cases oi.dst <;> rfl
        have e2 : SYields P ops C oi v ({ a with defers := d :: a.defers }.put oj.dst undef) := by
          refine (keep undef).of_same ?_ ?_
          · cases oj.dst <;> rfl
          · cases oj.dst <;> rfl
        exact ⟨e2, by rw [e1]; exact h⟩
      · refine Calls.mono h fun x w'' hx => ?_
        cases x with
        | returned u => exact ⟨keep _, by rw [← swap]; exact hx⟩
        | panicked c => exact hx.elim
        | outgrown => exact (lets hx).elim
      · exact Rows.mono h fun u w'' hx => ⟨keep _, by rw [← swap]; exact hx⟩
      · exact h.elim
      · exact h
    · exact (lets hq).elim
  · rename_i hw
    simp only [hw] at h
    exact ⟨keep _, by rw [← swap]; exact h⟩

theorem wpT_first {i : Nat} {oi : Oper} {v : Value} {b : Bool} (hi : ops[i]? = some oi) (hsel : ∀ (j : Nat) (o : Oper) cs b, ops[j]? = some o → o.op ≠ .select cs b) :
    ∀ (fuel : Nat) (listed : Array Bool) (a : Act) (w : World), (∀ m, b = true ∨ C (at' w m)) →
      (∀ j oj, ops[j]? = some oj → j ≠ i → listed.getD j true = false → (∀ e ∈ oj.after, Region.binds .any e = true → e.on ≠ i) → oi.apart ops oj = true ∧ (b = true ∨ early j = true)) →
      i ∈ Region.ready .any ops listed → SYields P ops (fun w => b = true ∨ C w) oi v a →
      wpT P ops C early K fuel (listed.setIfInBounds i true) (a.put oi.dst v) w → wpT P ops C early K (fuel + 1) listed a w := by
  intro fuel
  induction fuel with
  | zero =>
    intro listed a w hC _ hr hy H
    refine ⟨fun h => (by rw [h] at hr; cases hr), fun m j hj => ?_⟩
    by_cases hji : j = i
    · subst hji; exact hy.wpOp hi (hC m) fun m' => ⟨fun hc _ m2 => hc m2, wpT_at m' H⟩
    · have := ready_mono hj hji
      rw [H.1] at this
      cases this
  | succ fuel ih =>
    intro listed a w hC hfree hr hy H
    refine ⟨fun h => (by rw [h] at hr; cases hr), fun m j hj => ?_⟩
    by_cases hji : j = i
    · subst hji; exact hy.wpOp hi (hC m) fun m' => ⟨fun hc _ m2 => hc m2, wpT_at m' H⟩
    · have h1 := H.2 m j (ready_mono hj hji)
      obtain ⟨hjun, oj, hoj, hall⟩ := mem_ready.1 hj
      have hnot : ∀ e ∈ oj.after, Region.binds .any e = true → e.on ≠ i := fun e he hb heq => by
        have h1 := hall e he hb
        have h0 := (mem_ready.1 hr).1
        rw [heq] at h1
        rcases Nat.lt_or_ge i listed.size with h' | h'
        · simp [h'] at h0 h1; rw [h0] at h1; cases h1
        · simp [Array.getElem?_eq_none h'] at h1
      obtain ⟨hap, hea⟩ := hfree j oj hoj hji hjun hnot
      have h2 := wpOp_putS hoj hap (fun cs b => hsel i oi cs b hi) (fun cs b => hsel j oj cs b hoj) hy h1
      have hfree' : ∀ k ok, ops[k]? = some ok → k ≠ i → (listed.setIfInBounds j true).getD k true = false →
          (∀ e ∈ ok.after, Region.binds .any e = true → e.on ≠ i) → oi.apart ops ok = true ∧ (b = true ∨ early k = true) := fun k ok hk hki hun hno => by
        refine hfree k ok hk hki ?_ hno
        by_cases hjk : j = k
        · subst hjk; exact hjun
        · rw [getD_set_ne true hjk] at hun; exact hun
      refine wpOp_mono' (fun a' w' h3 => ⟨h3.2.1, ih (listed.setIfInBounds j true) a' w' ?_ hfree' (ready_mono hr (Ne.symm hji)) h3.1 ?_⟩) h2
      · intro m2
        rcases hea with hb | hea
        · exact .inl hb
        · by_cases hb : b = true
          · exact .inl hb
          · exact .inr (h3.2.1 (fun m3 => (hC m3).resolve_left hb) hea m2)
      · rw [Array.setIfInBounds_comm _ _ hji]
        exact h3.2.2

def wpS (P : Program) (ops : Array Oper) (C : World → Prop) (early : Nat → Bool) (K : Act → World → Prop) : Strat → Act → World → Prop
  | .done, a, w => ∀ m, K a (at' w m)
  | .fl b i k, a, w => ∃ o, ops[i]? = some o ∧ ∃ v, SYields P ops (fun w => b = true ∨ C w) o v a ∧ (∀ m, b = true ∨ C (at' w m)) ∧ wpS P ops C early K k (a.put o.dst v) w
  | .br i k more, a, w => (∃ o, ops[i]? = some o ∧ ∀ m, wpList P ops (onlyN fun a' w' => (early i = true → ∀ m, C (at' w' m)) ∧ wpS P ops C early K k a' w') [o] a (at' w m)) ∧ wpS P ops C early K more a w
  | .stop, _, _ => True

theorem wpS_at : ∀ {s : Strat} {a : Act} {w : World} (m : Nat), wpS P ops C early K s a w → wpS P ops C early K s a (at' w m)
  | .done, _, _, _, h => fun m' => h m'
  | .fl b i k, _, _, m, ⟨o, ho, v, h1, h2, h3⟩ => ⟨o, ho, v, h1, fun m' => h2 m', wpS_at m h3⟩
  | .br i k more, _, _, m, ⟨⟨o, ho, h1⟩, h2⟩ => ⟨⟨o, ho, fun m' => h1 m'⟩, wpS_at m h2⟩
  | .stop, _, _, _, _ => trivial

theorem strat_all (hsel : ∀ (j : Nat) (o : Oper) cs b, ops[j]? = some o → o.op ≠ .select cs b) : ∀ (s : Strat),
    (∀ (L : Array Bool) (a : Act) (w : World), stratB ops early true s L = true → wpS P ops C early K s a w → wpT P ops C early K (slen s) L a w) ∧
    (∀ (L : Array Bool) (a : Act) (w : World) (n : Nat), stratB ops early false s L = true → (isStop s = true ∨ slen s = n + 1) → wpS P ops C early K s a w → ∀ i ∈ heads s, ∀ m,
      wpOp P ops (onlyN K) i (fun a' w' => ((∀ m, C (at' w m)) → early i = true → ∀ m, C (at' w' m)) ∧ wpT P ops C early K n (L.setIfInBounds i true) a' w') a (at' w m))
  | .done => ⟨fun L a w hB h => ⟨by simpa [stratB] using hB, h⟩, fun L a w n hB => by simp [stratB] at hB⟩
  | .stop => ⟨fun L a w hB => by simp [stratB] at hB, fun L a w n hB hn h i hi => by simp [heads] at hi⟩
  | .fl b i k => by
    refine ⟨fun L a w hB h => ?_, fun L a w n hB => by simp [stratB] at hB⟩
    obtain ⟨o, ho, v, h1, h2, h3⟩ := h
    simp only [stratB, ho, Bool.true_and, Bool.and_eq_true] at hB
    obtain ⟨⟨hB1, hB2⟩, hB3⟩ := hB
    have hfree : ∀ j oj, ops[j]? = some oj → j ≠ i → L.getD j true = false → (∀ e ∈ oj.after, Region.binds .any e = true → e.on ≠ i) → o.apart ops oj = true ∧ (b = true ∨ early j = true) := by
      intro j oj hj hji hun hno
      have hjlt : j < ops.size := (Array.getElem?_eq_some_iff.1 hj).1
      have := List.all_eq_true.1 hB2 j (List.mem_range.2 hjlt)
      simp only [hj, Bool.or_eq_true, beq_iff_eq, hji, hun, Bool.false_eq_true, false_or, Bool.and_eq_true] at this
      rcases this with hw | hw
      · exfalso
        simp only [waits, hj] at hw
        obtain ⟨e, he, hb⟩ := Array.any_eq_true'.1 hw
        simp only [Bool.and_eq_true, beq_iff_eq] at hb
        exact hno e he hb.1 hb.2
      · exact hw
    exact wpT_first ho hsel (slen k) L a w h2 hfree (by simpa using hB1) h1 ((strat_all hsel k).1 _ _ _ hB3 h3)
  | .br i k more => by
    have key : ∀ (L : Array Bool) (a : Act) (w : World), stratB ops early true k (L.setIfInBounds i true) = true →
        (∃ o, ops[i]? = some o ∧ ∀ m, wpList P ops (onlyN fun a' w' => (early i = true → ∀ m, C (at' w' m)) ∧ wpS P ops C early K k a' w') [o] a (at' w m)) → ∀ m,
        wpOp P ops (onlyN K) i (fun a' w' => ((∀ m, C (at' w m)) → early i = true → ∀ m, C (at' w' m)) ∧ wpT P ops C early K (slen k) (L.setIfInBounds i true) a' w') a (at' w m) := by
      rintro L a w hB ⟨o, ho, h⟩ m
      refine wpOp_of_list ho (h m) _ fun a' w' h' => ?_
      have h'' : (early i = true → ∀ m, C (at' w' m)) ∧ wpS P ops C early K k a' w' := h'
      exact ⟨fun _ he => h''.1 he, (strat_all hsel k).1 _ _ _ hB h''.2⟩
    refine ⟨fun L a w hB h => ?_, fun L a w n hB hn h => ?_⟩
    · simp only [stratB, Bool.not_true, Bool.false_or, Bool.and_eq_true, beq_iff_eq, Bool.or_eq_true] at hB
      obtain ⟨⟨⟨hB1, hB2⟩, hB3⟩, hB4⟩ := hB
      refine ⟨by rw [hB1]; simp, fun m j hj => ?_⟩
      rw [hB1] at hj
      rcases List.mem_cons.1 hj with rfl | hj
      · exact key L a w hB3 h.1 m
      · refine (strat_all hsel more).2 L a w (slen k) hB4 ?_ h.2 j hj m
        rcases hB2 with hB2 | hB2
        · exact .inl hB2
        · exact .inr (Nat.eq_of_beq_eq_true hB2)
    · simp only [stratB, Bool.not_false, Bool.true_or, Bool.true_and, Bool.and_eq_true, Bool.or_eq_true] at hB
      obtain ⟨⟨hB2, hB3⟩, hB4⟩ := hB
      have hk : slen k = n := by
        rcases hn with hn | hn
        · cases hn
        · exact Nat.succ.inj hn
      subst hk
      intro j hj m
      rcases List.mem_cons.1 hj with rfl | hj
      · exact key L a w hB3 h.1 m
      · refine (strat_all hsel more).2 L a w (slen k) hB4 ?_ h.2 j hj m
        rcases hB2 with hB2 | hB2
        · exact .inl hB2
        · exact .inr (Nat.eq_of_beq_eq_true hB2)
end tree

structure SG (P : Program) (N : Nat) (l : List Oper) (C : World → Prop) (early : Nat → Bool) (s : Strat) (e : Env) (w : World) (Q : Exit → Act → World → Prop) : Prop where
  go : ∀ a, Fit N e a → wpS P l.toArray C early (fun a w => Q .normal a w) s a w

def memN : List Nat → Nat → Bool
  | [], _ => false
  | k :: r, j => Nat.beq k j || memN r j
def nthO : List Oper → Nat → Option Oper
  | [], _ => none
  | o :: _, 0 => some o
  | _ :: r, i + 1 => nthO r i
theorem nthO_eq : ∀ {l : List Oper} {i : Nat} {o : Oper}, nthO l i = some o → l.toArray[i]? = some o
  | [], _, _, h => by cases h
  | _ :: _, 0, _, h => by simpa [nthO] using h
  | _ :: r, i + 1, o, h => by have := nthO_eq (l := r) (i := i) h; simpa using this

section rules
variable {P : Program} {N : Nat} {e : Env} {w : World} {Q : Exit → Act → World → Prop} {C : World → Prop} {l : List Oper} {early : Nat → Bool} {s k more : Strat} {o : Oper} {i : Nat}

theorem W.regionG {id : Nat} (s : Strat) (E : List Nat) (C : World → Prop) (hm : P.follows .mixedOrders = true) (hB : (Region.noSelect l.toArray && Nat.beq (slen s) l.toArray.size && stratB l.toArray (memN E) true s (Array.replicate l.toArray.size false)) = true)
    (h : SG P N l C (memN E) s e w Q) : W P N (.region id l.toArray true) e w Q := by
  refine ⟨fun a m hf => wp_region_any hm ?_⟩
  simp only [Bool.and_eq_true] at hB
  obtain ⟨⟨hB1, hB2⟩, hB3⟩ := hB
  have hsel : ∀ (j : Nat) (o : Oper) cs b, l.toArray[j]? = some o → o.op ≠ .select cs b := fun j o cs b ho => Region.noSelect_spec hB1 j o cs b ho
  have hsz := Nat.eq_of_beq_eq_true hB2
  have key := (strat_all (P := P) (C := C) (K := fun a w => Q .normal a w) hsel s).1 _ _ _ hB3 (h.go a hf)
  rw [hsz] at key
  exact wpAny_of_T (K := fun a w => Q .normal a w) (C := C) (early := memN E) (fun _ _ h => h) _ _ _ _ (wpT_at (w := w) (m + 1) key)

theorem W.regionGB {id : Nat} (s : Strat) (E : List Nat) (b : Option Nat) (hm : P.follows .mixedOrders = true) (hB : (Region.noSelect l.toArray && Nat.beq (slen s) l.toArray.size && stratB l.toArray (memN E) true s (Array.replicate l.toArray.size false)) = true)
    (h : SG P N l (But w b) (memN E) s e w Q) : W P N (.region id l.toArray true) e w Q := W.regionG s E (But w b) hm hB h
theorem SG.done (h : Z N Q .normal e w) : SG P N l C early .done e w Q := ⟨fun a hf m => h.go a m hf⟩
theorem SG.stop : SG P N l C early .stop e w Q := ⟨fun a hf => trivial⟩
theorem SG.fl0 (ho : nthO l i = some o) (h : FL P N l.toArray (fun _ => True) [o] e w (fun a => wpS P l.toArray C early (fun a w => Q .normal a w) k a w)) : SG P N l C early (.fl true i k) e w Q := by
  refine ⟨fun a hf => ⟨o, nthO_eq ho, ?_⟩⟩
  have := h.go a hf
  unfold wpFl at this
  split at this
  · rename_i hw
    obtain ⟨v, h1, h2⟩ := this
    exact ⟨v, .inl ⟨hw, fun w' _ => .inl (h1 w' trivial)⟩, fun m => .inl rfl, h2⟩
  · rename_i hw
    exact ⟨undef, .inr ⟨by simpa using hw, rfl⟩, fun m => .inl rfl, this⟩
theorem SG.fl1 (ho : nthO l i = some o) (hC : ∀ m, C (at' w m)) (h : FL P N l.toArray C [o] e w (fun a => wpS P l.toArray C early (fun a w => Q .normal a w) k a w)) : SG P N l C early (.fl false i k) e w Q := by
  refine ⟨fun a hf => ⟨o, nthO_eq ho, ?_⟩⟩
  have := h.go a hf
  unfold wpFl at this
  split at this
  · rename_i hw
    obtain ⟨v, h1, h2⟩ := this
    exact ⟨v, .inl ⟨hw, fun w' hc => .inl (h1 w' (hc.resolve_left (by simp)))⟩, fun m => .inr (hC m), h2⟩
  · rename_i hw
    exact ⟨undef, .inr ⟨by simpa using hw, rfl⟩, fun m => .inr (hC m), this⟩
theorem FL.nilS {opsA : Array Oper} {C' : World → Prop} (h : SG P N l C early k e w Q) : FL P N opsA C' [] e w (fun a => wpS P l.toArray C early (fun a w => Q .normal a w) k a w) := ⟨fun a hf => h.go a hf⟩
theorem SG.br (ho : nthO l i = some o) (h : WL P N l.toArray [o] e w (onlyN fun a' w' => (early i = true → ∀ m, C (at' w' m)) ∧ wpS P l.toArray C early (fun a w => Q .normal a w) k a' w')) (hm : SG P N l C early more e w Q) : SG P N l C early (.br i k more) e w Q :=
  ⟨fun a hf => ⟨⟨o, nthO_eq ho, fun m => h.go a m hf⟩, hm.go a hf⟩⟩
theorem SG.br1 (ho : nthO l i = some o) (h : WL P N l.toArray [o] e w (onlyN fun a' w' => (early i = true → ∀ m, C (at' w' m)) ∧ wpS P l.toArray C early (fun a w => Q .normal a w) k a' w')) : SG P N l C early (.br i k .stop) e w Q := SG.br ho h SG.stop
theorem Z.sg (hC : early i = true → ∀ m, C (at' w m)) (h : SG P N l C early k e w Q) : Z N (onlyN fun a' w' => (early i = true → ∀ m, C (at' w' m)) ∧ wpS P l.toArray C early (fun a w => Q .normal a w) k a' w') .normal e w :=
  ⟨fun a m hf => ⟨fun he m' => hC he m', wpS_at m (h.go a hf)⟩⟩
theorem Z.sgL (hE : early i = false) (h : SG P N l C early k e w Q) : Z N (onlyN fun a' w' => (early i = true → ∀ m, C (at' w' m)) ∧ wpS P l.toArray C early (fun a w => Q .normal a w) k a' w') .normal e w := Z.sg (fun h => by rw [hE] at h; cases h) h
theorem Z.sgE (hC : ∀ m, C (at' w m)) (h : SG P N l C early k e w Q) : Z N (onlyN fun a' w' => (early i = true → ∀ m, C (at' w' m)) ∧ wpS P l.toArray C early (fun a w => Q .normal a w) k a' w') .normal e w := Z.sg (fun _ => hC) h
end rules

section more
variable {P : Program} {T : Tab} {N : Nat} {e : Env} {w w0 : World} {Q : Exit → Act → World → Prop} {C : World → Prop} {ops l : List Oper} {Kf : Act → Prop} {K : Act → World → Prop}
  {d : Nat} {tt t ty : TypeId} {ps : String} {af : Array Edge} {g : Option (Nat × Bool)} {x y : Operand} {a b : Int}
theorem FL.loadG {bk : Option Nat} {p : Addr} {v : Value} {i : TI} (hT : OkTab P T) (hg : gate ops e g = some true) (hd : Nat.blt d N = true) (hx : ev e x = some (.pointer (some p))) (ht : tget T t = some i) (ha : isAggD i.desc = false) (hv : w0.cell? p = some v) (hb : bk ≠ some p.block)
    (k : FL P N ops.toArray (But w0 bk) l ((d, v) :: e) w Kf) : FL P N ops.toArray (But w0 bk) (⟨some d, .load t x, tt, ps, af, g⟩ :: l) e w Kf := by
  refine FL.step hg hd ?_ k
  intro ρ hρ w' hw'
  have h1 := run_isAgg' (hT.at ht); rw [ha] at h1
  have h2 := But.cell hw' hv hb
  simp [execOp, hρ _ _ hx, Instr.loadAt, Instr.sureAddr, loadVar, h1, h2]
theorem FL.loadAG {bk : Option Nat} {b off : Nat} {vs : List Value} {i : TI} (hT : OkTab P T) (hg : gate ops e g = some true) (hd : Nat.blt d N = true) (hx : ev e x = some (.pointer (some ⟨b, off, none⟩))) (ht : tget T t = some i) (ha : isAggD i.desc = true) (hv : Cells w0 b off vs) (hs : i.size = vs.length) (hb : bk ≠ some b)
    (k : FL P N ops.toArray (But w0 bk) l ((d, .agg vs.toArray) :: e) w Kf) : FL P N ops.toArray (But w0 bk) (⟨some d, .load t x, tt, ps, af, g⟩ :: l) e w Kf := by
  refine FL.step hg hd ?_ k
  intro ρ hρ w' hw'
  have h1 := run_isAgg' (hT.at ht); rw [ha] at h1
  have h3 := run_sizeOf' (hT.at ht); rw [hs] at h3
  have h2 := run_loadCellsFrom (P := P) (acc := #[]) (off := off) (i := 0) (But.cells hw' hb hv)
  simp [execOp, hρ _ _ hx, Instr.loadAt, Instr.sureAddr, loadVar, h1, h3, loadCells, h2]
theorem FL.build (hT : OkTab P T) {ti : TI} {fs : Array Field} {pl : List (Nat × Nat)} {parts : List (Nat × Operand)} {pvs : List (Nat × Value)} {cs : List Value} (hg : gate ops e g = some true) (hd : Nat.blt d N = true) (ht : tget T t = some ti) (htd : ti.desc = .struct fs) (hpl : places T fs.toList = some pl)
    (hp : evp e parts = some pvs) (hcs : fillL pl ti.zero.cells.toList pvs = cs) (hfill : Instr.fill (fun i : Nat => pl[i]?) ti.zero.cells pvs = some (fillL pl ti.zero.cells.toList pvs).toArray)
    (k : FL P N ops.toArray C l ((d, .agg cs.toArray) :: e) w Kf) : FL P N ops.toArray C (⟨some d, .build t ⟨parts⟩, tt, ps, af, g⟩ :: l) e w Kf := by
  refine FL.step hg hd ?_ k
  subst hcs
  exact ybuild (C := C) hT ht htd hpl hp rfl hfill
theorem FL.and1 (hg : gate ops e g = some true) (hd : Nat.blt d N = true) (hx : ev e x = some (.int .i64 a)) (hy : ev e y = some (.int .i64 1)) (h : 0 ≤ a ∧ a ≤ 9223372036854775807) (k : FL P N ops.toArray C l ((d, .int .i64 (a % 2)) :: e) w Kf) : FL P N ops.toArray C (⟨some d, .binOp .and t x y ty, tt, ps, af, g⟩ :: l) e w Kf := FL.step hg hd (yand1 hx hy h).in k
theorem SL.and1 (hg : gate ops e g = some true) (hd : Nat.blt d N = true) (hx : ev e x = some (.int .i64 a)) (hy : ev e y = some (.int .i64 1)) (h : 0 ≤ a ∧ a ≤ 9223372036854775807) (k : SL P N ops.toArray l ((d, .int .i64 (a % 2)) :: e) w K) : SL P N ops.toArray (⟨some d, .binOp .and t x y ty, tt, ps, af, g⟩ :: l) e w K := SL.step hg hd (yand1 hx hy h).in k
theorem xor1_all (a : Int) (h : 0 ≤ a ∧ a ≤ 9223372036854775807) : IntKind.i64.wrap (BitVec.ofInt IntKind.i64.bits a ^^^ BitVec.ofInt IntKind.i64.bits 1).toNat = Lt.xor1 a := by
  by_cases h1 : a = 9223372036854775807
  · subst h1; rfl
  · exact xor1_eq a ⟨h.1, by omega⟩
theorem xor0_all (a : Int) (h : 0 ≤ a ∧ a ≤ 9223372036854775807) : IntKind.i64.wrap (BitVec.ofInt IntKind.i64.bits a ^^^ BitVec.ofInt IntKind.i64.bits 0).toNat = a := by
  show IntKind.i64.wrap (BitVec.ofInt 64 a ^^^ BitVec.ofInt 64 0).toNat = a
  rw [show BitVec.ofInt 64 0 = 0#64 from rfl, BitVec.xor_zero, toNat_ofInt64 a h.1 (by omega), IntWalk.i64_in _ (by omega)]
  omega
/-- The literal a, or its inverse. -/
def xorI (a b : Int) : Int := if b = 1 then Lt.xor1 a else a
theorem yxorI {dd : Option Tmp} (hx : ev e x = some (.int .i64 a)) (hy : ev e y = some (.int .i64 b)) (h : 0 ≤ a ∧ a ≤ 9223372036854775807) (hb : b = 0 ∨ b = 1) : Yields P e ⟨dd, .binOp .xor t x y ty, tt, ps, af, g⟩ (.int .i64 (xorI a b)) := by
  have := Yields.bin (P := P) (d := dd) (op := .xor) (t := t) (ty := ty) (tt := tt) (ps := ps) (af := af) (g := g) hx hy (v := .int .i64 (IntKind.i64.wrap (BitVec.ofInt IntKind.i64.bits a ^^^ BitVec.ofInt IntKind.i64.bits b).toNat)) rfl
  rcases hb with rfl | rfl
  · rwa [xor0_all a h, show a = xorI a 0 by unfold xorI; rw [if_neg (by decide)]] at this
  · rwa [xor1_all a h, show Lt.xor1 a = xorI a 1 by unfold xorI; rw [if_pos rfl]] at this
theorem yxorA {dd : Option Tmp} (hx : ev e x = some (.int .i64 a)) (hy : ev e y = some (.int .i64 1)) (h : 0 ≤ a ∧ a ≤ 9223372036854775807) : Yields P e ⟨dd, .binOp .xor t x y ty, tt, ps, af, g⟩ (.int .i64 (Lt.xor1 a)) := by
  have := yxorI (P := P) (dd := dd) (t := t) (ty := ty) (tt := tt) (ps := ps) (af := af) (g := g) hx hy h (.inr rfl)
  rwa [xorI, if_pos rfl] at this
theorem WL.xorA (hg : gate ops e g = some true) (hd : Nat.blt d N = true) (hx : ev e x = some (.int .i64 a)) (hy : ev e y = some (.int .i64 1)) (h : 0 ≤ a ∧ a ≤ 9223372036854775807) (k : WL P N ops.toArray l ((d, .int .i64 (Lt.xor1 a)) :: e) w Q) : WL P N ops.toArray (⟨some d, .binOp .xor t x y ty, tt, ps, af, g⟩ :: l) e w Q := WL.step hg hd (yxorA hx hy h).in k
theorem QL.xorA (hg : gate ops e g = some true) (hd : Nat.blt d N = true) (hx : ev e x = some (.int .i64 a)) (hy : ev e y = some (.int .i64 1)) (h : 0 ≤ a ∧ a ≤ 9223372036854775807) (k : QL P N C ops.toArray l ((d, .int .i64 (Lt.xor1 a)) :: e) Q) : QL P N C ops.toArray (⟨some d, .binOp .xor t x y ty, tt, ps, af, g⟩ :: l) e Q := QL.step hg hd (yxorA hx hy h).in k
theorem SL.xorA (hg : gate ops e g = some true) (hd : Nat.blt d N = true) (hx : ev e x = some (.int .i64 a)) (hy : ev e y = some (.int .i64 1)) (h : 0 ≤ a ∧ a ≤ 9223372036854775807) (k : SL P N ops.toArray l ((d, .int .i64 (Lt.xor1 a)) :: e) w K) : SL P N ops.toArray (⟨some d, .binOp .xor t x y ty, tt, ps, af, g⟩ :: l) e w K := SL.step hg hd (yxorA hx hy h).in k
theorem FL.xorA (hg : gate ops e g = some true) (hd : Nat.blt d N = true) (hx : ev e x = some (.int .i64 a)) (hy : ev e y = some (.int .i64 1)) (h : 0 ≤ a ∧ a ≤ 9223372036854775807) (k : FL P N ops.toArray C l ((d, .int .i64 (Lt.xor1 a)) :: e) w Kf) : FL P N ops.toArray C (⟨some d, .binOp .xor t x y ty, tt, ps, af, g⟩ :: l) e w Kf := FL.step hg hd (yxorA hx hy h).in k
theorem WL.xorI (hg : gate ops e g = some true) (hd : Nat.blt d N = true) (hx : ev e x = some (.int .i64 a)) (hy : ev e y = some (.int .i64 b)) (h : 0 ≤ a ∧ a ≤ 9223372036854775807) (hb : b = 0 ∨ b = 1) (k : WL P N ops.toArray l ((d, .int .i64 (Lt.xorI a b)) :: e) w Q) : WL P N ops.toArray (⟨some d, .binOp .xor t x y ty, tt, ps, af, g⟩ :: l) e w Q := WL.step hg hd (yxorI hx hy h hb).in k
theorem QL.xorI (hg : gate ops e g = some true) (hd : Nat.blt d N = true) (hx : ev e x = some (.int .i64 a)) (hy : ev e y = some (.int .i64 b)) (h : 0 ≤ a ∧ a ≤ 9223372036854775807) (hb : b = 0 ∨ b = 1) (k : QL P N C ops.toArray l ((d, .int .i64 (Lt.xorI a b)) :: e) Q) : QL P N C ops.toArray (⟨some d, .binOp .xor t x y ty, tt, ps, af, g⟩ :: l) e Q := QL.step hg hd (yxorI hx hy h hb).in k
theorem FL.xorI (hg : gate ops e g = some true) (hd : Nat.blt d N = true) (hx : ev e x = some (.int .i64 a)) (hy : ev e y = some (.int .i64 b)) (h : 0 ≤ a ∧ a ≤ 9223372036854775807) (hb : b = 0 ∨ b = 1) (k : FL P N ops.toArray C l ((d, .int .i64 (Lt.xorI a b)) :: e) w Kf) : FL P N ops.toArray C (⟨some d, .binOp .xor t x y ty, tt, ps, af, g⟩ :: l) e w Kf := FL.step hg hd (yxorI hx hy h hb).in k
end more
end Go.Lt
namespace Go.Lt
open Go.RowKit
set_option linter.unusedVariables false
set_option linter.unusedSimpArgs false
section
variable {P : Program} {T : Tab} {e : Env} {dd : Option Tmp} {tt ty t el : TypeId} {x y : Operand} {ps : String} {af : Array Edge} {g : Option (Nat × Bool)} {i : TI} {a : Option Addr} {n c : Nat}
theorem run_eqSliceNil (hT : OkTab P T) (ht : tget T t = some i) (hd : i.desc = .slice el) (w : World) : (Op.equal t (.slice a n c) (.slice none 0 0)).run P w = .ok (dec (a = none)) w := by
  have hu := run_underlying' (hT.at ht) w; rw [hd] at hu
  unfold Op.equal
  rw [show Op.maxDepth = 9999 + 1 from rfl, Op.equalIn]
  simp only [Sem.run_bind, hu, Result.andThen_ok]
  cases a with
  | none => simp [dec_true]
  | some q => simp [dec_false]
theorem yeqSl (hT : OkTab P T) (hx : ev e x = some (.slice a n c)) (hy : ev e y = some (.slice none 0 0)) (ht : tget T t = some i) (hd : i.desc = .slice el) : Yields P e ⟨dd, .binOp .eql t x y ty, tt, ps, af, g⟩ (.bool (dec (a = none))) := by
  intro ρ hρ w
  have h1 : (eqGuard .eql t x y (.slice a n c) (.slice none 0 0)).run P w = .ok () w := by simp [eqGuard]
  have h2 : (binOp .eql t (.slice a n c) (.slice none 0 0)).run P w = .ok (.bool (dec (a = none))) w := by simp [binOp, run_eqSliceNil hT ht hd]
  simp [execOp, hρ _ _ hx, hρ _ _ hy, h1, h2]
theorem yneSl (hT : OkTab P T) (hx : ev e x = some (.slice a n c)) (hy : ev e y = some (.slice none 0 0)) (ht : tget T t = some i) (hd : i.desc = .slice el) : Yields P e ⟨dd, .binOp .neq t x y ty, tt, ps, af, g⟩ (.bool (dec (a ≠ none))) := by
  intro ρ hρ w
  have h1 : (eqGuard .neq t x y (.slice a n c) (.slice none 0 0)).run P w = .ok () w := by simp [eqGuard]
  have h3 : (!dec (a = none)) = dec (a ≠ none) := by
    by_cases hh : a = none
    · rw [dec_true hh, dec_false (fun h => h hh)]; rfl
    · rw [dec_false hh, dec_true hh]; rfl
  have h2 : (binOp .neq t (.slice a n c) (.slice none 0 0)).run P w = .ok (.bool (dec (a ≠ none))) w := by simp [binOp, run_eqSliceNil hT ht hd, h3]
  simp [execOp, hρ _ _ hx, hρ _ _ hy, h1, h2]
variable {N d : Nat} {w : World} {Q : Exit → Act → World → Prop} {C : World → Prop} {ops l : List Oper} {Kf : Act → Prop}
theorem WL.eqSl (hT : OkTab P T) (hg : gate ops e g = some true) (hd : Nat.blt d N = true) (hx : ev e x = some (.slice a n c)) (hy : ev e y = some (.slice none 0 0)) (ht : tget T t = some i) (htd : i.desc = .slice el) (k : WL P N ops.toArray l ((d, .bool (dec (a = none))) :: e) w Q) : WL P N ops.toArray (⟨some d, .binOp .eql t x y ty, tt, ps, af, g⟩ :: l) e w Q := WL.step hg hd (yeqSl hT hx hy ht htd).in k
theorem QL.eqSl (hT : OkTab P T) (hg : gate ops e g = some true) (hd : Nat.blt d N = true) (hx : ev e x = some (.slice a n c)) (hy : ev e y = some (.slice none 0 0)) (ht : tget T t = some i) (htd : i.desc = .slice el) (k : QL P N C ops.toArray l ((d, .bool (dec (a = none))) :: e) Q) : QL P N C ops.toArray (⟨some d, .binOp .eql t x y ty, tt, ps, af, g⟩ :: l) e Q := QL.step hg hd (yeqSl hT hx hy ht htd).in k
theorem WL.neSl (hT : OkTab P T) (hg : gate ops e g = some true) (hd : Nat.blt d N = true) (hx : ev e x = some (.slice a n c)) (hy : ev e y = some (.slice none 0 0)) (ht : tget T t = some i) (htd : i.desc = .slice el) (k : WL P N ops.toArray l ((d, .bool (dec (a ≠ none))) :: e) w Q) : WL P N ops.toArray (⟨some d, .binOp .neq t x y ty, tt, ps, af, g⟩ :: l) e w Q := WL.step hg hd (yneSl hT hx hy ht htd).in k
end
section ext
variable {P : Program} {T : Tab} {N d : Nat} {e : Env} {w w0 : World} {C : World → Prop} {ops l : List Oper} {Kf : Act → Prop} {tt t ty : TypeId} {ps : String} {af : Array Edge} {g : Option (Nat × Bool)} {x y : Operand}
theorem FL.loadE {p : Addr} {v : Value} {i : TI} (hT : OkTab P T) (hg : gate ops e g = some true) (hd : Nat.blt d N = true) (hx : ev e x = some (.pointer (some p))) (ht : tget T t = some i) (ha : isAggD i.desc = false) (hv : w0.cell? p = some v)
    (k : FL P N ops.toArray (Ext w0) l ((d, v) :: e) w Kf) : FL P N ops.toArray (Ext w0) (⟨some d, .load t x, tt, ps, af, g⟩ :: l) e w Kf := by
  refine FL.step hg hd ?_ k
  intro ρ hρ w' hw'
  have h1 := run_isAgg' (hT.at ht); rw [ha] at h1
  have h2 := Ext.cell hw' hv
  simp [execOp, hρ _ _ hx, Instr.loadAt, Instr.sureAddr, loadVar, h1, h2]
theorem FL.loadAE {b off : Nat} {vs : List Value} {i : TI} (hT : OkTab P T) (hg : gate ops e g = some true) (hd : Nat.blt d N = true) (hx : ev e x = some (.pointer (some ⟨b, off, none⟩))) (ht : tget T t = some i) (ha : isAggD i.desc = true) (hv : Cells w0 b off vs) (hs : i.size = vs.length)
    (k : FL P N ops.toArray (Ext w0) l ((d, .agg vs.toArray) :: e) w Kf) : FL P N ops.toArray (Ext w0) (⟨some d, .load t x, tt, ps, af, g⟩ :: l) e w Kf := by
  refine FL.step hg hd ?_ k
  intro ρ hρ w' hw'
  have h1 := run_isAgg' (hT.at ht); rw [ha] at h1
  have h3 := run_sizeOf' (hT.at ht); rw [hs] at h3
  have h2 := run_loadCellsFrom (P := P) (acc := #[]) (off := off) (i := 0) (Cells.ext hw' hv)
  simp [execOp, hρ _ _ hx, Instr.loadAt, Instr.sureAddr, loadVar, h1, h3, loadCells, h2]
theorem FL.indexE {α : Type} {s : Nat} {enc : α → List Value} {a : Option Addr} {xs : List α} {n cap : Nat} {kk : IntKind} {i : Int} {ti ei : TI} {el : TypeId} {z : α}
    (hT : OkTab P T) (hg : gate ops e g = some true) (hd : Nat.blt d N = true) (hx : ev e x = some (.slice a n cap)) (hy : ev e y = some (.int kk i)) (ht : tget T t = some ti) (htd : ti.desc = .slice el) (he : tget T el = some ei) (hs : ei.size = s)
    (R : Row s enc w0 a xs) (hn : xs.length = n) (h0 : 0 ≤ i) (hz : xs[i.toNat]? = some z)
    (k : ∀ b off, Cells w0 b off (enc z) → FL P N ops.toArray C l ((d, .pointer (some ⟨b, off, none⟩)) :: e) w Kf) : FL P N ops.toArray C (⟨some d, .indexAddr t x y, tt, ps, af, g⟩ :: l) e w Kf := by
  obtain ⟨b, off, hc, hy'⟩ := yindex (P := P) (dd := some d) (t := t) (tt := tt) (x := x) (y := y) (ps := ps) (af := af) (g := g) hT hx hy ht htd he hs R (Ext.refl _) hn h0 hz
  exact FL.step hg hd hy'.in (k b off hc)
end ext
section remk
variable {P : Program} {N d : Nat} {e : Env} {w : World} {Q : Exit → Act → World → Prop} {ops l : List Oper} {tt t ty : TypeId} {ps : String} {af : Array Edge} {g : Option (Nat × Bool)} {x y : Operand} {a b : Int} {kk : IntKind}
end remk
section cut
variable {P : Program} {N : Nat} {e : Env} {w : World} {Q : Exit → Act → World → Prop}
/-- A cut behind x, whatever comes. -/
theorem W.cutT {σ : Type} {x y : Code} (I : σ → Prop) (E : σ → Env) (U : σ → World)
    (h : W P N x e w (Exit.then (fun a w' => ∃ s, I s ∧ Fit N (E s) a ∧ ∃ m, w' = at' (U s) m) Q))
    (k : ∀ s, I s → W P N y (E s) (U s) Q) : W P N x e w (Exit.then (y.wp P Q) Q) := ⟨fun a m hf => by
  refine wp_mono (h.go a m hf) fun ex a' w' hq => ?_
  cases ex with
  | normal => obtain ⟨s, h1, h2, n, h3⟩ := hq; subst h3; exact (k s h1).go a' n h2
  | _ => exact hq⟩
end cut
theorem Z.body3 {P : Program} {fn : Func} {N : Nat} {e : Env} {w : World} {R : Value → World → Prop} {t u s : Nat} {v x y : Value} (hr : fn.results = #[.tmp t, .tmp u, .tmp s]) (hv : get e t = some v) (hx : get e u = some x) (hy : get e s = some y) (hR : ∀ m, R (.tuple #[v, x, y]) (at' w m)) :
    Z N (bodyPost P fn fun x w' => ∃ v, x = .returned v ∧ R v w') .ret e w := ⟨fun a m hf =>
  bodyPost_ret (v := .tuple #[v, x, y]) (by have h1 := hf.slots _ _ hv; have h2 := hf.slots _ _ hx; have h3 := hf.slots _ _ hy; simp [results, hr, Array.getD_eq_getD_getElem?, h1, h2, h3]) hf.defers ⟨_, rfl, hR m⟩⟩
theorem Sep.pick {B : Nat} {w : World} {ps qs : List Piece} (f : Nat → Nat) (hS : Sep B w ps) (hf : ∀ i p, qs[i]? = some p → ps[f i]? = some p) (hi : ∀ i j, i < qs.length → j < qs.length → i ≠ j → f i ≠ f j) : Sep B w qs := by
  refine ⟨fun i p h => hS.holds _ _ (hf i p h), fun i j p q h1 h2 hne => hS.apart _ _ _ _ (hf i p h1) (hf j q h2) (hi i j ?_ ?_ hne)⟩
  · exact (List.getElem?_eq_some_iff.1 h1).1
  · exact (List.getElem?_eq_some_iff.1 h2).1
/-- The second piece and the third one change places. -/
theorem Sep.swap12 {B : Nat} {w : World} {p q r : Piece} {ps : List Piece} (hS : Sep B w (p :: q :: r :: ps)) : Sep B w (p :: r :: q :: ps) := by
  refine hS.pick (fun i => if i = 1 then 2 else if i = 2 then 1 else i) (fun i x h => ?_) (fun i j _ _ hne => ?_)
  · match i, h with
    | 0, h => exact h
    | 1, h => exact h
    | 2, h => exact h
    | i + 3, h => simpa using h
  · show (if i = 1 then 2 else if i = 2 then 1 else i) ≠ (if j = 1 then 2 else if j = 2 then 1 else j)
    split <;> split <;> (try split) <;> (try split) <;> omega
theorem Sep.comm {B : Nat} {w : World} {ps qs : List Piece} (hS : Sep B w (ps ++ qs)) : Sep B w (qs ++ ps) := by
  refine hS.pick (fun i => if i < qs.length then ps.length + i else i - qs.length) (fun i x h => ?_) (fun i j hi hj hne => ?_)
  · by_cases h1 : i < qs.length
    · simp only [if_pos h1]
      rw [List.getElem?_append_left h1] at h
      rw [List.getElem?_append_right (by omega), Nat.add_sub_cancel_left]; exact h
    · simp only [if_neg h1]
      rw [List.getElem?_append_right (by omega)] at h
      rw [List.getElem?_append_left (List.getElem?_eq_some_iff.1 h).1]; exact h
  · rw [List.length_append] at hi hj
    show (if i < qs.length then ps.length + i else i - qs.length) ≠ (if j < qs.length then ps.length + j else j - qs.length)
    split <;> split <;> omega
end Go.Lt
namespace Go.Proofs.Ytmaekaflpbenmaa
open Go Go.Lt Go.RowKit
set_option linter.unusedVariables false
set_option linter.unusedSimpArgs false

theorem slices_CloneI (a : Option Addr) (cap : Nat) (l : List Int) (w : World) (R : Row 1 encI w a l) (hna : a = none → cap = 0) (hl : l.length ≤ 1048576) :
    Lt.Spec Try.prog 90 [.slice a l.length cap] w (IsFresh 1 encI 3 w l) := by
  by_cases ha : a = none
  · subst ha
    have hl0 : l = [] := by
      cases l with
      | nil => rfl
      | cons x r => obtain ⟨b, off, h1, _⟩ := R.elem 0 x rfl; cases h1
    subst hl0
    refine Spec.of _ Try.func90 rfl Try.ntmps90 (by kernel_rfl) rfl ?_
    repeat' (first
      | (apply WL.eqSl tOk; exact rfl; exact rfl; exact rfl; exact rfl; exact rfl; exact rfl)
      | (apply WL.neSl tOk; exact rfl; exact rfl; exact rfl; exact rfl; exact rfl; exact rfl)
      | (apply WL.gT; exact rfl; exact rfl; (focus (exact dec_true rfl; done)))
      | (apply WL.gF; exact rfl; exact rfl; (focus (exact dec_true rfl; done)))
      | (apply W.condKT; exact rfl; (focus (exact dec_true rfl; done)))
      | (apply W.condKF; exact rfl; (focus (exact dec_true rfl; done)))
      | (show WL _ _ _ _ _ _ _; first | apply WL.nil | (apply WL.pev tOk; exact rfl; exact rfl; exact rfl) | (apply WL.load tOk; exact rfl; exact rfl; exact rfl; exact rfl; exact rfl; (first | assumption | (focus (apply Ext.cell; rotate_left; assumption; (exact extA); done)))) | (apply WL.index tOk; exact rfl; exact rfl; exact rfl; exact rfl; exact rfl; exact rfl; exact rfl; exact rfl; assumption; (exact extA); exact rfl; omega; assumption; intro b off h; have hcc := h; first | (obtain ⟨h1, h2, h3, h4, h5, h6, _⟩ := h) | (obtain ⟨h1, h2, h3, _⟩ := h) | (obtain ⟨h1, h2, _⟩ := h) | (obtain ⟨h1, _⟩ := h)) | (apply WL.add; exact rfl; exact rfl; exact rfl; exact rfl; omega) | (apply WL.sub; exact rfl; exact rfl; exact rfl; exact rfl; omega) | (apply WL.mul; exact rfl; exact rfl; exact rfl; exact rfl; omega) | (apply WL.quo; exact rfl; exact rfl; exact rfl; exact rfl; omega) | (apply WL.rem; exact rfl; exact rfl; exact rfl; exact rfl; omega) | (apply WL.loadA tOk; exact rfl; exact rfl; exact rfl; exact rfl; exact rfl; (first | assumption | (focus (apply Cells.ext; rotate_left; assumption; (exact extA); done))); exact rfl) | (apply WL.guardF; exact rfl; exact rfl) | (apply WL.gD; exact rfl; exact rfl; all_goals intro _) | (apply WL.gN; exact rfl; exact rfl; all_goals intro _) | (apply WL.gB; exact rfl; exact rfl; all_goals intro _))
      | (show Z _ _ _ _ _; first | apply Z.tail | apply Z.then_normal | apply Z.block_normal | apply Z.then_exit | apply Z.block_exit | apply Z.then_ret | apply Z.block_ret | (apply Z.block_other; exact rfl))
      | (show W _ _ _ _ _ _; first | apply W.seq | apply W.region | apply W.block | apply W.skip | apply W.ret | apply W.exit | (apply W.condT; exact rfl) | (apply W.condF; exact rfl) | (apply W.condD; exact rfl; all_goals intro _) | (apply W.condN; exact rfl; all_goals intro _) | (apply W.condB; exact rfl; all_goals intro _)))
    exact Z.body1 Try.results90 rfl fun m => ⟨(Ext.refl _).at m, none, 0, rfl, Own.nil⟩
  · refine Spec.of _ Try.func90 rfl Try.ntmps90 (by kernel_rfl) rfl ?_
    repeat' (first
      | (apply WL.eqSl tOk; exact rfl; exact rfl; exact rfl; exact rfl; exact rfl; exact rfl)
      | (apply WL.neSl tOk; exact rfl; exact rfl; exact rfl; exact rfl; exact rfl; exact rfl)
      | (apply WL.gT; exact rfl; exact rfl; (focus (exact dec_false ha; done)))
      | (apply WL.gF; exact rfl; exact rfl; (focus (exact dec_false ha; done)))
      | (apply W.condKT; exact rfl; (focus (exact dec_false ha; done)))
      | (apply W.condKF; exact rfl; (focus (exact dec_false ha; done)))
      | (apply WL.lit (len := 0) tOk; exact rfl; exact rfl; exact rfl; exact rfl; exact rfl; exact rfl; (first | exact rfl | kernel_rfl | (simp [Instr.fill, catCells]; done)); exact rfl; intro gb w' hb hge hc hx; have hO0 := Own.of_block0 (enc := encI) (s := 1) hb hge)
      | (apply WL.appendS tOk encI_ok; exact rfl; exact rfl; exact rfl; exact rfl; exact rfl; exact rfl; exact rfl; exact rfl; exact rfl; exact rfl; assumption; (exact extA); (first | exact rfl | (simp; done) | (simp [*]; done) | omega | (simp only [List.length_set]; omega)); assumption; (exact extA); (first | exact rfl | (simp; done) | (simp [*]; done) | omega | (simp only [List.length_set]; omega)); (first | assumption | (intro h; cases h) | exact Own.noneCap (by assumption)); exact rfl; (exact extA); (first | omega | (simp; omega) | (simp at *; omega)); intro a' cap' w' hO hX' hU hF)
      | (show WL _ _ _ _ _ _ _; first | apply WL.nil | (apply WL.pev tOk; exact rfl; exact rfl; exact rfl) | (apply WL.load tOk; exact rfl; exact rfl; exact rfl; exact rfl; exact rfl; (first | assumption | (focus (apply Ext.cell; rotate_left; assumption; (exact extA); done)))) | (apply WL.index tOk; exact rfl; exact rfl; exact rfl; exact rfl; exact rfl; exact rfl; exact rfl; exact rfl; assumption; (exact extA); exact rfl; omega; assumption; intro b off h; have hcc := h; first | (obtain ⟨h1, h2, h3, h4, h5, h6, _⟩ := h) | (obtain ⟨h1, h2, h3, _⟩ := h) | (obtain ⟨h1, h2, _⟩ := h) | (obtain ⟨h1, _⟩ := h)) | (apply WL.add; exact rfl; exact rfl; exact rfl; exact rfl; omega) | (apply WL.sub; exact rfl; exact rfl; exact rfl; exact rfl; omega) | (apply WL.mul; exact rfl; exact rfl; exact rfl; exact rfl; omega) | (apply WL.quo; exact rfl; exact rfl; exact rfl; exact rfl; omega) | (apply WL.rem; exact rfl; exact rfl; exact rfl; exact rfl; omega) | (apply WL.loadA tOk; exact rfl; exact rfl; exact rfl; exact rfl; exact rfl; (first | assumption | (focus (apply Cells.ext; rotate_left; assumption; (exact extA); done))); exact rfl) | (apply WL.guardF; exact rfl; exact rfl) | (apply WL.gD; exact rfl; exact rfl; all_goals intro _) | (apply WL.gN; exact rfl; exact rfl; all_goals intro _) | (apply WL.gB; exact rfl; exact rfl; all_goals intro _))
      | (show Z _ _ _ _ _; first | apply Z.tail | apply Z.then_normal | apply Z.block_normal | apply Z.then_exit | apply Z.block_exit | apply Z.then_ret | apply Z.block_ret | (apply Z.block_other; exact rfl))
      | (show W _ _ _ _ _ _; first | apply W.seq | apply W.region | apply W.block | apply W.skip | apply W.ret | apply W.exit | (apply W.condT; exact rfl) | (apply W.condF; exact rfl) | (apply W.condD; exact rfl; all_goals intro _) | (apply W.condN; exact rfl; all_goals intro _) | (apply W.condB; exact rfl; all_goals intro _)))
    exact Z.body1 Try.results90 rfl fun m => ⟨Ext.at (by (exact extA)) m, a', cap', by rw [List.nil_append], by rw [List.nil_append] at hO; exact hO⟩
theorem slices_CloneN (a : Option Addr) (cap : Nat) (l : List (Int × Int)) (w : World) (R : Row 2 encN w a l) (hna : a = none → cap = 0) (hl : l.length ≤ 1048576) :
    Lt.Spec Try.prog 101 [.slice a l.length cap] w (IsFresh 2 encN 56 w l) := by
  by_cases ha : a = none
  · subst ha
    have hl0 : l = [] := by
      cases l with
      | nil => rfl
      | cons x r => obtain ⟨b, off, h1, _⟩ := R.elem 0 x rfl; cases h1
    subst hl0
    refine Spec.of _ Try.func101 rfl Try.ntmps101 (by kernel_rfl) rfl ?_
    repeat' (first
      | (apply WL.eqSl tOk; exact rfl; exact rfl; exact rfl; exact rfl; exact rfl; exact rfl)
      | (apply WL.neSl tOk; exact rfl; exact rfl; exact rfl; exact rfl; exact rfl; exact rfl)
      | (apply WL.gT; exact rfl; exact rfl; (focus (exact dec_true rfl; done)))
      | (apply WL.gF; exact rfl; exact rfl; (focus (exact dec_true rfl; done)))
      | (apply W.condKT; exact rfl; (focus (exact dec_true rfl; done)))
      | (apply W.condKF; exact rfl; (focus (exact dec_true rfl; done)))
      | (show WL _ _ _ _ _ _ _; first | apply WL.nil | (apply WL.pev tOk; exact rfl; exact rfl; exact rfl) | (apply WL.load tOk; exact rfl; exact rfl; exact rfl; exact rfl; exact rfl; (first | assumption | (focus (apply Ext.cell; rotate_left; assumption; (exact extA); done)))) | (apply WL.index tOk; exact rfl; exact rfl; exact rfl; exact rfl; exact rfl; exact rfl; exact rfl; exact rfl; assumption; (exact extA); exact rfl; omega; assumption; intro b off h; have hcc := h; first | (obtain ⟨h1, h2, h3, h4, h5, h6, _⟩ := h) | (obtain ⟨h1, h2, h3, _⟩ := h) | (obtain ⟨h1, h2, _⟩ := h) | (obtain ⟨h1, _⟩ := h)) | (apply WL.add; exact rfl; exact rfl; exact rfl; exact rfl; omega) | (apply WL.sub; exact rfl; exact rfl; exact rfl; exact rfl; omega) | (apply WL.mul; exact rfl; exact rfl; exact rfl; exact rfl; omega) | (apply WL.quo; exact rfl; exact rfl; exact rfl; exact rfl; omega) | (apply WL.rem; exact rfl; exact rfl; exact rfl; exact rfl; omega) | (apply WL.loadA tOk; exact rfl; exact rfl; exact rfl; exact rfl; exact rfl; (first | assumption | (focus (apply Cells.ext; rotate_left; assumption; (exact extA); done))); exact rfl) | (apply WL.guardF; exact rfl; exact rfl) | (apply WL.gD; exact rfl; exact rfl; all_goals intro _) | (apply WL.gN; exact rfl; exact rfl; all_goals intro _) | (apply WL.gB; exact rfl; exact rfl; all_goals intro _))
      | (show Z _ _ _ _ _; first | apply Z.tail | apply Z.then_normal | apply Z.block_normal | apply Z.then_exit | apply Z.block_exit | apply Z.then_ret | apply Z.block_ret | (apply Z.block_other; exact rfl))
      | (show W _ _ _ _ _ _; first | apply W.seq | apply W.region | apply W.block | apply W.skip | apply W.ret | apply W.exit | (apply W.condT; exact rfl) | (apply W.condF; exact rfl) | (apply W.condD; exact rfl; all_goals intro _) | (apply W.condN; exact rfl; all_goals intro _) | (apply W.condB; exact rfl; all_goals intro _)))
    exact Z.body1 Try.results101 rfl fun m => ⟨(Ext.refl _).at m, none, 0, rfl, Own.nil⟩
  · refine Spec.of _ Try.func101 rfl Try.ntmps101 (by kernel_rfl) rfl ?_
    repeat' (first
      | (apply WL.eqSl tOk; exact rfl; exact rfl; exact rfl; exact rfl; exact rfl; exact rfl)
      | (apply WL.neSl tOk; exact rfl; exact rfl; exact rfl; exact rfl; exact rfl; exact rfl)
      | (apply WL.gT; exact rfl; exact rfl; (focus (exact dec_false ha; done)))
      | (apply WL.gF; exact rfl; exact rfl; (focus (exact dec_false ha; done)))
      | (apply W.condKT; exact rfl; (focus (exact dec_false ha; done)))
      | (apply W.condKF; exact rfl; (focus (exact dec_false ha; done)))
      | (apply WL.lit (len := 0) tOk; exact rfl; exact rfl; exact rfl; exact rfl; exact rfl; exact rfl; (first | exact rfl | kernel_rfl | (simp [Instr.fill, catCells]; done)); exact rfl; intro gb w' hb hge hc hx; have hO0 := Own.of_block0 (enc := encN) (s := 2) hb hge)
      | (apply WL.appendS tOk encN_ok; exact rfl; exact rfl; exact rfl; exact rfl; exact rfl; exact rfl; exact rfl; exact rfl; exact rfl; exact rfl; assumption; (exact extA); (first | exact rfl | (simp; done) | (simp [*]; done) | omega | (simp only [List.length_set]; omega)); assumption; (exact extA); (first | exact rfl | (simp; done) | (simp [*]; done) | omega | (simp only [List.length_set]; omega)); (first | assumption | (intro h; cases h) | exact Own.noneCap (by assumption)); exact rfl; (exact extA); (first | omega | (simp; omega) | (simp at *; omega)); intro a' cap' w' hO hX' hU hF)
      | (show WL _ _ _ _ _ _ _; first | apply WL.nil | (apply WL.pev tOk; exact rfl; exact rfl; exact rfl) | (apply WL.load tOk; exact rfl; exact rfl; exact rfl; exact rfl; exact rfl; (first | assumption | (focus (apply Ext.cell; rotate_left; assumption; (exact extA); done)))) | (apply WL.index tOk; exact rfl; exact rfl; exact rfl; exact rfl; exact rfl; exact rfl; exact rfl; exact rfl; assumption; (exact extA); exact rfl; omega; assumption; intro b off h; have hcc := h; first | (obtain ⟨h1, h2, h3, h4, h5, h6, _⟩ := h) | (obtain ⟨h1, h2, h3, _⟩ := h) | (obtain ⟨h1, h2, _⟩ := h) | (obtain ⟨h1, _⟩ := h)) | (apply WL.add; exact rfl; exact rfl; exact rfl; exact rfl; omega) | (apply WL.sub; exact rfl; exact rfl; exact rfl; exact rfl; omega) | (apply WL.mul; exact rfl; exact rfl; exact rfl; exact rfl; omega) | (apply WL.quo; exact rfl; exact rfl; exact rfl; exact rfl; omega) | (apply WL.rem; exact rfl; exact rfl; exact rfl; exact rfl; omega) | (apply WL.loadA tOk; exact rfl; exact rfl; exact rfl; exact rfl; exact rfl; (first | assumption | (focus (apply Cells.ext; rotate_left; assumption; (exact extA); done))); exact rfl) | (apply WL.guardF; exact rfl; exact rfl) | (apply WL.gD; exact rfl; exact rfl; all_goals intro _) | (apply WL.gN; exact rfl; exact rfl; all_goals intro _) | (apply WL.gB; exact rfl; exact rfl; all_goals intro _))
      | (show Z _ _ _ _ _; first | apply Z.tail | apply Z.then_normal | apply Z.block_normal | apply Z.then_exit | apply Z.block_exit | apply Z.then_ret | apply Z.block_ret | (apply Z.block_other; exact rfl))
      | (show W _ _ _ _ _ _; first | apply W.seq | apply W.region | apply W.block | apply W.skip | apply W.ret | apply W.exit | (apply W.condT; exact rfl) | (apply W.condF; exact rfl) | (apply W.condD; exact rfl; all_goals intro _) | (apply W.condN; exact rfl; all_goals intro _) | (apply W.condB; exact rfl; all_goals intro _)))
    exact Z.body1 Try.results101 rfl fun m => ⟨Ext.at (by (exact extA)) m, a', cap', by rw [List.nil_append], by rw [List.nil_append] at hO; exact hO⟩
end Go.Proofs.Ytmaekaflpbenmaa
namespace Go.Lt
open Go.RowKit
set_option linter.unusedVariables false
set_option linter.unusedSimpArgs false

section tree
variable {P : Program} {ops : Array Oper} {C : World → Prop} {early : Nat → Bool} {K : Act → World → Prop}

def wpX (P : Program) (ops : Array Oper) (C : World → Prop) (early : Nat → Bool) (K : Act → World → Prop) : Nat → Array Bool → Act → World → Prop
  | 0, listed, a, w => Region.ready .any ops listed = [] ∧ ∀ w', Ext w w' → K a w'
  | n + 1, listed, a, w => Region.ready .any ops listed ≠ [] ∧ ∀ w', Ext w w' → ∀ i ∈ Region.ready .any ops listed,
      wpOp P ops (onlyN K) i (fun a' w'' => (C w' → early i = true → C w'') ∧ wpX P ops C early K n (listed.setIfInBounds i true) a' w'') a w'

theorem wpX_ext : ∀ {n : Nat} {listed : Array Bool} {a : Act} {w w2 : World} (_ : Ext w w2), wpX P ops C early K n listed a w → wpX P ops C early K n listed a w2
  | 0, _, _, _, _, hx, h => ⟨h.1, fun w' h' => h.2 w' (hx.trans h')⟩
  | _ + 1, _, _, _, _, hx, h => ⟨h.1, fun w' h' => h.2 w' (hx.trans h')⟩

theorem wpAny_of_X {Q : Exit → Act → World → Prop} (hQ : ∀ a w, K a w → Q .normal a w) : ∀ (fuel : Nat) (listed : Array Bool) (a : Act) (w : World), wpX P ops C early K fuel listed a w → wpAny P .any ops Q fuel listed a w
  | 0, _, _, w, h => ⟨h.1, hQ _ _ (h.2 w (Ext.refl w))⟩
  | fuel + 1, _, _, w, h => ⟨fun h0 => absurd h0 h.1, fun i hi => wpOp_mono' (fun a w hh => wpAny_of_X hQ fuel _ a w hh.2) (h.2 w (Ext.refl w) i hi)⟩

/-- The step yields v, and only makes memory. -/
def PureAt (P : Program) (s : Sem Next) (w : World) (v : Value) : Prop :=
  s.run P w = .ok (.value v) w ∨ ∃ f args, s.run P w = .ok (.enter f args) w ∧ Calls P f args w (fun x w' => x = .returned v ∧ Ext w w')

def PYields (P : Program) (ops : Array Oper) (C : World → Prop) (o : Oper) (v : Value) (a : Act) : Prop :=
  (Region.wanted o (yielded ops a.tmps) = true ∧ ∀ w, C w → PureAt P (execOp a.eval o) w v) ∨ (Region.wanted o (yielded ops a.tmps) = false ∧ v = undef)

theorem PYields.wpOp {i : Nat} {o : Oper} {v : Value} {a : Act} {w : World} {Q : Exit → Act → World → Prop} {K' : Act → World → Prop} (hi : ops[i]? = some o) (hy : PYields P ops C o v a) (hC : C w) (h : ∀ w', Ext w w' → K' (a.put o.dst v) w') : wpOp P ops Q i K' a w := by
  unfold Go.wpOp
  simp only [hi]
  rcases hy with ⟨hw, hv⟩ | ⟨hw, rfl⟩
  · simp only [hw, if_true]
    refine .inl ?_
    unfold Oper.wp
    rcases hv w hC with hv | ⟨f, args, hv, hc⟩
    · rw [hv]; exact h w (Ext.refl w)
    · rw [hv]
      refine Calls.mono hc ?_
      rintro x w' ⟨rfl, hx⟩
      exact h w' hx
  · simp only [hw, Bool.false_eq_true, if_false]; exact h w (Ext.refl w)

theorem PYields.of_same {o : Oper} {v : Value} {a a' : Act} (hy : PYields P ops C o v a) (he : execOp a'.eval o = execOp a.eval o)
    (hw : Region.wanted o (yielded ops a'.tmps) = Region.wanted o (yielded ops a.tmps)) : PYields P ops C o v a' := by
  unfold PYields at *
  rw [he, hw]
  exact hy

theorem wpOp_putX {j : Nat} {oi oj : Oper} {v : Value} {C : World → Prop} (hj : ops[j]? = some oj) (hap : oi.apart ops oj = true)
    (hsi : ∀ cs b, oi.op ≠ .select cs b) (hsj : ∀ cs b, oj.op ≠ .select cs b) {K0 K1 : Act → World → Prop} {a : Act} {w : World}
    (hy : PYields P ops C oi v a) (h : wpOp P ops (onlyN K0) j K1 (a.put oi.dst v) w) :
    wpOp P ops (onlyN K0) j (fun a' w' => PYields P ops C oi v a' ∧ K1 (a'.put oi.dst v) w') a w := by
  obtain ⟨h1, h2, h3⟩ := Oper.apart_spec hap
  have keep : ∀ u, PYields P ops C oi v (a.put oj.dst u) := fun u => hy.of_same (execOp_put oi hsi a oj.dst u h3) (wanted_put oi a oj.dst u h3)
  have swap : ∀ u, (a.put oi.dst v).put oj.dst u = (a.put oj.dst u).put oi.dst v := fun u => Act.put_comm a v u h2
  have lets : ¬ LetsOut (onlyN K0) := fun ⟨_, _, hq⟩ => hq
  unfold Go.wpOp at *
  simp only [hj] at *
  rw [wanted_put oj a oi.dst v h1] at h
  split
  · rename_i hw
    simp only [hw, if_true] at h
    rcases h with h | ⟨_, hq⟩
    · refine .inl ?_
      unfold Oper.wp at h ⊢
      rw [execOp_put oj hsj a oi.dst v h1] at h
      revert h
      generalize (execOp a.eval oj).run P w = r
      intro h
      unfold Oper.upon at h ⊢
      split at h
      · exact ⟨keep _, by rw [← swap]; exact h⟩
      · exact ⟨keep _, by rw [← swap]; exact h⟩
      · rename_i d w'
        have e1 : ({ a with defers := d :: a.defers }.put oj.dst undef).put oi.dst v = { a.put oi.dst v with defers := d :: (a.put oi.dst v).defers }.put oj.dst undef := by
          rw [Act.put_comm _ undef v (fun q hq hh => h2 q hh hq)]
          cases oi.dst <;> rfl
        have e2 : PYields P ops C oi v ({ a with defers := d :: a.defers }.put oj.dst undef) := by
          refine (keep undef).of_same ?_ ?_
          · cases oj.dst <;> rfl
          · cases oj.dst <;> rfl
        exact ⟨e2, by rw [e1]; exact h⟩
      · refine Calls.mono h fun x w'' hx => ?_
        cases x with
        | returned u => exact ⟨keep _, by rw [← swap]; exact hx⟩
        | panicked c => exact hx.elim
        | outgrown => exact (lets hx).elim
      · exact Rows.mono h fun u w'' hx => ⟨keep _, by rw [← swap]; exact hx⟩
      · exact h.elim
      · exact h
    · exact (lets hq).elim
  · rename_i hw
    simp only [hw] at h
    exact ⟨keep _, by rw [← swap]; exact h⟩

theorem wpX_first {i : Nat} {oi : Oper} {v : Value} {b : Bool} (hup : ∀ w w', C w → Ext w w' → C w') (hi : ops[i]? = some oi) (hsel : ∀ (j : Nat) (o : Oper) cs b, ops[j]? = some o → o.op ≠ .select cs b) :
    ∀ (fuel : Nat) (listed : Array Bool) (a : Act) (w : World), (b = true ∨ C w) →
      (∀ j oj, ops[j]? = some oj → j ≠ i → listed.getD j true = false → (∀ e ∈ oj.after, Region.binds .any e = true → e.on ≠ i) → oi.apart ops oj = true ∧ (b = true ∨ early j = true)) →
      i ∈ Region.ready .any ops listed → PYields P ops (fun w => b = true ∨ C w) oi v a →
      wpX P ops C early K fuel (listed.setIfInBounds i true) (a.put oi.dst v) w → wpX P ops C early K (fuel + 1) listed a w := by
  intro fuel
  induction fuel with
  | zero =>
    intro listed a w hC _ hr hy H
    refine ⟨fun h => (by rw [h] at hr; cases hr), fun w1 hx j hj => ?_⟩
    by_cases hji : j = i
    · subst hji; exact hy.wpOp hi (hC.imp id fun h => hup _ _ h hx) fun w' hx' => ⟨fun hc _ => hup _ _ hc hx', wpX_ext (hx.trans hx') H⟩
    · have := ready_mono hj hji
      rw [H.1] at this
      cases this
  | succ fuel ih =>
    intro listed a w hC hfree hr hy H
    refine ⟨fun h => (by rw [h] at hr; cases hr), fun w1 hx j hj => ?_⟩
    by_cases hji : j = i
    · subst hji; exact hy.wpOp hi (hC.imp id fun h => hup _ _ h hx) fun w' hx' => ⟨fun hc _ => hup _ _ hc hx', wpX_ext (hx.trans hx') H⟩
    · have h1 := H.2 w1 hx j (ready_mono hj hji)
      obtain ⟨hjun, oj, hoj, hall⟩ := mem_ready.1 hj
      have hnot : ∀ e ∈ oj.after, Region.binds .any e = true → e.on ≠ i := fun e he hb heq => by
        have h1 := hall e he hb
        have h0 := (mem_ready.1 hr).1
        rw [heq] at h1
        rcases Nat.lt_or_ge i listed.size with h' | h'
        · simp [h'] at h0 h1; rw [h0] at h1; cases h1
        · simp [Array.getElem?_eq_none h'] at h1
      obtain ⟨hap, hea⟩ := hfree j oj hoj hji hjun hnot
      have h2 := wpOp_putX hoj hap (fun cs b => hsel i oi cs b hi) (fun cs b => hsel j oj cs b hoj) hy h1
      have hfree' : ∀ k ok, ops[k]? = some ok → k ≠ i → (listed.setIfInBounds j true).getD k true = false →
          (∀ e ∈ ok.after, Region.binds .any e = true → e.on ≠ i) → oi.apart ops ok = true ∧ (b = true ∨ early k = true) := fun k ok hk hki hun hno => by
        refine hfree k ok hk hki ?_ hno
        by_cases hjk : j = k
        · subst hjk; exact hjun
        · rw [getD_set_ne true hjk] at hun; exact hun
      refine wpOp_mono' (fun a' w' h3 => ⟨h3.2.1, ih (listed.setIfInBounds j true) a' w' ?_ hfree' (ready_mono hr (Ne.symm hji)) h3.1 ?_⟩) h2
      · rcases hea with hb | hea
        · exact .inl hb
        · rcases hC with hb | hc
          · exact .inl hb
          · exact .inr (h3.2.1 (hup _ _ hc hx) hea)
      · rw [Array.setIfInBounds_comm _ _ hji]
        exact h3.2.2

def wpY (P : Program) (ops : Array Oper) (C : World → Prop) (early : Nat → Bool) (K : Act → World → Prop) : Strat → Act → World → Prop
  | .done, a, w => ∀ w', Ext w w' → K a w'
  | .fl b i k, a, w => ∃ o, ops[i]? = some o ∧ ∃ v, PYields P ops (fun w => b = true ∨ C w) o v a ∧ (b = true ∨ C w) ∧ wpY P ops C early K k (a.put o.dst v) w
  | .br i k more, a, w => (∃ o, ops[i]? = some o ∧ ∀ w', Ext w w' → wpList P ops (onlyN fun a' w'' => (early i = true → C w'') ∧ wpY P ops C early K k a' w'') [o] a w') ∧ wpY P ops C early K more a w
  | .stop, _, _ => True

theorem wpY_ext (hup : ∀ w w', C w → Ext w w' → C w') : ∀ {s : Strat} {a : Act} {w w2 : World} (_ : Ext w w2), wpY P ops C early K s a w → wpY P ops C early K s a w2
  | .done, _, _, _, hx, h => fun w' h' => h w' (hx.trans h')
  | .fl b i k, _, _, _, hx, ⟨o, ho, v, h1, h2, h3⟩ => ⟨o, ho, v, h1, h2.imp id fun h => hup _ _ h hx, wpY_ext hup hx h3⟩
  | .br i k more, _, _, _, hx, ⟨⟨o, ho, h1⟩, h2⟩ => ⟨⟨o, ho, fun w' h' => h1 w' (hx.trans h')⟩, wpY_ext hup hx h2⟩
  | .stop, _, _, _, _, _ => trivial

theorem stratX_all (hup : ∀ w w', C w → Ext w w' → C w') (hsel : ∀ (j : Nat) (o : Oper) cs b, ops[j]? = some o → o.op ≠ .select cs b) : ∀ (s : Strat),
    (∀ (L : Array Bool) (a : Act) (w : World), stratB ops early true s L = true → wpY P ops C early K s a w → wpX P ops C early K (slen s) L a w) ∧
    (∀ (L : Array Bool) (a : Act) (w : World) (n : Nat), stratB ops early false s L = true → (isStop s = true ∨ slen s = n + 1) → wpY P ops C early K s a w → ∀ i ∈ heads s, ∀ w', Ext w w' →
      wpOp P ops (onlyN K) i (fun a' w'' => (C w' → early i = true → C w'') ∧ wpX P ops C early K n (L.setIfInBounds i true) a' w'') a w')
  | .done => ⟨fun L a w hB h => ⟨by simpa [stratB] using hB, h⟩, fun L a w n hB => by simp [stratB] at hB⟩
  | .stop => ⟨fun L a w hB => by simp [stratB] at hB, fun L a w n hB hn h i hi => by simp [heads] at hi⟩
  | .fl b i k => by
    refine ⟨fun L a w hB h => ?_, fun L a w n hB => by simp [stratB] at hB⟩
    obtain ⟨o, ho, v, h1, h2, h3⟩ := h
    simp only [stratB, ho, Bool.true_and, Bool.and_eq_true] at hB
    obtain ⟨⟨hB1, hB2⟩, hB3⟩ := hB
    have hfree : ∀ j oj, ops[j]? = some oj → j ≠ i → L.getD j true = false → (∀ e ∈ oj.after, Region.binds .any e = true → e.on ≠ i) → o.apart ops oj = true ∧ (b = true ∨ early j = true) := by
      intro j oj hj hji hun hno
      have hjlt : j < ops.size := (Array.getElem?_eq_some_iff.1 hj).1
      have := List.all_eq_true.1 hB2 j (List.mem_range.2 hjlt)
      simp only [hj, Bool.or_eq_true, beq_iff_eq, hji, hun, Bool.false_eq_true, false_or, Bool.and_eq_true] at this
      rcases this with hw | hw
      · exfalso
        simp only [waits, hj] at hw
        obtain ⟨e, he, hb⟩ := Array.any_eq_true'.1 hw
        simp only [Bool.and_eq_true, beq_iff_eq] at hb
        exact hno e he hb.1 hb.2
      · exact hw
    exact wpX_first hup ho hsel (slen k) L a w h2 hfree (by simpa using hB1) h1 ((stratX_all hup hsel k).1 _ _ _ hB3 h3)
  | .br i k more => by
    have key : ∀ (L : Array Bool) (a : Act) (w : World), stratB ops early true k (L.setIfInBounds i true) = true →
        (∃ o, ops[i]? = some o ∧ ∀ w', Ext w w' → wpList P ops (onlyN fun a' w'' => (early i = true → C w'') ∧ wpY P ops C early K k a' w'') [o] a w') → ∀ w', Ext w w' →
        wpOp P ops (onlyN K) i (fun a' w'' => (C w' → early i = true → C w'') ∧ wpX P ops C early K (slen k) (L.setIfInBounds i true) a' w'') a w' := by
      rintro L a w hB ⟨o, ho, h⟩ w1 hx
      refine wpOp_of_list ho (h w1 hx) _ fun a' w' h' => ?_
      have h'' : (early i = true → C w') ∧ wpY P ops C early K k a' w' := h'
      exact ⟨fun _ he => h''.1 he, (stratX_all hup hsel k).1 _ _ _ hB h''.2⟩
    refine ⟨fun L a w hB h => ?_, fun L a w n hB hn h => ?_⟩
    · simp only [stratB, Bool.not_true, Bool.false_or, Bool.and_eq_true, beq_iff_eq, Bool.or_eq_true] at hB
      obtain ⟨⟨⟨hB1, hB2⟩, hB3⟩, hB4⟩ := hB
      refine ⟨by rw [hB1]; simp, fun w1 hx j hj => ?_⟩
      rw [hB1] at hj
      rcases List.mem_cons.1 hj with rfl | hj
      · exact key L a w hB3 h.1 w1 hx
      · refine (stratX_all hup hsel more).2 L a w (slen k) hB4 ?_ h.2 j hj w1 hx
        rcases hB2 with hB2 | hB2
        · exact .inl hB2
        · exact .inr (Nat.eq_of_beq_eq_true hB2)
    · simp only [stratB, Bool.not_false, Bool.true_or, Bool.true_and, Bool.and_eq_true, Bool.or_eq_true] at hB
      obtain ⟨⟨hB2, hB3⟩, hB4⟩ := hB
      have hk : slen k = n := by
        rcases hn with hn | hn
        · cases hn
        · exact Nat.succ.inj hn
      subst hk
      intro j hj w1 hx
      rcases List.mem_cons.1 hj with rfl | hj
      · exact key L a w hB3 h.1 w1 hx
      · refine (stratX_all hup hsel more).2 L a w (slen k) hB4 ?_ h.2 j hj w1 hx
        rcases hB2 with hB2 | hB2
        · exact .inl hB2
        · exact .inr (Nat.eq_of_beq_eq_true hB2)
end tree

structure SX (P : Program) (N : Nat) (l : List Oper) (w0 : World) (early : Nat → Bool) (s : Strat) (e : Env) (w : World) (Q : Exit → Act → World → Prop) : Prop where
  go : ∀ a, Fit N e a → wpY P l.toArray (Ext w0) early (fun a w => Q .normal a w) s a w
theorem ext_up (w0 : World) : ∀ w w', Ext w0 w → Ext w w' → Ext w0 w' := fun _ _ h k => h.trans k

section rules
variable {P : Program} {N : Nat} {e : Env} {w w0 : World} {Q : Exit → Act → World → Prop} {l : List Oper} {early : Nat → Bool} {s k more : Strat} {o : Oper} {i : Nat}
theorem W.regionGX {id : Nat} (s : Strat) (E : List Nat) (hm : P.follows .mixedOrders = true) (hB : (Region.noSelect l.toArray && Nat.beq (slen s) l.toArray.size && stratB l.toArray (memN E) true s (Array.replicate l.toArray.size false)) = true)
    (h : SX P N l w (memN E) s e w Q) : W P N (.region id l.toArray true) e w Q := by
  refine ⟨fun a m hf => wp_region_any hm ?_⟩
  simp only [Bool.and_eq_true] at hB
  obtain ⟨⟨hB1, hB2⟩, hB3⟩ := hB
  have hsel : ∀ (j : Nat) (o : Oper) cs b, l.toArray[j]? = some o → o.op ≠ .select cs b := fun j o cs b ho => Region.noSelect_spec hB1 j o cs b ho
  have hsz := Nat.eq_of_beq_eq_true hB2
  have key := (stratX_all (P := P) (C := Ext w) (K := fun a w => Q .normal a w) (ext_up w) hsel s).1 _ _ _ hB3 (h.go a hf)
  rw [hsz] at key
  exact wpAny_of_X (K := fun a w => Q .normal a w) (C := Ext w) (early := memN E) (fun _ _ h => h) _ _ _ _ (wpX_ext (w := w) ((Ext.refl w).at (m + 1)) key)
theorem SX.done (h : ∀ w', Ext w w' → Z N Q .normal e w') : SX P N l w0 early .done e w Q := ⟨fun a hf w' hx => (h w' hx).go a w'.drawn hf⟩
theorem SX.stop : SX P N l w0 early .stop e w Q := ⟨fun a hf => trivial⟩
theorem SX.fl0 (ho : nthO l i = some o) (h : FL P N l.toArray (fun _ => True) [o] e w (fun a => wpY P l.toArray (Ext w0) early (fun a w => Q .normal a w) k a w)) : SX P N l w0 early (.fl true i k) e w Q := by
  refine ⟨fun a hf => ⟨o, nthO_eq ho, ?_⟩⟩
  have := h.go a hf
  unfold wpFl at this
  split at this
  · rename_i hw
    obtain ⟨v, h1, h2⟩ := this
    exact ⟨v, .inl ⟨hw, fun w' _ => .inl (h1 w' trivial)⟩, .inl rfl, h2⟩
  · rename_i hw
    exact ⟨undef, .inr ⟨by simpa using hw, rfl⟩, .inl rfl, this⟩
theorem SX.fl1 (ho : nthO l i = some o) (hC : Ext w0 w) (h : FL P N l.toArray (Ext w0) [o] e w (fun a => wpY P l.toArray (Ext w0) early (fun a w => Q .normal a w) k a w)) : SX P N l w0 early (.fl false i k) e w Q := by
  refine ⟨fun a hf => ⟨o, nthO_eq ho, ?_⟩⟩
  have := h.go a hf
  unfold wpFl at this
  split at this
  · rename_i hw
    obtain ⟨v, h1, h2⟩ := this
    exact ⟨v, .inl ⟨hw, fun w' hc => .inl (h1 w' (hc.resolve_left (by simp)))⟩, .inr hC, h2⟩
  · rename_i hw
    exact ⟨undef, .inr ⟨by simpa using hw, rfl⟩, .inr hC, this⟩
theorem FL.nilX {opsA : Array Oper} {C' : World → Prop} (h : SX P N l w0 early k e w Q) : FL P N opsA C' [] e w (fun a => wpY P l.toArray (Ext w0) early (fun a w => Q .normal a w) k a w) := ⟨fun a hf => h.go a hf⟩
/-- A call that only makes memory, whatever the world of the class. -/
theorem SX.flP {d : Nat} {f : FuncId} {args : List Operand} {ts : Array TypeId} {c : Operand} {us vs : List Value} {v : Value} {tt : TypeId} {ps : String} {af : Array Edge} {g : Option (Nat × Bool)}
    (ho : nthO l i = some ⟨some d, .call ⟨.value c, args.toArray, ts⟩, tt, ps, af, g⟩) (hC : Ext w0 w) (hg : gate l e g = some true) (hd : Nat.blt d N = true) (hc : ev e c = some (.func (.func f) #[] us.toArray)) (hv : evs e args = some vs)
    (h : ∀ w', Ext w0 w' → Pure P f (vs ++ us) w' v) (hk : SX P N l w0 early k ((d, v) :: e) w Q) : SX P N l w0 early (.fl false i k) e w Q := by
  refine ⟨fun a hf => ⟨_, nthO_eq ho, v, .inl ⟨by rw [gate_wanted hf (o := ⟨some d, .call ⟨.value c, args.toArray, ts⟩, tt, ps, af, g⟩) hg], fun w' hc' => .inr ?_⟩, .inr hC, hk.go _ (hf.put (by simpa [Nat.blt_eq] using hd) v)⟩⟩
  have hS := h w' (hc'.resolve_left (by simp))
  refine ⟨f, (vs ++ us).toArray, ?_, ?_⟩
  · have h1 := evs_map (ρ := a.eval) (fun x u hx => hf.eval hx) hv
    have HC := hS.1
    simp [execOp, resolve, hf.eval hc, Deferred.ofValue, invoke, HC.run, h1]
  · refine (hS.2 w'.drawn).mono ?_
    rintro x w'' ⟨u, rfl, rfl, hx⟩
    exact ⟨rfl, hx⟩
theorem SX.br (ho : nthO l i = some o) (h : ∀ w', Ext w w' → WL P N l.toArray [o] e w' (onlyN fun a' w'' => (early i = true → Ext w0 w'') ∧ wpY P l.toArray (Ext w0) early (fun a w => Q .normal a w) k a' w'')) (hm : SX P N l w0 early more e w Q) : SX P N l w0 early (.br i k more) e w Q :=
  ⟨fun a hf => ⟨⟨o, nthO_eq ho, fun w' hx => (h w' hx).go a w'.drawn hf⟩, hm.go a hf⟩⟩
theorem SX.br1 (ho : nthO l i = some o) (h : ∀ w', Ext w w' → WL P N l.toArray [o] e w' (onlyN fun a' w'' => (early i = true → Ext w0 w'') ∧ wpY P l.toArray (Ext w0) early (fun a w => Q .normal a w) k a' w'')) : SX P N l w0 early (.br i k .stop) e w Q := SX.br ho h SX.stop
theorem Z.sx (hC : early i = true → Ext w0 w) (h : SX P N l w0 early k e w Q) : Z N (onlyN fun a' w'' => (early i = true → Ext w0 w'') ∧ wpY P l.toArray (Ext w0) early (fun a w => Q .normal a w) k a' w'') .normal e w :=
  ⟨fun a m hf => ⟨fun he => (hC he).at m, wpY_ext (ext_up w0) ((Ext.refl w).at m) (h.go a hf)⟩⟩
theorem Z.sxL (hE : early i = false) (h : SX P N l w0 early k e w Q) : Z N (onlyN fun a' w'' => (early i = true → Ext w0 w'') ∧ wpY P l.toArray (Ext w0) early (fun a w => Q .normal a w) k a' w'') .normal e w := Z.sx (fun h => by rw [hE] at h; cases h) h
theorem Z.sxE (hC : Ext w0 w) (h : SX P N l w0 early k e w Q) : Z N (onlyN fun a' w'' => (early i = true → Ext w0 w'') ∧ wpY P l.toArray (Ext w0) early (fun a w => Q .normal a w) k a' w'') .normal e w := Z.sx (fun _ => hC) h
end rules
end Go.Lt
namespace Go.Proofs.Ytmaekaflpbenmaa
open Go Go.Lt Go.RowKit
set_option linter.unusedVariables false
set_option linter.unusedSimpArgs false

/-- All literals are of variables of the net. -/
def KnownP (n : List (Int × Int)) (l : List Int) : Prop := ∀ x ∈ l, 0 ≤ x ∧ x ≤ 2 * (n.length : Int) + 1
theorem ref22_Known (a al : Option Addr) (cap cl : Nat) (n : List (Int × Int)) (l : List Int) (w : World) (Rl : Row 1 encI w al l) (hn : n.length ≤ 1048576) : Still Try.prog 45 [.slice a n.length cap, .slice al l.length cl] w (.bool (dec (KnownP n l))) := by
  have hlen := Rl.len
  refine Spec.of _ Try.func45 rfl Try.ntmps45 (by kernel_rfl) rfl ?_
  repeat' (first
    | (show WL _ _ _ _ _ _ _; first | apply WL.nil | (apply WL.pev tOk; exact rfl; exact rfl; exact rfl) | (apply WL.load tOk; exact rfl; exact rfl; exact rfl; exact rfl; exact rfl; (first | assumption | (focus (apply Ext.cell; rotate_left; assumption; (exact extA); done)))) | (apply WL.index tOk; exact rfl; exact rfl; exact rfl; exact rfl; exact rfl; exact rfl; exact rfl; exact rfl; assumption; (exact extA); exact rfl; omega; assumption; intro b off h; have hcc := h; first | (obtain ⟨h1, h2, h3, h4, h5, h6, _⟩ := h) | (obtain ⟨h1, h2, h3, _⟩ := h) | (obtain ⟨h1, h2, _⟩ := h) | (obtain ⟨h1, _⟩ := h)) | (apply WL.add; exact rfl; exact rfl; exact rfl; exact rfl; omega) | (apply WL.sub; exact rfl; exact rfl; exact rfl; exact rfl; omega) | (apply WL.mul; exact rfl; exact rfl; exact rfl; exact rfl; omega) | (apply WL.quo; exact rfl; exact rfl; exact rfl; exact rfl; omega) | (apply WL.rem; exact rfl; exact rfl; exact rfl; exact rfl; omega) | (apply WL.loadA tOk; exact rfl; exact rfl; exact rfl; exact rfl; exact rfl; (first | assumption | (focus (apply Cells.ext; rotate_left; assumption; (exact extA); done))); exact rfl) | (apply WL.guardF; exact rfl; exact rfl) | (apply WL.gD; exact rfl; exact rfl; all_goals intro _) | (apply WL.gN; exact rfl; exact rfl; all_goals intro _) | (apply WL.gB; exact rfl; exact rfl; all_goals intro _))
    | (show Z _ _ _ _ _; first | apply Z.tail | apply Z.then_normal | apply Z.block_normal | apply Z.then_exit | apply Z.block_exit | apply Z.then_ret | apply Z.block_ret | (apply Z.block_other; exact rfl))
    | (show W _ _ _ _ _ _; first | apply W.seq | apply W.region | apply W.block | apply W.skip | apply W.ret | apply W.exit | (apply W.condT; exact rfl) | (apply W.condF; exact rfl) | (apply W.condD; exact rfl; all_goals intro _) | (apply W.condN; exact rfl; all_goals intro _) | (apply W.condB; exact rfl; all_goals intro _)))
  refine W.loop1 l.length (fun k => k ≤ l.length ∧ KnownP n (l.take k)) (fun k => [(0, .slice a n.length cap), (1, .slice al l.length cl), (5, .int .i64 k)]) ⟨by omega, fun x h => by simp at h⟩ (fun k h => h.1) ⟨rfl, rfl, rfl, trivial⟩ ?_
  rintro k ⟨hk, hK⟩
  by_cases hlt : k < l.length
  · obtain ⟨z, hz⟩ := getI l hlt
    by_cases hzz : 0 ≤ z ∧ z ≤ 2 * (n.length : Int) + 1
    · repeat' (first
        | (apply WL.gT; exact rfl; exact rfl; (focus (first | exact dec_true (by omega) | exact dec_false (by omega); done)))
        | (apply WL.gF; exact rfl; exact rfl; (focus (first | exact dec_true (by omega) | exact dec_false (by omega); done)))
        | (apply W.condKT; exact rfl; (focus (first | exact dec_true (by omega) | exact dec_false (by omega); done)))
        | (apply W.condKF; exact rfl; (focus (first | exact dec_true (by omega) | exact dec_false (by omega); done)))
        | (show WL _ _ _ _ _ _ _; first | apply WL.nil | (apply WL.pev tOk; exact rfl; exact rfl; exact rfl) | (apply WL.load tOk; exact rfl; exact rfl; exact rfl; exact rfl; exact rfl; (first | assumption | (focus (apply Ext.cell; rotate_left; assumption; (exact extA); done)))) | (apply WL.index tOk; exact rfl; exact rfl; exact rfl; exact rfl; exact rfl; exact rfl; exact rfl; exact rfl; assumption; (exact extA); exact rfl; omega; assumption; intro b off h; have hcc := h; first | (obtain ⟨h1, h2, h3, h4, h5, h6, _⟩ := h) | (obtain ⟨h1, h2, h3, _⟩ := h) | (obtain ⟨h1, h2, _⟩ := h) | (obtain ⟨h1, _⟩ := h)) | (apply WL.add; exact rfl; exact rfl; exact rfl; exact rfl; omega) | (apply WL.sub; exact rfl; exact rfl; exact rfl; exact rfl; omega) | (apply WL.mul; exact rfl; exact rfl; exact rfl; exact rfl; omega) | (apply WL.quo; exact rfl; exact rfl; exact rfl; exact rfl; omega) | (apply WL.rem; exact rfl; exact rfl; exact rfl; exact rfl; omega) | (apply WL.loadA tOk; exact rfl; exact rfl; exact rfl; exact rfl; exact rfl; (first | assumption | (focus (apply Cells.ext; rotate_left; assumption; (exact extA); done))); exact rfl) | (apply WL.guardF; exact rfl; exact rfl) | (apply WL.gD; exact rfl; exact rfl; all_goals intro _) | (apply WL.gN; exact rfl; exact rfl; all_goals intro _) | (apply WL.gB; exact rfl; exact rfl; all_goals intro _))
        | (show Z _ _ _ _ _; first | apply Z.tail | apply Z.then_normal | apply Z.block_normal | apply Z.then_exit | apply Z.block_exit | apply Z.then_ret | apply Z.block_ret | (apply Z.block_other; exact rfl))
        | (show W _ _ _ _ _ _; first | apply W.seq | apply W.region | apply W.block | apply W.skip | apply W.ret | apply W.exit | (apply W.condT; exact rfl) | (apply W.condF; exact rfl) | (apply W.condD; exact rfl; all_goals intro _) | (apply W.condN; exact rfl; all_goals intro _) | (apply W.condB; exact rfl; all_goals intro _)))
      exact Z.again1 ⟨by omega, fun x hx => by
        rw [take_succ' hz] at hx
        rcases List.mem_append.1 hx with h1 | h1
        · exact hK x h1
        · obtain rfl := List.mem_singleton.1 h1; exact hzz⟩ ⟨rfl, rfl, rfl, trivial⟩
    · repeat' (first
        | (apply WL.gT; exact rfl; exact rfl; (focus (exact dec_true (by omega); done)))
        | (apply WL.gF; exact rfl; exact rfl; (focus (exact dec_true (by omega); done)))
        | (apply W.condKT; exact rfl; (focus (exact dec_true (by omega); done)))
        | (apply W.condKF; exact rfl; (focus (exact dec_true (by omega); done)))
        | (show WL _ _ _ _ _ _ _; first | apply WL.nil | (apply WL.pev tOk; exact rfl; exact rfl; exact rfl) | (apply WL.load tOk; exact rfl; exact rfl; exact rfl; exact rfl; exact rfl; (first | assumption | (focus (apply Ext.cell; rotate_left; assumption; (exact extA); done)))) | (apply WL.index tOk; exact rfl; exact rfl; exact rfl; exact rfl; exact rfl; exact rfl; exact rfl; exact rfl; assumption; (exact extA); exact rfl; omega; assumption; intro b off h; have hcc := h; first | (obtain ⟨h1, h2, h3, h4, h5, h6, _⟩ := h) | (obtain ⟨h1, h2, h3, _⟩ := h) | (obtain ⟨h1, h2, _⟩ := h) | (obtain ⟨h1, _⟩ := h)) | (apply WL.add; exact rfl; exact rfl; exact rfl; exact rfl; omega) | (apply WL.sub; exact rfl; exact rfl; exact rfl; exact rfl; omega) | (apply WL.mul; exact rfl; exact rfl; exact rfl; exact rfl; omega) | (apply WL.quo; exact rfl; exact rfl; exact rfl; exact rfl; omega) | (apply WL.rem; exact rfl; exact rfl; exact rfl; exact rfl; omega) | (apply WL.loadA tOk; exact rfl; exact rfl; exact rfl; exact rfl; exact rfl; (first | assumption | (focus (apply Cells.ext; rotate_left; assumption; (exact extA); done))); exact rfl) | (apply WL.guardF; exact rfl; exact rfl) | (apply WL.gD; exact rfl; exact rfl; all_goals intro _) | (apply WL.gN; exact rfl; exact rfl; all_goals intro _) | (apply WL.gB; exact rfl; exact rfl; all_goals intro _))
        | (show Z _ _ _ _ _; first | apply Z.tail | apply Z.then_normal | apply Z.block_normal | apply Z.then_exit | apply Z.block_exit | apply Z.then_ret | apply Z.block_ret | (apply Z.block_other; exact rfl))
        | (show W _ _ _ _ _ _; first | apply W.seq | apply W.region | apply W.block | apply W.skip | apply W.ret | apply W.exit | (apply W.condT; exact rfl) | (apply W.condF; exact rfl) | (apply W.condD; exact rfl; all_goals intro _) | (apply W.condN; exact rfl; all_goals intro _) | (apply W.condB; exact rfl; all_goals intro _)))
      all_goals first
        | (exfalso; omega)
        | exact Z.body1 Try.results45 rfl fun m => ⟨congrArg Value.bool (dec_false (fun h => hzz (h z (List.mem_of_getElem? hz)))).symm, m, rfl⟩
  · obtain rfl : k = l.length := by omega
    rw [List.take_length] at hK
    repeat' (first
      | (apply WL.gT; exact rfl; exact rfl; (focus (exact dec_false (by omega); done)))
      | (apply WL.gF; exact rfl; exact rfl; (focus (exact dec_false (by omega); done)))
      | (apply W.condKT; exact rfl; (focus (exact dec_false (by omega); done)))
      | (apply W.condKF; exact rfl; (focus (exact dec_false (by omega); done)))
      | (show WL _ _ _ _ _ _ _; first | apply WL.nil | (apply WL.pev tOk; exact rfl; exact rfl; exact rfl) | (apply WL.load tOk; exact rfl; exact rfl; exact rfl; exact rfl; exact rfl; (first | assumption | (focus (apply Ext.cell; rotate_left; assumption; (exact extA); done)))) | (apply WL.index tOk; exact rfl; exact rfl; exact rfl; exact rfl; exact rfl; exact rfl; exact rfl; exact rfl; assumption; (exact extA); exact rfl; omega; assumption; intro b off h; have hcc := h; first | (obtain ⟨h1, h2, h3, h4, h5, h6, _⟩ := h) | (obtain ⟨h1, h2, h3, _⟩ := h) | (obtain ⟨h1, h2, _⟩ := h) | (obtain ⟨h1, _⟩ := h)) | (apply WL.add; exact rfl; exact rfl; exact rfl; exact rfl; omega) | (apply WL.sub; exact rfl; exact rfl; exact rfl; exact rfl; omega) | (apply WL.mul; exact rfl; exact rfl; exact rfl; exact rfl; omega) | (apply WL.quo; exact rfl; exact rfl; exact rfl; exact rfl; omega) | (apply WL.rem; exact rfl; exact rfl; exact rfl; exact rfl; omega) | (apply WL.loadA tOk; exact rfl; exact rfl; exact rfl; exact rfl; exact rfl; (first | assumption | (focus (apply Cells.ext; rotate_left; assumption; (exact extA); done))); exact rfl) | (apply WL.guardF; exact rfl; exact rfl) | (apply WL.gD; exact rfl; exact rfl; all_goals intro _) | (apply WL.gN; exact rfl; exact rfl; all_goals intro _) | (apply WL.gB; exact rfl; exact rfl; all_goals intro _))
      | (show Z _ _ _ _ _; first | apply Z.tail | apply Z.then_normal | apply Z.block_normal | apply Z.then_exit | apply Z.block_exit | apply Z.then_ret | apply Z.block_ret | (apply Z.block_other; exact rfl))
      | (show W _ _ _ _ _ _; first | apply W.seq | apply W.region | apply W.block | apply W.skip | apply W.ret | apply W.exit | (apply W.condT; exact rfl) | (apply W.condF; exact rfl) | (apply W.condD; exact rfl; all_goals intro _) | (apply W.condN; exact rfl; all_goals intro _) | (apply W.condB; exact rfl; all_goals intro _)))
    exact Z.body1 Try.results45 rfl fun m => ⟨congrArg Value.bool (dec_true hK).symm, m, rfl⟩
end Go.Proofs.Ytmaekaflpbenmaa
namespace Go.Proofs.Ytmaekaflpbenmaa
open Go Go.Lt Go.RowKit
set_option linter.unusedVariables false
set_option linter.unusedSimpArgs false

/-- c is one of the two that the gate u has. -/
def Kid (n : List (Int × Int)) (u c : Nat) : Prop := ∃ k x, u = k + 1 ∧ n[k]? = some x ∧ 0 ≤ x.1 ∧ (c = (x.1 / 2).toNat ∨ c = (x.2 / 2).toNat)
inductive Hang (n : List (Int × Int)) : Nat → Nat → Prop
  | refl (v : Nat) : Hang n v v
  | step {u c v : Nat} : Kid n u c → Hang n c v → Hang n u v
theorem Hang.trans {n : List (Int × Int)} {u v w : Nat} (h : Hang n u v) : Hang n v w → Hang n u w := by
  induction h with
  | refl v => exact fun k => k
  | step hk _ ih => exact fun k => .step hk (ih k)
theorem Kid.lt {n : List (Int × Int)} (hg : GoodNet n) {u c : Nat} (h : Kid n u c) : c < u := by
  obtain ⟨k, x, rfl, hx, h0, hc⟩ := h
  have := hg.gate hx h0
  omega
theorem Kid.le {n : List (Int × Int)} {u c : Nat} (h : Kid n u c) : 1 ≤ u ∧ u ≤ n.length := by
  obtain ⟨k, x, rfl, hx, _⟩ := h
  have := lt_of_get hx
  omega
theorem Hang.le {n : List (Int × Int)} (hg : GoodNet n) {u v : Nat} (h : Hang n u v) : v ≤ u := by
  induction h with
  | refl v => exact Nat.le_refl _
  | step hk _ ih => have := hk.lt hg; omega
noncomputable def sel (m : Nat) (p : Nat → Prop) : List Int := ((List.range m).filter (fun u => dec (p u))).map (fun u => ((u : Nat) : Int))
theorem sel_yes {m : Nat} {p : Nat → Prop} (h : p m) : sel (m + 1) p = sel m p ++ [(m : Int)] := by simp [sel, List.range_succ, dec_true h]
theorem sel_no {m : Nat} {p : Nat → Prop} (h : ¬ p m) : sel (m + 1) p = sel m p := by simp [sel, List.range_succ, dec_false h]
theorem sel_le (m : Nat) (p : Nat → Prop) : (sel m p).length ≤ m := by
  rw [sel, List.length_map]; exact Nat.le_trans (List.length_filter_le _ _) (by simp)
theorem sel_mem {m : Nat} {p : Nat → Prop} {v : Int} : v ∈ sel m p ↔ ∃ u : Nat, v = u ∧ u < m ∧ p u := by
  simp only [sel, List.mem_map, List.mem_filter, List.mem_range]
  constructor
  · rintro ⟨u, ⟨h1, h2⟩, rfl⟩; exact ⟨u, rfl, h1, of_dec h2⟩
  · rintro ⟨u, rfl, h1, h2⟩; exact ⟨u, ⟨h1, dec_true h2⟩, rfl⟩
end Go.Proofs.Ytmaekaflpbenmaa
namespace Go.Proofs.Ytmaekaflpbenmaa
open Go Go.Lt Go.RowKit
set_option linter.unusedVariables false
set_option linter.unusedSimpArgs false

theorem values_len' (n : List (Int × Int)) (ins : List Bool) : (values n ins).length = n.length + 1 := (vto_len n ins n.length (Nat.le_refl _)).1
theorem vto_pre (n : List (Int × Int)) (ins : List Bool) {j : Nat} : ∀ {k}, j ≤ k → k ≤ n.length → (vto n ins k).1.getD j false = (vto n ins j).1.getD j false
  | 0, h, _ => by obtain rfl : j = 0 := by omega
                  rfl
  | k + 1, h, hk => by
    by_cases hjk : j = k + 1
    · subst hjk; rfl
    · obtain ⟨x, hx⟩ := getI n (show k < n.length by omega)
      rw [← vto_pre n ins (show j ≤ k by omega) (by omega), vto_succ ins hx]
      have hl := (vto_len n ins k (by omega)).1
      unfold vstep
      split <;> (simp only [List.getD]; rw [List.getElem?_append_left (by omega)])
theorem vto_val (n : List (Int × Int)) (ins : List Bool) {j k : Nat} (h : j ≤ k) (hk : k ≤ n.length) : (vto n ins k).1.getD j false = (values n ins).getD j false := by
  rw [vto_pre n ins h hk, values, vto_pre n ins (show j ≤ n.length by omega) (Nat.le_refl _)]
theorem vto_of (n : List (Int × Int)) (ins : List Bool) {l : Int} {k : Nat} (h : (l / 2).toNat ≤ k) (hk : k ≤ n.length) : ofL (vto n ins k).1 l = ofL (values n ins) l := by
  unfold ofL; rw [vto_val n ins h hk]
theorem values_zero (n : List (Int × Int)) (ins : List Bool) : (values n ins).getD 0 false = false := by
  rw [← vto_val n ins (Nat.le_refl 0) (Nat.zero_le _)]; rfl
theorem values_gate {n : List (Int × Int)} (hg : GoodNet n) {k : Nat} {x : Int × Int} (ins : List Bool) (h : n[k]? = some x) (hx : 0 ≤ x.1) : (values n ins).getD (k + 1) false = (ofL (values n ins) x.1 && ofL (values n ins) x.2) := by
  have hk := lt_of_get h
  have hl := (vto_len n ins k (by omega)).1
  have hgt := hg.gate h hx
  rw [← vto_val n ins (Nat.le_refl (k + 1)) (by omega), vto_succ ins h, vstep, if_neg (by omega), vto_of n ins (by omega) (by omega), vto_of n ins (by omega) (by omega)]
  simp only [List.getD]
  rw [List.getElem?_append_right (by omega), hl]; simp

end Go.Proofs.Ytmaekaflpbenmaa
namespace Go.Proofs.Ytmaekaflpbenmaa
open Go Go.Lt Go.RowKit
set_option linter.unusedVariables false
set_option linter.unusedSimpArgs false

def told3 (a : Int) : Prop := a = 0 ∨ a = 1
def not3 (a : Int) : Int := if a = 0 then 1 else if a = 1 then 0 else 2
def val3 (a : Int) : Int := if a = 0 ∨ a = 1 then a else 2
theorem tri_told (a : Int) (w : World) : Still Try.prog 133 [.int .i64 a] w (.bool (dec (told3 a))) := by
  refine Spec.of _ Try.func133 rfl Try.ntmps133 (by kernel_rfl) rfl ?_
  repeat' (first
    | (show WL _ _ _ _ _ _ _; first | apply WL.nil | (apply WL.pev tOk; exact rfl; exact rfl; exact rfl) | (apply WL.load tOk; exact rfl; exact rfl; exact rfl; exact rfl; exact rfl; (first | assumption | (focus (apply Ext.cell; rotate_left; assumption; (exact extA); done)))) | (apply WL.index tOk; exact rfl; exact rfl; exact rfl; exact rfl; exact rfl; exact rfl; exact rfl; exact rfl; assumption; (exact extA); exact rfl; omega; assumption; intro b off h; have hcc := h; first | (obtain ⟨h1, h2, h3, h4, h5, h6, _⟩ := h) | (obtain ⟨h1, h2, h3, _⟩ := h) | (obtain ⟨h1, h2, _⟩ := h) | (obtain ⟨h1, _⟩ := h)) | (apply WL.add; exact rfl; exact rfl; exact rfl; exact rfl; omega) | (apply WL.sub; exact rfl; exact rfl; exact rfl; exact rfl; omega) | (apply WL.mul; exact rfl; exact rfl; exact rfl; exact rfl; omega) | (apply WL.quo; exact rfl; exact rfl; exact rfl; exact rfl; omega) | (apply WL.rem; exact rfl; exact rfl; exact rfl; exact rfl; omega) | (apply WL.loadA tOk; exact rfl; exact rfl; exact rfl; exact rfl; exact rfl; (first | assumption | (focus (apply Cells.ext; rotate_left; assumption; (exact extA); done))); exact rfl) | (apply WL.guardF; exact rfl; exact rfl) | (apply WL.gD; exact rfl; exact rfl; all_goals intro _) | (apply WL.gN; exact rfl; exact rfl; all_goals intro _) | (apply WL.gB; exact rfl; exact rfl; all_goals intro _))
    | (show Z _ _ _ _ _; first | apply Z.tail | apply Z.then_normal | apply Z.block_normal | apply Z.then_exit | apply Z.block_exit | apply Z.then_ret | apply Z.block_ret | (apply Z.block_other; exact rfl))
    | (show W _ _ _ _ _ _; first | apply W.seq | apply W.region | apply W.block | apply W.skip | apply W.ret | apply W.exit | (apply W.condT; exact rfl) | (apply W.condF; exact rfl) | (apply W.condD; exact rfl; all_goals intro _) | (apply W.condN; exact rfl; all_goals intro _) | (apply W.condB; exact rfl; all_goals intro _)))
  all_goals (refine Z.body1 Try.results133 rfl fun m => ⟨?_, m, rfl⟩; (first | exact congrArg Value.bool (dec_true (by grind [told3])).symm | exact congrArg Value.bool (dec_false (by grind [told3])).symm | exact congrArg Value.bool (dec_true (by grind [told3])) | exact congrArg Value.bool (dec_false (by grind [told3])) | exact congrArg Value.bool (dec_congr (by grind [told3]))))
theorem tri_Not (a : Int) (w : World) : Still Try.prog 135 [.int .i64 a] w (.int .i64 (not3 a)) := by
  refine Spec.of _ Try.func135 rfl Try.ntmps135 (by kernel_rfl) rfl ?_
  repeat' (first
    | ((show WL _ _ _ (⟨_, .call ⟨.value (.func 133), _, _⟩, _, _, _, _⟩ :: _) _ _ _); apply WL.callS; exact rfl; exact rfl; exact rfl; exact rfl; exact tri_told _ _)
    | (apply WL.sub; exact rfl; exact rfl; exact rfl; exact rfl; (simp only [told3] at *; omega))
    | (show WL _ _ _ _ _ _ _; first | apply WL.nil | (apply WL.pev tOk; exact rfl; exact rfl; exact rfl) | (apply WL.load tOk; exact rfl; exact rfl; exact rfl; exact rfl; exact rfl; (first | assumption | (focus (apply Ext.cell; rotate_left; assumption; (exact extA); done)))) | (apply WL.index tOk; exact rfl; exact rfl; exact rfl; exact rfl; exact rfl; exact rfl; exact rfl; exact rfl; assumption; (exact extA); exact rfl; omega; assumption; intro b off h; have hcc := h; first | (obtain ⟨h1, h2, h3, h4, h5, h6, _⟩ := h) | (obtain ⟨h1, h2, h3, _⟩ := h) | (obtain ⟨h1, h2, _⟩ := h) | (obtain ⟨h1, _⟩ := h)) | (apply WL.add; exact rfl; exact rfl; exact rfl; exact rfl; omega) | (apply WL.sub; exact rfl; exact rfl; exact rfl; exact rfl; omega) | (apply WL.mul; exact rfl; exact rfl; exact rfl; exact rfl; omega) | (apply WL.quo; exact rfl; exact rfl; exact rfl; exact rfl; omega) | (apply WL.rem; exact rfl; exact rfl; exact rfl; exact rfl; omega) | (apply WL.loadA tOk; exact rfl; exact rfl; exact rfl; exact rfl; exact rfl; (first | assumption | (focus (apply Cells.ext; rotate_left; assumption; (exact extA); done))); exact rfl) | (apply WL.guardF; exact rfl; exact rfl) | (apply WL.gD; exact rfl; exact rfl; all_goals intro _) | (apply WL.gN; exact rfl; exact rfl; all_goals intro _) | (apply WL.gB; exact rfl; exact rfl; all_goals intro _))
    | (show Z _ _ _ _ _; first | apply Z.tail | apply Z.then_normal | apply Z.block_normal | apply Z.then_exit | apply Z.block_exit | apply Z.then_ret | apply Z.block_ret | (apply Z.block_other; exact rfl))
    | (show W _ _ _ _ _ _; first | apply W.seq | apply W.region | apply W.block | apply W.skip | apply W.ret | apply W.exit | (apply W.condT; exact rfl) | (apply W.condF; exact rfl) | (apply W.condD; exact rfl; all_goals intro _) | (apply W.condN; exact rfl; all_goals intro _) | (apply W.condB; exact rfl; all_goals intro _)))
  all_goals (refine Z.body1 Try.results135 rfl fun m => ⟨?_, m, rfl⟩; congr 1; grind [not3, told3])
theorem ref_Not (a : Int) (w : World) : Still Try.prog 128 [.int .i64 a] w (.int .i64 (not3 a)) := by
  refine Spec.of _ Try.func128 rfl Try.ntmps128 (by kernel_rfl) rfl ?_
  repeat' (first
    | (show WL _ _ _ _ _ _ _; first | apply WL.nil | (apply WL.pev tOk; exact rfl; exact rfl; exact rfl) | (apply WL.load tOk; exact rfl; exact rfl; exact rfl; exact rfl; exact rfl; (first | assumption | (focus (apply Ext.cell; rotate_left; assumption; (exact extA); done)))) | (apply WL.index tOk; exact rfl; exact rfl; exact rfl; exact rfl; exact rfl; exact rfl; exact rfl; exact rfl; assumption; (exact extA); exact rfl; omega; assumption; intro b off h; have hcc := h; first | (obtain ⟨h1, h2, h3, h4, h5, h6, _⟩ := h) | (obtain ⟨h1, h2, h3, _⟩ := h) | (obtain ⟨h1, h2, _⟩ := h) | (obtain ⟨h1, _⟩ := h)) | (apply WL.add; exact rfl; exact rfl; exact rfl; exact rfl; omega) | (apply WL.sub; exact rfl; exact rfl; exact rfl; exact rfl; omega) | (apply WL.mul; exact rfl; exact rfl; exact rfl; exact rfl; omega) | (apply WL.quo; exact rfl; exact rfl; exact rfl; exact rfl; omega) | (apply WL.rem; exact rfl; exact rfl; exact rfl; exact rfl; omega) | (apply WL.loadA tOk; exact rfl; exact rfl; exact rfl; exact rfl; exact rfl; (first | assumption | (focus (apply Cells.ext; rotate_left; assumption; (exact extA); done))); exact rfl) | (apply WL.guardF; exact rfl; exact rfl) | (apply WL.gD; exact rfl; exact rfl; all_goals intro _) | (apply WL.gN; exact rfl; exact rfl; all_goals intro _) | (apply WL.gB; exact rfl; exact rfl; all_goals intro _))
    | (show Z _ _ _ _ _; first | apply Z.tail | apply Z.then_normal | apply Z.block_normal | apply Z.then_exit | apply Z.block_exit | apply Z.then_ret | apply Z.block_ret | (apply Z.block_other; exact rfl))
    | (show W _ _ _ _ _ _; first | apply W.seq | apply W.region | apply W.block | apply W.skip | apply W.ret | apply W.exit | (apply W.condT; exact rfl) | (apply W.condF; exact rfl) | (apply W.condD; exact rfl; all_goals intro _) | (apply W.condN; exact rfl; all_goals intro _) | (apply W.condB; exact rfl; all_goals intro _)))
  all_goals (refine Z.body1 Try.results128 rfl fun m => ⟨?_, m, rfl⟩; congr 1; grind [not3])
theorem ref_value (a : Int) (w : World) : Still Try.prog 127 [.int .i64 a] w (.int .i64 (val3 a)) := by
  refine Spec.of _ Try.func127 rfl Try.ntmps127 (by kernel_rfl) rfl ?_
  repeat' (first
    | (show WL _ _ _ _ _ _ _; first | apply WL.nil | (apply WL.pev tOk; exact rfl; exact rfl; exact rfl) | (apply WL.load tOk; exact rfl; exact rfl; exact rfl; exact rfl; exact rfl; (first | assumption | (focus (apply Ext.cell; rotate_left; assumption; (exact extA); done)))) | (apply WL.index tOk; exact rfl; exact rfl; exact rfl; exact rfl; exact rfl; exact rfl; exact rfl; exact rfl; assumption; (exact extA); exact rfl; omega; assumption; intro b off h; have hcc := h; first | (obtain ⟨h1, h2, h3, h4, h5, h6, _⟩ := h) | (obtain ⟨h1, h2, h3, _⟩ := h) | (obtain ⟨h1, h2, _⟩ := h) | (obtain ⟨h1, _⟩ := h)) | (apply WL.add; exact rfl; exact rfl; exact rfl; exact rfl; omega) | (apply WL.sub; exact rfl; exact rfl; exact rfl; exact rfl; omega) | (apply WL.mul; exact rfl; exact rfl; exact rfl; exact rfl; omega) | (apply WL.quo; exact rfl; exact rfl; exact rfl; exact rfl; omega) | (apply WL.rem; exact rfl; exact rfl; exact rfl; exact rfl; omega) | (apply WL.loadA tOk; exact rfl; exact rfl; exact rfl; exact rfl; exact rfl; (first | assumption | (focus (apply Cells.ext; rotate_left; assumption; (exact extA); done))); exact rfl) | (apply WL.guardF; exact rfl; exact rfl) | (apply WL.gD; exact rfl; exact rfl; all_goals intro _) | (apply WL.gN; exact rfl; exact rfl; all_goals intro _) | (apply WL.gB; exact rfl; exact rfl; all_goals intro _))
    | (show Z _ _ _ _ _; first | apply Z.tail | apply Z.then_normal | apply Z.block_normal | apply Z.then_exit | apply Z.block_exit | apply Z.then_ret | apply Z.block_ret | (apply Z.block_other; exact rfl))
    | (show W _ _ _ _ _ _; first | apply W.seq | apply W.region | apply W.block | apply W.skip | apply W.ret | apply W.exit | (apply W.condT; exact rfl) | (apply W.condF; exact rfl) | (apply W.condD; exact rfl; all_goals intro _) | (apply W.condN; exact rfl; all_goals intro _) | (apply W.condB; exact rfl; all_goals intro _)))
  all_goals (refine Z.body1 Try.results127 rfl fun m => ⟨?_, m, rfl⟩; congr 1; grind [val3])
end Go.Proofs.Ytmaekaflpbenmaa
namespace Go.Proofs.Ytmaekaflpbenmaa
open Go Go.Lt Go.RowKit
set_option linter.unusedVariables false
set_option linter.unusedSimpArgs false

abbrev goodL (a : Int) : Prop := 0 ≤ a ∧ a ≤ 33554433
open Classical in
noncomputable def varL (a : Int) : Int := if goodL a then a / 2 else -1
abbrev negL (a : Int) : Prop := goodL a ∧ a % 2 = 1
open Classical in
noncomputable def lit3v (l : List Int) (x : Int) : Int := if varL x = 0 then 0 else if 0 < varL x ∧ varL x < l.length then val3 (l.getD (varL x).toNat 0) else 2
open Classical in
noncomputable def lit3 (l : List Int) (x : Int) : Int := if negL x then not3 (lit3v l x) else lit3v l x

theorem lit_Good (a : Int) (w : World) : Still Try.prog 123 [.int .i64 a] w (.bool (dec (goodL a))) := by
  refine Spec.of _ Try.func123 rfl Try.ntmps123 (by kernel_rfl) rfl ?_
  repeat' (first
    | (show WL _ _ _ _ _ _ _; first | apply WL.nil | (apply WL.pev tOk; exact rfl; exact rfl; exact rfl) | (apply WL.load tOk; exact rfl; exact rfl; exact rfl; exact rfl; exact rfl; (first | assumption | (focus (apply Ext.cell; rotate_left; assumption; (exact extA); done)))) | (apply WL.index tOk; exact rfl; exact rfl; exact rfl; exact rfl; exact rfl; exact rfl; exact rfl; exact rfl; assumption; (exact extA); exact rfl; omega; assumption; intro b off h; have hcc := h; first | (obtain ⟨h1, h2, h3, h4, h5, h6, _⟩ := h) | (obtain ⟨h1, h2, h3, _⟩ := h) | (obtain ⟨h1, h2, _⟩ := h) | (obtain ⟨h1, _⟩ := h)) | (apply WL.add; exact rfl; exact rfl; exact rfl; exact rfl; omega) | (apply WL.sub; exact rfl; exact rfl; exact rfl; exact rfl; omega) | (apply WL.mul; exact rfl; exact rfl; exact rfl; exact rfl; omega) | (apply WL.quo; exact rfl; exact rfl; exact rfl; exact rfl; omega) | (apply WL.rem; exact rfl; exact rfl; exact rfl; exact rfl; omega) | (apply WL.loadA tOk; exact rfl; exact rfl; exact rfl; exact rfl; exact rfl; (first | assumption | (focus (apply Cells.ext; rotate_left; assumption; (exact extA); done))); exact rfl) | (apply WL.guardF; exact rfl; exact rfl) | (apply WL.gD; exact rfl; exact rfl; all_goals intro _) | (apply WL.gN; exact rfl; exact rfl; all_goals intro _) | (apply WL.gB; exact rfl; exact rfl; all_goals intro _))
    | (show Z _ _ _ _ _; first | apply Z.tail | apply Z.then_normal | apply Z.block_normal | apply Z.then_exit | apply Z.block_exit | apply Z.then_ret | apply Z.block_ret | (apply Z.block_other; exact rfl))
    | (show W _ _ _ _ _ _; first | apply W.seq | apply W.region | apply W.block | apply W.skip | apply W.ret | apply W.exit | (apply W.condT; exact rfl) | (apply W.condF; exact rfl) | (apply W.condD; exact rfl; all_goals intro _) | (apply W.condN; exact rfl; all_goals intro _) | (apply W.condB; exact rfl; all_goals intro _)))
  all_goals (refine Z.body1 Try.results123 rfl fun m => ⟨?_, m, rfl⟩; (first | exact congrArg Value.bool (dec_true (by omega)).symm | exact congrArg Value.bool (dec_false (by omega)).symm | exact congrArg Value.bool (dec_true (by omega)) | exact congrArg Value.bool (dec_false (by omega)) | exact congrArg Value.bool (dec_congr (by omega))))
theorem ref_Good (a : Int) (w : World) : Still Try.prog 126 [.int .i64 a] w (.bool (dec (goodL a))) := by
  refine Spec.of _ Try.func126 rfl Try.ntmps126 (by kernel_rfl) rfl ?_
  repeat' (first
    | (show WL _ _ _ _ _ _ _; first | apply WL.nil | (apply WL.pev tOk; exact rfl; exact rfl; exact rfl) | (apply WL.load tOk; exact rfl; exact rfl; exact rfl; exact rfl; exact rfl; (first | assumption | (focus (apply Ext.cell; rotate_left; assumption; (exact extA); done)))) | (apply WL.index tOk; exact rfl; exact rfl; exact rfl; exact rfl; exact rfl; exact rfl; exact rfl; exact rfl; assumption; (exact extA); exact rfl; omega; assumption; intro b off h; have hcc := h; first | (obtain ⟨h1, h2, h3, h4, h5, h6, _⟩ := h) | (obtain ⟨h1, h2, h3, _⟩ := h) | (obtain ⟨h1, h2, _⟩ := h) | (obtain ⟨h1, _⟩ := h)) | (apply WL.add; exact rfl; exact rfl; exact rfl; exact rfl; omega) | (apply WL.sub; exact rfl; exact rfl; exact rfl; exact rfl; omega) | (apply WL.mul; exact rfl; exact rfl; exact rfl; exact rfl; omega) | (apply WL.quo; exact rfl; exact rfl; exact rfl; exact rfl; omega) | (apply WL.rem; exact rfl; exact rfl; exact rfl; exact rfl; omega) | (apply WL.loadA tOk; exact rfl; exact rfl; exact rfl; exact rfl; exact rfl; (first | assumption | (focus (apply Cells.ext; rotate_left; assumption; (exact extA); done))); exact rfl) | (apply WL.guardF; exact rfl; exact rfl) | (apply WL.gD; exact rfl; exact rfl; all_goals intro _) | (apply WL.gN; exact rfl; exact rfl; all_goals intro _) | (apply WL.gB; exact rfl; exact rfl; all_goals intro _))
    | (show Z _ _ _ _ _; first | apply Z.tail | apply Z.then_normal | apply Z.block_normal | apply Z.then_exit | apply Z.block_exit | apply Z.then_ret | apply Z.block_ret | (apply Z.block_other; exact rfl))
    | (show W _ _ _ _ _ _; first | apply W.seq | apply W.region | apply W.block | apply W.skip | apply W.ret | apply W.exit | (apply W.condT; exact rfl) | (apply W.condF; exact rfl) | (apply W.condD; exact rfl; all_goals intro _) | (apply W.condN; exact rfl; all_goals intro _) | (apply W.condB; exact rfl; all_goals intro _)))
  all_goals (refine Z.body1 Try.results126 rfl fun m => ⟨?_, m, rfl⟩; (first | exact congrArg Value.bool (dec_true (by omega)).symm | exact congrArg Value.bool (dec_false (by omega)).symm | exact congrArg Value.bool (dec_true (by omega)) | exact congrArg Value.bool (dec_false (by omega)) | exact congrArg Value.bool (dec_congr (by omega))))
theorem lit_Var1 (a : Int) (w : World) : Still Try.prog 142 [.int .i64 a] w (.int .i64 (a / 2)) := by
  refine Spec.of _ Try.func142 rfl Try.ntmps142 (by kernel_rfl) rfl ?_
  repeat' (first
    | (apply WL.shr (n := 1); exact rfl; exact rfl; exact rfl; exact rfl; decide)
    | (show WL _ _ _ _ _ _ _; first | apply WL.nil | (apply WL.pev tOk; exact rfl; exact rfl; exact rfl) | (apply WL.load tOk; exact rfl; exact rfl; exact rfl; exact rfl; exact rfl; (first | assumption | (focus (apply Ext.cell; rotate_left; assumption; (exact extA); done)))) | (apply WL.index tOk; exact rfl; exact rfl; exact rfl; exact rfl; exact rfl; exact rfl; exact rfl; exact rfl; assumption; (exact extA); exact rfl; omega; assumption; intro b off h; have hcc := h; first | (obtain ⟨h1, h2, h3, h4, h5, h6, _⟩ := h) | (obtain ⟨h1, h2, h3, _⟩ := h) | (obtain ⟨h1, h2, _⟩ := h) | (obtain ⟨h1, _⟩ := h)) | (apply WL.add; exact rfl; exact rfl; exact rfl; exact rfl; omega) | (apply WL.sub; exact rfl; exact rfl; exact rfl; exact rfl; omega) | (apply WL.mul; exact rfl; exact rfl; exact rfl; exact rfl; omega) | (apply WL.quo; exact rfl; exact rfl; exact rfl; exact rfl; omega) | (apply WL.rem; exact rfl; exact rfl; exact rfl; exact rfl; omega) | (apply WL.loadA tOk; exact rfl; exact rfl; exact rfl; exact rfl; exact rfl; (first | assumption | (focus (apply Cells.ext; rotate_left; assumption; (exact extA); done))); exact rfl) | (apply WL.guardF; exact rfl; exact rfl) | (apply WL.gD; exact rfl; exact rfl; all_goals intro _) | (apply WL.gN; exact rfl; exact rfl; all_goals intro _) | (apply WL.gB; exact rfl; exact rfl; all_goals intro _))
    | (show Z _ _ _ _ _; first | apply Z.tail | apply Z.then_normal | apply Z.block_normal | apply Z.then_exit | apply Z.block_exit | apply Z.then_ret | apply Z.block_ret | (apply Z.block_other; exact rfl))
    | (show W _ _ _ _ _ _; first | apply W.seq | apply W.region | apply W.block | apply W.skip | apply W.ret | apply W.exit | (apply W.condT; exact rfl) | (apply W.condF; exact rfl) | (apply W.condD; exact rfl; all_goals intro _) | (apply W.condN; exact rfl; all_goals intro _) | (apply W.condB; exact rfl; all_goals intro _)))
  all_goals (refine Z.body1 Try.results142 rfl fun m => ⟨?_, m, rfl⟩; congr 1)
theorem lit_good_var (a : Int) (w : World) : Still Try.prog 141 [.int .i64 a, .func (.func 142) #[] #[]] w (.int .i64 (varL a)) := by
  refine Spec.of _ Try.func141 rfl Try.ntmps141 (by kernel_rfl) rfl ?_
  repeat' (first
    | ((show WL _ _ _ (⟨_, .call ⟨.value (.func 123), _, _⟩, _, _, _, _⟩ :: _) _ _ _); apply WL.callS; exact rfl; exact rfl; exact rfl; exact rfl; exact lit_Good _ _)
    | ((show WL _ _ _ (⟨_, .call ⟨.value (.tmp _), _, _⟩, _, _, _, _⟩ :: _) _ _ _); apply WL.callS; exact rfl; exact rfl; exact rfl; exact rfl; exact lit_Var1 _ _)
    | (show WL _ _ _ _ _ _ _; first | apply WL.nil | (apply WL.pev tOk; exact rfl; exact rfl; exact rfl) | (apply WL.load tOk; exact rfl; exact rfl; exact rfl; exact rfl; exact rfl; (first | assumption | (focus (apply Ext.cell; rotate_left; assumption; (exact extA); done)))) | (apply WL.index tOk; exact rfl; exact rfl; exact rfl; exact rfl; exact rfl; exact rfl; exact rfl; exact rfl; assumption; (exact extA); exact rfl; omega; assumption; intro b off h; have hcc := h; first | (obtain ⟨h1, h2, h3, h4, h5, h6, _⟩ := h) | (obtain ⟨h1, h2, h3, _⟩ := h) | (obtain ⟨h1, h2, _⟩ := h) | (obtain ⟨h1, _⟩ := h)) | (apply WL.add; exact rfl; exact rfl; exact rfl; exact rfl; omega) | (apply WL.sub; exact rfl; exact rfl; exact rfl; exact rfl; omega) | (apply WL.mul; exact rfl; exact rfl; exact rfl; exact rfl; omega) | (apply WL.quo; exact rfl; exact rfl; exact rfl; exact rfl; omega) | (apply WL.rem; exact rfl; exact rfl; exact rfl; exact rfl; omega) | (apply WL.loadA tOk; exact rfl; exact rfl; exact rfl; exact rfl; exact rfl; (first | assumption | (focus (apply Cells.ext; rotate_left; assumption; (exact extA); done))); exact rfl) | (apply WL.guardF; exact rfl; exact rfl) | (apply WL.gD; exact rfl; exact rfl; all_goals intro _) | (apply WL.gN; exact rfl; exact rfl; all_goals intro _) | (apply WL.gB; exact rfl; exact rfl; all_goals intro _))
    | (show Z _ _ _ _ _; first | apply Z.tail | apply Z.then_normal | apply Z.block_normal | apply Z.then_exit | apply Z.block_exit | apply Z.then_ret | apply Z.block_ret | (apply Z.block_other; exact rfl))
    | (show W _ _ _ _ _ _; first | apply W.seq | apply W.region | apply W.block | apply W.skip | apply W.ret | apply W.exit | (apply W.condT; exact rfl) | (apply W.condF; exact rfl) | (apply W.condD; exact rfl; all_goals intro _) | (apply W.condN; exact rfl; all_goals intro _) | (apply W.condB; exact rfl; all_goals intro _)))
  all_goals (refine Z.body1 Try.results141 rfl fun m => ⟨?_, m, rfl⟩; congr 1; unfold varL; first | rw [if_pos (by assumption)] | rw [if_neg (by assumption)])
theorem lit_Var (a : Int) (w : World) : Still Try.prog 132 [.int .i64 a] w (.int .i64 (varL a)) := by
  refine Spec.of _ Try.func132 rfl Try.ntmps132 (by kernel_rfl) rfl ?_
  repeat' (first
    | ((show WL _ _ _ (⟨_, .call ⟨.value (.func 141), _, _⟩, _, _, _, _⟩ :: _) _ _ _); apply WL.callS; exact rfl; exact rfl; exact rfl; exact rfl; exact lit_good_var _ _)
    | (show WL _ _ _ _ _ _ _; first | apply WL.nil | (apply WL.pev tOk; exact rfl; exact rfl; exact rfl) | (apply WL.load tOk; exact rfl; exact rfl; exact rfl; exact rfl; exact rfl; (first | assumption | (focus (apply Ext.cell; rotate_left; assumption; (exact extA); done)))) | (apply WL.index tOk; exact rfl; exact rfl; exact rfl; exact rfl; exact rfl; exact rfl; exact rfl; exact rfl; assumption; (exact extA); exact rfl; omega; assumption; intro b off h; have hcc := h; first | (obtain ⟨h1, h2, h3, h4, h5, h6, _⟩ := h) | (obtain ⟨h1, h2, h3, _⟩ := h) | (obtain ⟨h1, h2, _⟩ := h) | (obtain ⟨h1, _⟩ := h)) | (apply WL.add; exact rfl; exact rfl; exact rfl; exact rfl; omega) | (apply WL.sub; exact rfl; exact rfl; exact rfl; exact rfl; omega) | (apply WL.mul; exact rfl; exact rfl; exact rfl; exact rfl; omega) | (apply WL.quo; exact rfl; exact rfl; exact rfl; exact rfl; omega) | (apply WL.rem; exact rfl; exact rfl; exact rfl; exact rfl; omega) | (apply WL.loadA tOk; exact rfl; exact rfl; exact rfl; exact rfl; exact rfl; (first | assumption | (focus (apply Cells.ext; rotate_left; assumption; (exact extA); done))); exact rfl) | (apply WL.guardF; exact rfl; exact rfl) | (apply WL.gD; exact rfl; exact rfl; all_goals intro _) | (apply WL.gN; exact rfl; exact rfl; all_goals intro _) | (apply WL.gB; exact rfl; exact rfl; all_goals intro _))
    | (show Z _ _ _ _ _; first | apply Z.tail | apply Z.then_normal | apply Z.block_normal | apply Z.then_exit | apply Z.block_exit | apply Z.then_ret | apply Z.block_ret | (apply Z.block_other; exact rfl))
    | (show W _ _ _ _ _ _; first | apply W.seq | apply W.region | apply W.block | apply W.skip | apply W.ret | apply W.exit | (apply W.condT; exact rfl) | (apply W.condF; exact rfl) | (apply W.condD; exact rfl; all_goals intro _) | (apply W.condN; exact rfl; all_goals intro _) | (apply W.condB; exact rfl; all_goals intro _)))
  all_goals (refine Z.body1 Try.results132 rfl fun m => ⟨rfl, m, rfl⟩)
theorem lit_Neg (a : Int) (w : World) : Still Try.prog 134 [.int .i64 a] w (.bool (dec (negL a))) := by
  refine Spec.of _ Try.func134 rfl Try.ntmps134 (by kernel_rfl) rfl ?_
  repeat' (first
    | ((show WL _ _ _ (⟨_, .call ⟨.value (.func 123), _, _⟩, _, _, _, _⟩ :: _) _ _ _); apply WL.callS; exact rfl; exact rfl; exact rfl; exact rfl; exact lit_Good _ _)
    | (apply WL.and1; exact rfl; exact rfl; exact rfl; exact rfl; omega)
    | (show WL _ _ _ _ _ _ _; first | apply WL.nil | (apply WL.pev tOk; exact rfl; exact rfl; exact rfl) | (apply WL.load tOk; exact rfl; exact rfl; exact rfl; exact rfl; exact rfl; (first | assumption | (focus (apply Ext.cell; rotate_left; assumption; (exact extA); done)))) | (apply WL.index tOk; exact rfl; exact rfl; exact rfl; exact rfl; exact rfl; exact rfl; exact rfl; exact rfl; assumption; (exact extA); exact rfl; omega; assumption; intro b off h; have hcc := h; first | (obtain ⟨h1, h2, h3, h4, h5, h6, _⟩ := h) | (obtain ⟨h1, h2, h3, _⟩ := h) | (obtain ⟨h1, h2, _⟩ := h) | (obtain ⟨h1, _⟩ := h)) | (apply WL.add; exact rfl; exact rfl; exact rfl; exact rfl; omega) | (apply WL.sub; exact rfl; exact rfl; exact rfl; exact rfl; omega) | (apply WL.mul; exact rfl; exact rfl; exact rfl; exact rfl; omega) | (apply WL.quo; exact rfl; exact rfl; exact rfl; exact rfl; omega) | (apply WL.rem; exact rfl; exact rfl; exact rfl; exact rfl; omega) | (apply WL.loadA tOk; exact rfl; exact rfl; exact rfl; exact rfl; exact rfl; (first | assumption | (focus (apply Cells.ext; rotate_left; assumption; (exact extA); done))); exact rfl) | (apply WL.guardF; exact rfl; exact rfl) | (apply WL.gD; exact rfl; exact rfl; all_goals intro _) | (apply WL.gN; exact rfl; exact rfl; all_goals intro _) | (apply WL.gB; exact rfl; exact rfl; all_goals intro _))
    | (show Z _ _ _ _ _; first | apply Z.tail | apply Z.then_normal | apply Z.block_normal | apply Z.then_exit | apply Z.block_exit | apply Z.then_ret | apply Z.block_ret | (apply Z.block_other; exact rfl))
    | (show W _ _ _ _ _ _; first | apply W.seq | apply W.region | apply W.block | apply W.skip | apply W.ret | apply W.exit | (apply W.condT; exact rfl) | (apply W.condF; exact rfl) | (apply W.condD; exact rfl; all_goals intro _) | (apply W.condN; exact rfl; all_goals intro _) | (apply W.condB; exact rfl; all_goals intro _)))
  all_goals (refine Z.body1 Try.results134 rfl fun m => ⟨?_, m, rfl⟩; (first | exact congrArg Value.bool (dec_true (by omega)).symm | exact congrArg Value.bool (dec_false (by omega)).symm | exact congrArg Value.bool (dec_true (by omega)) | exact congrArg Value.bool (dec_false (by omega)) | exact congrArg Value.bool (dec_congr (by omega))))
theorem tri_Lit (a : Option Addr) (cap : Nat) (l : List Int) (x : Int) (w : World) (R : Row 1 encI w a l) : Still Try.prog 107 [.slice a l.length cap, .int .i64 x] w (.int .i64 (lit3 l x)) := by
  by_cases h : 0 < varL x ∧ varL x < l.length
  · obtain ⟨z, hz⟩ : ∃ z, l[(varL x).toNat]? = some z := ⟨l[(varL x).toNat]'(by omega), by simp [show (varL x).toNat < l.length by omega]⟩
    have hd : l.getD (varL x).toNat 0 = z := by simp [List.getD, hz]
    refine Spec.of _ Try.func107 rfl Try.ntmps107 (by kernel_rfl) rfl ?_
    repeat' (first
      | ((show WL _ _ _ (⟨_, .call ⟨.value (.func 132), _, _⟩, _, _, _, _⟩ :: _) _ _ _); apply WL.callS; exact rfl; exact rfl; exact rfl; exact rfl; exact lit_Var _ _)
      | ((show WL _ _ _ (⟨_, .call ⟨.value (.func 134), _, _⟩, _, _, _, _⟩ :: _) _ _ _); apply WL.callS; exact rfl; exact rfl; exact rfl; exact rfl; exact lit_Neg _ _)
      | ((show WL _ _ _ (⟨_, .call ⟨.value (.func 133), _, _⟩, _, _, _, _⟩ :: _) _ _ _); apply WL.callS; exact rfl; exact rfl; exact rfl; exact rfl; exact tri_told _ _)
      | ((show WL _ _ _ (⟨_, .call ⟨.value (.func 135), _, _⟩, _, _, _, _⟩ :: _) _ _ _); apply WL.callS; exact rfl; exact rfl; exact rfl; exact rfl; exact tri_Not _ _)
      | (show WL _ _ _ _ _ _ _; first | apply WL.nil | (apply WL.pev tOk; exact rfl; exact rfl; exact rfl) | (apply WL.load tOk; exact rfl; exact rfl; exact rfl; exact rfl; exact rfl; (first | assumption | (focus (apply Ext.cell; rotate_left; assumption; (exact extA); done)))) | (apply WL.index tOk; exact rfl; exact rfl; exact rfl; exact rfl; exact rfl; exact rfl; exact rfl; exact rfl; assumption; (exact extA); exact rfl; omega; assumption; intro b off h; have hcc := h; first | (obtain ⟨h1, h2, h3, h4, h5, h6, _⟩ := h) | (obtain ⟨h1, h2, h3, _⟩ := h) | (obtain ⟨h1, h2, _⟩ := h) | (obtain ⟨h1, _⟩ := h)) | (apply WL.add; exact rfl; exact rfl; exact rfl; exact rfl; omega) | (apply WL.sub; exact rfl; exact rfl; exact rfl; exact rfl; omega) | (apply WL.mul; exact rfl; exact rfl; exact rfl; exact rfl; omega) | (apply WL.quo; exact rfl; exact rfl; exact rfl; exact rfl; omega) | (apply WL.rem; exact rfl; exact rfl; exact rfl; exact rfl; omega) | (apply WL.loadA tOk; exact rfl; exact rfl; exact rfl; exact rfl; exact rfl; (first | assumption | (focus (apply Cells.ext; rotate_left; assumption; (exact extA); done))); exact rfl) | (apply WL.guardF; exact rfl; exact rfl) | (apply WL.gD; exact rfl; exact rfl; all_goals intro _) | (apply WL.gN; exact rfl; exact rfl; all_goals intro _) | (apply WL.gB; exact rfl; exact rfl; all_goals intro _))
      | (show Z _ _ _ _ _; first | apply Z.tail | apply Z.then_normal | apply Z.block_normal | apply Z.then_exit | apply Z.block_exit | apply Z.then_ret | apply Z.block_ret | (apply Z.block_other; exact rfl))
      | (show W _ _ _ _ _ _; first | apply W.seq | apply W.region | apply W.block | apply W.skip | apply W.ret | apply W.exit | (apply W.condT; exact rfl) | (apply W.condF; exact rfl) | (apply W.condD; exact rfl; all_goals intro _) | (apply W.condN; exact rfl; all_goals intro _) | (apply W.condB; exact rfl; all_goals intro _)))
    all_goals (refine Z.body1 Try.results107 rfl fun m => ⟨?_, m, rfl⟩; congr 1; grind [lit3, lit3v, val3, told3, not3])
  · refine Spec.of _ Try.func107 rfl Try.ntmps107 (by kernel_rfl) rfl ?_
    repeat' (first
      | ((show WL _ _ _ (⟨_, .call ⟨.value (.func 132), _, _⟩, _, _, _, _⟩ :: _) _ _ _); apply WL.callS; exact rfl; exact rfl; exact rfl; exact rfl; exact lit_Var _ _)
      | ((show WL _ _ _ (⟨_, .call ⟨.value (.func 134), _, _⟩, _, _, _, _⟩ :: _) _ _ _); apply WL.callS; exact rfl; exact rfl; exact rfl; exact rfl; exact lit_Neg _ _)
      | ((show WL _ _ _ (⟨_, .call ⟨.value (.func 133), _, _⟩, _, _, _, _⟩ :: _) _ _ _); apply WL.callS; exact rfl; exact rfl; exact rfl; exact rfl; exact tri_told _ _)
      | ((show WL _ _ _ (⟨_, .call ⟨.value (.func 135), _, _⟩, _, _, _, _⟩ :: _) _ _ _); apply WL.callS; exact rfl; exact rfl; exact rfl; exact rfl; exact tri_Not _ _)
      | (apply WL.gT; exact rfl; exact rfl; (focus (exact dec_false (by omega); done)))
      | (apply WL.gF; exact rfl; exact rfl; (focus (exact dec_false (by omega); done)))
      | (apply W.condKT; exact rfl; (focus (exact dec_false (by omega); done)))
      | (apply W.condKF; exact rfl; (focus (exact dec_false (by omega); done)))
      | (show WL _ _ _ _ _ _ _; first | apply WL.nil | (apply WL.pev tOk; exact rfl; exact rfl; exact rfl) | (apply WL.load tOk; exact rfl; exact rfl; exact rfl; exact rfl; exact rfl; (first | assumption | (focus (apply Ext.cell; rotate_left; assumption; (exact extA); done)))) | (apply WL.index tOk; exact rfl; exact rfl; exact rfl; exact rfl; exact rfl; exact rfl; exact rfl; exact rfl; assumption; (exact extA); exact rfl; omega; assumption; intro b off h; have hcc := h; first | (obtain ⟨h1, h2, h3, h4, h5, h6, _⟩ := h) | (obtain ⟨h1, h2, h3, _⟩ := h) | (obtain ⟨h1, h2, _⟩ := h) | (obtain ⟨h1, _⟩ := h)) | (apply WL.add; exact rfl; exact rfl; exact rfl; exact rfl; omega) | (apply WL.sub; exact rfl; exact rfl; exact rfl; exact rfl; omega) | (apply WL.mul; exact rfl; exact rfl; exact rfl; exact rfl; omega) | (apply WL.quo; exact rfl; exact rfl; exact rfl; exact rfl; omega) | (apply WL.rem; exact rfl; exact rfl; exact rfl; exact rfl; omega) | (apply WL.loadA tOk; exact rfl; exact rfl; exact rfl; exact rfl; exact rfl; (first | assumption | (focus (apply Cells.ext; rotate_left; assumption; (exact extA); done))); exact rfl) | (apply WL.guardF; exact rfl; exact rfl) | (apply WL.gD; exact rfl; exact rfl; all_goals intro _) | (apply WL.gN; exact rfl; exact rfl; all_goals intro _) | (apply WL.gB; exact rfl; exact rfl; all_goals intro _))
      | (show Z _ _ _ _ _; first | apply Z.tail | apply Z.then_normal | apply Z.block_normal | apply Z.then_exit | apply Z.block_exit | apply Z.then_ret | apply Z.block_ret | (apply Z.block_other; exact rfl))
      | (show W _ _ _ _ _ _; first | apply W.seq | apply W.region | apply W.block | apply W.skip | apply W.ret | apply W.exit | (apply W.condT; exact rfl) | (apply W.condF; exact rfl) | (apply W.condD; exact rfl; all_goals intro _) | (apply W.condN; exact rfl; all_goals intro _) | (apply W.condB; exact rfl; all_goals intro _)))
    all_goals (refine Z.body1 Try.results107 rfl fun m => ⟨?_, m, rfl⟩; congr 1; grind [lit3, lit3v, val3, told3, not3])
theorem ref_Lit (a : Option Addr) (cap : Nat) (l : List Int) (x : Int) (w : World) (R : Row 1 encI w a l) : Still Try.prog 100 [.slice a l.length cap, .int .i64 x] w (.int .i64 (lit3 l x)) := by
  have hv : goodL x → varL x = x / 2 := fun h => by unfold varL; rw [if_pos h]
  have hv' : ¬ goodL x → varL x = -1 := fun h => by unfold varL; rw [if_neg h]
  by_cases h : goodL x ∧ 0 < x / 2 ∧ x / 2 < l.length
  · obtain ⟨z, hz⟩ : ∃ z, l[(x / 2).toNat]? = some z := ⟨l[(x / 2).toNat]'(by omega), by simp [show (x / 2).toNat < l.length by omega]⟩
    have hd : l.getD (x / 2).toNat 0 = z := by simp [List.getD, hz]
    refine Spec.of _ Try.func100 rfl Try.ntmps100 (by kernel_rfl) rfl ?_
    repeat' (first
      | ((show WL _ _ _ (⟨_, .call ⟨.value (.func 126), _, _⟩, _, _, _, _⟩ :: _) _ _ _); apply WL.callS; exact rfl; exact rfl; exact rfl; exact rfl; exact ref_Good _ _)
      | ((show WL _ _ _ (⟨_, .call ⟨.value (.func 127), _, _⟩, _, _, _, _⟩ :: _) _ _ _); apply WL.callS; exact rfl; exact rfl; exact rfl; exact rfl; exact ref_value _ _)
      | ((show WL _ _ _ (⟨_, .call ⟨.value (.func 128), _, _⟩, _, _, _, _⟩ :: _) _ _ _); apply WL.callS; exact rfl; exact rfl; exact rfl; exact rfl; exact ref_Not _ _)
      | (show WL _ _ _ _ _ _ _; first | apply WL.nil | (apply WL.pev tOk; exact rfl; exact rfl; exact rfl) | (apply WL.load tOk; exact rfl; exact rfl; exact rfl; exact rfl; exact rfl; (first | assumption | (focus (apply Ext.cell; rotate_left; assumption; (exact extA); done)))) | (apply WL.index tOk; exact rfl; exact rfl; exact rfl; exact rfl; exact rfl; exact rfl; exact rfl; exact rfl; assumption; (exact extA); exact rfl; omega; assumption; intro b off h; have hcc := h; first | (obtain ⟨h1, h2, h3, h4, h5, h6, _⟩ := h) | (obtain ⟨h1, h2, h3, _⟩ := h) | (obtain ⟨h1, h2, _⟩ := h) | (obtain ⟨h1, _⟩ := h)) | (apply WL.add; exact rfl; exact rfl; exact rfl; exact rfl; omega) | (apply WL.sub; exact rfl; exact rfl; exact rfl; exact rfl; omega) | (apply WL.mul; exact rfl; exact rfl; exact rfl; exact rfl; omega) | (apply WL.quo; exact rfl; exact rfl; exact rfl; exact rfl; omega) | (apply WL.rem; exact rfl; exact rfl; exact rfl; exact rfl; omega) | (apply WL.loadA tOk; exact rfl; exact rfl; exact rfl; exact rfl; exact rfl; (first | assumption | (focus (apply Cells.ext; rotate_left; assumption; (exact extA); done))); exact rfl) | (apply WL.guardF; exact rfl; exact rfl) | (apply WL.gD; exact rfl; exact rfl; all_goals intro _) | (apply WL.gN; exact rfl; exact rfl; all_goals intro _) | (apply WL.gB; exact rfl; exact rfl; all_goals intro _))
      | (show Z _ _ _ _ _; first | apply Z.tail | apply Z.then_normal | apply Z.block_normal | apply Z.then_exit | apply Z.block_exit | apply Z.then_ret | apply Z.block_ret | (apply Z.block_other; exact rfl))
      | (show W _ _ _ _ _ _; first | apply W.seq | apply W.region | apply W.block | apply W.skip | apply W.ret | apply W.exit | (apply W.condT; exact rfl) | (apply W.condF; exact rfl) | (apply W.condD; exact rfl; all_goals intro _) | (apply W.condN; exact rfl; all_goals intro _) | (apply W.condB; exact rfl; all_goals intro _)))
    all_goals (refine Z.body1 Try.results100 rfl fun m => ⟨?_, m, rfl⟩; congr 1; grind [lit3, lit3v, val3, not3])
  · refine Spec.of _ Try.func100 rfl Try.ntmps100 (by kernel_rfl) rfl ?_
    repeat' (first
      | ((show WL _ _ _ (⟨_, .call ⟨.value (.func 126), _, _⟩, _, _, _, _⟩ :: _) _ _ _); apply WL.callS; exact rfl; exact rfl; exact rfl; exact rfl; exact ref_Good _ _)
      | ((show WL _ _ _ (⟨_, .call ⟨.value (.func 127), _, _⟩, _, _, _, _⟩ :: _) _ _ _); apply WL.callS; exact rfl; exact rfl; exact rfl; exact rfl; exact ref_value _ _)
      | ((show WL _ _ _ (⟨_, .call ⟨.value (.func 128), _, _⟩, _, _, _, _⟩ :: _) _ _ _); apply WL.callS; exact rfl; exact rfl; exact rfl; exact rfl; exact ref_Not _ _)
      | (apply WL.gT; exact rfl; exact rfl; (focus (exact dec_false (by omega); done)))
      | (apply WL.gF; exact rfl; exact rfl; (focus (exact dec_false (by omega); done)))
      | (apply W.condKT; exact rfl; (focus (exact dec_false (by omega); done)))
      | (apply W.condKF; exact rfl; (focus (exact dec_false (by omega); done)))
      | (show WL _ _ _ _ _ _ _; first | apply WL.nil | (apply WL.pev tOk; exact rfl; exact rfl; exact rfl) | (apply WL.load tOk; exact rfl; exact rfl; exact rfl; exact rfl; exact rfl; (first | assumption | (focus (apply Ext.cell; rotate_left; assumption; (exact extA); done)))) | (apply WL.index tOk; exact rfl; exact rfl; exact rfl; exact rfl; exact rfl; exact rfl; exact rfl; exact rfl; assumption; (exact extA); exact rfl; omega; assumption; intro b off h; have hcc := h; first | (obtain ⟨h1, h2, h3, h4, h5, h6, _⟩ := h) | (obtain ⟨h1, h2, h3, _⟩ := h) | (obtain ⟨h1, h2, _⟩ := h) | (obtain ⟨h1, _⟩ := h)) | (apply WL.add; exact rfl; exact rfl; exact rfl; exact rfl; omega) | (apply WL.sub; exact rfl; exact rfl; exact rfl; exact rfl; omega) | (apply WL.mul; exact rfl; exact rfl; exact rfl; exact rfl; omega) | (apply WL.quo; exact rfl; exact rfl; exact rfl; exact rfl; omega) | (apply WL.rem; exact rfl; exact rfl; exact rfl; exact rfl; omega) | (apply WL.loadA tOk; exact rfl; exact rfl; exact rfl; exact rfl; exact rfl; (first | assumption | (focus (apply Cells.ext; rotate_left; assumption; (exact extA); done))); exact rfl) | (apply WL.guardF; exact rfl; exact rfl) | (apply WL.gD; exact rfl; exact rfl; all_goals intro _) | (apply WL.gN; exact rfl; exact rfl; all_goals intro _) | (apply WL.gB; exact rfl; exact rfl; all_goals intro _))
      | (show Z _ _ _ _ _; first | apply Z.tail | apply Z.then_normal | apply Z.block_normal | apply Z.then_exit | apply Z.block_exit | apply Z.then_ret | apply Z.block_ret | (apply Z.block_other; exact rfl))
      | (show W _ _ _ _ _ _; first | apply W.seq | apply W.region | apply W.block | apply W.skip | apply W.ret | apply W.exit | (apply W.condT; exact rfl) | (apply W.condF; exact rfl) | (apply W.condD; exact rfl; all_goals intro _) | (apply W.condN; exact rfl; all_goals intro _) | (apply W.condB; exact rfl; all_goals intro _)))
    all_goals (refine Z.body1 Try.results100 rfl fun m => ⟨?_, m, rfl⟩; congr 1; grind [lit3, lit3v, val3, not3])
end Go.Proofs.Ytmaekaflpbenmaa
namespace Go.Proofs.Ytmaekaflpbenmaa
open Go Go.Lt Go.RowKit
set_option linter.unusedVariables false
set_option linter.unusedSimpArgs false

theorem ref02_Not (k : Int) (w : World) (h : 0 ≤ k ∧ k ≤ 33554433) : Still Try.prog 104 [.int .i64 k] w (.int .i64 (Lt.xor1 k)) := by
  have hgd : goodL k := h
  refine Spec.of _ Try.func104 rfl Try.ntmps104 (by kernel_rfl) rfl ?_
  repeat' (first
    | ((show WL _ _ _ (⟨_, .call ⟨.value (.func 126), _, _⟩, _, _, _, _⟩ :: _) _ _ _); apply WL.callS; exact rfl; exact rfl; exact rfl; exact rfl; exact ref_Good _ _)
    | (apply WL.gT; exact rfl; exact rfl; (focus (first | (rw [dec_true hgd]; rfl) | exact dec_true hgd; done)))
    | (apply WL.gF; exact rfl; exact rfl; (focus (first | (rw [dec_true hgd]; rfl) | exact dec_true hgd; done)))
    | (apply W.condKT; exact rfl; (focus (first | (rw [dec_true hgd]; rfl) | exact dec_true hgd; done)))
    | (apply W.condKF; exact rfl; (focus (first | (rw [dec_true hgd]; rfl) | exact dec_true hgd; done)))
    | (show WL _ _ _ _ _ _ _; first | apply WL.nil | (apply WL.pev tOk; exact rfl; exact rfl; exact rfl) | (apply WL.load tOk; exact rfl; exact rfl; exact rfl; exact rfl; exact rfl; (first | assumption | (focus (apply Ext.cell; rotate_left; assumption; (exact extA); done)))) | (apply WL.index tOk; exact rfl; exact rfl; exact rfl; exact rfl; exact rfl; exact rfl; exact rfl; exact rfl; assumption; (exact extA); exact rfl; omega; assumption; intro b off h; have hcc := h; first | (obtain ⟨h1, h2, h3, h4, h5, h6, _⟩ := h) | (obtain ⟨h1, h2, h3, _⟩ := h) | (obtain ⟨h1, h2, _⟩ := h) | (obtain ⟨h1, _⟩ := h)) | (apply WL.add; exact rfl; exact rfl; exact rfl; exact rfl; omega) | (apply WL.sub; exact rfl; exact rfl; exact rfl; exact rfl; omega) | (apply WL.mul; exact rfl; exact rfl; exact rfl; exact rfl; omega) | (apply WL.quo; exact rfl; exact rfl; exact rfl; exact rfl; omega) | (apply WL.rem; exact rfl; exact rfl; exact rfl; exact rfl; omega) | (apply WL.loadA tOk; exact rfl; exact rfl; exact rfl; exact rfl; exact rfl; (first | assumption | (focus (apply Cells.ext; rotate_left; assumption; (exact extA); done))); exact rfl) | (apply WL.guardF; exact rfl; exact rfl) | (apply WL.gD; exact rfl; exact rfl; all_goals intro _) | (apply WL.gN; exact rfl; exact rfl; all_goals intro _) | (apply WL.gB; exact rfl; exact rfl; all_goals intro _))
    | (show Z _ _ _ _ _; first | apply Z.tail | apply Z.then_normal | apply Z.block_normal | apply Z.then_exit | apply Z.block_exit | apply Z.then_ret | apply Z.block_ret | (apply Z.block_other; exact rfl))
    | (show W _ _ _ _ _ _; first | apply W.seq | apply W.region | apply W.block | apply W.skip | apply W.ret | apply W.exit | (apply W.condT; exact rfl) | (apply W.condF; exact rfl) | (apply W.condD; exact rfl; all_goals intro _) | (apply W.condN; exact rfl; all_goals intro _) | (apply W.condB; exact rfl; all_goals intro _)))
  all_goals (refine Z.body1 Try.results104 rfl fun m => ⟨congrArg (Value.int .i64) ?_, m, rfl⟩; unfold Lt.xor1; first | (rw [if_pos (by omega)]; done) | (rw [if_neg (by omega)]; done))
end Go.Proofs.Ytmaekaflpbenmaa
namespace Go.Proofs.Ytmaekaflpbenmaa
open Go Go.Lt Go.RowKit
set_option linter.unusedVariables false
set_option linter.unusedSimpArgs false

theorem drop_cons {α : Type} {l : List α} {k : Nat} {x : α} (h : l[k]? = some x) : l.drop k = x :: l.drop (k + 1) := by
  have hk := lt_of_get h
  rw [List.drop_eq_getElem_cons hk]; congr 1
  exact (List.getElem?_eq_some_iff.1 h).2
noncomputable def vC (vals : List Int) : Int → List Int → Int
  | out, [] => out
  | out, x :: r => if lit3 vals x = 1 then 1 else vC vals (if lit3 vals x = 2 then 2 else out) r
noncomputable def uC (vals : List Int) : Int → List Int → Int
  | left, [] => left
  | left, x :: r => if lit3 vals x = 1 ∨ (lit3 vals x = 2 ∧ (¬ goodL x ∨ (0 ≤ left ∧ left ≠ x))) then -1 else uC vals (if lit3 vals x = 2 then x else left) r

theorem ref20_Value (ra rl : Option Addr) (ca cl : Nat) (vals l : List Int) (w : World) (R : Row 1 encI w ra vals) (Rl : Row 1 encI w rl l) :
    Still Try.prog 46 [.slice ra vals.length ca, .slice rl l.length cl] w (.int .i64 (vC vals 0 l)) := by
  have hlen := Rl.len
  refine Spec.of _ Try.func46 rfl Try.ntmps46 (by kernel_rfl) rfl ?_
  repeat' (first
    | (show WL _ _ _ _ _ _ _; first | apply WL.nil | (apply WL.pev tOk; exact rfl; exact rfl; exact rfl) | (apply WL.load tOk; exact rfl; exact rfl; exact rfl; exact rfl; exact rfl; (first | assumption | (focus (apply Ext.cell; rotate_left; assumption; (exact extA); done)))) | (apply WL.index tOk; exact rfl; exact rfl; exact rfl; exact rfl; exact rfl; exact rfl; exact rfl; exact rfl; assumption; (exact extA); exact rfl; omega; assumption; intro b off h; have hcc := h; first | (obtain ⟨h1, h2, h3, h4, h5, h6, _⟩ := h) | (obtain ⟨h1, h2, h3, _⟩ := h) | (obtain ⟨h1, h2, _⟩ := h) | (obtain ⟨h1, _⟩ := h)) | (apply WL.add; exact rfl; exact rfl; exact rfl; exact rfl; omega) | (apply WL.sub; exact rfl; exact rfl; exact rfl; exact rfl; omega) | (apply WL.mul; exact rfl; exact rfl; exact rfl; exact rfl; omega) | (apply WL.quo; exact rfl; exact rfl; exact rfl; exact rfl; omega) | (apply WL.rem; exact rfl; exact rfl; exact rfl; exact rfl; omega) | (apply WL.loadA tOk; exact rfl; exact rfl; exact rfl; exact rfl; exact rfl; (first | assumption | (focus (apply Cells.ext; rotate_left; assumption; (exact extA); done))); exact rfl) | (apply WL.guardF; exact rfl; exact rfl) | (apply WL.gD; exact rfl; exact rfl; all_goals intro _) | (apply WL.gN; exact rfl; exact rfl; all_goals intro _) | (apply WL.gB; exact rfl; exact rfl; all_goals intro _))
    | (show Z _ _ _ _ _; first | apply Z.tail | apply Z.then_normal | apply Z.block_normal | apply Z.then_exit | apply Z.block_exit | apply Z.then_ret | apply Z.block_ret | (apply Z.block_other; exact rfl))
    | (show W _ _ _ _ _ _; first | apply W.seq | apply W.region | apply W.block | apply W.skip | apply W.ret | apply W.exit | (apply W.condT; exact rfl) | (apply W.condF; exact rfl) | (apply W.condD; exact rfl; all_goals intro _) | (apply W.condN; exact rfl; all_goals intro _) | (apply W.condB; exact rfl; all_goals intro _)))
  refine W.loop (fun s : Nat × Int => s.1 ≤ l.length ∧ vC vals s.2 (l.drop s.1) = vC vals 0 l) (fun s => [(0, .slice ra vals.length ca), (1, .slice rl l.length cl), (5, .int .i64 s.2), (6, .int .i64 s.1)]) (fun _ => w) (fun s => l.length - s.1) (0, 0) ⟨Nat.zero_le _, rfl⟩ ⟨rfl, rfl, rfl, rfl, trivial⟩ rfl ?_
  rintro ⟨k, out⟩ ⟨hk, he⟩
  dsimp only at hk he
  by_cases hlt : k < l.length
  · obtain ⟨x, hx⟩ := getI l hlt
    rw [drop_cons hx, vC] at he
    by_cases q1 : lit3 vals x = 1
    · rw [if_pos q1] at he
      rw [← he]
      repeat' (first
        | ((show WL _ _ _ (⟨_, .call ⟨.value (.func 100), _, _⟩, _, _, _, _⟩ :: _) _ _ _); apply WL.callS; exact rfl; exact rfl; exact rfl; exact rfl; exact ref_Lit _ _ vals x _ R)
        | (apply WL.gT; exact rfl; exact rfl; (focus (first | exact dec_true (by omega) | exact dec_true q1; done)))
        | (apply WL.gF; exact rfl; exact rfl; (focus (first | exact dec_true (by omega) | exact dec_true q1; done)))
        | (apply W.condKT; exact rfl; (focus (first | exact dec_true (by omega) | exact dec_true q1; done)))
        | (apply W.condKF; exact rfl; (focus (first | exact dec_true (by omega) | exact dec_true q1; done)))
        | (show WL _ _ _ _ _ _ _; first | apply WL.nil | (apply WL.pev tOk; exact rfl; exact rfl; exact rfl) | (apply WL.load tOk; exact rfl; exact rfl; exact rfl; exact rfl; exact rfl; (first | assumption | (focus (apply Ext.cell; rotate_left; assumption; (exact extA); done)))) | (apply WL.index tOk; exact rfl; exact rfl; exact rfl; exact rfl; exact rfl; exact rfl; exact rfl; exact rfl; assumption; (exact extA); exact rfl; omega; assumption; intro b off h; have hcc := h; first | (obtain ⟨h1, h2, h3, h4, h5, h6, _⟩ := h) | (obtain ⟨h1, h2, h3, _⟩ := h) | (obtain ⟨h1, h2, _⟩ := h) | (obtain ⟨h1, _⟩ := h)) | (apply WL.add; exact rfl; exact rfl; exact rfl; exact rfl; omega) | (apply WL.sub; exact rfl; exact rfl; exact rfl; exact rfl; omega) | (apply WL.mul; exact rfl; exact rfl; exact rfl; exact rfl; omega) | (apply WL.quo; exact rfl; exact rfl; exact rfl; exact rfl; omega) | (apply WL.rem; exact rfl; exact rfl; exact rfl; exact rfl; omega) | (apply WL.loadA tOk; exact rfl; exact rfl; exact rfl; exact rfl; exact rfl; (first | assumption | (focus (apply Cells.ext; rotate_left; assumption; (exact extA); done))); exact rfl) | (apply WL.guardF; exact rfl; exact rfl) | (apply WL.gD; exact rfl; exact rfl; all_goals intro _) | (apply WL.gN; exact rfl; exact rfl; all_goals intro _) | (apply WL.gB; exact rfl; exact rfl; all_goals intro _))
        | (show Z _ _ _ _ _; first | apply Z.tail | apply Z.then_normal | apply Z.block_normal | apply Z.then_exit | apply Z.block_exit | apply Z.then_ret | apply Z.block_ret | (apply Z.block_other; exact rfl))
        | (show W _ _ _ _ _ _; first | apply W.seq | apply W.region | apply W.block | apply W.skip | apply W.ret | apply W.exit | (apply W.condT; exact rfl) | (apply W.condF; exact rfl) | (apply W.condD; exact rfl; all_goals intro _) | (apply W.condN; exact rfl; all_goals intro _) | (apply W.condB; exact rfl; all_goals intro _)))
      exact Z.body1 Try.results46 rfl fun m => ⟨rfl, m, rfl⟩
    · rw [if_neg q1] at he
      by_cases q2 : lit3 vals x = 2
      · rw [if_pos q2] at he
        repeat' (first
          | ((show WL _ _ _ (⟨_, .call ⟨.value (.func 100), _, _⟩, _, _, _, _⟩ :: _) _ _ _); apply WL.callS; exact rfl; exact rfl; exact rfl; exact rfl; exact ref_Lit _ _ vals x _ R)
          | (apply WL.gT; exact rfl; exact rfl; (focus (first | exact dec_true (by omega) | exact dec_true q2 | exact dec_false q1; done)))
          | (apply WL.gF; exact rfl; exact rfl; (focus (first | exact dec_true (by omega) | exact dec_true q2 | exact dec_false q1; done)))
          | (apply W.condKT; exact rfl; (focus (first | exact dec_true (by omega) | exact dec_true q2 | exact dec_false q1; done)))
          | (apply W.condKF; exact rfl; (focus (first | exact dec_true (by omega) | exact dec_true q2 | exact dec_false q1; done)))
          | (show WL _ _ _ _ _ _ _; first | apply WL.nil | (apply WL.pev tOk; exact rfl; exact rfl; exact rfl) | (apply WL.load tOk; exact rfl; exact rfl; exact rfl; exact rfl; exact rfl; (first | assumption | (focus (apply Ext.cell; rotate_left; assumption; (exact extA); done)))) | (apply WL.index tOk; exact rfl; exact rfl; exact rfl; exact rfl; exact rfl; exact rfl; exact rfl; exact rfl; assumption; (exact extA); exact rfl; omega; assumption; intro b off h; have hcc := h; first | (obtain ⟨h1, h2, h3, h4, h5, h6, _⟩ := h) | (obtain ⟨h1, h2, h3, _⟩ := h) | (obtain ⟨h1, h2, _⟩ := h) | (obtain ⟨h1, _⟩ := h)) | (apply WL.add; exact rfl; exact rfl; exact rfl; exact rfl; omega) | (apply WL.sub; exact rfl; exact rfl; exact rfl; exact rfl; omega) | (apply WL.mul; exact rfl; exact rfl; exact rfl; exact rfl; omega) | (apply WL.quo; exact rfl; exact rfl; exact rfl; exact rfl; omega) | (apply WL.rem; exact rfl; exact rfl; exact rfl; exact rfl; omega) | (apply WL.loadA tOk; exact rfl; exact rfl; exact rfl; exact rfl; exact rfl; (first | assumption | (focus (apply Cells.ext; rotate_left; assumption; (exact extA); done))); exact rfl) | (apply WL.guardF; exact rfl; exact rfl) | (apply WL.gD; exact rfl; exact rfl; all_goals intro _) | (apply WL.gN; exact rfl; exact rfl; all_goals intro _) | (apply WL.gB; exact rfl; exact rfl; all_goals intro _))
          | (show Z _ _ _ _ _; first | apply Z.tail | apply Z.then_normal | apply Z.block_normal | apply Z.then_exit | apply Z.block_exit | apply Z.then_ret | apply Z.block_ret | (apply Z.block_other; exact rfl))
          | (show W _ _ _ _ _ _; first | apply W.seq | apply W.region | apply W.block | apply W.skip | apply W.ret | apply W.exit | (apply W.condT; exact rfl) | (apply W.condF; exact rfl) | (apply W.condD; exact rfl; all_goals intro _) | (apply W.condN; exact rfl; all_goals intro _) | (apply W.condB; exact rfl; all_goals intro _)))
        exact Z.again (k + 1, 2) ⟨by show k + 1 ≤ _; omega, he⟩ (by show l.length - (k + 1) < l.length - k; omega) ⟨rfl, rfl, rfl, rfl, trivial⟩ rfl
      · rw [if_neg q2] at he
        repeat' (first
          | ((show WL _ _ _ (⟨_, .call ⟨.value (.func 100), _, _⟩, _, _, _, _⟩ :: _) _ _ _); apply WL.callS; exact rfl; exact rfl; exact rfl; exact rfl; exact ref_Lit _ _ vals x _ R)
          | (apply WL.gT; exact rfl; exact rfl; (focus (first | exact dec_true (by omega) | exact dec_false q2 | exact dec_false q1; done)))
          | (apply WL.gF; exact rfl; exact rfl; (focus (first | exact dec_true (by omega) | exact dec_false q2 | exact dec_false q1; done)))
          | (apply W.condKT; exact rfl; (focus (first | exact dec_true (by omega) | exact dec_false q2 | exact dec_false q1; done)))
          | (apply W.condKF; exact rfl; (focus (first | exact dec_true (by omega) | exact dec_false q2 | exact dec_false q1; done)))
          | (show WL _ _ _ _ _ _ _; first | apply WL.nil | (apply WL.pev tOk; exact rfl; exact rfl; exact rfl) | (apply WL.load tOk; exact rfl; exact rfl; exact rfl; exact rfl; exact rfl; (first | assumption | (focus (apply Ext.cell; rotate_left; assumption; (exact extA); done)))) | (apply WL.index tOk; exact rfl; exact rfl; exact rfl; exact rfl; exact rfl; exact rfl; exact rfl; exact rfl; assumption; (exact extA); exact rfl; omega; assumption; intro b off h; have hcc := h; first | (obtain ⟨h1, h2, h3, h4, h5, h6, _⟩ := h) | (obtain ⟨h1, h2, h3, _⟩ := h) | (obtain ⟨h1, h2, _⟩ := h) | (obtain ⟨h1, _⟩ := h)) | (apply WL.add; exact rfl; exact rfl; exact rfl; exact rfl; omega) | (apply WL.sub; exact rfl; exact rfl; exact rfl; exact rfl; omega) | (apply WL.mul; exact rfl; exact rfl; exact rfl; exact rfl; omega) | (apply WL.quo; exact rfl; exact rfl; exact rfl; exact rfl; omega) | (apply WL.rem; exact rfl; exact rfl; exact rfl; exact rfl; omega) | (apply WL.loadA tOk; exact rfl; exact rfl; exact rfl; exact rfl; exact rfl; (first | assumption | (focus (apply Cells.ext; rotate_left; assumption; (exact extA); done))); exact rfl) | (apply WL.guardF; exact rfl; exact rfl) | (apply WL.gD; exact rfl; exact rfl; all_goals intro _) | (apply WL.gN; exact rfl; exact rfl; all_goals intro _) | (apply WL.gB; exact rfl; exact rfl; all_goals intro _))
          | (show Z _ _ _ _ _; first | apply Z.tail | apply Z.then_normal | apply Z.block_normal | apply Z.then_exit | apply Z.block_exit | apply Z.then_ret | apply Z.block_ret | (apply Z.block_other; exact rfl))
          | (show W _ _ _ _ _ _; first | apply W.seq | apply W.region | apply W.block | apply W.skip | apply W.ret | apply W.exit | (apply W.condT; exact rfl) | (apply W.condF; exact rfl) | (apply W.condD; exact rfl; all_goals intro _) | (apply W.condN; exact rfl; all_goals intro _) | (apply W.condB; exact rfl; all_goals intro _)))
        exact Z.again (k + 1, out) ⟨by show k + 1 ≤ _; omega, he⟩ (by show l.length - (k + 1) < l.length - k; omega) ⟨rfl, rfl, rfl, rfl, trivial⟩ rfl
  · obtain rfl : k = l.length := by omega
    rw [List.drop_length, vC] at he
    rw [← he]
    repeat' (first
      | (apply WL.gT; exact rfl; exact rfl; (focus (exact dec_false (by omega); done)))
      | (apply WL.gF; exact rfl; exact rfl; (focus (exact dec_false (by omega); done)))
      | (apply W.condKT; exact rfl; (focus (exact dec_false (by omega); done)))
      | (apply W.condKF; exact rfl; (focus (exact dec_false (by omega); done)))
      | (show WL _ _ _ _ _ _ _; first | apply WL.nil | (apply WL.pev tOk; exact rfl; exact rfl; exact rfl) | (apply WL.load tOk; exact rfl; exact rfl; exact rfl; exact rfl; exact rfl; (first | assumption | (focus (apply Ext.cell; rotate_left; assumption; (exact extA); done)))) | (apply WL.index tOk; exact rfl; exact rfl; exact rfl; exact rfl; exact rfl; exact rfl; exact rfl; exact rfl; assumption; (exact extA); exact rfl; omega; assumption; intro b off h; have hcc := h; first | (obtain ⟨h1, h2, h3, h4, h5, h6, _⟩ := h) | (obtain ⟨h1, h2, h3, _⟩ := h) | (obtain ⟨h1, h2, _⟩ := h) | (obtain ⟨h1, _⟩ := h)) | (apply WL.add; exact rfl; exact rfl; exact rfl; exact rfl; omega) | (apply WL.sub; exact rfl; exact rfl; exact rfl; exact rfl; omega) | (apply WL.mul; exact rfl; exact rfl; exact rfl; exact rfl; omega) | (apply WL.quo; exact rfl; exact rfl; exact rfl; exact rfl; omega) | (apply WL.rem; exact rfl; exact rfl; exact rfl; exact rfl; omega) | (apply WL.loadA tOk; exact rfl; exact rfl; exact rfl; exact rfl; exact rfl; (first | assumption | (focus (apply Cells.ext; rotate_left; assumption; (exact extA); done))); exact rfl) | (apply WL.guardF; exact rfl; exact rfl) | (apply WL.gD; exact rfl; exact rfl; all_goals intro _) | (apply WL.gN; exact rfl; exact rfl; all_goals intro _) | (apply WL.gB; exact rfl; exact rfl; all_goals intro _))
      | (show Z _ _ _ _ _; first | apply Z.tail | apply Z.then_normal | apply Z.block_normal | apply Z.then_exit | apply Z.block_exit | apply Z.then_ret | apply Z.block_ret | (apply Z.block_other; exact rfl))
      | (show W _ _ _ _ _ _; first | apply W.seq | apply W.region | apply W.block | apply W.skip | apply W.ret | apply W.exit | (apply W.condT; exact rfl) | (apply W.condF; exact rfl) | (apply W.condD; exact rfl; all_goals intro _) | (apply W.condN; exact rfl; all_goals intro _) | (apply W.condB; exact rfl; all_goals intro _)))
    exact Z.body1 Try.results46 rfl fun m => ⟨rfl, m, rfl⟩

set_option maxHeartbeats 4000000 in
theorem ref20_Unit (ra rl : Option Addr) (ca cl : Nat) (vals l : List Int) (w : World) (R : Row 1 encI w ra vals) (Rl : Row 1 encI w rl l) :
    Still Try.prog 124 [.slice ra vals.length ca, .slice rl l.length cl] w (.int .i64 (uC vals (-1) l)) := by
  have hlen := Rl.len
  refine Spec.of _ Try.func124 rfl Try.ntmps124 (by kernel_rfl) rfl ?_
  repeat' (first
    | (show WL _ _ _ _ _ _ _; first | apply WL.nil | (apply WL.pev tOk; exact rfl; exact rfl; exact rfl) | (apply WL.load tOk; exact rfl; exact rfl; exact rfl; exact rfl; exact rfl; (first | assumption | (focus (apply Ext.cell; rotate_left; assumption; (exact extA); done)))) | (apply WL.index tOk; exact rfl; exact rfl; exact rfl; exact rfl; exact rfl; exact rfl; exact rfl; exact rfl; assumption; (exact extA); exact rfl; omega; assumption; intro b off h; have hcc := h; first | (obtain ⟨h1, h2, h3, h4, h5, h6, _⟩ := h) | (obtain ⟨h1, h2, h3, _⟩ := h) | (obtain ⟨h1, h2, _⟩ := h) | (obtain ⟨h1, _⟩ := h)) | (apply WL.add; exact rfl; exact rfl; exact rfl; exact rfl; omega) | (apply WL.sub; exact rfl; exact rfl; exact rfl; exact rfl; omega) | (apply WL.mul; exact rfl; exact rfl; exact rfl; exact rfl; omega) | (apply WL.quo; exact rfl; exact rfl; exact rfl; exact rfl; omega) | (apply WL.rem; exact rfl; exact rfl; exact rfl; exact rfl; omega) | (apply WL.loadA tOk; exact rfl; exact rfl; exact rfl; exact rfl; exact rfl; (first | assumption | (focus (apply Cells.ext; rotate_left; assumption; (exact extA); done))); exact rfl) | (apply WL.guardF; exact rfl; exact rfl) | (apply WL.gD; exact rfl; exact rfl; all_goals intro _) | (apply WL.gN; exact rfl; exact rfl; all_goals intro _) | (apply WL.gB; exact rfl; exact rfl; all_goals intro _))
    | (show Z _ _ _ _ _; first | apply Z.tail | apply Z.then_normal | apply Z.block_normal | apply Z.then_exit | apply Z.block_exit | apply Z.then_ret | apply Z.block_ret | (apply Z.block_other; exact rfl))
    | (show W _ _ _ _ _ _; first | apply W.seq | apply W.region | apply W.block | apply W.skip | apply W.ret | apply W.exit | (apply W.condT; exact rfl) | (apply W.condF; exact rfl) | (apply W.condD; exact rfl; all_goals intro _) | (apply W.condN; exact rfl; all_goals intro _) | (apply W.condB; exact rfl; all_goals intro _)))
  refine W.loop (fun s : Nat × Int => s.1 ≤ l.length ∧ uC vals s.2 (l.drop s.1) = uC vals (-1) l) (fun s => [(0, .slice ra vals.length ca), (1, .slice rl l.length cl), (5, .int .i64 s.2), (6, .int .i64 s.1)]) (fun _ => w) (fun s => l.length - s.1) (0, -1) ⟨Nat.zero_le _, rfl⟩ ⟨rfl, rfl, rfl, rfl, trivial⟩ rfl ?_
  rintro ⟨k, left⟩ ⟨hk, he⟩
  dsimp only at hk he
  by_cases hlt : k < l.length
  · obtain ⟨x, hx⟩ := getI l hlt
    rw [drop_cons hx, uC] at he
    by_cases q1 : lit3 vals x = 1
    · rw [if_pos (.inl q1)] at he
      rw [← he]
      repeat' (first
        | ((show WL _ _ _ (⟨_, .call ⟨.value (.func 100), _, _⟩, _, _, _, _⟩ :: _) _ _ _); apply WL.callS; exact rfl; exact rfl; exact rfl; exact rfl; exact ref_Lit _ _ vals x _ R)
        | ((show WL _ _ _ (⟨_, .call ⟨.value (.func 126), _, _⟩, _, _, _, _⟩ :: _) _ _ _); apply WL.callS; exact rfl; exact rfl; exact rfl; exact rfl; exact ref_Good x _)
        | (apply WL.gT; exact rfl; exact rfl; (focus (first | exact dec_true (by omega) | exact dec_true q1; done)))
        | (apply WL.gF; exact rfl; exact rfl; (focus (first | exact dec_true (by omega) | exact dec_true q1; done)))
        | (apply W.condKT; exact rfl; (focus (first | exact dec_true (by omega) | exact dec_true q1; done)))
        | (apply W.condKF; exact rfl; (focus (first | exact dec_true (by omega) | exact dec_true q1; done)))
        | (show WL _ _ _ _ _ _ _; first | apply WL.nil | (apply WL.pev tOk; exact rfl; exact rfl; exact rfl) | (apply WL.load tOk; exact rfl; exact rfl; exact rfl; exact rfl; exact rfl; (first | assumption | (focus (apply Ext.cell; rotate_left; assumption; (exact extA); done)))) | (apply WL.index tOk; exact rfl; exact rfl; exact rfl; exact rfl; exact rfl; exact rfl; exact rfl; exact rfl; assumption; (exact extA); exact rfl; omega; assumption; intro b off h; have hcc := h; first | (obtain ⟨h1, h2, h3, h4, h5, h6, _⟩ := h) | (obtain ⟨h1, h2, h3, _⟩ := h) | (obtain ⟨h1, h2, _⟩ := h) | (obtain ⟨h1, _⟩ := h)) | (apply WL.add; exact rfl; exact rfl; exact rfl; exact rfl; omega) | (apply WL.sub; exact rfl; exact rfl; exact rfl; exact rfl; omega) | (apply WL.mul; exact rfl; exact rfl; exact rfl; exact rfl; omega) | (apply WL.quo; exact rfl; exact rfl; exact rfl; exact rfl; omega) | (apply WL.rem; exact rfl; exact rfl; exact rfl; exact rfl; omega) | (apply WL.loadA tOk; exact rfl; exact rfl; exact rfl; exact rfl; exact rfl; (first | assumption | (focus (apply Cells.ext; rotate_left; assumption; (exact extA); done))); exact rfl) | (apply WL.guardF; exact rfl; exact rfl) | (apply WL.gD; exact rfl; exact rfl; all_goals intro _) | (apply WL.gN; exact rfl; exact rfl; all_goals intro _) | (apply WL.gB; exact rfl; exact rfl; all_goals intro _))
        | (show Z _ _ _ _ _; first | apply Z.tail | apply Z.then_normal | apply Z.block_normal | apply Z.then_exit | apply Z.block_exit | apply Z.then_ret | apply Z.block_ret | (apply Z.block_other; exact rfl))
        | (show W _ _ _ _ _ _; first | apply W.seq | apply W.region | apply W.block | apply W.skip | apply W.ret | apply W.exit | (apply W.condT; exact rfl) | (apply W.condF; exact rfl) | (apply W.condD; exact rfl; all_goals intro _) | (apply W.condN; exact rfl; all_goals intro _) | (apply W.condB; exact rfl; all_goals intro _)))
      exact Z.body1 Try.results124 rfl fun m => ⟨rfl, m, rfl⟩
    · by_cases q2 : lit3 vals x = 2
      · by_cases q3 : goodL x
        · by_cases q4 : 0 ≤ left ∧ left ≠ x
          · rw [if_pos (.inr ⟨q2, .inr q4⟩)] at he
            rw [← he]
            repeat' (first
              | ((show WL _ _ _ (⟨_, .call ⟨.value (.func 100), _, _⟩, _, _, _, _⟩ :: _) _ _ _); apply WL.callS; exact rfl; exact rfl; exact rfl; exact rfl; exact ref_Lit _ _ vals x _ R)
              | ((show WL _ _ _ (⟨_, .call ⟨.value (.func 126), _, _⟩, _, _, _, _⟩ :: _) _ _ _); apply WL.callS; exact rfl; exact rfl; exact rfl; exact rfl; exact ref_Good x _)
              | (apply WL.gT; exact rfl; exact rfl; (focus (first | exact dec_true (by omega) | exact dec_true q2 | exact dec_false q1 | (rw [dec_true q3]; rfl); done)))
              | (apply WL.gF; exact rfl; exact rfl; (focus (first | exact dec_true (by omega) | exact dec_true q2 | exact dec_false q1 | (rw [dec_true q3]; rfl); done)))
              | (apply W.condKT; exact rfl; (focus (first | exact dec_true (by omega) | exact dec_true q2 | exact dec_false q1 | (rw [dec_true q3]; rfl); done)))
              | (apply W.condKF; exact rfl; (focus (first | exact dec_true (by omega) | exact dec_true q2 | exact dec_false q1 | (rw [dec_true q3]; rfl); done)))
              | (show WL _ _ _ _ _ _ _; first | apply WL.nil | (apply WL.pev tOk; exact rfl; exact rfl; exact rfl) | (apply WL.load tOk; exact rfl; exact rfl; exact rfl; exact rfl; exact rfl; (first | assumption | (focus (apply Ext.cell; rotate_left; assumption; (exact extA); done)))) | (apply WL.index tOk; exact rfl; exact rfl; exact rfl; exact rfl; exact rfl; exact rfl; exact rfl; exact rfl; assumption; (exact extA); exact rfl; omega; assumption; intro b off h; have hcc := h; first | (obtain ⟨h1, h2, h3, h4, h5, h6, _⟩ := h) | (obtain ⟨h1, h2, h3, _⟩ := h) | (obtain ⟨h1, h2, _⟩ := h) | (obtain ⟨h1, _⟩ := h)) | (apply WL.add; exact rfl; exact rfl; exact rfl; exact rfl; omega) | (apply WL.sub; exact rfl; exact rfl; exact rfl; exact rfl; omega) | (apply WL.mul; exact rfl; exact rfl; exact rfl; exact rfl; omega) | (apply WL.quo; exact rfl; exact rfl; exact rfl; exact rfl; omega) | (apply WL.rem; exact rfl; exact rfl; exact rfl; exact rfl; omega) | (apply WL.loadA tOk; exact rfl; exact rfl; exact rfl; exact rfl; exact rfl; (first | assumption | (focus (apply Cells.ext; rotate_left; assumption; (exact extA); done))); exact rfl) | (apply WL.guardF; exact rfl; exact rfl) | (apply WL.gD; exact rfl; exact rfl; all_goals intro _) | (apply WL.gN; exact rfl; exact rfl; all_goals intro _) | (apply WL.gB; exact rfl; exact rfl; all_goals intro _))
              | (show Z _ _ _ _ _; first | apply Z.tail | apply Z.then_normal | apply Z.block_normal | apply Z.then_exit | apply Z.block_exit | apply Z.then_ret | apply Z.block_ret | (apply Z.block_other; exact rfl))
              | (show W _ _ _ _ _ _; first | apply W.seq | apply W.region | apply W.block | apply W.skip | apply W.ret | apply W.exit | (apply W.condT; exact rfl) | (apply W.condF; exact rfl) | (apply W.condD; exact rfl; all_goals intro _) | (apply W.condN; exact rfl; all_goals intro _) | (apply W.condB; exact rfl; all_goals intro _)))
            all_goals first
              | exact Z.body1 Try.results124 rfl fun m => ⟨rfl, m, rfl⟩
              | (exfalso; omega)
          · rw [if_neg (fun h => h.elim q1 (fun h => h.2.elim (fun h => h q3) q4)), if_pos q2] at he
            by_cases q5 : 0 ≤ left
            · repeat' (first
                | ((show WL _ _ _ (⟨_, .call ⟨.value (.func 100), _, _⟩, _, _, _, _⟩ :: _) _ _ _); apply WL.callS; exact rfl; exact rfl; exact rfl; exact rfl; exact ref_Lit _ _ vals x _ R)
                | ((show WL _ _ _ (⟨_, .call ⟨.value (.func 126), _, _⟩, _, _, _, _⟩ :: _) _ _ _); apply WL.callS; exact rfl; exact rfl; exact rfl; exact rfl; exact ref_Good x _)
                | (apply WL.gT; exact rfl; exact rfl; (focus (first | exact dec_true (by omega) | exact dec_true q2 | exact dec_false q1 | (rw [dec_true q3]; rfl) | exact dec_false (by omega); done)))
                | (apply WL.gF; exact rfl; exact rfl; (focus (first | exact dec_true (by omega) | exact dec_true q2 | exact dec_false q1 | (rw [dec_true q3]; rfl) | exact dec_false (by omega); done)))
                | (apply W.condKT; exact rfl; (focus (first | exact dec_true (by omega) | exact dec_true q2 | exact dec_false q1 | (rw [dec_true q3]; rfl) | exact dec_false (by omega); done)))
                | (apply W.condKF; exact rfl; (focus (first | exact dec_true (by omega) | exact dec_true q2 | exact dec_false q1 | (rw [dec_true q3]; rfl) | exact dec_false (by omega); done)))
                | (show WL _ _ _ _ _ _ _; first | apply WL.nil | (apply WL.pev tOk; exact rfl; exact rfl; exact rfl) | (apply WL.load tOk; exact rfl; exact rfl; exact rfl; exact rfl; exact rfl; (first | assumption | (focus (apply Ext.cell; rotate_left; assumption; (exact extA); done)))) | (apply WL.index tOk; exact rfl; exact rfl; exact rfl; exact rfl; exact rfl; exact rfl; exact rfl; exact rfl; assumption; (exact extA); exact rfl; omega; assumption; intro b off h; have hcc := h; first | (obtain ⟨h1, h2, h3, h4, h5, h6, _⟩ := h) | (obtain ⟨h1, h2, h3, _⟩ := h) | (obtain ⟨h1, h2, _⟩ := h) | (obtain ⟨h1, _⟩ := h)) | (apply WL.add; exact rfl; exact rfl; exact rfl; exact rfl; omega) | (apply WL.sub; exact rfl; exact rfl; exact rfl; exact rfl; omega) | (apply WL.mul; exact rfl; exact rfl; exact rfl; exact rfl; omega) | (apply WL.quo; exact rfl; exact rfl; exact rfl; exact rfl; omega) | (apply WL.rem; exact rfl; exact rfl; exact rfl; exact rfl; omega) | (apply WL.loadA tOk; exact rfl; exact rfl; exact rfl; exact rfl; exact rfl; (first | assumption | (focus (apply Cells.ext; rotate_left; assumption; (exact extA); done))); exact rfl) | (apply WL.guardF; exact rfl; exact rfl) | (apply WL.gD; exact rfl; exact rfl; all_goals intro _) | (apply WL.gN; exact rfl; exact rfl; all_goals intro _) | (apply WL.gB; exact rfl; exact rfl; all_goals intro _))
                | (show Z _ _ _ _ _; first | apply Z.tail | apply Z.then_normal | apply Z.block_normal | apply Z.then_exit | apply Z.block_exit | apply Z.then_ret | apply Z.block_ret | (apply Z.block_other; exact rfl))
                | (show W _ _ _ _ _ _; first | apply W.seq | apply W.region | apply W.block | apply W.skip | apply W.ret | apply W.exit | (apply W.condT; exact rfl) | (apply W.condF; exact rfl) | (apply W.condD; exact rfl; all_goals intro _) | (apply W.condN; exact rfl; all_goals intro _) | (apply W.condB; exact rfl; all_goals intro _)))
              exact Z.again (k + 1, x) ⟨by show k + 1 ≤ _; omega, he⟩ (by show l.length - (k + 1) < l.length - k; omega) ⟨rfl, rfl, rfl, rfl, trivial⟩ rfl
            · repeat' (first
                | ((show WL _ _ _ (⟨_, .call ⟨.value (.func 100), _, _⟩, _, _, _, _⟩ :: _) _ _ _); apply WL.callS; exact rfl; exact rfl; exact rfl; exact rfl; exact ref_Lit _ _ vals x _ R)
                | ((show WL _ _ _ (⟨_, .call ⟨.value (.func 126), _, _⟩, _, _, _, _⟩ :: _) _ _ _); apply WL.callS; exact rfl; exact rfl; exact rfl; exact rfl; exact ref_Good x _)
                | (apply WL.gT; exact rfl; exact rfl; (focus (first | exact dec_true (by omega) | exact dec_true q2 | exact dec_false q1 | (rw [dec_true q3]; rfl) | exact dec_false (by omega); done)))
                | (apply WL.gF; exact rfl; exact rfl; (focus (first | exact dec_true (by omega) | exact dec_true q2 | exact dec_false q1 | (rw [dec_true q3]; rfl) | exact dec_false (by omega); done)))
                | (apply W.condKT; exact rfl; (focus (first | exact dec_true (by omega) | exact dec_true q2 | exact dec_false q1 | (rw [dec_true q3]; rfl) | exact dec_false (by omega); done)))
                | (apply W.condKF; exact rfl; (focus (first | exact dec_true (by omega) | exact dec_true q2 | exact dec_false q1 | (rw [dec_true q3]; rfl) | exact dec_false (by omega); done)))
                | (show WL _ _ _ _ _ _ _; first | apply WL.nil | (apply WL.pev tOk; exact rfl; exact rfl; exact rfl) | (apply WL.load tOk; exact rfl; exact rfl; exact rfl; exact rfl; exact rfl; (first | assumption | (focus (apply Ext.cell; rotate_left; assumption; (exact extA); done)))) | (apply WL.index tOk; exact rfl; exact rfl; exact rfl; exact rfl; exact rfl; exact rfl; exact rfl; exact rfl; assumption; (exact extA); exact rfl; omega; assumption; intro b off h; have hcc := h; first | (obtain ⟨h1, h2, h3, h4, h5, h6, _⟩ := h) | (obtain ⟨h1, h2, h3, _⟩ := h) | (obtain ⟨h1, h2, _⟩ := h) | (obtain ⟨h1, _⟩ := h)) | (apply WL.add; exact rfl; exact rfl; exact rfl; exact rfl; omega) | (apply WL.sub; exact rfl; exact rfl; exact rfl; exact rfl; omega) | (apply WL.mul; exact rfl; exact rfl; exact rfl; exact rfl; omega) | (apply WL.quo; exact rfl; exact rfl; exact rfl; exact rfl; omega) | (apply WL.rem; exact rfl; exact rfl; exact rfl; exact rfl; omega) | (apply WL.loadA tOk; exact rfl; exact rfl; exact rfl; exact rfl; exact rfl; (first | assumption | (focus (apply Cells.ext; rotate_left; assumption; (exact extA); done))); exact rfl) | (apply WL.guardF; exact rfl; exact rfl) | (apply WL.gD; exact rfl; exact rfl; all_goals intro _) | (apply WL.gN; exact rfl; exact rfl; all_goals intro _) | (apply WL.gB; exact rfl; exact rfl; all_goals intro _))
                | (show Z _ _ _ _ _; first | apply Z.tail | apply Z.then_normal | apply Z.block_normal | apply Z.then_exit | apply Z.block_exit | apply Z.then_ret | apply Z.block_ret | (apply Z.block_other; exact rfl))
                | (show W _ _ _ _ _ _; first | apply W.seq | apply W.region | apply W.block | apply W.skip | apply W.ret | apply W.exit | (apply W.condT; exact rfl) | (apply W.condF; exact rfl) | (apply W.condD; exact rfl; all_goals intro _) | (apply W.condN; exact rfl; all_goals intro _) | (apply W.condB; exact rfl; all_goals intro _)))
              exact Z.again (k + 1, x) ⟨by show k + 1 ≤ _; omega, he⟩ (by show l.length - (k + 1) < l.length - k; omega) ⟨rfl, rfl, rfl, rfl, trivial⟩ rfl
        · rw [if_pos (.inr ⟨q2, .inl q3⟩)] at he
          rw [← he]
          repeat' (first
            | ((show WL _ _ _ (⟨_, .call ⟨.value (.func 100), _, _⟩, _, _, _, _⟩ :: _) _ _ _); apply WL.callS; exact rfl; exact rfl; exact rfl; exact rfl; exact ref_Lit _ _ vals x _ R)
            | ((show WL _ _ _ (⟨_, .call ⟨.value (.func 126), _, _⟩, _, _, _, _⟩ :: _) _ _ _); apply WL.callS; exact rfl; exact rfl; exact rfl; exact rfl; exact ref_Good x _)
            | (apply WL.gT; exact rfl; exact rfl; (focus (first | exact dec_true (by omega) | exact dec_true q2 | exact dec_false q1 | (rw [dec_false q3]; rfl); done)))
            | (apply WL.gF; exact rfl; exact rfl; (focus (first | exact dec_true (by omega) | exact dec_true q2 | exact dec_false q1 | (rw [dec_false q3]; rfl); done)))
            | (apply W.condKT; exact rfl; (focus (first | exact dec_true (by omega) | exact dec_true q2 | exact dec_false q1 | (rw [dec_false q3]; rfl); done)))
            | (apply W.condKF; exact rfl; (focus (first | exact dec_true (by omega) | exact dec_true q2 | exact dec_false q1 | (rw [dec_false q3]; rfl); done)))
            | (show WL _ _ _ _ _ _ _; first | apply WL.nil | (apply WL.pev tOk; exact rfl; exact rfl; exact rfl) | (apply WL.load tOk; exact rfl; exact rfl; exact rfl; exact rfl; exact rfl; (first | assumption | (focus (apply Ext.cell; rotate_left; assumption; (exact extA); done)))) | (apply WL.index tOk; exact rfl; exact rfl; exact rfl; exact rfl; exact rfl; exact rfl; exact rfl; exact rfl; assumption; (exact extA); exact rfl; omega; assumption; intro b off h; have hcc := h; first | (obtain ⟨h1, h2, h3, h4, h5, h6, _⟩ := h) | (obtain ⟨h1, h2, h3, _⟩ := h) | (obtain ⟨h1, h2, _⟩ := h) | (obtain ⟨h1, _⟩ := h)) | (apply WL.add; exact rfl; exact rfl; exact rfl; exact rfl; omega) | (apply WL.sub; exact rfl; exact rfl; exact rfl; exact rfl; omega) | (apply WL.mul; exact rfl; exact rfl; exact rfl; exact rfl; omega) | (apply WL.quo; exact rfl; exact rfl; exact rfl; exact rfl; omega) | (apply WL.rem; exact rfl; exact rfl; exact rfl; exact rfl; omega) | (apply WL.loadA tOk; exact rfl; exact rfl; exact rfl; exact rfl; exact rfl; (first | assumption | (focus (apply Cells.ext; rotate_left; assumption; (exact extA); done))); exact rfl) | (apply WL.guardF; exact rfl; exact rfl) | (apply WL.gD; exact rfl; exact rfl; all_goals intro _) | (apply WL.gN; exact rfl; exact rfl; all_goals intro _) | (apply WL.gB; exact rfl; exact rfl; all_goals intro _))
            | (show Z _ _ _ _ _; first | apply Z.tail | apply Z.then_normal | apply Z.block_normal | apply Z.then_exit | apply Z.block_exit | apply Z.then_ret | apply Z.block_ret | (apply Z.block_other; exact rfl))
            | (show W _ _ _ _ _ _; first | apply W.seq | apply W.region | apply W.block | apply W.skip | apply W.ret | apply W.exit | (apply W.condT; exact rfl) | (apply W.condF; exact rfl) | (apply W.condD; exact rfl; all_goals intro _) | (apply W.condN; exact rfl; all_goals intro _) | (apply W.condB; exact rfl; all_goals intro _)))
          all_goals exact Z.body1 Try.results124 rfl fun m => ⟨rfl, m, rfl⟩
      · rw [if_neg (fun h => h.elim q1 (fun h => q2 h.1)), if_neg q2] at he
        repeat' (first
          | ((show WL _ _ _ (⟨_, .call ⟨.value (.func 100), _, _⟩, _, _, _, _⟩ :: _) _ _ _); apply WL.callS; exact rfl; exact rfl; exact rfl; exact rfl; exact ref_Lit _ _ vals x _ R)
          | ((show WL _ _ _ (⟨_, .call ⟨.value (.func 126), _, _⟩, _, _, _, _⟩ :: _) _ _ _); apply WL.callS; exact rfl; exact rfl; exact rfl; exact rfl; exact ref_Good x _)
          | (apply WL.gT; exact rfl; exact rfl; (focus (first | exact dec_true (by omega) | exact dec_false q2 | exact dec_false q1; done)))
          | (apply WL.gF; exact rfl; exact rfl; (focus (first | exact dec_true (by omega) | exact dec_false q2 | exact dec_false q1; done)))
          | (apply W.condKT; exact rfl; (focus (first | exact dec_true (by omega) | exact dec_false q2 | exact dec_false q1; done)))
          | (apply W.condKF; exact rfl; (focus (first | exact dec_true (by omega) | exact dec_false q2 | exact dec_false q1; done)))
          | (show WL _ _ _ _ _ _ _; first | apply WL.nil | (apply WL.pev tOk; exact rfl; exact rfl; exact rfl) | (apply WL.load tOk; exact rfl; exact rfl; exact rfl; exact rfl; exact rfl; (first | assumption | (focus (apply Ext.cell; rotate_left; assumption; (exact extA); done)))) | (apply WL.index tOk; exact rfl; exact rfl; exact rfl; exact rfl; exact rfl; exact rfl; exact rfl; exact rfl; assumption; (exact extA); exact rfl; omega; assumption; intro b off h; have hcc := h; first | (obtain ⟨h1, h2, h3, h4, h5, h6, _⟩ := h) | (obtain ⟨h1, h2, h3, _⟩ := h) | (obtain ⟨h1, h2, _⟩ := h) | (obtain ⟨h1, _⟩ := h)) | (apply WL.add; exact rfl; exact rfl; exact rfl; exact rfl; omega) | (apply WL.sub; exact rfl; exact rfl; exact rfl; exact rfl; omega) | (apply WL.mul; exact rfl; exact rfl; exact rfl; exact rfl; omega) | (apply WL.quo; exact rfl; exact rfl; exact rfl; exact rfl; omega) | (apply WL.rem; exact rfl; exact rfl; exact rfl; exact rfl; omega) | (apply WL.loadA tOk; exact rfl; exact rfl; exact rfl; exact rfl; exact rfl; (first | assumption | (focus (apply Cells.ext; rotate_left; assumption; (exact extA); done))); exact rfl) | (apply WL.guardF; exact rfl; exact rfl) | (apply WL.gD; exact rfl; exact rfl; all_goals intro _) | (apply WL.gN; exact rfl; exact rfl; all_goals intro _) | (apply WL.gB; exact rfl; exact rfl; all_goals intro _))
          | (show Z _ _ _ _ _; first | apply Z.tail | apply Z.then_normal | apply Z.block_normal | apply Z.then_exit | apply Z.block_exit | apply Z.then_ret | apply Z.block_ret | (apply Z.block_other; exact rfl))
          | (show W _ _ _ _ _ _; first | apply W.seq | apply W.region | apply W.block | apply W.skip | apply W.ret | apply W.exit | (apply W.condT; exact rfl) | (apply W.condF; exact rfl) | (apply W.condD; exact rfl; all_goals intro _) | (apply W.condN; exact rfl; all_goals intro _) | (apply W.condB; exact rfl; all_goals intro _)))
        exact Z.again (k + 1, left) ⟨by show k + 1 ≤ _; omega, he⟩ (by show l.length - (k + 1) < l.length - k; omega) ⟨rfl, rfl, rfl, rfl, trivial⟩ rfl
  · obtain rfl : k = l.length := by omega
    rw [List.drop_length, uC] at he
    rw [← he]
    repeat' (first
      | (apply WL.gT; exact rfl; exact rfl; (focus (exact dec_false (by omega); done)))
      | (apply WL.gF; exact rfl; exact rfl; (focus (exact dec_false (by omega); done)))
      | (apply W.condKT; exact rfl; (focus (exact dec_false (by omega); done)))
      | (apply W.condKF; exact rfl; (focus (exact dec_false (by omega); done)))
      | (show WL _ _ _ _ _ _ _; first | apply WL.nil | (apply WL.pev tOk; exact rfl; exact rfl; exact rfl) | (apply WL.load tOk; exact rfl; exact rfl; exact rfl; exact rfl; exact rfl; (first | assumption | (focus (apply Ext.cell; rotate_left; assumption; (exact extA); done)))) | (apply WL.index tOk; exact rfl; exact rfl; exact rfl; exact rfl; exact rfl; exact rfl; exact rfl; exact rfl; assumption; (exact extA); exact rfl; omega; assumption; intro b off h; have hcc := h; first | (obtain ⟨h1, h2, h3, h4, h5, h6, _⟩ := h) | (obtain ⟨h1, h2, h3, _⟩ := h) | (obtain ⟨h1, h2, _⟩ := h) | (obtain ⟨h1, _⟩ := h)) | (apply WL.add; exact rfl; exact rfl; exact rfl; exact rfl; omega) | (apply WL.sub; exact rfl; exact rfl; exact rfl; exact rfl; omega) | (apply WL.mul; exact rfl; exact rfl; exact rfl; exact rfl; omega) | (apply WL.quo; exact rfl; exact rfl; exact rfl; exact rfl; omega) | (apply WL.rem; exact rfl; exact rfl; exact rfl; exact rfl; omega) | (apply WL.loadA tOk; exact rfl; exact rfl; exact rfl; exact rfl; exact rfl; (first | assumption | (focus (apply Cells.ext; rotate_left; assumption; (exact extA); done))); exact rfl) | (apply WL.guardF; exact rfl; exact rfl) | (apply WL.gD; exact rfl; exact rfl; all_goals intro _) | (apply WL.gN; exact rfl; exact rfl; all_goals intro _) | (apply WL.gB; exact rfl; exact rfl; all_goals intro _))
      | (show Z _ _ _ _ _; first | apply Z.tail | apply Z.then_normal | apply Z.block_normal | apply Z.then_exit | apply Z.block_exit | apply Z.then_ret | apply Z.block_ret | (apply Z.block_other; exact rfl))
      | (show W _ _ _ _ _ _; first | apply W.seq | apply W.region | apply W.block | apply W.skip | apply W.ret | apply W.exit | (apply W.condT; exact rfl) | (apply W.condF; exact rfl) | (apply W.condD; exact rfl; all_goals intro _) | (apply W.condN; exact rfl; all_goals intro _) | (apply W.condB; exact rfl; all_goals intro _)))
    exact Z.body1 Try.results124 rfl fun m => ⟨rfl, m, rfl⟩

/-- What is left is of the clause, and Free. -/
theorem uC_mem {vals : List Int} : ∀ (l : List Int) (left : Int), uC vals left l = -1 ∨ uC vals left l = left ∨ (uC vals left l ∈ l ∧ lit3 vals (uC vals left l) = 2)
  | [], left => .inr (.inl rfl)
  | x :: r, left => by
    rw [uC]
    split
    · exact .inl rfl
    · split
      · rename_i h2
        rcases uC_mem r x with h | h | h
        · exact .inl h
        · exact .inr (.inr ⟨by rw [h]; simp, by rw [h]; exact h2⟩)
        · exact .inr (.inr ⟨by simp [h.1], h.2⟩)
      · rcases uC_mem r left with h | h | h
        · exact .inl h
        · exact .inr (.inl h)
        · exact .inr (.inr ⟨by simp [h.1], h.2⟩)
def setV (vals : List Int) (l : Int) : List Int := vals.set (l / 2).toNat (if l % 2 = 1 then 0 else 1)
theorem setV_len (vals : List Int) (l : Int) : (setV vals l).length = vals.length := by simp [setV]
theorem ref22_set (ra : Option Addr) (ca : Nat) (vals : List Int) (l : Int) (w w0 : World) (hX : Ext w0 w) (hO : Own 1 encI 3 w0.heap.size w ra ca vals) (hl : 0 ≤ l ∧ (l / 2).toNat < vals.length ∧ l ≤ 9223372036854775807) :
    Lt.Spec Try.prog 125 [.slice ra vals.length ca, .int .i64 l] w (fun v w' => v = .tuple #[] ∧ Ext w0 w' ∧ Own 1 encI 3 w0.heap.size w' ra ca (setV vals l)) := by
  obtain ⟨z, hz⟩ := getI vals hl.2.1
  have hzl := hl.2.2
  have hlv : ((vals.length : Nat) : Int) ≤ 9223372036854775807 := by have := (Own.row encI_ok hO).len; omega
  by_cases q1 : l % 2 = 1
  · have e : setV vals l = vals.set (l / 2).toNat 0 := by unfold setV; rw [if_pos q1]
    rw [e]
    refine Spec.of _ Try.func125 rfl Try.ntmps125 (by kernel_rfl) rfl ?_
    repeat' (first
      | (apply WL.gT; exact rfl; exact rfl; (focus (exact dec_true q1; done)))
      | (apply WL.gF; exact rfl; exact rfl; (focus (exact dec_true q1; done)))
      | (apply W.condKT; exact rfl; (focus (exact dec_true q1; done)))
      | (apply W.condKF; exact rfl; (focus (exact dec_true q1; done)))
      | (apply WL.indexO tOk; exact rfl; exact rfl; exact rfl; exact rfl; exact rfl; exact rfl; exact rfl; exact rfl; assumption; (exact extA); exact encI_ok; (first | exact rfl | (simp; done) | (simp [*]; done) | omega | (simp only [List.length_set]; omega)); omega; assumption; intro gb ha hc; cases ha; have hcc := hc; first | (obtain ⟨h1, h2, h3, _⟩ := hc) | (obtain ⟨h1, h2, _⟩ := hc) | (obtain ⟨h1, _⟩ := hc))
      | (apply WL.storeO tOk; exact rfl; exact rfl; exact rfl; exact rfl; assumption; (exact extA); exact rfl; exact rfl; exact rfl; exact encI_ok; assumption; exact rfl; (exact extA); intro w' hO hX' hU)
      | (show WL _ _ _ _ _ _ _; first | apply WL.nil | (apply WL.pev tOk; exact rfl; exact rfl; exact rfl) | (apply WL.load tOk; exact rfl; exact rfl; exact rfl; exact rfl; exact rfl; (first | assumption | (focus (apply Ext.cell; rotate_left; assumption; (exact extA); done)))) | (apply WL.index tOk; exact rfl; exact rfl; exact rfl; exact rfl; exact rfl; exact rfl; exact rfl; exact rfl; assumption; (exact extA); exact rfl; omega; assumption; intro b off h; have hcc := h; first | (obtain ⟨h1, h2, h3, h4, h5, h6, _⟩ := h) | (obtain ⟨h1, h2, h3, _⟩ := h) | (obtain ⟨h1, h2, _⟩ := h) | (obtain ⟨h1, _⟩ := h)) | (apply WL.add; exact rfl; exact rfl; exact rfl; exact rfl; omega) | (apply WL.sub; exact rfl; exact rfl; exact rfl; exact rfl; omega) | (apply WL.mul; exact rfl; exact rfl; exact rfl; exact rfl; omega) | (apply WL.quo; exact rfl; exact rfl; exact rfl; exact rfl; omega) | (apply WL.rem; exact rfl; exact rfl; exact rfl; exact rfl; omega) | (apply WL.loadA tOk; exact rfl; exact rfl; exact rfl; exact rfl; exact rfl; (first | assumption | (focus (apply Cells.ext; rotate_left; assumption; (exact extA); done))); exact rfl) | (apply WL.guardF; exact rfl; exact rfl) | (apply WL.gD; exact rfl; exact rfl; all_goals intro _) | (apply WL.gN; exact rfl; exact rfl; all_goals intro _) | (apply WL.gB; exact rfl; exact rfl; all_goals intro _))
      | (show Z _ _ _ _ _; first | apply Z.tail | apply Z.then_normal | apply Z.block_normal | apply Z.then_exit | apply Z.block_exit | apply Z.then_ret | apply Z.block_ret | (apply Z.block_other; exact rfl))
      | (show W _ _ _ _ _ _; first | apply W.seq | apply W.region | apply W.block | apply W.skip | apply W.ret | apply W.exit | (apply W.condT; exact rfl) | (apply W.condF; exact rfl) | (apply W.condD; exact rfl; all_goals intro _) | (apply W.condN; exact rfl; all_goals intro _) | (apply W.condB; exact rfl; all_goals intro _)))
    exact Z.body0n Try.results125 fun m => ⟨rfl, hX'.at m, hO.ext ((Ext.refl _).at m)⟩
  · have e : setV vals l = vals.set (l / 2).toNat 1 := by unfold setV; rw [if_neg q1]
    rw [e]
    refine Spec.of _ Try.func125 rfl Try.ntmps125 (by kernel_rfl) rfl ?_
    repeat' (first
      | (apply WL.gT; exact rfl; exact rfl; (focus (exact dec_false q1; done)))
      | (apply WL.gF; exact rfl; exact rfl; (focus (exact dec_false q1; done)))
      | (apply W.condKT; exact rfl; (focus (exact dec_false q1; done)))
      | (apply W.condKF; exact rfl; (focus (exact dec_false q1; done)))
      | (apply WL.indexO tOk; exact rfl; exact rfl; exact rfl; exact rfl; exact rfl; exact rfl; exact rfl; exact rfl; assumption; (exact extA); exact encI_ok; (first | exact rfl | (simp; done) | (simp [*]; done) | omega | (simp only [List.length_set]; omega)); omega; assumption; intro gb ha hc; cases ha; have hcc := hc; first | (obtain ⟨h1, h2, h3, _⟩ := hc) | (obtain ⟨h1, h2, _⟩ := hc) | (obtain ⟨h1, _⟩ := hc))
      | (apply WL.storeO tOk; exact rfl; exact rfl; exact rfl; exact rfl; assumption; (exact extA); exact rfl; exact rfl; exact rfl; exact encI_ok; assumption; exact rfl; (exact extA); intro w' hO hX' hU)
      | (show WL _ _ _ _ _ _ _; first | apply WL.nil | (apply WL.pev tOk; exact rfl; exact rfl; exact rfl) | (apply WL.load tOk; exact rfl; exact rfl; exact rfl; exact rfl; exact rfl; (first | assumption | (focus (apply Ext.cell; rotate_left; assumption; (exact extA); done)))) | (apply WL.index tOk; exact rfl; exact rfl; exact rfl; exact rfl; exact rfl; exact rfl; exact rfl; exact rfl; assumption; (exact extA); exact rfl; omega; assumption; intro b off h; have hcc := h; first | (obtain ⟨h1, h2, h3, h4, h5, h6, _⟩ := h) | (obtain ⟨h1, h2, h3, _⟩ := h) | (obtain ⟨h1, h2, _⟩ := h) | (obtain ⟨h1, _⟩ := h)) | (apply WL.add; exact rfl; exact rfl; exact rfl; exact rfl; omega) | (apply WL.sub; exact rfl; exact rfl; exact rfl; exact rfl; omega) | (apply WL.mul; exact rfl; exact rfl; exact rfl; exact rfl; omega) | (apply WL.quo; exact rfl; exact rfl; exact rfl; exact rfl; omega) | (apply WL.rem; exact rfl; exact rfl; exact rfl; exact rfl; omega) | (apply WL.loadA tOk; exact rfl; exact rfl; exact rfl; exact rfl; exact rfl; (first | assumption | (focus (apply Cells.ext; rotate_left; assumption; (exact extA); done))); exact rfl) | (apply WL.guardF; exact rfl; exact rfl) | (apply WL.gD; exact rfl; exact rfl; all_goals intro _) | (apply WL.gN; exact rfl; exact rfl; all_goals intro _) | (apply WL.gB; exact rfl; exact rfl; all_goals intro _))
      | (show Z _ _ _ _ _; first | apply Z.tail | apply Z.then_normal | apply Z.block_normal | apply Z.then_exit | apply Z.block_exit | apply Z.then_ret | apply Z.block_ret | (apply Z.block_other; exact rfl))
      | (show W _ _ _ _ _ _; first | apply W.seq | apply W.region | apply W.block | apply W.skip | apply W.ret | apply W.exit | (apply W.condT; exact rfl) | (apply W.condF; exact rfl) | (apply W.condD; exact rfl; all_goals intro _) | (apply W.condN; exact rfl; all_goals intro _) | (apply W.condB; exact rfl; all_goals intro _)))
    exact Z.body0n Try.results125 fun m => ⟨rfl, hX'.at m, hO.ext ((Ext.refl _).at m)⟩
end Go.Proofs.Ytmaekaflpbenmaa
namespace Go.Proofs.Ytmaekaflpbenmaa
open Go Go.Lt Go.RowKit
set_option linter.unusedVariables false
set_option linter.unusedSimpArgs false

/-- A literal's value, of a list whose variable 0 is 0. -/
def tl (s : List Int) (x : Int) : Int := if x % 2 = 1 then not3 (val3 (s.getD (x / 2).toNat 0)) else val3 (s.getD (x / 2).toNat 0)
theorem lit3_tl {s : List Int} (h0 : s.getD 0 0 = 0) {x : Int} (hx : 0 ≤ x) (hl : (x / 2).toNat < s.length) (hm : x ≤ 33554433) : lit3 s x = tl s x := by
  have hg : goodL x := ⟨hx, hm⟩
  have hv : varL x = x / 2 := by unfold varL; rw [if_pos hg]
  have hb : lit3v s x = val3 (s.getD (x / 2).toNat 0) := by
    unfold lit3v
    rw [hv]
    by_cases h : x / 2 = 0
    · rw [if_pos h, show (x / 2).toNat = 0 by omega, h0]; rfl
    · rw [if_neg h, if_pos (by omega)]
  unfold lit3 tl
  by_cases h1 : x % 2 = 1
  · rw [if_pos ⟨hg, h1⟩, if_pos h1, hb]
  · rw [if_neg (fun h => h1 h.2), if_neg h1, hb]
theorem val3_three (a : Int) : val3 a = 0 ∨ val3 a = 1 ∨ val3 a = 2 := by unfold val3; split <;> omega
end Go.Proofs.Ytmaekaflpbenmaa
namespace Go.Proofs.Ytmaekaflpbenmaa
open Go Go.Lt Go.RowKit
set_option linter.unusedVariables false
set_option linter.unusedSimpArgs false

structure OkV (m : Nat) (out : List Int) : Prop where
  len : out.length = m
  head : out.getD 0 0 = 0
  three : ∀ (i : Nat) (z : Int), out[i]? = some z → z = 0 ∨ z = 1 ∨ z = 2
def cnt2 : List Int → Nat
  | [] => 0
  | z :: r => (if z = 2 then 1 else 0) + cnt2 r
theorem cnt2_set : ∀ (l : List Int) (i : Nat) (y : Int), l[i]? = some 2 → y ≠ 2 → cnt2 (l.set i y) + 1 = cnt2 l
  | [], i, y, h, _ => by simp at h
  | z :: r, 0, y, h, hy => by
    simp only [List.getElem?_cons_zero, Option.some.injEq] at h
    subst h
    rw [List.set_cons_zero, cnt2, cnt2, if_neg hy, if_pos rfl]; omega
  | z :: r, i + 1, y, h, hy => by
    simp only [List.getElem?_cons_succ] at h
    have ih := cnt2_set r i y h hy
    rw [List.set_cons_succ, cnt2, cnt2]; omega
theorem OkV.two {m : Nat} {out : List Int} (h : OkV m out) {l : Int} (h0 : 0 ≤ l) (hl : (l / 2).toNat < m) (hm : l ≤ 33554433) (h2 : lit3 out l = 2) : out[(l / 2).toNat]? = some 2 := by
  obtain ⟨z, hz⟩ := getI out (show (l / 2).toNat < out.length by rw [h.len]; exact hl)
  rw [lit3_tl h.head h0 (by rw [h.len]; exact hl) hm] at h2
  unfold tl at h2
  rw [getD_of hz] at h2
  have h3 := h.three _ _ hz
  rw [hz]
  rcases h3 with rfl | rfl | rfl
  · split at h2 <;> simp [not3, val3] at h2
  · split at h2 <;> simp [not3, val3] at h2
  · rfl
theorem OkV.set {m : Nat} {out : List Int} (h : OkV m out) {l : Int} (h1 : 1 < l) : OkV m (setV out l) := by
  refine ⟨by rw [setV_len]; exact h.len, ?_, fun i z hz => ?_⟩
  · have : ∀ y : Int, (out.set (l / 2).toNat y).getD 0 0 = out.getD 0 0 := fun y => by
      simp only [List.getD]
      rw [List.getElem?_set_ne (by omega)]
    unfold setV; rw [this]; exact h.head
  · unfold setV at hz
    rw [List.getElem?_set] at hz
    split at hz
    · split at hz
      · cases hz; split <;> omega
      · cases hz
    · exact h.three i z hz
def goodC (out : List Int) (c : List Int) : Prop := vC out 0 c ≠ 0 ∧ ¬ 1 < uC out (-1) c

end Go.Proofs.Ytmaekaflpbenmaa
namespace Go.Proofs.Ytmaekaflpbenmaa
open Go Go.Lt Go.RowKit
set_option linter.unusedVariables false
set_option linter.unusedSimpArgs false

def clL (v : Int) (r : Nat) (x : Int × Int) : List Int :=
  if x.1 < 0 then [] else if r = 0 then [2 * v + 1, x.1] else if r = 1 then [2 * v + 1, x.2] else [2 * v, Lt.xor1 x.1, Lt.xor1 x.2]
set_option maxHeartbeats 4000000 in
theorem ref22_Clause (ra : Option Addr) (ca : Nat) (n : List (Int × Int)) (k r : Nat) (why : Int) (x : Int × Int) (w : World) (R : Row 2 encN w ra n) (hg : GoodNet n) (hn : n.length ≤ 1048576) (hx : n[k]? = some x) (hr : r < 3) (hw : why = 3 * ((k : Int) + 1) + r) :
    Lt.Spec Try.prog 51 [.slice ra n.length ca, .int .i64 why] w (IsFresh 1 encI 3 w (clL (why / 3) r x)) := by
  have hk := lt_of_get hx
  have hx' : n[(why / 3 - 1).toNat]? = some x := by rw [show (why / 3 - 1).toNat = k by omega]; exact hx
  by_cases hi : x.1 < 0
  · rw [clL, if_pos hi]
    refine Spec.of _ Try.func51 rfl Try.ntmps51 (by kernel_rfl) rfl ?_
    repeat' (first
      | (apply WL.gT; exact rfl; exact rfl; (focus (first | exact dec_true hi | exact dec_false (by omega); done)))
      | (apply WL.gF; exact rfl; exact rfl; (focus (first | exact dec_true hi | exact dec_false (by omega); done)))
      | (apply W.condKT; exact rfl; (focus (first | exact dec_true hi | exact dec_false (by omega); done)))
      | (apply W.condKF; exact rfl; (focus (first | exact dec_true hi | exact dec_false (by omega); done)))
      | (show WL _ _ _ _ _ _ _; first | apply WL.nil | (apply WL.pev tOk; exact rfl; exact rfl; exact rfl) | (apply WL.load tOk; exact rfl; exact rfl; exact rfl; exact rfl; exact rfl; (first | assumption | (focus (apply Ext.cell; rotate_left; assumption; (exact extA); done)))) | (apply WL.index tOk; exact rfl; exact rfl; exact rfl; exact rfl; exact rfl; exact rfl; exact rfl; exact rfl; assumption; (exact extA); exact rfl; omega; assumption; intro b off h; have hcc := h; first | (obtain ⟨h1, h2, h3, h4, h5, h6, _⟩ := h) | (obtain ⟨h1, h2, h3, _⟩ := h) | (obtain ⟨h1, h2, _⟩ := h) | (obtain ⟨h1, _⟩ := h)) | (apply WL.add; exact rfl; exact rfl; exact rfl; exact rfl; omega) | (apply WL.sub; exact rfl; exact rfl; exact rfl; exact rfl; omega) | (apply WL.mul; exact rfl; exact rfl; exact rfl; exact rfl; omega) | (apply WL.quo; exact rfl; exact rfl; exact rfl; exact rfl; omega) | (apply WL.rem; exact rfl; exact rfl; exact rfl; exact rfl; omega) | (apply WL.loadA tOk; exact rfl; exact rfl; exact rfl; exact rfl; exact rfl; (first | assumption | (focus (apply Cells.ext; rotate_left; assumption; (exact extA); done))); exact rfl) | (apply WL.guardF; exact rfl; exact rfl) | (apply WL.gD; exact rfl; exact rfl; all_goals intro _) | (apply WL.gN; exact rfl; exact rfl; all_goals intro _) | (apply WL.gB; exact rfl; exact rfl; all_goals intro _))
      | (show Z _ _ _ _ _; first | apply Z.tail | apply Z.then_normal | apply Z.block_normal | apply Z.then_exit | apply Z.block_exit | apply Z.then_ret | apply Z.block_ret | (apply Z.block_other; exact rfl))
      | (show W _ _ _ _ _ _; first | apply W.seq | apply W.region | apply W.block | apply W.skip | apply W.ret | apply W.exit | (apply W.condT; exact rfl) | (apply W.condF; exact rfl) | (apply W.condD; exact rfl; all_goals intro _) | (apply W.condN; exact rfl; all_goals intro _) | (apply W.condB; exact rfl; all_goals intro _)))
    exact Z.body1 Try.results51 rfl fun m => ⟨(Ext.refl _).at m, none, 0, rfl, Own.nil⟩
  · have hgx := hg.gate hx (by omega)
    rw [clL, if_neg hi]
    by_cases r0 : r = 0
    · rw [if_pos r0]
      refine Spec.of _ Try.func51 rfl Try.ntmps51 (by kernel_rfl) rfl ?_
      repeat' (first
        | (apply WL.gT; exact rfl; exact rfl; (focus (first | exact dec_false hi | exact dec_false (by omega) | exact dec_true (by omega); done)))
        | (apply WL.gF; exact rfl; exact rfl; (focus (first | exact dec_false hi | exact dec_false (by omega) | exact dec_true (by omega); done)))
        | (apply QL.gT; exact rfl; exact rfl; (focus (first | exact dec_false hi | exact dec_false (by omega) | exact dec_true (by omega); done)))
        | (apply QL.gF; exact rfl; exact rfl; (focus (first | exact dec_false hi | exact dec_false (by omega) | exact dec_true (by omega); done)))
        | (apply W.condKT; exact rfl; (focus (first | exact dec_false hi | exact dec_false (by omega) | exact dec_true (by omega); done)))
        | (apply W.condKF; exact rfl; (focus (first | exact dec_false hi | exact dec_false (by omega) | exact dec_true (by omega); done)))
        | (apply WL.lit tOk; exact rfl; exact rfl; exact rfl; exact rfl; exact rfl; exact rfl; (first | exact rfl | kernel_rfl | (simp [Instr.fill, catCells]; done)); exact rfl; intro gb w' hb hge hc hx; have hO := Own.of_block ([2 * (why / 3) + 1, x.1]) encI_ok hb hge rfl)
        | (show WL _ _ _ _ _ _ _; first | apply WL.nil | (apply WL.pev tOk; exact rfl; exact rfl; exact rfl) | (apply WL.load tOk; exact rfl; exact rfl; exact rfl; exact rfl; exact rfl; (first | assumption | (focus (apply Ext.cell; rotate_left; assumption; (exact extA); done)))) | (apply WL.index tOk; exact rfl; exact rfl; exact rfl; exact rfl; exact rfl; exact rfl; exact rfl; exact rfl; assumption; (exact extA); exact rfl; omega; assumption; intro b off h; have hcc := h; first | (obtain ⟨h1, h2, h3, h4, h5, h6, _⟩ := h) | (obtain ⟨h1, h2, h3, _⟩ := h) | (obtain ⟨h1, h2, _⟩ := h) | (obtain ⟨h1, _⟩ := h)) | (apply WL.add; exact rfl; exact rfl; exact rfl; exact rfl; omega) | (apply WL.sub; exact rfl; exact rfl; exact rfl; exact rfl; omega) | (apply WL.mul; exact rfl; exact rfl; exact rfl; exact rfl; omega) | (apply WL.quo; exact rfl; exact rfl; exact rfl; exact rfl; omega) | (apply WL.rem; exact rfl; exact rfl; exact rfl; exact rfl; omega) | (apply WL.loadA tOk; exact rfl; exact rfl; exact rfl; exact rfl; exact rfl; (first | assumption | (focus (apply Cells.ext; rotate_left; assumption; (exact extA); done))); exact rfl) | (apply WL.guardF; exact rfl; exact rfl) | (apply WL.gD; exact rfl; exact rfl; all_goals intro _) | (apply WL.gN; exact rfl; exact rfl; all_goals intro _) | (apply WL.gB; exact rfl; exact rfl; all_goals intro _))
        | (show QL _ _ _ _ _ _ _; first | apply QL.nil | (apply QL.pev tOk; exact rfl; exact rfl; exact rfl) | (apply QL.load tOk; exact rfl; exact rfl; exact rfl; exact rfl; exact rfl; (first | assumption | (focus (apply Ext.cell; rotate_left; assumption; (exact extA); done)))) | (apply QL.index tOk; exact rfl; exact rfl; exact rfl; exact rfl; exact rfl; exact rfl; exact rfl; exact rfl; assumption; (exact extA); exact rfl; omega; assumption; intro b off h; have hcc := h; first | (obtain ⟨h1, h2, h3, h4, h5, h6, _⟩ := h) | (obtain ⟨h1, h2, h3, _⟩ := h) | (obtain ⟨h1, h2, _⟩ := h) | (obtain ⟨h1, _⟩ := h)) | (apply QL.add; exact rfl; exact rfl; exact rfl; exact rfl; omega) | (apply QL.sub; exact rfl; exact rfl; exact rfl; exact rfl; omega) | (apply QL.mul; exact rfl; exact rfl; exact rfl; exact rfl; omega) | (apply QL.quo; exact rfl; exact rfl; exact rfl; exact rfl; omega) | (apply QL.rem; exact rfl; exact rfl; exact rfl; exact rfl; omega) | (apply QL.loadA tOk; exact rfl; exact rfl; exact rfl; exact rfl; exact rfl; (first | assumption | (focus (apply Cells.ext; rotate_left; assumption; (exact extA); done))); exact rfl) | (apply QL.guardF; exact rfl; exact rfl) | (apply QL.gD; exact rfl; exact rfl; all_goals intro _) | (apply QL.gN; exact rfl; exact rfl; all_goals intro _) | (apply QL.gB; exact rfl; exact rfl; all_goals intro _))
        | (show Z _ _ _ _ _; first | apply Z.tail | apply Z.then_normal | apply Z.block_normal | apply Z.then_exit | apply Z.block_exit | apply Z.then_ret | apply Z.block_ret | (apply Z.block_other; exact rfl))
        | (show W _ _ _ _ _ _; first | apply W.seq | apply W.region | apply W.block | apply W.skip | apply W.ret | apply W.exit | (apply W.condT; exact rfl) | (apply W.condF; exact rfl) | (apply W.condD; exact rfl; all_goals intro _) | (apply W.condN; exact rfl; all_goals intro _) | (apply W.condB; exact rfl; all_goals intro _) | (apply W.regionD tMix; kernel_rfl)))
      exact Z.body1 Try.results51 rfl fun m => ⟨hx.at m, _, _, rfl, hO.ext ((Ext.refl _).at m)⟩
    · rw [if_neg r0]
      by_cases r1 : r = 1
      · rw [if_pos r1]
        refine Spec.of _ Try.func51 rfl Try.ntmps51 (by kernel_rfl) rfl ?_
        repeat' (first
          | (apply WL.gT; exact rfl; exact rfl; (focus (first | exact dec_false hi | exact dec_false (by omega) | exact dec_true (by omega); done)))
          | (apply WL.gF; exact rfl; exact rfl; (focus (first | exact dec_false hi | exact dec_false (by omega) | exact dec_true (by omega); done)))
          | (apply QL.gT; exact rfl; exact rfl; (focus (first | exact dec_false hi | exact dec_false (by omega) | exact dec_true (by omega); done)))
          | (apply QL.gF; exact rfl; exact rfl; (focus (first | exact dec_false hi | exact dec_false (by omega) | exact dec_true (by omega); done)))
          | (apply W.condKT; exact rfl; (focus (first | exact dec_false hi | exact dec_false (by omega) | exact dec_true (by omega); done)))
          | (apply W.condKF; exact rfl; (focus (first | exact dec_false hi | exact dec_false (by omega) | exact dec_true (by omega); done)))
          | (apply WL.lit tOk; exact rfl; exact rfl; exact rfl; exact rfl; exact rfl; exact rfl; (first | exact rfl | kernel_rfl | (simp [Instr.fill, catCells]; done)); exact rfl; intro gb w' hb hge hc hx; have hO := Own.of_block ([2 * (why / 3) + 1, x.2]) encI_ok hb hge rfl)
          | (show WL _ _ _ _ _ _ _; first | apply WL.nil | (apply WL.pev tOk; exact rfl; exact rfl; exact rfl) | (apply WL.load tOk; exact rfl; exact rfl; exact rfl; exact rfl; exact rfl; (first | assumption | (focus (apply Ext.cell; rotate_left; assumption; (exact extA); done)))) | (apply WL.index tOk; exact rfl; exact rfl; exact rfl; exact rfl; exact rfl; exact rfl; exact rfl; exact rfl; assumption; (exact extA); exact rfl; omega; assumption; intro b off h; have hcc := h; first | (obtain ⟨h1, h2, h3, h4, h5, h6, _⟩ := h) | (obtain ⟨h1, h2, h3, _⟩ := h) | (obtain ⟨h1, h2, _⟩ := h) | (obtain ⟨h1, _⟩ := h)) | (apply WL.add; exact rfl; exact rfl; exact rfl; exact rfl; omega) | (apply WL.sub; exact rfl; exact rfl; exact rfl; exact rfl; omega) | (apply WL.mul; exact rfl; exact rfl; exact rfl; exact rfl; omega) | (apply WL.quo; exact rfl; exact rfl; exact rfl; exact rfl; omega) | (apply WL.rem; exact rfl; exact rfl; exact rfl; exact rfl; omega) | (apply WL.loadA tOk; exact rfl; exact rfl; exact rfl; exact rfl; exact rfl; (first | assumption | (focus (apply Cells.ext; rotate_left; assumption; (exact extA); done))); exact rfl) | (apply WL.guardF; exact rfl; exact rfl) | (apply WL.gD; exact rfl; exact rfl; all_goals intro _) | (apply WL.gN; exact rfl; exact rfl; all_goals intro _) | (apply WL.gB; exact rfl; exact rfl; all_goals intro _))
          | (show QL _ _ _ _ _ _ _; first | apply QL.nil | (apply QL.pev tOk; exact rfl; exact rfl; exact rfl) | (apply QL.load tOk; exact rfl; exact rfl; exact rfl; exact rfl; exact rfl; (first | assumption | (focus (apply Ext.cell; rotate_left; assumption; (exact extA); done)))) | (apply QL.index tOk; exact rfl; exact rfl; exact rfl; exact rfl; exact rfl; exact rfl; exact rfl; exact rfl; assumption; (exact extA); exact rfl; omega; assumption; intro b off h; have hcc := h; first | (obtain ⟨h1, h2, h3, h4, h5, h6, _⟩ := h) | (obtain ⟨h1, h2, h3, _⟩ := h) | (obtain ⟨h1, h2, _⟩ := h) | (obtain ⟨h1, _⟩ := h)) | (apply QL.add; exact rfl; exact rfl; exact rfl; exact rfl; omega) | (apply QL.sub; exact rfl; exact rfl; exact rfl; exact rfl; omega) | (apply QL.mul; exact rfl; exact rfl; exact rfl; exact rfl; omega) | (apply QL.quo; exact rfl; exact rfl; exact rfl; exact rfl; omega) | (apply QL.rem; exact rfl; exact rfl; exact rfl; exact rfl; omega) | (apply QL.loadA tOk; exact rfl; exact rfl; exact rfl; exact rfl; exact rfl; (first | assumption | (focus (apply Cells.ext; rotate_left; assumption; (exact extA); done))); exact rfl) | (apply QL.guardF; exact rfl; exact rfl) | (apply QL.gD; exact rfl; exact rfl; all_goals intro _) | (apply QL.gN; exact rfl; exact rfl; all_goals intro _) | (apply QL.gB; exact rfl; exact rfl; all_goals intro _))
          | (show Z _ _ _ _ _; first | apply Z.tail | apply Z.then_normal | apply Z.block_normal | apply Z.then_exit | apply Z.block_exit | apply Z.then_ret | apply Z.block_ret | (apply Z.block_other; exact rfl))
          | (show W _ _ _ _ _ _; first | apply W.seq | apply W.region | apply W.block | apply W.skip | apply W.ret | apply W.exit | (apply W.condT; exact rfl) | (apply W.condF; exact rfl) | (apply W.condD; exact rfl; all_goals intro _) | (apply W.condN; exact rfl; all_goals intro _) | (apply W.condB; exact rfl; all_goals intro _) | (apply W.regionD tMix; kernel_rfl)))
        exact Z.body1 Try.results51 rfl fun m => ⟨hx.at m, _, _, rfl, hO.ext ((Ext.refl _).at m)⟩
      · rw [if_neg r1]
        refine Spec.of _ Try.func51 rfl Try.ntmps51 (by kernel_rfl) rfl ?_
        repeat' (first
          | (apply WL.gT; exact rfl; exact rfl; (focus (first | exact dec_false hi | exact dec_false (by omega) | exact dec_true (by omega); done)))
          | (apply WL.gF; exact rfl; exact rfl; (focus (first | exact dec_false hi | exact dec_false (by omega) | exact dec_true (by omega); done)))
          | (apply QL.gT; exact rfl; exact rfl; (focus (first | exact dec_false hi | exact dec_false (by omega) | exact dec_true (by omega); done)))
          | (apply QL.gF; exact rfl; exact rfl; (focus (first | exact dec_false hi | exact dec_false (by omega) | exact dec_true (by omega); done)))
          | (apply W.condKT; exact rfl; (focus (first | exact dec_false hi | exact dec_false (by omega) | exact dec_true (by omega); done)))
          | (apply W.condKF; exact rfl; (focus (first | exact dec_false hi | exact dec_false (by omega) | exact dec_true (by omega); done)))
          | ((show WL _ _ _ (⟨_, .call ⟨.value (.func 104), _, _⟩, _, _, _, _⟩ :: _) _ _ _); apply WL.callS; exact rfl; exact rfl; exact rfl; exact rfl; exact ref02_Not x.1 _ (by omega))
          | ((show QL _ _ _ _ (⟨_, .call ⟨.value (.func 104), _, _⟩, _, _, _, _⟩ :: _) _ _); apply QL.callS; exact rfl; exact rfl; exact rfl; exact rfl; exact ref02_Not x.1 _ (by omega))
          | ((show WL _ _ _ (⟨_, .call ⟨.value (.func 104), _, _⟩, _, _, _, _⟩ :: _) _ _ _); apply WL.callS; exact rfl; exact rfl; exact rfl; exact rfl; exact ref02_Not x.2 _ (by omega))
          | ((show QL _ _ _ _ (⟨_, .call ⟨.value (.func 104), _, _⟩, _, _, _, _⟩ :: _) _ _); apply QL.callS; exact rfl; exact rfl; exact rfl; exact rfl; exact ref02_Not x.2 _ (by omega))
          | (apply WL.lit tOk; exact rfl; exact rfl; exact rfl; exact rfl; exact rfl; exact rfl; (first | exact rfl | kernel_rfl | (simp [Instr.fill, catCells]; done)); exact rfl; intro gb w' hb hge hc hx; have hO := Own.of_block ([2 * (why / 3), Lt.xor1 x.1, Lt.xor1 x.2]) encI_ok hb hge rfl)
          | (show WL _ _ _ _ _ _ _; first | apply WL.nil | (apply WL.pev tOk; exact rfl; exact rfl; exact rfl) | (apply WL.load tOk; exact rfl; exact rfl; exact rfl; exact rfl; exact rfl; (first | assumption | (focus (apply Ext.cell; rotate_left; assumption; (exact extA); done)))) | (apply WL.index tOk; exact rfl; exact rfl; exact rfl; exact rfl; exact rfl; exact rfl; exact rfl; exact rfl; assumption; (exact extA); exact rfl; omega; assumption; intro b off h; have hcc := h; first | (obtain ⟨h1, h2, h3, h4, h5, h6, _⟩ := h) | (obtain ⟨h1, h2, h3, _⟩ := h) | (obtain ⟨h1, h2, _⟩ := h) | (obtain ⟨h1, _⟩ := h)) | (apply WL.add; exact rfl; exact rfl; exact rfl; exact rfl; omega) | (apply WL.sub; exact rfl; exact rfl; exact rfl; exact rfl; omega) | (apply WL.mul; exact rfl; exact rfl; exact rfl; exact rfl; omega) | (apply WL.quo; exact rfl; exact rfl; exact rfl; exact rfl; omega) | (apply WL.rem; exact rfl; exact rfl; exact rfl; exact rfl; omega) | (apply WL.loadA tOk; exact rfl; exact rfl; exact rfl; exact rfl; exact rfl; (first | assumption | (focus (apply Cells.ext; rotate_left; assumption; (exact extA); done))); exact rfl) | (apply WL.guardF; exact rfl; exact rfl) | (apply WL.gD; exact rfl; exact rfl; all_goals intro _) | (apply WL.gN; exact rfl; exact rfl; all_goals intro _) | (apply WL.gB; exact rfl; exact rfl; all_goals intro _))
          | (show QL _ _ _ _ _ _ _; first | apply QL.nil | (apply QL.pev tOk; exact rfl; exact rfl; exact rfl) | (apply QL.load tOk; exact rfl; exact rfl; exact rfl; exact rfl; exact rfl; (first | assumption | (focus (apply Ext.cell; rotate_left; assumption; (exact extA); done)))) | (apply QL.index tOk; exact rfl; exact rfl; exact rfl; exact rfl; exact rfl; exact rfl; exact rfl; exact rfl; assumption; (exact extA); exact rfl; omega; assumption; intro b off h; have hcc := h; first | (obtain ⟨h1, h2, h3, h4, h5, h6, _⟩ := h) | (obtain ⟨h1, h2, h3, _⟩ := h) | (obtain ⟨h1, h2, _⟩ := h) | (obtain ⟨h1, _⟩ := h)) | (apply QL.add; exact rfl; exact rfl; exact rfl; exact rfl; omega) | (apply QL.sub; exact rfl; exact rfl; exact rfl; exact rfl; omega) | (apply QL.mul; exact rfl; exact rfl; exact rfl; exact rfl; omega) | (apply QL.quo; exact rfl; exact rfl; exact rfl; exact rfl; omega) | (apply QL.rem; exact rfl; exact rfl; exact rfl; exact rfl; omega) | (apply QL.loadA tOk; exact rfl; exact rfl; exact rfl; exact rfl; exact rfl; (first | assumption | (focus (apply Cells.ext; rotate_left; assumption; (exact extA); done))); exact rfl) | (apply QL.guardF; exact rfl; exact rfl) | (apply QL.gD; exact rfl; exact rfl; all_goals intro _) | (apply QL.gN; exact rfl; exact rfl; all_goals intro _) | (apply QL.gB; exact rfl; exact rfl; all_goals intro _))
          | (show Z _ _ _ _ _; first | apply Z.tail | apply Z.then_normal | apply Z.block_normal | apply Z.then_exit | apply Z.block_exit | apply Z.then_ret | apply Z.block_ret | (apply Z.block_other; exact rfl))
          | (show W _ _ _ _ _ _; first | apply W.seq | apply W.region | apply W.block | apply W.skip | apply W.ret | apply W.exit | (apply W.condT; exact rfl) | (apply W.condF; exact rfl) | (apply W.condD; exact rfl; all_goals intro _) | (apply W.condN; exact rfl; all_goals intro _) | (apply W.condB; exact rfl; all_goals intro _) | (apply W.regionD tMix; kernel_rfl)))
        exact Z.body1 Try.results51 rfl fun m => ⟨hx.at m, _, _, rfl, hO.ext ((Ext.refl _).at m)⟩
end Go.Proofs.Ytmaekaflpbenmaa
namespace Go.Proofs.Ytmaekaflpbenmaa
open Go Go.Lt Go.RowKit
set_option linter.unusedVariables false
set_option linter.unusedSimpArgs false

abbrev encRI : RowV Int → List Value := encRow
theorem encRI_ok : Enc 1 encRI := encRow_ok
structure RI (B m : Nat) (w : World) (a : Option Addr) (cap : Nat) (rs : List (RowV Int)) : Prop where
  outer : Own 1 encRI 23 B w a cap rs
  inner : ∀ q ∈ rs, (∃ B', B ≤ B' ∧ Own 1 encI 3 B' w q.1 q.2.1 q.2.2) ∧ (blk q.1 = none ∨ blk q.1 ≠ blk a)
  lits : ∀ q ∈ rs, ∀ x ∈ q.2.2, 0 ≤ x ∧ x ≤ 2 * (m : Int) + 1
theorem RI.ext {B m : Nat} {w w1 : World} {a : Option Addr} {cap : Nat} {rs : List (RowV Int)} (h : RI B m w a cap rs) (hx : Ext w w1) : RI B m w1 a cap rs :=
  ⟨h.outer.ext hx, fun q hq => ⟨let ⟨B', h1, h2⟩ := (h.inner q hq).1; ⟨B', h1, h2.ext hx⟩, (h.inner q hq).2⟩, h.lits⟩
theorem RI.push {B m : Nat} {w w1 w2 w3 : World} {a a' : Option Addr} {cap cap' : Nat} {rs : List (RowV Int)} {q : RowV Int} (h : RI B m w a cap rs) (hx : Ext w w1) (hq : Own 1 encI 3 w.heap.size w1 q.1 q.2.1 q.2.2)
    (hl : ∀ x ∈ q.2.2, 0 ≤ x ∧ x ≤ 2 * (m : Int) + 1) (hB : B ≤ w.heap.size) (hx2 : Ext w1 w2) (hU : Upd B a w2 w3) (hF : blk a' = blk a ∨ ∃ k, blk a' = some k ∧ w2.heap.size ≤ k) (hO : Own 1 encRI 23 B w3 a' cap' (rs ++ [q])) : RI B m w3 a' cap' (rs ++ [q]) := by
  have h2 := h.ext (hx.trans hx2)
  have hq2 := hq.ext hx2
  have hqa : blk q.1 = none ∨ blk q.1 ≠ blk a := by
    cases hb : blk q.1 with
    | none => exact .inl rfl
    | some k =>
      refine .inr fun he => ?_
      have e1 := (hq.blk_lt k hb).1
      have e2 := (h.outer.blk_lt k he.symm).2
      omega
  have key : ∀ (B' : Nat) (p : RowV Int), Own 1 encI 3 B' w2 p.1 p.2.1 p.2.2 → (blk p.1 = none ∨ blk p.1 ≠ blk a) → Own 1 encI 3 B' w3 p.1 p.2.1 p.2.2 ∧ (blk p.1 = none ∨ blk p.1 ≠ blk a') := fun B' p ho hn => by
    refine ⟨hU.own ho hn, ?_⟩
    rcases hF with hF | ⟨k, hk, hle⟩
    · rw [hF]; exact hn
    · cases hb : blk p.1 with
      | none => exact .inl rfl
      | some b =>
        refine .inr fun he => ?_
        rw [hk] at he
        have h1 := (ho.blk_lt b hb).2
        have h2 := Option.some.inj he
        omega
  refine ⟨hO, fun p hp => ?_, fun p hp => ?_⟩
  · rcases List.mem_append.1 hp with hp | hp
    · obtain ⟨⟨B', e1, e2⟩, e3⟩ := h2.inner p hp
      obtain ⟨k1, k2⟩ := key B' p e2 e3
      exact ⟨⟨B', e1, k1⟩, k2⟩
    · obtain rfl := List.mem_singleton.1 hp
      obtain ⟨k1, k2⟩ := key _ p hq2 hqa
      exact ⟨⟨_, hB, k1⟩, k2⟩
  · rcases List.mem_append.1 hp with hp | hp
    · exact h.lits p hp
    · obtain rfl := List.mem_singleton.1 hp
      exact hl

theorem clL_lits {n : List (Int × Int)} (hg : GoodNet n) {k r : Nat} {v : Int} {x : Int × Int} (hx : n[k]? = some x) (hv : v = (k : Int) + 1) : ∀ y ∈ clL v r x, 0 ≤ y ∧ y ≤ 2 * (n.length : Int) + 1 := by
  have hk := lt_of_get hx
  intro y hy
  unfold clL at hy
  split at hy
  · cases hy
  · have hgx := hg.gate hx (by omega)
    have xl : ∀ z : Int, 0 ≤ z → z ≤ 2 * (k : Int) + 1 → 0 ≤ Lt.xor1 z ∧ Lt.xor1 z ≤ 2 * (k : Int) + 1 := fun z h0 h1 => by unfold Lt.xor1; split <;> omega
    have x1 := xl x.1 (by omega) hgx.1
    have x2 := xl x.2 hgx.2.1 hgx.2.2
    split at hy
    · simp only [List.mem_cons, List.not_mem_nil, or_false] at hy; rcases hy with rfl | rfl <;> omega
    · split at hy
      · simp only [List.mem_cons, List.not_mem_nil, or_false] at hy; rcases hy with rfl | rfl <;> omega
      · simp only [List.mem_cons, List.not_mem_nil, or_false] at hy; rcases hy with rfl | rfl | rfl <;> omega

abbrev hasC (n : List (Int × Int)) (rs : List (RowV Int)) (j : Nat) : Prop := ∀ x, n[j / 3]? = some x → clL ((j / 3 : Nat) + 1) (j % 3) x = [] ∨ ∃ q ∈ rs, q.2.2 = clL ((j / 3 : Nat) + 1) (j % 3) x
end Go.Proofs.Ytmaekaflpbenmaa
namespace Go.Proofs.Ytmaekaflpbenmaa
open Go Go.Lt Go.RowKit
set_option linter.unusedVariables false
set_option linter.unusedSimpArgs false

/-- What is reached by one unit behind the other. -/
inductive Rch (C : List Int → Prop) (V0 : List Int) : List Int → Prop
  | base : Rch C V0 V0
  | step {V : List Int} {c : List Int} : Rch C V0 V → C c → 1 < uC V (-1) c → Rch C V0 (setV V (uC V (-1) c))
abbrev litM (m : Nat) (x : Int) : Prop := 0 ≤ x ∧ (x / 2).toNat < m ∧ x ≤ 33554433
abbrev LitC (m : Nat) (C : List Int → Prop) : Prop := ∀ c, C c → ∀ x ∈ c, litM m x
def LeV (V W : List Int) : Prop := ∀ (i : Nat) (z : Int), V[i]? = some z → z = 2 ∨ W[i]? = some z
theorem LeV.refl (V : List Int) : LeV V V := fun i z h => .inr h
theorem LeV.trans {U V W : List Int} (h : LeV U V) (k : LeV V W) : LeV U W := fun i z hz => by
  rcases h i z hz with h1 | h1
  · exact .inl h1
  · exact k i z h1
theorem LeV.anti {V W : List Int} (h : LeV V W) (k : LeV W V) (hl : V.length = W.length) : V = W := by
  apply List.ext_getElem? 
  intro i
  by_cases hi : i < V.length
  · obtain ⟨z, hz⟩ := getI V hi
    obtain ⟨y, hy⟩ := getI W (show i < W.length by omega)
    rw [hz, hy]
    rcases h i z hz with h1 | h1
    · rcases k i y hy with h2 | h2
      · rw [h1, h2]
      · rw [hz] at h2; exact h2
    · rw [hy] at h1; exact h1.symm
  · rw [List.getElem?_eq_none (by omega), List.getElem?_eq_none (by omega)]
theorem OkV.at_ {m : Nat} {V : List Int} (h : OkV m V) {x : Int} (hx : litM m x) : ∃ z, V[(x / 2).toNat]? = some z ∧ ((z = 0 ∧ lit3 V x = (if x % 2 = 1 then 1 else 0)) ∨ (z = 1 ∧ lit3 V x = (if x % 2 = 1 then 0 else 1)) ∨ (z = 2 ∧ lit3 V x = 2)) := by
  have hlt : (x / 2).toNat < V.length := by rw [h.len]; exact hx.2.1
  obtain ⟨z, hz⟩ := getI V hlt
  have hz3 := h.three _ _ hz
  refine ⟨z, hz, ?_⟩
  rw [lit3_tl h.head hx.1 hlt hx.2.2]
  unfold tl
  rw [getD_of hz]
  rcases hz3 with rfl | rfl | rfl
  · left; refine ⟨rfl, ?_⟩; split <;> simp [not3, val3]
  · right; left; refine ⟨rfl, ?_⟩; split <;> simp [not3, val3]
  · right; right; refine ⟨rfl, ?_⟩; split <;> simp [not3, val3]
theorem OkV.three_lit {m : Nat} {V : List Int} (h : OkV m V) {x : Int} (hx : litM m x) : lit3 V x = 0 ∨ lit3 V x = 1 ∨ lit3 V x = 2 := by
  obtain ⟨z, _, h1 | h1 | h1⟩ := h.at_ hx
  · rw [h1.2]; split <;> omega
  · rw [h1.2]; split <;> omega
  · omega
theorem LeV.lit {m : Nat} {V W : List Int} (h : LeV V W) (hV : OkV m V) (hW : OkV m W) {x : Int} (hx : litM m x) : lit3 V x = 2 ∨ lit3 W x = lit3 V x := by
  obtain ⟨z, hz, hz'⟩ := hV.at_ hx
  obtain ⟨y, hy, hy'⟩ := hW.at_ hx
  rcases h _ z hz with h1 | h1
  · left; rcases hz' with h2 | h2 | h2 <;> omega
  · right
    rw [hy] at h1
    obtain rfl := Option.some.inj h1
    rcases hz' with h2 | h2 | h2 <;> rcases hy' with h3 | h3 | h3 <;> first | (rw [h2.2, h3.2]; done) | omega
theorem vC_two {V : List Int} : ∀ (c : List Int), vC V 2 c = 1 ∨ vC V 2 c = 2
  | [] => .inr rfl
  | x :: r => by
    rw [vC]
    split
    · exact .inl rfl
    · rw [ite_self]; exact vC_two r
theorem vC_zero {V : List Int} : ∀ (c : List Int), vC V 0 c = 0 ↔ ∀ x ∈ c, lit3 V x ≠ 1 ∧ lit3 V x ≠ 2
  | [] => by simp [vC]
  | x :: r => by
    rw [vC]
    by_cases h1 : lit3 V x = 1
    · rw [if_pos h1]; exact ⟨(fun h => by cases h), fun h => absurd h1 (h x (by simp)).1⟩
    · rw [if_neg h1]
      by_cases h2 : lit3 V x = 2
      · rw [if_pos h2]
        refine ⟨fun h => ?_, fun h => absurd h2 (h x (by simp)).2⟩
        rcases vC_two (V := V) r with h3 | h3 <;> rw [h3] at h <;> cases h
      · rw [if_neg h2, vC_zero r]
        simp [h1, h2]
theorem vC_one {V : List Int} : ∀ (c : List Int) (o : Int), o ≠ 1 → (vC V o c = 1 ↔ ∃ x ∈ c, lit3 V x = 1)
  | [], o, ho => by simp [vC, ho]
  | x :: r, o, ho => by
    rw [vC]
    by_cases h1 : lit3 V x = 1
    · rw [if_pos h1]; exact ⟨fun _ => ⟨x, by simp, h1⟩, fun _ => rfl⟩
    · rw [if_neg h1, vC_one r _ (by split <;> omega)]
      simp [h1]
abbrev leftC (V : List Int) (c : List Int) (l : Int) : Prop := ∀ x ∈ c, lit3 V x ≠ 1 ∧ (lit3 V x = 2 → x = l)
theorem uC_left {V : List Int} {l : Int} (hl : 1 < l) : ∀ (c : List Int) (left : Int), uC V left c = l → leftC V c l ∧ (0 ≤ left → left = l)
  | [], left, h => ⟨(fun x hx => by cases hx), fun _ => h⟩
  | x :: r, left, h => by
    rw [uC] at h
    split at h
    · omega
    · rename_i hn
      have n1 : lit3 V x ≠ 1 := fun h' => hn (.inl h')
      by_cases h2 : lit3 V x = 2
      · rw [if_pos h2] at h
        have hg : goodL x := Classical.byContradiction fun hg => hn (.inr ⟨h2, .inl hg⟩)
        obtain ⟨k1, k2⟩ := uC_left hl r x h
        have hxl := k2 hg.1
        refine ⟨fun y hy => ?_, fun h0 => ?_⟩
        · rcases List.mem_cons.1 hy with rfl | hy
          · exact ⟨n1, fun _ => hxl⟩
          · exact k1 y hy
        · exact Classical.byContradiction fun hne => hn (.inr ⟨h2, .inr ⟨h0, fun h' => hne (h'.trans hxl)⟩⟩)
      · rw [if_neg h2] at h
        obtain ⟨k1, k2⟩ := uC_left hl r left h
        refine ⟨fun y hy => ?_, k2⟩
        rcases List.mem_cons.1 hy with rfl | hy
        · exact ⟨n1, fun h' => absurd h' h2⟩
        · exact k1 y hy
theorem uC_has {V : List Int} {l : Int} (hl : goodL l) : ∀ (c : List Int) (left : Int), leftC V c l → (left = -1 ∨ left = l) → (left = l ∨ (l ∈ c ∧ lit3 V l = 2)) → uC V left c = l
  | [], left, _, _, h => by
    rcases h with h | h
    · exact h
    · exact absurd h.1 (by simp)
  | x :: r, left, hc, hle, h => by
    have hx := hc x (by simp)
    have hr : leftC V r l := fun y hy => hc y (by simp [hy])
    rw [uC]
    by_cases h2 : lit3 V x = 2
    · obtain rfl := hx.2 h2
      rw [if_neg (fun hh => by
        rcases hh with h3 | ⟨_, h3 | h3⟩
        · exact hx.1 h3
        · exact h3 hl
        · rcases hle with h4 | h4
          · omega
          · exact h3.2 h4), if_pos h2]
      exact uC_has hl r x hr (.inr rfl) (.inl rfl)
    · rw [if_neg (fun hh => by
        rcases hh with h3 | ⟨h3, _⟩
        · exact hx.1 h3
        · exact h2 h3), if_neg h2]
      refine uC_has hl r left hr hle ?_
      rcases h with h | ⟨h, h'⟩
      · exact .inl h
      · rcases List.mem_cons.1 h with rfl | h
        · exact absurd h' h2
        · exact .inr ⟨h, h'⟩
theorem uC_unit {V : List Int} {c : List Int} (h : 1 < uC V (-1) c) : leftC V c (uC V (-1) c) ∧ uC V (-1) c ∈ c ∧ lit3 V (uC V (-1) c) = 2 := by
  have h1 := (uC_mem (vals := V) c (-1)).resolve_left (fun h => by omega) |>.resolve_left (fun h' => by rw [h'] at h; omega)
  exact ⟨(uC_left h c (-1) rfl).1, h1⟩
theorem goodC_sat {V : List Int} {c : List Int} (h : ∃ x ∈ c, lit3 V x = 1) : goodC V c := by
  refine ⟨fun h0 => ?_, fun h1 => ?_⟩
  · obtain ⟨x, hx, h2⟩ := h
    exact ((vC_zero c).1 h0 x hx).1 h2
  · obtain ⟨x, hx, h2⟩ := h
    exact ((uC_unit h1).1 x hx).1 h2
theorem forced {m : Nat} {V W : List Int} {c : List Int} (h : LeV V W) (hV : OkV m V) (hW : OkV m W) (hc : ∀ x ∈ c, litM m x) (hg : goodC W c) (hu : 1 < uC V (-1) c) : lit3 W (uC V (-1) c) = 1 := by
  obtain ⟨h1, h2, h3⟩ := uC_unit hu
  have hl := hc _ h2
  have key : ∀ x ∈ c, x ≠ uC V (-1) c → lit3 W x = 0 := fun x hx hne => by
    obtain ⟨k1, k2⟩ := h1 x hx
    have k3 := hV.three_lit (hc x hx)
    have k4 := h.lit hV hW (hc x hx)
    have k5 : lit3 V x ≠ 2 := fun h' => hne (k2 h')
    omega
  rcases hW.three_lit hl with h4 | h4 | h4
  · exfalso
    refine hg.1 ((vC_zero c).2 fun x hx => ?_)
    by_cases hne : x = uC V (-1) c
    · rw [hne, h4]; decide
    · rw [key x hx hne]; decide
  · exact h4
  · exfalso
    have := uC_has (V := W) (l := uC V (-1) c) ⟨hl.1, hl.2.2⟩ c (-1) (fun x hx => by
      by_cases hne : x = uC V (-1) c
      · exact ⟨by rw [hne, h4]; decide, fun _ => hne⟩
      · have := key x hx hne
        exact ⟨by omega, fun h' => by omega⟩) (.inl rfl) (.inr ⟨h2, h4⟩)
    exact hg.2 (by rw [this]; exact hu)
theorem LeV.set_ {m : Nat} {V W : List Int} {l : Int} (h : LeV V W) (hW : OkV m W) (hl : litM m l) (h1 : lit3 W l = 1) : LeV (setV V l) W := by
  intro i z hz
  unfold setV at hz
  rw [List.getElem?_set] at hz
  split at hz
  · rename_i he
    subst he
    split at hz
    · obtain rfl := Option.some.inj hz
      right
      obtain ⟨y, hy, h2 | h2 | h2⟩ := hW.at_ hl
      · rw [hy, h2.1]; rw [h2.2] at h1; split at h1
        · rename_i ho; rw [if_pos ho]
        · cases h1
      · rw [hy, h2.1]; rw [h2.2] at h1; split at h1
        · cases h1
        · rename_i ho; rw [if_neg ho]
      · omega
    · cases hz
  · exact h i z hz
theorem LeV.grow {m : Nat} {V : List Int} (hV : OkV m V) {l : Int} (hl : litM m l) (h2 : lit3 V l = 2) : LeV V (setV V l) := by
  intro i z hz
  unfold setV
  by_cases he : (l / 2).toNat = i
  · left
    obtain ⟨y, hy, h3 | h3 | h3⟩ := hV.at_ hl
    · rw [h3.2] at h2; split at h2 <;> cases h2
    · rw [h3.2] at h2; split at h2 <;> cases h2
    · subst he; rw [hy] at hz; rw [← Option.some.inj hz]; exact h3.1
  · right; rw [List.getElem?_set_ne he]; exact hz
theorem Rch.ok {m : Nat} {C : List Int → Prop} {V0 V : List Int} (h : Rch C V0 V) (hl : LitC m C) (h0 : OkV m V0) : OkV m V ∧ LeV V0 V := by
  induction h with
  | base => exact ⟨h0, LeV.refl _⟩
  | step hr hc hu ih =>
    have h1 := uC_unit hu
    have h2 := hl _ hc _ h1.2.1
    exact ⟨ih.1.set hu, ih.2.trans (LeV.grow ih.1 h2 h1.2.2)⟩
theorem Rch.le {m : Nat} {C : List Int → Prop} {V0 V W : List Int} (h : Rch C V0 V) (hl : LitC m C) (h0 : OkV m V0) (hW : OkV m W) (hle : LeV V0 W) (hg : ∀ c, C c → goodC W c) : LeV V W := by
  induction h with
  | base => exact hle
  | step hr hc hu ih =>
    have h1 := uC_unit hu
    have h2 := hl _ hc _ h1.2.1
    exact ih.set_ hW h2 (forced ih (hr.ok hl h0).1 hW (hl _ hc) (hg _ hc) hu)
theorem Rch.trans {C : List Int → Prop} {U V W : List Int} (h : Rch C U V) (k : Rch C V W) : Rch C U W := by
  induction k with
  | base => exact h
  | step _ hc hu ih => exact .step ih hc hu
theorem Rch.mono {C D : List Int → Prop} {U V : List Int} (h : Rch C U V) (k : ∀ c, C c → D c) : Rch D U V := by
  induction h with
  | base => exact .base
  | step _ hc hu ih => exact .step ih (k _ hc) hu
theorem zero_mono {m : Nat} {V W : List Int} {c : List Int} (h : LeV V W) (hV : OkV m V) (hW : OkV m W) (hc : ∀ x ∈ c, litM m x) (hz : vC V 0 c = 0) : vC W 0 c = 0 := by
  refine (vC_zero c).2 fun x hx => ?_
  have h1 := (vC_zero c).1 hz x hx
  rcases h.lit hV hW (hc x hx) with h2 | h2
  · exact absurd h2 h1.2
  · rw [h2]; exact h1
/-- What may come of clauses: that one is Zero, or all that they say. -/
def Out (C : List Int → Prop) (V0 : List Int) : Option (List Int) → Prop
  | none => ∃ V c, Rch C V0 V ∧ C c ∧ vC V 0 c = 0
  | some V => Rch C V0 V ∧ ∀ c, C c → goodC V c
theorem no_zero {m : Nat} {C : List Int → Prop} {V0 V W c : List Int} (hl : LitC m C) (h0 : OkV m V0) (hW : OkV m W) (hle : LeV V0 W) (hg : ∀ c, C c → goodC W c) (h : Rch C V0 V) (hc : C c) (hz : vC V 0 c = 0) : False :=
  (hg c hc).1 (zero_mono (h.le hl h0 hW hle hg) (h.ok hl h0).1 hW (hl c hc) hz)
theorem out_unique {m : Nat} {C : List Int → Prop} {V0 : List Int} (hl : LitC m C) (h0 : OkV m V0) {o o' : Option (List Int)} (h : Out C V0 o) (h' : Out C V0 o') : o = o' := by
  cases o with
  | none =>
    cases o' with
    | none => rfl
    | some W =>
      obtain ⟨V, c, h1, h2, h3⟩ := h
      have hk := h'.1.ok hl h0
      exact (no_zero hl h0 hk.1 hk.2 h'.2 h1 h2 h3).elim
  | some V =>
    have hv := h.1.ok hl h0
    cases o' with
    | none =>
      obtain ⟨U, c, h1, h2, h3⟩ := h'
      exact (no_zero hl h0 hv.1 hv.2 h.2 h1 h2 h3).elim
    | some W =>
      have hw := h'.1.ok hl h0
      rw [LeV.anti (h.1.le hl h0 hw.1 hw.2 h'.2) (h'.1.le hl h0 hv.1 hv.2 h.2) (by rw [hv.1.len, hw.1.len])]
def GC (n : List (Int × Int)) (c : List Int) : Prop := ∃ (k r : Nat) (x : Int × Int), n[k]? = some x ∧ r < 3 ∧ 0 ≤ x.1 ∧ c = clL ((k : Int) + 1) r x

def CL (n : List (Int × Int)) (l : List Int) (cs : List (List Int)) (c : List Int) : Prop := (∃ x ∈ l, c = [x]) ∨ GC n c ∨ (c ∈ cs ∧ KnownP n c)
theorem GC.lits {n : List (Int × Int)} (hg : GoodNet n) {c : List Int} (h : GC n c) : KnownP n c := by
  obtain ⟨k, r, x, h1, h2, h3, rfl⟩ := h
  exact clL_lits hg h1 rfl
theorem known_lit {n : List (Int × Int)} (hn : n.length ≤ 1048576) {c : List Int} (h : KnownP n c) : ∀ x ∈ c, litM (n.length + 1) x := fun x hx => by
  have := h x hx
  exact ⟨this.1, by omega, by omega⟩
theorem CL.lits {n : List (Int × Int)} (hg : GoodNet n) (hn : n.length ≤ 1048576) {l : List Int} {cs : List (List Int)} (hl : KnownP n l) : LitC (n.length + 1) (CL n l cs) := fun c hc => by
  refine known_lit hn ?_
  rcases hc with ⟨x, hx, rfl⟩ | hc | hc
  · intro y hy; rw [List.mem_singleton.1 hy]; exact hl x hx
  · exact hc.lits hg
  · exact hc.2
end Go.Proofs.Ytmaekaflpbenmaa
namespace Go.Proofs.Ytmaekaflpbenmaa
open Go Go.Lt Go.RowKit
set_option linter.unusedVariables false
set_option linter.unusedSimpArgs false

abbrev T3 := Int × Int × Int
abbrev enc3 : T3 → List Value := fun x => [.int .i64 x.1, .int .i64 x.2.1, .int .i64 x.2.2]
theorem enc3_ok : Enc 3 enc3 := ⟨fun _ => rfl, by intro x u hu; simp only [enc3, List.mem_cons, List.not_mem_nil, or_false] at hu; rcases hu with rfl | rfl | rfl <;> rfl, by decide⟩

/-- Where a variable was set. -/
def plc (v : Int) : List T3 → Option Nat
  | [] => none
  | x :: r => if x.1 / 2 = v then some 0 else (plc v r).map (· + 1)
theorem plc_some {v : Int} : ∀ {L : List T3} {i : Nat}, plc v L = some i → ∃ x, L[i]? = some x ∧ x.1 / 2 = v
  | x :: r, i, h => by
    unfold plc at h
    split at h
    · cases h; exact ⟨x, rfl, by assumption⟩
    · obtain ⟨j, hj, rfl⟩ := Option.map_eq_some_iff.1 h
      obtain ⟨y, h1, h2⟩ := plc_some hj
      exact ⟨y, by simpa using h1, h2⟩
theorem plc_none {v : Int} : ∀ {L : List T3}, plc v L = none ↔ ∀ x ∈ L, x.1 / 2 ≠ v
  | [] => by simp [plc]
  | x :: r => by
    unfold plc
    split
    · rename_i h; simp [h]
    · rename_i h
      rw [Option.map_eq_none_iff, plc_none (L := r)]
      simp [h]
theorem plc_snoc {v : Int} (x : T3) : ∀ (L : List T3), plc v (L ++ [x]) = match plc v L with | some i => some i | none => if x.1 / 2 = v then some L.length else none
  | [] => by simp only [plc, List.nil_append]; split <;> simp
  | y :: r => by
    simp only [List.cons_append, plc, plc_snoc x r]
    split
    · rfl
    · cases plc v r with
      | some i => rfl
      | none => simp only [Option.map_none]; split <;> simp
theorem plc_first {v : Int} {L : List T3} {i : Nat} {x : T3} (hx : L[i]? = some x) (hv : x.1 / 2 = v) (h : ∀ j y, j < i → L[j]? = some y → y.1 / 2 ≠ v) : plc v L = some i := by
  induction L generalizing i with
  | nil => simp at hx
  | cons y r ih =>
    unfold plc
    cases i with
    | zero => simp at hx; subst hx; rw [if_pos hv]
    | succ i =>
      rw [if_neg (h 0 y (by omega) rfl), ih (by simpa using hx) (fun j z hj hz => h (j + 1) z (by omega) (by simpa using hz))]; rfl
/-- Each variable is set but once, and is one. -/
def TOk (n : Int) (L : List T3) : Prop := (∀ x ∈ L, 2 ≤ x.1 ∧ x.1 / 2 ≤ n) ∧ L.Pairwise (fun x y => x.1 / 2 ≠ y.1 / 2)
theorem TOk.inj {n : Int} {L : List T3} (h : TOk n L) {i j : Nat} {x y : T3} (hx : L[i]? = some x) (hy : L[j]? = some y) (he : x.1 / 2 = y.1 / 2) : i = j := by
  have hp := List.pairwise_iff_getElem.1 h.2
  obtain ⟨hi, rfl⟩ := List.getElem?_eq_some_iff.1 hx
  obtain ⟨hj, rfl⟩ := List.getElem?_eq_some_iff.1 hy
  rcases Nat.lt_trichotomy i j with h1 | h1 | h1
  · exact absurd he (hp i j hi hj h1)
  · exact h1
  · exact absurd he.symm (hp j i hj hi h1)
theorem TOk.at_ {n : Int} {L : List T3} (h : TOk n L) {i : Nat} {x : T3} (hx : L[i]? = some x) : plc (x.1 / 2) L = some i :=
  plc_first hx rfl fun j y hj hy he => by have := h.inj hx hy he.symm; omega
theorem TOk.sub {n : Int} {L L' : List T3} (h : TOk n L) (hs : L'.Sublist L) : TOk n L' := ⟨fun x hx => h.1 x (hs.subset hx), h.2.sublist hs⟩
theorem TOk.nil (n : Int) : TOk n [] := ⟨by simp, List.Pairwise.nil⟩
/-- A literal's value. -/
def valT (n : Int) (L : List T3) (l : Int) : Int :=
  if l = 0 ∨ l = 1 then l else
  match (if 1 < l ∧ l / 2 ≤ n then plc (l / 2) L else none) with
  | some i => (match L[i]? with | some x => if x.1 = l then 1 else 0 | none => 2)
  | none => 2
theorem valT_range (n : Int) (L : List T3) (l : Int) : valT n L l = 0 ∨ valT n L l = 1 ∨ valT n L l = 2 := by
  unfold valT
  split
  · omega
  · split
    · split
      · split <;> omega
      · omega
    · omega
/-- All variables' values. -/
def vOf (n : Nat) (L : List T3) : List Int := tab (n + 1) fun v => if v = 0 then 0 else valT n L (2 * v)
theorem vOf_len (n : Nat) (L : List T3) : (vOf n L).length = n + 1 := tab_len _ _
theorem valT_set {n : Int} {L : List T3} (h : TOk n L) {l : Int} (hl : 1 < l ∧ l / 2 ≤ n) {i : Nat} {x : T3} (hx : L[i]? = some x) (he : x.1 / 2 = l / 2) : valT n L l = if x.1 = l then 1 else 0 := by
  unfold valT
  rw [if_neg (by omega), if_pos hl, ← he, h.at_ hx]
  simp only [hx]
theorem valT_free {n : Int} {L : List T3} {l : Int} (hl : 1 < l) (hp : plc (l / 2) L = none) : valT n L l = 2 := by
  unfold valT
  rw [if_neg (by omega), hp]
  split <;> simp_all
theorem valT_out {n : Int} {L : List T3} {l : Int} (h : l < 0 ∨ n < l / 2 ∧ 1 < l) : valT n L l = 2 := by
  unfold valT
  rw [if_neg (by omega), if_neg (by omega)]
theorem valT_not {n : Int} {L : List T3} (h : TOk n L) {l : Int} (hl : 0 ≤ l) (ho : l % 2 = 1) : valT n L l = not3 (valT n L (l - 1)) := by
  by_cases h1 : l = 1
  · subst h1; simp [valT, not3]
  · by_cases hn : l / 2 ≤ n
    · cases hp : plc (l / 2) L with
      | none => rw [valT_free (by omega) hp, valT_free (by omega) (by rw [show (l - 1) / 2 = l / 2 by omega]; exact hp)]; rfl
      | some i =>
        obtain ⟨x, hx, hv⟩ := plc_some hp
        rw [valT_set h ⟨by omega, hn⟩ hx hv, valT_set h ⟨by omega, by omega⟩ hx (by omega)]
        by_cases he : x.1 = l
        · rw [if_pos he, if_neg (by omega)]; rfl
        · rw [if_neg he, if_pos (by omega)]; rfl
    · rw [valT_out (by omega), valT_out (by omega)]; rfl
theorem lit3_vOf {n : Nat} {L : List T3} (h : TOk n L) (hn : n ≤ 1048576) (l : Int) : lit3 (vOf n L) l = valT n L l := by
  have key : ∀ v : Int, 0 ≤ v → v / 2 ≤ n → v % 2 = 0 → (vOf n L).getD (v / 2).toNat 0 = valT n L v := by
    intro v h0 h1 h2
    rw [vOf, tab_getD _ _ (by omega)]
    by_cases hv : v = 0
    · subst hv; simp [valT]
    · rw [if_neg (by omega)]; congr 1; omega
  have hlen := vOf_len n L
  by_cases hg : goodL l
  · unfold goodL at hg
    have e0 : varL l = l / 2 := by unfold varL; rw [if_pos (by unfold goodL; omega)]
    have ek : lit3v (vOf n L) l = valT n L (l - l % 2) := by
      unfold lit3v
      rw [e0]
      by_cases hz : l / 2 = 0
      · rw [if_pos hz, show l - l % 2 = 0 by omega]; simp [valT]
      · rw [if_neg hz]
        by_cases hb : l / 2 ≤ n
        · have e1 := key (l - l % 2) (by omega) (by omega) (by omega)
          rw [show (l - l % 2) / 2 = l / 2 by omega] at e1
          rw [e1]
          have hr := valT_range n L (l - l % 2)
          rw [if_pos ⟨by omega, by omega⟩, val3]
          split <;> omega
        · rw [if_neg (fun hh => by omega), valT_out (by omega)]
    unfold lit3
    by_cases ho : l % 2 = 1
    · rw [if_pos (by unfold negL goodL; omega), ek, valT_not h (by omega) ho, show l - l % 2 = l - 1 by omega]
    · rw [if_neg (by unfold negL goodL; omega), ek, show l - l % 2 = l by omega]
  · unfold goodL at hg
    have e0 : varL l = -1 := by unfold varL; rw [if_neg (by unfold goodL; omega)]
    have ek : lit3v (vOf n L) l = 2 := by unfold lit3v; rw [e0, if_neg (by decide), if_neg (by omega)]
    unfold lit3
    rw [ek, if_neg (by unfold negL goodL; omega), valT_out (by omega)]
end Go.Proofs.Ytmaekaflpbenmaa
namespace Go.Proofs.Ytmaekaflpbenmaa
open Go Go.Lt Go.RowKit
set_option linter.unusedVariables false
set_option linter.unusedSimpArgs false

abbrev trP (B gt n : Nat) (av : Option Addr) (cv : Nat) (V : List Int) (am : Option Addr) (cm : Nat) (M : List T3) (al : Option Addr) (cl : Nat) (L : List Int) (ae : Option Addr) (ce : Nat) (E : List Int) : List Piece :=
  [pcell gt #[.slice av (n + 1) cv, .slice am (n + 1) cm, .slice al L.length cl, .slice ae E.length ce] 125, prow 1 encI 3 B av cv V, prow 3 enc3 127 B am cm M, prow 1 encI 3 B al cl L, prow 1 encI 3 B ae ce E]
abbrev trPn (B gt n : Nat) (av : Option Addr) (cv : Nat) (V : List Int) (am : Option Addr) (cm : Nat) (M : List T3) (al : Option Addr) (cl nl : Nat) (L : List Int) (ae : Option Addr) (ce ne : Nat) (E : List Int) : List Piece :=
  [pcell gt #[.slice av (n + 1) cv, .slice am (n + 1) cm, .slice al nl cl, .slice ae ne ce] 125, prow 1 encI 3 B av cv V, prow 3 enc3 127 B am cm M, prow 1 encI 3 B al cl L, prow 1 encI 3 B ae ce E]
/-- What is known of the variables that are set. -/
def MarkOk (n : Nat) (Lr : List T3) (M : List T3) : Prop := M.length = n + 1 ∧ M[0]? = some (0, -1, -1) ∧ ∀ (i : Nat) (x : T3), Lr[i]? = some x → M[(x.1 / 2).toNat]? = some (x.2.1, x.2.2, (i : Int))
def TrAt (B : Nat) (w : World) (gt n : Nat) (Lr : List T3) (E : List Int) (rest : List Piece) : Prop :=
  ∃ av cv am cm M al cl ae ce, MarkOk n Lr M ∧ Lt.Sep B w (trP B gt n av cv (vOf n Lr) am cm M al cl (Lr.map (·.1)) ae ce E ++ rest)
theorem TrAt.ext {B : Nat} {w w' : World} {gt n : Nat} {Lr : List T3} {E : List Int} {rest : List Piece} (h : TrAt B w gt n Lr E rest) (hx : Ext w w') : TrAt B w' gt n Lr E rest := by
  obtain ⟨av, cv, am, cm, M, al, cl, ae, ce, h1, h2⟩ := h
  exact ⟨av, cv, am, cm, M, al, cl, ae, ce, h1, h2.ext hx⟩

def vK (n k : Nat) : List Int := tab (n + 1) fun v => if v = 0 then 0 else if v ≤ k then 2 else 0
theorem vK_len (n k : Nat) : (vK n k).length = n + 1 := tab_len _ _
theorem vK_zero (n : Nat) : vK n 0 = List.replicate (n + 1) 0 := by
  rw [tab_rep, vK]; exact tab_congr fun u _ => by split; rfl; rw [if_neg (by omega)]
theorem vK_all (n : Nat) : vK n n = vOf n [] := tab_congr fun u hu => by
  by_cases h : u = 0
  · rw [if_pos h, if_pos h]
  · rw [if_neg h, if_neg h, if_pos (by omega), valT_free (by omega) rfl]
theorem vK_get {n k : Nat} (h : k < n) : (vK n k)[((k : Int) + 1).toNat]? = some 0 := by
  rw [show ((k : Int) + 1).toNat = k + 1 by omega, vK, tab_get _ (by omega), if_neg (by omega), if_neg (by omega)]
theorem vK_set {n k : Nat} : (vK n k).set ((k : Int) + 1).toNat 2 = vK n (k + 1) := by
  rw [show ((k : Int) + 1).toNat = k + 1 by omega]
  exact tab_set fun u _ => by split <;> split <;> (try split) <;> (try split) <;> first | rfl | omega

set_option maxHeartbeats 4000000 in
theorem trail_New (n : Nat) (hn : n ≤ 1000) (w w0 : World) (hX : Ext w0 w) :
    Lt.Spec Try.prog 48 [.int .i64 n] w (fun v w' => Ext w0 w' ∧ ∃ gt, v = .pointer (some ⟨gt, 0, none⟩) ∧ TrAt w0.heap.size w' gt n [] [] []) := by
  refine Spec.of _ Try.func48 rfl Try.ntmps48 (by kernel_rfl) rfl ?_
  repeat' (first
    | (apply WL.gT; exact rfl; exact rfl; (focus (exact dec_false (by omega); done)))
    | (apply WL.gF; exact rfl; exact rfl; (focus (exact dec_false (by omega); done)))
    | (apply W.condKT; exact rfl; (focus (exact dec_false (by omega); done)))
    | (apply W.condKF; exact rfl; (focus (exact dec_false (by omega); done)))
    | (show WL _ _ _ _ _ _ _; first | apply WL.nil | (apply WL.pev tOk; exact rfl; exact rfl; exact rfl) | (apply WL.load tOk; exact rfl; exact rfl; exact rfl; exact rfl; exact rfl; (first | assumption | (focus (apply Ext.cell; rotate_left; assumption; (exact extA); done)))) | (apply WL.index tOk; exact rfl; exact rfl; exact rfl; exact rfl; exact rfl; exact rfl; exact rfl; exact rfl; assumption; (exact extA); exact rfl; omega; assumption; intro b off h; have hcc := h; first | (obtain ⟨h1, h2, h3, h4, h5, h6, _⟩ := h) | (obtain ⟨h1, h2, h3, _⟩ := h) | (obtain ⟨h1, h2, _⟩ := h) | (obtain ⟨h1, _⟩ := h)) | (apply WL.add; exact rfl; exact rfl; exact rfl; exact rfl; omega) | (apply WL.sub; exact rfl; exact rfl; exact rfl; exact rfl; omega) | (apply WL.mul; exact rfl; exact rfl; exact rfl; exact rfl; omega) | (apply WL.quo; exact rfl; exact rfl; exact rfl; exact rfl; omega) | (apply WL.rem; exact rfl; exact rfl; exact rfl; exact rfl; omega) | (apply WL.loadA tOk; exact rfl; exact rfl; exact rfl; exact rfl; exact rfl; (first | assumption | (focus (apply Cells.ext; rotate_left; assumption; (exact extA); done))); exact rfl) | (apply WL.guardF; exact rfl; exact rfl) | (apply WL.gD; exact rfl; exact rfl; all_goals intro _) | (apply WL.gN; exact rfl; exact rfl; all_goals intro _) | (apply WL.gB; exact rfl; exact rfl; all_goals intro _))
    | (show Z _ _ _ _ _; first | apply Z.tail | apply Z.then_normal | apply Z.block_normal | apply Z.then_exit | apply Z.block_exit | apply Z.then_ret | apply Z.block_ret | (apply Z.block_other; exact rfl))
    | (show W _ _ _ _ _ _; first | apply W.seq | apply W.region | apply W.block | apply W.skip | apply W.ret | apply W.exit | (apply W.condT; exact rfl) | (apply W.condF; exact rfl) | (apply W.condD; exact rfl; all_goals intro _) | (apply W.condN; exact rfl; all_goals intro _) | (apply W.condB; exact rfl; all_goals intro _)))
  refine W.cutT (σ := Nat × Nat × Nat × World) (fun s => Lt.Sep w0.heap.size s.2.2.2 (trP w0.heap.size s.1 n (some ⟨s.2.1, 0, none⟩) (n + 1) (List.replicate (n + 1) 0) (some ⟨s.2.2.1, 0, none⟩) (n + 1) (List.replicate (n + 1) (0, 0, 0)) none 0 [] none 0 []) ∧ Ext w0 s.2.2.2)
    (fun s => [(0, .int .i64 n), (3, .pointer (some ⟨s.1, 0, none⟩))]) (fun s => s.2.2.2) ?_ ?_
  · have hB := hX.size
    have hS : Lt.Sep w0.heap.size w [prow 1 encI 3 w0.heap.size none 0 [], prow 1 encI 3 w0.heap.size none 0 []] :=
      Sep.newRow (Sep.newRow Sep.none' (Ext.refl _) Own.nil (fun k hk => by cases hk) hB) (Ext.refl _) Own.nil (fun k hk => by cases hk) hB
    have hi : ((n : Int) + 1).toNat = n + 1 := by omega
    repeat' (first
      | (show W _ _ (.region 3 _ _) _ _ _; apply W.regionGB (.fl true 0 (.fl true 1 (.fl true 3 (.fl true 4 (.br 2 (.br 5 (.fl true 6 (.br 7 (.fl true 8 .done) .stop)) .stop) (.br 5 (.br 2 (.fl true 6 (.br 7 (.fl true 8 .done) .stop)) .stop) .stop)))))) [] (none) tMix; kernel_rfl)
      | (apply WL.make (w0 := w0) (z := (0:Int)) tOk; exact rfl; exact rfl; exact rfl; exact rfl; exact rfl; exact rfl; exact rfl; exact rfl; exact rfl; exact encI_ok; exact rfl; exact rfl; (exact extA); (first | omega | (simp; omega) | (simp at *; omega)); intro gb w' hO hge hx; replace hS := Sep.newRow (Sep.ext hS (by (exact extA))) hx hO (fun k hk => by cases hk; exact hge) (by (first | exact Nat.le_refl _ | exact Below.size (by (exact extA)))); (try simp only [List.set_cons_zero, List.set_cons_succ] at hS); (try have hR0 := hS.row (i := 0) rfl); (try have hR1 := hS.row (i := 1) rfl); (try have hR2 := hS.row (i := 2) rfl); (try have hR3 := hS.row (i := 3) rfl); (try have hR4 := hS.row (i := 4) rfl); (try have hC0 := hS.cell (i := 0) rfl); (try have hD0 := (cells_heap hC0).1); (try have hE0 := (cells_heap hC0).2.1); (try have hF0 := (cells_heap hC0).2.2.1); (try have hG0 := (cells_heap hC0).2.2.2.1); (try have hC1 := hS.cell (i := 1) rfl); (try have hD1 := (cells_heap hC1).1); (try have hE1 := (cells_heap hC1).2.1); (try have hF1 := (cells_heap hC1).2.2.1); (try have hG1 := (cells_heap hC1).2.2.2.1); (try have hC2 := hS.cell (i := 2) rfl); (try have hD2 := (cells_heap hC2).1); (try have hE2 := (cells_heap hC2).2.1); (try have hF2 := (cells_heap hC2).2.2.1); (try have hG2 := (cells_heap hC2).2.2.2.1); (try have hC3 := hS.cell (i := 3) rfl); (try have hD3 := (cells_heap hC3).1); (try have hE3 := (cells_heap hC3).2.1); (try have hF3 := (cells_heap hC3).2.2.1); (try have hG3 := (cells_heap hC3).2.2.2.1); (try have hC4 := hS.cell (i := 4) rfl); (try have hD4 := (cells_heap hC4).1); (try have hE4 := (cells_heap hC4).2.1); (try have hF4 := (cells_heap hC4).2.2.1); (try have hG4 := (cells_heap hC4).2.2.2.1); (try have hM0 := hS.map (i := 0) rfl); (try have hM1 := hS.map (i := 1) rfl); (try have hM2 := hS.map (i := 2) rfl); (try have hM3 := hS.map (i := 3) rfl); (try have hM4 := hS.map (i := 4) rfl))
      | (apply WL.make (w0 := w0) (z := ((0,0,0):T3)) tOk; exact rfl; exact rfl; exact rfl; exact rfl; exact rfl; exact rfl; exact rfl; exact rfl; exact rfl; exact enc3_ok; exact rfl; exact rfl; (exact extA); (first | omega | (simp; omega) | (simp at *; omega)); intro gb w' hO hge hx; replace hS := Sep.newRow (Sep.ext hS (by (exact extA))) hx hO (fun k hk => by cases hk; exact hge) (by (first | exact Nat.le_refl _ | exact Below.size (by (exact extA)))); (try simp only [List.set_cons_zero, List.set_cons_succ] at hS); (try have hR0 := hS.row (i := 0) rfl); (try have hR1 := hS.row (i := 1) rfl); (try have hR2 := hS.row (i := 2) rfl); (try have hR3 := hS.row (i := 3) rfl); (try have hR4 := hS.row (i := 4) rfl); (try have hC0 := hS.cell (i := 0) rfl); (try have hD0 := (cells_heap hC0).1); (try have hE0 := (cells_heap hC0).2.1); (try have hF0 := (cells_heap hC0).2.2.1); (try have hG0 := (cells_heap hC0).2.2.2.1); (try have hC1 := hS.cell (i := 1) rfl); (try have hD1 := (cells_heap hC1).1); (try have hE1 := (cells_heap hC1).2.1); (try have hF1 := (cells_heap hC1).2.2.1); (try have hG1 := (cells_heap hC1).2.2.2.1); (try have hC2 := hS.cell (i := 2) rfl); (try have hD2 := (cells_heap hC2).1); (try have hE2 := (cells_heap hC2).2.1); (try have hF2 := (cells_heap hC2).2.2.1); (try have hG2 := (cells_heap hC2).2.2.2.1); (try have hC3 := hS.cell (i := 3) rfl); (try have hD3 := (cells_heap hC3).1); (try have hE3 := (cells_heap hC3).2.1); (try have hF3 := (cells_heap hC3).2.2.1); (try have hG3 := (cells_heap hC3).2.2.2.1); (try have hC4 := hS.cell (i := 4) rfl); (try have hD4 := (cells_heap hC4).1); (try have hE4 := (cells_heap hC4).2.1); (try have hF4 := (cells_heap hC4).2.2.1); (try have hG4 := (cells_heap hC4).2.2.2.1); (try have hM0 := hS.map (i := 0) rfl); (try have hM1 := hS.map (i := 1) rfl); (try have hM2 := hS.map (i := 2) rfl); (try have hM3 := hS.map (i := 3) rfl); (try have hM4 := hS.map (i := 4) rfl))
      | (apply WL.build tOk; exact rfl; exact rfl; exact rfl; exact rfl; exact rfl; exact rfl; exact rfl; kernel_rfl)
      | (apply FL.build tOk; exact rfl; exact rfl; exact rfl; exact rfl; exact rfl; exact rfl; exact rfl; kernel_rfl)
      | (apply WL.box; exact rfl; exact rfl; exact rfl; intro gb w' hb hge hc hx; have hcc := hc; (first | (obtain ⟨h1, h2, h3, _⟩ := hc) | (obtain ⟨h1, h2, _⟩ := hc)); replace hS := Sep.newCell (Sep.ext hS (by (exact extA))) hx hb hge (by (first | exact Nat.le_refl _ | exact Below.size (by (exact extA)))); (try simp only [List.set_cons_zero, List.set_cons_succ] at hS); (try have hR0 := hS.row (i := 0) rfl); (try have hR1 := hS.row (i := 1) rfl); (try have hR2 := hS.row (i := 2) rfl); (try have hR3 := hS.row (i := 3) rfl); (try have hR4 := hS.row (i := 4) rfl); (try have hC0 := hS.cell (i := 0) rfl); (try have hD0 := (cells_heap hC0).1); (try have hE0 := (cells_heap hC0).2.1); (try have hF0 := (cells_heap hC0).2.2.1); (try have hG0 := (cells_heap hC0).2.2.2.1); (try have hC1 := hS.cell (i := 1) rfl); (try have hD1 := (cells_heap hC1).1); (try have hE1 := (cells_heap hC1).2.1); (try have hF1 := (cells_heap hC1).2.2.1); (try have hG1 := (cells_heap hC1).2.2.2.1); (try have hC2 := hS.cell (i := 2) rfl); (try have hD2 := (cells_heap hC2).1); (try have hE2 := (cells_heap hC2).2.1); (try have hF2 := (cells_heap hC2).2.2.1); (try have hG2 := (cells_heap hC2).2.2.2.1); (try have hC3 := hS.cell (i := 3) rfl); (try have hD3 := (cells_heap hC3).1); (try have hE3 := (cells_heap hC3).2.1); (try have hF3 := (cells_heap hC3).2.2.1); (try have hG3 := (cells_heap hC3).2.2.2.1); (try have hC4 := hS.cell (i := 4) rfl); (try have hD4 := (cells_heap hC4).1); (try have hE4 := (cells_heap hC4).2.1); (try have hF4 := (cells_heap hC4).2.2.1); (try have hG4 := (cells_heap hC4).2.2.2.1); (try have hM0 := hS.map (i := 0) rfl); (try have hM1 := hS.map (i := 1) rfl); (try have hM2 := hS.map (i := 2) rfl); (try have hM3 := hS.map (i := 3) rfl); (try have hM4 := hS.map (i := 4) rfl))
      | (show WL _ _ _ _ _ _ _; first | apply WL.nil | (apply WL.pev tOk; exact rfl; exact rfl; exact rfl) | (apply WL.load tOk; exact rfl; exact rfl; exact rfl; exact rfl; exact rfl; (first | assumption | (focus (apply Ext.cell; rotate_left; assumption; (exact extA); done)))) | (apply WL.index tOk; exact rfl; exact rfl; exact rfl; exact rfl; exact rfl; exact rfl; exact rfl; exact rfl; assumption; (exact extA); exact rfl; omega; assumption; intro b off h; have hcc := h; first | (obtain ⟨h1, h2, h3, h4, h5, h6, _⟩ := h) | (obtain ⟨h1, h2, h3, _⟩ := h) | (obtain ⟨h1, h2, _⟩ := h) | (obtain ⟨h1, _⟩ := h)) | (apply WL.add; exact rfl; exact rfl; exact rfl; exact rfl; omega) | (apply WL.sub; exact rfl; exact rfl; exact rfl; exact rfl; omega) | (apply WL.mul; exact rfl; exact rfl; exact rfl; exact rfl; omega) | (apply WL.quo; exact rfl; exact rfl; exact rfl; exact rfl; omega) | (apply WL.rem; exact rfl; exact rfl; exact rfl; exact rfl; omega) | (apply WL.loadA tOk; exact rfl; exact rfl; exact rfl; exact rfl; exact rfl; (first | assumption | (focus (apply Cells.ext; rotate_left; assumption; (exact extA); done))); exact rfl) | (apply WL.guardF; exact rfl; exact rfl) | (apply WL.gD; exact rfl; exact rfl; all_goals intro _) | (apply WL.gN; exact rfl; exact rfl; all_goals intro _) | (apply WL.gB; exact rfl; exact rfl; all_goals intro _))
      | (show SG _ _ _ _ _ _ _ _ _; first | apply SG.done | apply SG.stop | (apply SG.fl0; exact rfl) | (apply SG.fl1; exact rfl; (focus ((intro m; first | assumption | (apply Ext.at; (exact extA)) | apply But.of_at; first | exact But.upd (by assumption) | exact But.ext (by (exact extA)) | (refine But.trans ?_ (But.upd (by assumption)); exact But.ext (by (exact extA))) | exact But.at _ _ _); done))) | (apply SG.br1; exact rfl) | (apply SG.br; exact rfl))
      | (show FL _ _ _ _ _ _ _ _; first | apply FL.nilS | (apply FL.pev tOk; exact rfl; exact rfl; exact rfl) | (apply FL.loadG tOk; exact rfl; exact rfl; exact rfl; exact rfl; exact rfl; (first | assumption | (focus (apply Ext.cell; rotate_left; assumption; (exact extA); done))); (first | (focus (intro h; cases h; done)) | (focus (intro h; have h9 := hBC _ h; (try simp only at h9); omega)) | assumption | (focus (intro h; simp only [blk, Option.map_some, Option.some.injEq] at h; omega)))) | (apply FL.index tOk; exact rfl; exact rfl; exact rfl; exact rfl; exact rfl; exact rfl; exact rfl; exact rfl; assumption; (exact extA); exact rfl; omega; assumption; exact List.cons_ne_nil _ _; intro b off h hbl; have hcc := h; first | (obtain ⟨h1, h2, h3, h4, h5, h6, _⟩ := h) | (obtain ⟨h1, h2, h3, _⟩ := h) | (obtain ⟨h1, h2, _⟩ := h) | (obtain ⟨h1, _⟩ := h)) | (apply FL.add; exact rfl; exact rfl; exact rfl; exact rfl; omega) | (apply FL.sub; exact rfl; exact rfl; exact rfl; exact rfl; omega) | (apply FL.mul; exact rfl; exact rfl; exact rfl; exact rfl; omega) | (apply FL.quo; exact rfl; exact rfl; exact rfl; exact rfl; omega) | (apply FL.rem; exact rfl; exact rfl; exact rfl; exact rfl; omega) | (apply FL.loadAG tOk; exact rfl; exact rfl; exact rfl; exact rfl; exact rfl; (first | assumption | (focus (apply Cells.ext; rotate_left; assumption; (exact extA); done))); exact rfl; (first | (focus (intro h; cases h; done)) | (focus (intro h; have h9 := hBC _ h; (try simp only at h9); omega)) | assumption | (focus (intro h; simp only [blk, Option.map_some, Option.some.injEq] at h; omega)))) | (apply FL.guardF; exact rfl; exact rfl) | (apply FL.gD; exact rfl; exact rfl; all_goals intro _) | (apply FL.gN; exact rfl; exact rfl; all_goals intro _) | (apply FL.gB; exact rfl; exact rfl; all_goals intro _))
      | (show Z _ _ _ _ _; first | (apply Z.sgL; exact rfl) | (apply Z.sgE; (focus ((intro m; first | assumption | (apply Ext.at; (exact extA)) | apply But.of_at; first | exact But.upd (by assumption) | exact But.ext (by (exact extA)) | (refine But.trans ?_ (But.upd (by assumption)); exact But.ext (by (exact extA))) | exact But.at _ _ _); done))))
      | (show Z _ _ _ _ _; first | apply Z.tail | apply Z.then_normal | apply Z.block_normal | apply Z.then_exit | apply Z.block_exit | apply Z.then_ret | apply Z.block_ret | (apply Z.block_other; exact rfl))
      | (show W _ _ _ _ _ _; first | apply W.seq | apply W.region | apply W.block | apply W.skip | apply W.ret | apply W.exit | (apply W.condT; exact rfl) | (apply W.condF; exact rfl) | (apply W.condD; exact rfl; all_goals intro _) | (apply W.condN; exact rfl; all_goals intro _) | (apply W.condB; exact rfl; all_goals intro _)))
    all_goals (rw [hi] at hS; simp only [List.length_replicate] at hS)
    · exact Z.cut (_, _, _, _) ⟨Sep.swap12 hS, (by (exact extA))⟩ ⟨rfl, rfl, trivial⟩ rfl
    · exact Z.cut (_, _, _, _) ⟨hS, (by (exact extA))⟩ ⟨rfl, rfl, trivial⟩ rfl
  · rintro ⟨gt, gv, gm, w1⟩ ⟨hS, hx1⟩
    simp only at hx1 hS ⊢
    repeat' (first
      | (show WL _ _ _ _ _ _ _; first | apply WL.nil | (apply WL.pev tOk; exact rfl; exact rfl; exact rfl) | (apply WL.load tOk; exact rfl; exact rfl; exact rfl; exact rfl; exact rfl; (first | assumption | (focus (apply Ext.cell; rotate_left; assumption; (exact extA); done)))) | (apply WL.index tOk; exact rfl; exact rfl; exact rfl; exact rfl; exact rfl; exact rfl; exact rfl; exact rfl; assumption; (exact extA); exact rfl; omega; assumption; intro b off h; have hcc := h; first | (obtain ⟨h1, h2, h3, h4, h5, h6, _⟩ := h) | (obtain ⟨h1, h2, h3, _⟩ := h) | (obtain ⟨h1, h2, _⟩ := h) | (obtain ⟨h1, _⟩ := h)) | (apply WL.add; exact rfl; exact rfl; exact rfl; exact rfl; omega) | (apply WL.sub; exact rfl; exact rfl; exact rfl; exact rfl; omega) | (apply WL.mul; exact rfl; exact rfl; exact rfl; exact rfl; omega) | (apply WL.quo; exact rfl; exact rfl; exact rfl; exact rfl; omega) | (apply WL.rem; exact rfl; exact rfl; exact rfl; exact rfl; omega) | (apply WL.loadA tOk; exact rfl; exact rfl; exact rfl; exact rfl; exact rfl; (first | assumption | (focus (apply Cells.ext; rotate_left; assumption; (exact extA); done))); exact rfl) | (apply WL.guardF; exact rfl; exact rfl) | (apply WL.gD; exact rfl; exact rfl; all_goals intro _) | (apply WL.gN; exact rfl; exact rfl; all_goals intro _) | (apply WL.gB; exact rfl; exact rfl; all_goals intro _))
      | (show Z _ _ _ _ _; first | apply Z.tail | apply Z.then_normal | apply Z.block_normal | apply Z.then_exit | apply Z.block_exit | apply Z.then_ret | apply Z.block_ret | (apply Z.block_other; exact rfl))
      | (show W _ _ _ _ _ _; first | apply W.seq | apply W.region | apply W.block | apply W.skip | apply W.ret | apply W.exit | (apply W.condT; exact rfl) | (apply W.condF; exact rfl) | (apply W.condD; exact rfl; all_goals intro _) | (apply W.condN; exact rfl; all_goals intro _) | (apply W.condB; exact rfl; all_goals intro _)))
    refine W.loopW n (fun k w' => k ≤ n ∧ Ext w0 w' ∧ Lt.Sep w0.heap.size w' (trP w0.heap.size gt n (some ⟨gv, 0, none⟩) (n + 1) (vK n k) (some ⟨gm, 0, none⟩) (n + 1) (List.replicate (n + 1) (0, 0, 0)) none 0 [] none 0 []))
      (fun k => [(0, .int .i64 n), (3, .pointer (some ⟨gt, 0, none⟩)), (4, .int .i64 ((k : Int) + 1))]) ⟨by omega, hx1, ?_⟩ (fun k w' h => h.1) ⟨rfl, rfl, rfl, trivial⟩ ?_
    · rw [vK_zero]; exact hS
    · rintro k w' ⟨hk, hx', hS⟩
      (try simp only [List.set_cons_zero, List.set_cons_succ] at hS); (try have hR0 := hS.row (i := 0) rfl); (try have hR1 := hS.row (i := 1) rfl); (try have hR2 := hS.row (i := 2) rfl); (try have hR3 := hS.row (i := 3) rfl); (try have hR4 := hS.row (i := 4) rfl); (try have hC0 := hS.cell (i := 0) rfl); (try have hD0 := (cells_heap hC0).1); (try have hE0 := (cells_heap hC0).2.1); (try have hF0 := (cells_heap hC0).2.2.1); (try have hG0 := (cells_heap hC0).2.2.2.1); (try have hC1 := hS.cell (i := 1) rfl); (try have hD1 := (cells_heap hC1).1); (try have hE1 := (cells_heap hC1).2.1); (try have hF1 := (cells_heap hC1).2.2.1); (try have hG1 := (cells_heap hC1).2.2.2.1); (try have hC2 := hS.cell (i := 2) rfl); (try have hD2 := (cells_heap hC2).1); (try have hE2 := (cells_heap hC2).2.1); (try have hF2 := (cells_heap hC2).2.2.1); (try have hG2 := (cells_heap hC2).2.2.2.1); (try have hC3 := hS.cell (i := 3) rfl); (try have hD3 := (cells_heap hC3).1); (try have hE3 := (cells_heap hC3).2.1); (try have hF3 := (cells_heap hC3).2.2.1); (try have hG3 := (cells_heap hC3).2.2.2.1); (try have hC4 := hS.cell (i := 4) rfl); (try have hD4 := (cells_heap hC4).1); (try have hE4 := (cells_heap hC4).2.1); (try have hF4 := (cells_heap hC4).2.2.1); (try have hG4 := (cells_heap hC4).2.2.2.1); (try have hM0 := hS.map (i := 0) rfl); (try have hM1 := hS.map (i := 1) rfl); (try have hM2 := hS.map (i := 2) rfl); (try have hM3 := hS.map (i := 3) rfl); (try have hM4 := hS.map (i := 4) rfl)
      have hl := vK_len n k
      by_cases hlt : k < n
      · have hz := vK_get hlt
        repeat' (first
          | (apply WL.gT; exact rfl; exact rfl; (focus (exact dec_true (by omega); done)))
          | (apply WL.gF; exact rfl; exact rfl; (focus (exact dec_true (by omega); done)))
          | (apply W.condKT; exact rfl; (focus (exact dec_true (by omega); done)))
          | (apply W.condKF; exact rfl; (focus (exact dec_true (by omega); done)))
          | (apply WL.nilc; exact rfl; exact rfl; exact rfl)
          | (apply WL.eqNilS tOk; exact rfl; exact rfl; exact rfl; exact rfl; exact rfl; exact rfl)
          | (apply WL.neNilS tOk; exact rfl; exact rfl; exact rfl; exact rfl; exact rfl; exact rfl)
          | (apply WL.eqNil tOk; exact rfl; exact rfl; exact rfl; exact rfl; exact rfl; exact rfl)
          | (apply WL.neNil tOk; exact rfl; exact rfl; exact rfl; exact rfl; exact rfl; exact rfl)
          | (apply WL.storeO tOk; exact rfl; exact rfl; exact rfl; exact rfl; assumption; (exact extA); exact rfl; exact rfl; exact rfl; exact encI_ok; assumption; exact rfl; (exact extA); intro w' hO hX' hU; (first | replace hS := Sep.updRow (i := 0) rfl hU hO (.inl rfl) hS (by (exact extA)) (by (first | exact Nat.le_refl _ | exact Below.size (by (exact extA)))) | replace hS := Sep.updRow (i := 1) rfl hU hO (.inl rfl) hS (by (exact extA)) (by (first | exact Nat.le_refl _ | exact Below.size (by (exact extA)))) | replace hS := Sep.updRow (i := 2) rfl hU hO (.inl rfl) hS (by (exact extA)) (by (first | exact Nat.le_refl _ | exact Below.size (by (exact extA)))) | replace hS := Sep.updRow (i := 3) rfl hU hO (.inl rfl) hS (by (exact extA)) (by (first | exact Nat.le_refl _ | exact Below.size (by (exact extA)))) | replace hS := Sep.updRow (i := 4) rfl hU hO (.inl rfl) hS (by (exact extA)) (by (first | exact Nat.le_refl _ | exact Below.size (by (exact extA)))) | replace hS := Sep.updRow (i := 5) rfl hU hO (.inl rfl) hS (by (exact extA)) (by (first | exact Nat.le_refl _ | exact Below.size (by (exact extA))))); (try simp only [List.set_cons_zero, List.set_cons_succ] at hS); (try have hR0 := hS.row (i := 0) rfl); (try have hR1 := hS.row (i := 1) rfl); (try have hR2 := hS.row (i := 2) rfl); (try have hR3 := hS.row (i := 3) rfl); (try have hR4 := hS.row (i := 4) rfl); (try have hC0 := hS.cell (i := 0) rfl); (try have hD0 := (cells_heap hC0).1); (try have hE0 := (cells_heap hC0).2.1); (try have hF0 := (cells_heap hC0).2.2.1); (try have hG0 := (cells_heap hC0).2.2.2.1); (try have hC1 := hS.cell (i := 1) rfl); (try have hD1 := (cells_heap hC1).1); (try have hE1 := (cells_heap hC1).2.1); (try have hF1 := (cells_heap hC1).2.2.1); (try have hG1 := (cells_heap hC1).2.2.2.1); (try have hC2 := hS.cell (i := 2) rfl); (try have hD2 := (cells_heap hC2).1); (try have hE2 := (cells_heap hC2).2.1); (try have hF2 := (cells_heap hC2).2.2.1); (try have hG2 := (cells_heap hC2).2.2.2.1); (try have hC3 := hS.cell (i := 3) rfl); (try have hD3 := (cells_heap hC3).1); (try have hE3 := (cells_heap hC3).2.1); (try have hF3 := (cells_heap hC3).2.2.1); (try have hG3 := (cells_heap hC3).2.2.2.1); (try have hC4 := hS.cell (i := 4) rfl); (try have hD4 := (cells_heap hC4).1); (try have hE4 := (cells_heap hC4).2.1); (try have hF4 := (cells_heap hC4).2.2.1); (try have hG4 := (cells_heap hC4).2.2.2.1); (try have hM0 := hS.map (i := 0) rfl); (try have hM1 := hS.map (i := 1) rfl); (try have hM2 := hS.map (i := 2) rfl); (try have hM3 := hS.map (i := 3) rfl); (try have hM4 := hS.map (i := 4) rfl))
          | (apply WL.indexO tOk; exact rfl; exact rfl; exact rfl; exact rfl; exact rfl; exact rfl; exact rfl; exact rfl; assumption; (exact extA); exact encI_ok; (first | exact rfl | (simp; done) | (simp [*]; done) | omega | (simp only [List.length_set]; omega)); omega; assumption; intro gb ha hc; cases ha; have hcc := hc; first | (obtain ⟨h1, h2, h3, _⟩ := hc) | (obtain ⟨h1, h2, _⟩ := hc) | (obtain ⟨h1, _⟩ := hc))
          | (show WL _ _ _ _ _ _ _; first | apply WL.nil | (apply WL.pev tOk; exact rfl; exact rfl; exact rfl) | (apply WL.load tOk; exact rfl; exact rfl; exact rfl; exact rfl; exact rfl; (first | assumption | (focus (apply Ext.cell; rotate_left; assumption; (exact extA); done)))) | (apply WL.index tOk; exact rfl; exact rfl; exact rfl; exact rfl; exact rfl; exact rfl; exact rfl; exact rfl; assumption; (exact extA); exact rfl; omega; assumption; intro b off h; have hcc := h; first | (obtain ⟨h1, h2, h3, h4, h5, h6, _⟩ := h) | (obtain ⟨h1, h2, h3, _⟩ := h) | (obtain ⟨h1, h2, _⟩ := h) | (obtain ⟨h1, _⟩ := h)) | (apply WL.add; exact rfl; exact rfl; exact rfl; exact rfl; omega) | (apply WL.sub; exact rfl; exact rfl; exact rfl; exact rfl; omega) | (apply WL.mul; exact rfl; exact rfl; exact rfl; exact rfl; omega) | (apply WL.quo; exact rfl; exact rfl; exact rfl; exact rfl; omega) | (apply WL.rem; exact rfl; exact rfl; exact rfl; exact rfl; omega) | (apply WL.loadA tOk; exact rfl; exact rfl; exact rfl; exact rfl; exact rfl; (first | assumption | (focus (apply Cells.ext; rotate_left; assumption; (exact extA); done))); exact rfl) | (apply WL.guardF; exact rfl; exact rfl) | (apply WL.gD; exact rfl; exact rfl; all_goals intro _) | (apply WL.gN; exact rfl; exact rfl; all_goals intro _) | (apply WL.gB; exact rfl; exact rfl; all_goals intro _))
          | (show Z _ _ _ _ _; first | apply Z.tail | apply Z.then_normal | apply Z.block_normal | apply Z.then_exit | apply Z.block_exit | apply Z.then_ret | apply Z.block_ret | (apply Z.block_other; exact rfl))
          | (show W _ _ _ _ _ _; first | apply W.seq | apply W.region | apply W.block | apply W.skip | apply W.ret | apply W.exit | (apply W.condT; exact rfl) | (apply W.condF; exact rfl) | (apply W.condD; exact rfl; all_goals intro _) | (apply W.condN; exact rfl; all_goals intro _) | (apply W.condB; exact rfl; all_goals intro _)))
        exact Z.againW ⟨by omega, hX', by rw [← vK_set]; exact hS⟩ ⟨rfl, rfl, rfl, trivial⟩
      · have hz : (List.replicate (n + 1) ((0, 0, 0) : T3))[Int.toNat 0]? = some (0, 0, 0) := by simp
        obtain rfl : k = n := by omega
        have hl2 : (List.replicate (k + 1) ((0, 0, 0) : T3)).length = k + 1 := by simp
        have hz' : ∀ z, ((List.replicate (k + 1) ((0, 0, 0) : T3)).set (Int.toNat 0) z)[0]? = some z := by intro z; simp
        repeat' (first
          | (apply WL.gT; exact rfl; exact rfl; (focus (exact dec_false (by omega); done)))
          | (apply WL.gF; exact rfl; exact rfl; (focus (exact dec_false (by omega); done)))
          | (apply W.condKT; exact rfl; (focus (exact dec_false (by omega); done)))
          | (apply W.condKF; exact rfl; (focus (exact dec_false (by omega); done)))
          | (apply WL.nilc; exact rfl; exact rfl; exact rfl)
          | (apply WL.eqNilS tOk; exact rfl; exact rfl; exact rfl; exact rfl; exact rfl; exact rfl)
          | (apply WL.neNilS tOk; exact rfl; exact rfl; exact rfl; exact rfl; exact rfl; exact rfl)
          | (apply WL.eqNil tOk; exact rfl; exact rfl; exact rfl; exact rfl; exact rfl; exact rfl)
          | (apply WL.neNil tOk; exact rfl; exact rfl; exact rfl; exact rfl; exact rfl; exact rfl)
          | (apply WL.build tOk; exact rfl; exact rfl; exact rfl; exact rfl; exact rfl; exact rfl; exact rfl; kernel_rfl)
          | (apply WL.storeO (z' := (((0, -1, -1) : T3))) tOk; exact rfl; exact rfl; exact rfl; exact rfl; assumption; (exact extA); exact rfl; exact rfl; exact rfl; exact enc3_ok; assumption; exact rfl; (exact extA); intro w' hO hX' hU; (first | replace hS := Sep.updRow (i := 0) rfl hU hO (.inl rfl) hS (by (exact extA)) (by (first | exact Nat.le_refl _ | exact Below.size (by (exact extA)))) | replace hS := Sep.updRow (i := 1) rfl hU hO (.inl rfl) hS (by (exact extA)) (by (first | exact Nat.le_refl _ | exact Below.size (by (exact extA)))) | replace hS := Sep.updRow (i := 2) rfl hU hO (.inl rfl) hS (by (exact extA)) (by (first | exact Nat.le_refl _ | exact Below.size (by (exact extA)))) | replace hS := Sep.updRow (i := 3) rfl hU hO (.inl rfl) hS (by (exact extA)) (by (first | exact Nat.le_refl _ | exact Below.size (by (exact extA)))) | replace hS := Sep.updRow (i := 4) rfl hU hO (.inl rfl) hS (by (exact extA)) (by (first | exact Nat.le_refl _ | exact Below.size (by (exact extA)))) | replace hS := Sep.updRow (i := 5) rfl hU hO (.inl rfl) hS (by (exact extA)) (by (first | exact Nat.le_refl _ | exact Below.size (by (exact extA))))); (try simp only [List.set_cons_zero, List.set_cons_succ] at hS); (try have hR0 := hS.row (i := 0) rfl); (try have hR1 := hS.row (i := 1) rfl); (try have hR2 := hS.row (i := 2) rfl); (try have hR3 := hS.row (i := 3) rfl); (try have hR4 := hS.row (i := 4) rfl); (try have hC0 := hS.cell (i := 0) rfl); (try have hD0 := (cells_heap hC0).1); (try have hE0 := (cells_heap hC0).2.1); (try have hF0 := (cells_heap hC0).2.2.1); (try have hG0 := (cells_heap hC0).2.2.2.1); (try have hC1 := hS.cell (i := 1) rfl); (try have hD1 := (cells_heap hC1).1); (try have hE1 := (cells_heap hC1).2.1); (try have hF1 := (cells_heap hC1).2.2.1); (try have hG1 := (cells_heap hC1).2.2.2.1); (try have hC2 := hS.cell (i := 2) rfl); (try have hD2 := (cells_heap hC2).1); (try have hE2 := (cells_heap hC2).2.1); (try have hF2 := (cells_heap hC2).2.2.1); (try have hG2 := (cells_heap hC2).2.2.2.1); (try have hC3 := hS.cell (i := 3) rfl); (try have hD3 := (cells_heap hC3).1); (try have hE3 := (cells_heap hC3).2.1); (try have hF3 := (cells_heap hC3).2.2.1); (try have hG3 := (cells_heap hC3).2.2.2.1); (try have hC4 := hS.cell (i := 4) rfl); (try have hD4 := (cells_heap hC4).1); (try have hE4 := (cells_heap hC4).2.1); (try have hF4 := (cells_heap hC4).2.2.1); (try have hG4 := (cells_heap hC4).2.2.2.1); (try have hM0 := hS.map (i := 0) rfl); (try have hM1 := hS.map (i := 1) rfl); (try have hM2 := hS.map (i := 2) rfl); (try have hM3 := hS.map (i := 3) rfl); (try have hM4 := hS.map (i := 4) rfl))
          | (apply WL.indexO tOk; exact rfl; exact rfl; exact rfl; exact rfl; exact rfl; exact rfl; exact rfl; exact rfl; assumption; (exact extA); exact enc3_ok; (first | exact rfl | (simp; done) | (simp [*]; done) | omega | (simp only [List.length_set]; omega)); omega; assumption; intro gb ha hc; cases ha; have hcc := hc; first | (obtain ⟨h1, h2, h3, _⟩ := hc) | (obtain ⟨h1, h2, _⟩ := hc) | (obtain ⟨h1, _⟩ := hc))
          | (show WL _ _ _ _ _ _ _; first | apply WL.nil | (apply WL.pev tOk; exact rfl; exact rfl; exact rfl) | (apply WL.load tOk; exact rfl; exact rfl; exact rfl; exact rfl; exact rfl; (first | assumption | (focus (apply Ext.cell; rotate_left; assumption; (exact extA); done)))) | (apply WL.index tOk; exact rfl; exact rfl; exact rfl; exact rfl; exact rfl; exact rfl; exact rfl; exact rfl; assumption; (exact extA); exact rfl; omega; assumption; intro b off h; have hcc := h; first | (obtain ⟨h1, h2, h3, h4, h5, h6, _⟩ := h) | (obtain ⟨h1, h2, h3, _⟩ := h) | (obtain ⟨h1, h2, _⟩ := h) | (obtain ⟨h1, _⟩ := h)) | (apply WL.add; exact rfl; exact rfl; exact rfl; exact rfl; omega) | (apply WL.sub; exact rfl; exact rfl; exact rfl; exact rfl; omega) | (apply WL.mul; exact rfl; exact rfl; exact rfl; exact rfl; omega) | (apply WL.quo; exact rfl; exact rfl; exact rfl; exact rfl; omega) | (apply WL.rem; exact rfl; exact rfl; exact rfl; exact rfl; omega) | (apply WL.loadA tOk; exact rfl; exact rfl; exact rfl; exact rfl; exact rfl; (first | assumption | (focus (apply Cells.ext; rotate_left; assumption; (exact extA); done))); exact rfl) | (apply WL.guardF; exact rfl; exact rfl) | (apply WL.gD; exact rfl; exact rfl; all_goals intro _) | (apply WL.gN; exact rfl; exact rfl; all_goals intro _) | (apply WL.gB; exact rfl; exact rfl; all_goals intro _))
          | (show Z _ _ _ _ _; first | apply Z.tail | apply Z.then_normal | apply Z.block_normal | apply Z.then_exit | apply Z.block_exit | apply Z.then_ret | apply Z.block_ret | (apply Z.block_other; exact rfl))
          | (show W _ _ _ _ _ _; first | apply W.seq | apply W.region | apply W.block | apply W.skip | apply W.ret | apply W.exit | (apply W.condT; exact rfl) | (apply W.condF; exact rfl) | (apply W.condD; exact rfl; all_goals intro _) | (apply W.condN; exact rfl; all_goals intro _) | (apply W.condB; exact rfl; all_goals intro _)))
        refine Z.body1 Try.results48 rfl fun m => ⟨Ext.at hX' m, gt, rfl, ?_⟩
        refine TrAt.ext (w := w') ?_ ((Ext.refl _).at m)
        exact ⟨some ⟨gv, 0, none⟩, k + 1, some ⟨gm, 0, none⟩, k + 1, (List.replicate (k + 1) ((0, 0, 0) : T3)).set 0 (0, -1, -1), none, 0, none, 0, ⟨by simp, by simp, fun i x hx => by simp at hx⟩, by rw [← vK_all]; exact hS⟩
end Go.Proofs.Ytmaekaflpbenmaa
