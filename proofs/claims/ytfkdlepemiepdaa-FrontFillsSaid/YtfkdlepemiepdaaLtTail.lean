/- A region that draws its order, whose first operations are quiet in a class of worlds and whose last ones stand in one order. Generic over the program. No conditions. -/
import Derived.Test.YtfkdlepemiepdaaLtU64
namespace Go.Lt
open Go.RowKit
set_option linter.unusedVariables false
set_option linter.unusedSimpArgs false

/-- Edges and guards of the first n operations lead to earlier ones. -/
def lowB (ops : Array Oper) (n : Nat) : Bool :=
  (List.range n).all fun i =>
    match ops[i]? with
    | some o => o.after.all (fun e => !Region.binds .any e || decide (e.on < i)) && (match o.guard with | some (j, _) => decide (j < n) | none => true)
    | none => false

theorem lowB_spec {ops : Array Oper} {n i : Nat} (h : lowB ops n = true) (hi : i < n) : ∃ o, ops[i]? = some o ∧ (∀ e ∈ o.after, Region.binds .any e = true → e.on < i) ∧ (∀ j b, o.guard = some (j, b) → j < n) := by
  have := List.all_eq_true.1 h i (List.mem_range.2 hi)
  split at this
  · rename_i o ho
    simp only [Bool.and_eq_true] at this
    refine ⟨o, ho, fun e he hb => ?_, fun j b hg => ?_⟩
    · have := Array.all_eq_true'.1 this.1 e he
      simpa [hb] using this
    · have := this.2
      rw [hg] at this
      simpa using this
  · cases this

theorem wanted_same {ops opsH : Array Oper} {n : Nat} (hH : ∀ j, j < n → opsH[j]? = ops[j]?) {o : Oper} (hg : ∀ j b, o.guard = some (j, b) → j < n) (tmps : Array Value) : Region.wanted o (yielded opsH tmps) = Region.wanted o (yielded ops tmps) := by
  unfold Region.wanted
  split
  · rfl
  · rename_i j b hgd
    have := hH j (hg j b hgd)
    simp only [yielded, this]

/-- How many of the first n have not come up. -/
def todo (listed : Array Bool) (n : Nat) : Nat := (List.range n).countP fun i => !listed.getD i false

theorem todo_zero {listed : Array Bool} {n : Nat} (h : todo listed n = 0) {i : Nat} (hi : i < n) : listed.getD i false = true := by
  have := (List.countP_eq_zero.1 h) i (List.mem_range.2 hi)
  simpa using this

theorem todo_set {listed : Array Bool} {i : Nat} (hs : i < listed.size) (hf : listed.getD i false = false) : ∀ n, i < n → todo listed n = todo (listed.setIfInBounds i true) n + 1
  | 0, h => by omega
  | n + 1, h => by
    unfold todo
    rw [List.range_succ, List.countP_append, List.countP_append]
    by_cases hin : i < n
    · have ih := todo_set hs hf n hin
      unfold todo at ih
      rw [ih]
      have : (listed.setIfInBounds i true).getD n false = listed.getD n false := by
        simp [Array.getD_eq_getD_getElem?, Array.getElem?_setIfInBounds, show i ≠ n by omega]
      simp only [List.countP_singleton, this]
      omega
    · obtain rfl : i = n := by omega
      have h1 : (List.range i).countP (fun j => !(listed.setIfInBounds i true).getD j false) = (List.range i).countP (fun j => !listed.getD j false) := by
        apply List.countP_congr
        intro j hj
        have hj' := List.mem_range.1 hj
        have : (listed.setIfInBounds i true).getD j false = listed.getD j false := by
          simp [Array.getD_eq_getD_getElem?, Array.getElem?_setIfInBounds, show i ≠ j by omega]
        rw [this]
      have h2 : (listed.setIfInBounds i true).getD i false = true := by
        simp [Array.getD_eq_getD_getElem?, Array.getElem?_setIfInBounds, hs]
      simp only [h1, List.countP_singleton, h2, hf]
      simp

theorem sim {P : Program} {ops opsH : Array Oper} {n g : Nat} {Q Q' : Exit → Act → World → Prop} (hH : ∀ j, j < n → opsH[j]? = ops[j]?) (hsz : opsH.size = n) (hn : n < ops.size)
    (hs : Region.sinkB .any ops n = true) (hc : Region.chainB .any ops n = true) (hl : lowB ops n = true)
    (hQ : ∀ listed a w, listed.size = ops.size → (∀ j, j < n → listed.getD j false = true) → (∀ j, n ≤ j → listed.getD j false = false) → Q' .normal a w → wpAny P .any ops Q g listed a w) (hP : ∀ x a w, x ≠ .normal → Q' x a w → Q x a w) :
    ∀ f listedH listed a w, listedH.size = n → listed.size = ops.size → (∀ j, j < n → listed.getD j false = listedH.getD j false) → HeadInv .any ops n listed → todo listed n = f → wpAny P .any opsH Q' f listedH a w → wpAny P .any ops Q (f + g) listed a w := by
  intro f
  induction f with
  | zero =>
    intro listedH listed a w h1 h2 h3 inv ht h
    rw [Nat.zero_add]
    refine hQ listed a w h2 (fun j hj => todo_zero ht hj) (fun j hj => ?_) h.2
    by_cases hjs : j < ops.size
    · exact getD_both (inv.tail j hj hjs)
    · simp [Array.getD_eq_getD_getElem?, Array.getElem?_eq_none (show listed.size ≤ j by omega)]
  | succ f ih =>
    intro listedH listed a w h1 h2 h3 inv ht h
    rw [show f + 1 + g = (f + g) + 1 by omega]
    have hun : ∃ i, i < n ∧ listed.getD i false = false ∧ ∀ j, j < i → listed.getD j false = true := by
      by_cases hall : ∀ i, i < n → listed.getD i false = true
      · exfalso
        have : todo listed n = 0 := List.countP_eq_zero.2 (fun i hi => by simp [hall i (List.mem_range.1 hi)])
        omega
      · simp only [Classical.not_forall] at hall
        have hex : ∃ i, i < n ∧ listed.getD i false = false := by
          obtain ⟨i, hi, hf⟩ := hall
          exact ⟨i, hi, by simpa using hf⟩
        obtain ⟨i, ⟨hi, hf⟩, hmin⟩ := exists_least (p := fun i => i < n ∧ listed.getD i false = false) hex
        refine ⟨i, hi, hf, fun j hj => ?_⟩
        cases hb : listed.getD j false with
        | true => rfl
        | false => have := hmin j ⟨by omega, hb⟩; omega
    obtain ⟨i0, hi0, hf0, hmin0⟩ := hun
    have hready : ∀ i, i < n → (i ∈ Region.ready .any ops listed ↔ i ∈ Region.ready .any opsH listedH) := by
      intro i hi
      obtain ⟨o, ho, hedge, _⟩ := lowB_spec hl hi
      rw [mem_ready, mem_ready]
      have e1 : listed.getD i true = listedH.getD i true := by
        have := h3 i hi
        simpa [Array.getD_eq_getD_getElem?, show i < listed.size by omega, show i < listedH.size by omega] using this
      rw [e1]
      refine and_congr_right fun _ => ?_
      constructor
      · rintro ⟨o', ho', hall⟩
        rw [ho] at ho'; cases ho'
        exact ⟨o, by rw [hH i hi, ho], fun e he hb => by rw [← h3 _ (by have := hedge e he hb; omega)]; exact hall e he hb⟩
      · rintro ⟨o', ho', hall⟩
        rw [hH i hi, ho] at ho'; cases ho'
        exact ⟨o, ho, fun e he hb => by rw [h3 _ (by have := hedge e he hb; omega)]; exact hall e he hb⟩
    have hi0r : i0 ∈ Region.ready .any ops listed := by
      obtain ⟨o, ho, hedge, _⟩ := lowB_spec hl hi0
      exact mem_ready.2 ⟨getD_in (by omega) hf0, o, ho, fun e he hb => hmin0 _ (hedge e he hb)⟩
    refine ⟨fun h0 => (by rw [h0] at hi0r; cases hi0r), fun i hir => ?_⟩
    have hin : i < n := by
      rcases Nat.lt_or_ge i n with hlt | hge
      · exact hlt
      · exact absurd hir (tail_waits hs hc hn inv (n - i0) i0 rfl hi0 (getD_in (by omega) hf0) i hge)
    have hirH := (hready i hin).1 hir
    obtain ⟨o, ho, _, hguard⟩ := lowB_spec hl hin
    have hop := h.2 i hirH
    have hfi : listed.getD i false = false := getD_both (mem_ready.1 hir).1
    have hnext : ∀ a' w', wpAny P .any opsH Q' f (listedH.setIfInBounds i true) a' w' → wpAny P .any ops Q (f + g) (listed.setIfInBounds i true) a' w' := by
      intro a' w' hw
      refine ih _ _ a' w' (by simp [h1]) (by simp [h2]) (fun j hj => ?_) (inv.set hir hin) (by have := todo_set (listed := listed) (by omega) hfi n hin; omega) hw
      by_cases hij : i = j
      · subst hij
        simp [Array.getD_eq_getD_getElem?, Array.getElem?_setIfInBounds, show i < listed.size by omega, show i < listedH.size by omega]
      · have := h3 j hj
        simpa [Array.getD_eq_getD_getElem?, Array.getElem?_setIfInBounds, hij] using this
    unfold wpOp at hop ⊢
    rw [hH i hin, ho] at hop
    rw [ho]
    simp only at hop ⊢
    rw [wanted_same hH hguard] at hop
    split at hop
    · rename_i hw
      rw [if_pos hw]
      rcases hop with hop | ⟨h5, h6⟩
      · refine .inl ?_
        unfold Oper.wp at hop ⊢
        revert hop
        generalize (execOp a.eval o).run P w = r
        intro hop
        unfold Oper.upon at hop ⊢
        split at hop
        · exact hnext _ _ hop
        · exact hnext _ _ hop
        · exact hnext _ _ hop
        · refine Calls.mono hop fun e w'' he => ?_
          cases e with
          | returned v => exact hnext _ _ he
          | panicked c => exact hP _ _ _ (by simp) he
          | outgrown => obtain ⟨a1, w1, hq⟩ := he; exact ⟨a1, w1, hP _ _ _ (by simp) hq⟩
        · exact Rows.mono hop fun v w'' he => hnext _ _ he
        · exact hP _ _ _ (by simp) hop
        · exact hop
      · obtain ⟨a1, w1, hq⟩ := h6
        exact .inr ⟨h5, a1, w1, hP _ _ _ (by simp) hq⟩
    · rename_i hw
      rw [if_neg hw]
      exact hnext _ _ hop

section
variable {P : Program} {N : Nat} {e : Env} {w : World} {Q : Exit → Act → World → Prop} {ops : List Oper}

theorem wpQuiet_congr {P : Program} {ops opsH : Array Oper} {C : World → Prop} {K : Act → Prop} : ∀ (l : List Oper) (a : Act), (∀ o ∈ l, ∀ tmps, Region.wanted o (yielded opsH tmps) = Region.wanted o (yielded ops tmps)) → wpQuiet P ops C K l a → wpQuiet P opsH C K l a
  | [], a, _, h => h
  | o :: r, a, hw, h => by
    unfold wpQuiet at h ⊢
    rw [hw o (by simp)]
    split at h
    · rename_i hh
      rw [if_pos hh]
      obtain ⟨v, h1, h2⟩ := h
      exact ⟨v, h1, wpQuiet_congr r _ (fun o' ho' => hw o' (by simp [ho'])) h2⟩
    · rename_i hh
      rw [if_neg hh]
      exact wpQuiet_congr r _ (fun o' ho' => hw o' (by simp [ho'])) h

theorem W.regionQ {C : World → Prop} {id : Nat} {l pre tail : List Oper} (n : Nat) (hm : P.follows .mixedOrders = true) (hB : Region.lexTailB .any l.toArray n = true) (hc : cutAt n l = some (pre, tail))
    (hL : Region.lexB .any pre.toArray = true) (hlow : lowB l.toArray n = true) (hC : ∀ m, C (at' w m))
    (h : QL P N C l.toArray pre e (fun _ a w' => wpList P l.toArray Q tail a w')) : W P N (.region id l.toArray true) e w Q := by
  refine ⟨fun a m hf => ?_⟩
  obtain ⟨h1, h2⟩ := cutAt_eq hc
  simp only [Region.lexTailB, Bool.and_eq_true, decide_eq_true_eq] at hB
  obtain ⟨⟨⟨⟨hsel, hn⟩, hs⟩, hcb⟩, hlex⟩ := hB
  have hn' : n < l.length := by simpa using hn
  have hpl : pre.length = n := by rw [← h1]; simp; omega
  have htl : tail.length = l.length - n := by rw [← h2]; simp
  have hH : ∀ j, j < n → pre.toArray[j]? = l.toArray[j]? := fun j hj => by rw [← h1]; simp [hj]
  have hq := h.go a hf
  have hq' : wpQuiet P pre.toArray C (fun a' => ∀ w', C w' → wpList P l.toArray Q tail a' w') pre a := by
    refine wpQuiet_congr pre a (fun o ho tmps => ?_) hq
    obtain ⟨i, hi⟩ := List.mem_iff_getElem?.1 ho
    have hin : i < n := by have := (List.getElem?_eq_some_iff.1 hi).1; omega
    obtain ⟨o', ho', _, hgd⟩ := lowB_spec hlow hin
    have : o = o' := by
      have h5 : pre.toArray[i]? = some o := by simpa using hi
      rw [hH i hin, ho'] at h5
      exact (Option.some.inj h5).symm
    subst this
    exact wanted_same hH hgd tmps
  simp only [Region.lexB, Bool.and_eq_true] at hL
  refine wp_region_any hm ?_
  have hany : wpAny P .any pre.toArray (fun x a' w' => match x with | .normal => wpList P l.toArray Q tail a' w' | _ => False) n (Array.replicate n false) a (at' w (m + 1)) := by
    have h5 := wpAnyQ_lex (P := P) (C := C) (md := .any) hL.1 pre 0 (Array.replicate n false) a (by simp) (by have := hL.2; simpa [hpl] using this) hq'
    rw [hpl] at h5
    exact wpAny_of_quiet (Q := fun a' => ∀ w', C w' → wpList P l.toArray Q tail a' w') (fun a' w' hw' hk => hk w' hw') _ _ _ _ (hC (m + 1)) h5
  have inv0 : HeadInv .any l.toArray n (Array.replicate l.toArray.size false) :=
    ⟨by simp, fun j oj _ hl => (by rw [getD_replicate_false] at hl; cases hl), fun t _ ht => getD_in (by simpa using ht) (getD_replicate_false _ _)⟩
  have htodo : todo (Array.replicate l.toArray.size false) n = n := by
    unfold todo
    rw [List.countP_eq_length.2 (fun i _ => by rw [getD_replicate_false]; rfl)]
    simp
  have key := sim (P := P) (g := l.length - n) (Q := Q) hH (by simpa using hpl) hn hs hcb hlow (fun listed a' w' hsz hfull hrest hk => ?_) (fun x a' w' hx hk => ?_) n (Array.replicate n false) (Array.replicate l.toArray.size false) a (at' w (m + 1)) (by simp) (by simp)
    (fun j hj => by rw [getD_replicate_false, getD_replicate_false]) inv0 htodo hany
  · rw [show n + (l.length - n) = l.toArray.size by simp; omega] at key
    exact key
  · -- the tail
    have hseq : Region.seqB .any l.toArray (l.length - n) n listed = true := by
      have : ∀ (f k : Nat) (L : Array Bool), L.size = l.toArray.size → k + f = n → (∀ j, j < k → L.getD j false = true) → (∀ j, k ≤ j → L.getD j false = false) → Region.lexHead .any l.toArray (l.length - n) f k L = true → ∃ L', L'.size = l.toArray.size ∧ (∀ j, j < n → L'.getD j false = true) ∧ (∀ j, n ≤ j → L'.getD j false = false) ∧ Region.seqB .any l.toArray (l.length - n) n L' = true := by
        intro f
        induction f with
        | zero =>
          intro k L h1 h2 h3 h4 h5
          have hkn : k = n := by omega
          rw [hkn] at h3 h4 h5
          exact ⟨L, h1, h3, h4, h5⟩
        | succ f ih =>
          intro k L h1 h2 h3 h4 h5
          simp only [Region.lexHead, Bool.and_eq_true] at h5
          refine ih (k + 1) _ (by simpa using h1) (by omega) (fun j hj => ?_) (fun j hj => ?_) h5.2
          · by_cases hjk : k = j
            · subst hjk
              simp [Array.getD_eq_getD_getElem?, Array.getElem?_setIfInBounds, show k < L.size by rw [h1]; simp; omega]
            · have := h3 j (by omega)
              simpa [Array.getD_eq_getD_getElem?, Array.getElem?_setIfInBounds, hjk] using this
          · have := h4 j (by omega)
            simpa [Array.getD_eq_getD_getElem?, Array.getElem?_setIfInBounds, show k ≠ j by omega] using this
      obtain ⟨L', g1, g2, g3, g4⟩ := this n 0 (Array.replicate l.toArray.size false) (by simp) (by omega) (fun j hj => by omega) (fun j _ => getD_replicate_false _ _) (by simpa using hlex)
      have : listed = L' := by
        apply Array.ext
        · rw [hsz, g1]
        · intro i hi1 hi2
          rcases Nat.lt_or_ge i n with hlt | hge
          · have e1 := hfull i hlt
            have e2 := g2 i hlt
            simp [Array.getD_eq_getD_getElem?, hi1] at e1
            simp [Array.getD_eq_getD_getElem?, hi2] at e2
            rw [e1, e2]
          · have e1 := hrest i hge
            have e2 := g3 i hge
            simp [Array.getD_eq_getD_getElem?, hi1] at e1
            simp [Array.getD_eq_getD_getElem?, hi2] at e2
            rw [e1, e2]
      rw [this]; exact g4
    have := wpAny_of_seq (P := P) (md := .any) (Q' := Q) tail n listed a' w' (fun j => by rw [← h2]; simp [List.getElem?_drop]) (by rw [htl]; exact hseq) hk
    rwa [htl] at this
  · cases x with
    | normal => exact absurd rfl hx
    | _ => exact hk.elim
theorem Z.tail {P : Program} {N : Nat} {e : Env} {w : World} {Q : Exit → Act → World → Prop} {ops : Array Oper} {tail : List Oper} {x : Exit} (h : WL P N ops tail e w Q) : Z N (fun _ a w' => wpList P ops Q tail a w') x e w := ⟨h.go⟩
theorem W.regionQS {id : Nat} {l pre tail : List Oper} (n : Nat) (hm : P.follows .mixedOrders = true) (hB : Region.lexTailB .any l.toArray n = true) (hc : cutAt n l = some (pre, tail))
    (hL : Region.lexB .any pre.toArray = true) (hlow : lowB l.toArray n = true)
    (h : QL P N (Same w) l.toArray pre e (fun _ a w' => wpList P l.toArray Q tail a w')) : W P N (.region id l.toArray true) e w Q := W.regionQ n hm hB hc hL hlow (fun m => ⟨m, rfl⟩) h
theorem W.regionQX {id : Nat} {l pre tail : List Oper} (n : Nat) (hm : P.follows .mixedOrders = true) (hB : Region.lexTailB .any l.toArray n = true) (hc : cutAt n l = some (pre, tail))
    (hL : Region.lexB .any pre.toArray = true) (hlow : lowB l.toArray n = true)
    (h : QL P N (Ext w) l.toArray pre e (fun _ a w' => wpList P l.toArray Q tail a w')) : W P N (.region id l.toArray true) e w Q := W.regionQ n hm hB hc hL hlow (fun m => (Ext.refl w).at m) h
end
end Go.Lt
