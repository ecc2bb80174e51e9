/- Part 5 of what the claim CoiExtends needs: lemmas and contracts. No conditions. -/
import Derived.Test.YteidpnpbfagaeaaGreatRows
import Derived.Lib.SmallJoins
import Derived.KernelRfl
import Derived.WalkKit
import Derived.ProofKit
import Derived.Deep.Quiet
import Derived.Deep.LoopGhost
import Derived.StillTail
import Derived.Test.YteidpnpbfagaeaaGreatProg
import Derived.OpenShut
import Derived.ShutString
import Derived.ChangeOld
import Derived.Deep.Slices
import Derived.SizedLaws
import Derived.Laws.StructEq
import Derived.Laws.Externs
import Derived.MapKept
import Derived.Laws.CopyRow
import Derived.Laws.IdiomCopy
import Derived.Test.YteidpnpbfagaeaaGreatCoiExtendsP4
set_option linter.unusedVariables false
set_option linter.unusedSimpArgs false
set_option maxRecDepth 20000
set_option maxHeartbeats 32000000
namespace Go.Proofs.YteidpnpbfagaeaaGreat
open Go Go.Lt Go.RowKit

def putFC (off : Nat) (s : List Int × Nat) (i : Int) : List Int × Nat := (s.1.set (off + i.toNat) (2 * ((s.2 : Int) + 1)), s.2 + 1)
def fill1 (m : Nat) (inp : List Int) (k : Nat) : List Int × Nat := (inp.take k).foldl (putFC 0) (List.replicate m 0, 0)
def fill2 (I m : Nat) (inp la : List Int) (k : Nat) : List Int × Nat := (la.take k).foldl (putFC I) (fill1 m inp inp.length)
def stkP (I : Nat) (st : List Int) (l : List Int) (i : Nat) : List Int := if st.getD i 0 ≠ 2 then l.set (I + i) (st.getD i 0) else l
def fill3 (I : Nat) (st l : List Int) (k : Nat) : List Int := (List.range k).foldl (stkP I st) l
theorem fill1_succ {m : Nat} {inp : List Int} {k : Nat} {z : Int} (h : inp[k]? = some z) : fill1 m inp (k + 1) = putFC 0 (fill1 m inp k) z := by
 unfold fill1; rw [tkS h, List.foldl_append]; rfl
theorem fill2_succ {I m : Nat} {inp la : List Int} {k : Nat} {z : Int} (h : la[k]? = some z) : fill2 I m inp la (k + 1) = putFC I (fill2 I m inp la k) z := by
 unfold fill2; rw [tkS h, List.foldl_append]; rfl
theorem fill3_succ (I : Nat) (st l : List Int) (k : Nat) : fill3 I st l (k + 1) = stkP I st (fill3 I st l k) k := by
 unfold fill3; rw [List.range_succ, List.foldl_append]; rfl
def fillC (c : CirT) (st la inp : List Int) : List Int := fill3 c.ins.length st (fill2 c.ins.length (c.ins.length + c.lat.length) inp la la.length).1 c.lat.length
abbrev foldN (la inp : List Int) : List (Int × Int) := List.replicate (inp.length + la.length) (-1, 0)
noncomputable def foldV (c : CirT) (st la inp : List Int) : List Int × List (Int × Int) := copyV (foldN la inp) (cNet c).1 (fillC c st la inp)
noncomputable def foldL (c : CirT) (st la inp : List Int) (l : Int) : Int := litI (foldV c st la inp).1 (cl c l)
theorem getD_setC {l : List Int} {i p : Nat} {x d : Int} : (l.set i x).getD p d = if p = i /\ i < l.length then x else l.getD p d := by
 rw [List.getD_eq_getElem?_getD, List.getElem?_set, List.getD_eq_getElem?_getD]
 by_cases h : i = p
 ·subst h
  rw [if_pos rfl]
  by_cases h2 : i < l.length
  ·rw [if_pos h2, if_pos ⟨rfl, h2⟩]; rfl
  ·rw [if_neg h2, if_neg (fun h => h2 h.2), List.getElem?_eq_none (by omega)]
 ·rw [if_neg h, if_neg (fun h2 => h h2.1.symm)]
theorem mem_take_succ {l : List Int} {k : Nat} {z : Int} (h : l[k]? = some z) (x : Int) : x ∈ l.take (k + 1) ↔ x ∈ l.take k ∨ x = z := by
 rw [tkS h, List.mem_append, List.mem_singleton]
section fill
variable {I L : Nat} {inp la st : List Int} {V : List Bool} {f g : Int -> Bool}
theorem fill1_ok (hI : I <= L) (h0 : ofL V 0 = false) (hp : ∀ z ∈ inp, 0 <= z /\ z < (I : Int)) (hf : ∀ (k : Nat) z, inp[k]? = some z -> ofL V (2 * ((k : Int) + 1)) = f z) : ∀ k, k <= inp.length ->
  (fill1 L inp k).2 = k /\ (fill1 L inp k).1.length = L /\ ∀ p, p < L -> ofL V ((fill1 L inp k).1.getD p 0) = (if (p : Int) ∈ inp.take k then f p else false)
 | 0, _ => by
  refine ⟨rfl, by simp [fill1], fun p hp => ?_⟩
  rw [List.take_zero, if_neg (by simp)]
  show ofL V ((List.replicate L (0 : Int)).getD p 0) = _
  rw [List.getD_eq_getElem?_getD, List.getElem?_replicate, if_pos hp]; exact h0
 | k + 1, hk => by
  obtain ⟨z, hz⟩ := getI inp (show k < _ by omega)
  obtain ⟨i1, i2, i3⟩ := fill1_ok hI h0 hp hf k (by omega)
  have hzb := hp z (List.mem_of_getElem? hz)
  rw [fill1_succ hz]
  unfold putFC
  dsimp only
  refine ⟨by omega, by rw [List.length_set]; exact i2, fun p hp' => ?_⟩
  rw [getD_setC, i2, Nat.zero_add, i1]
  have hm := mem_take_succ hz (p : Int)
  by_cases e : p = z.toNat
  ·have e2 : (p : Int) = z := by omega
   rw [if_pos ⟨e, by omega⟩, if_pos (hm.2 (.inr e2)), hf k z hz, e2]
  ·have e2 : ¬ (p : Int) = z := by omega
   rw [if_neg (fun h => e h.1), i3 p hp']
   by_cases h3 : (p : Int) ∈ inp.take k
   ·rw [if_pos h3, if_pos (hm.2 (.inl h3))]
   ·rw [if_neg h3, if_neg (fun h => (hm.1 h).elim h3 e2)]
theorem fill2_ok (h0 : ofL V 0 = false) (hp : ∀ z ∈ inp, 0 <= z /\ z < (I : Int)) (hq : ∀ z ∈ la, 0 <= z /\ z < (L : Int)) (hf : ∀ (k : Nat) z, inp[k]? = some z -> ofL V (2 * ((k : Int) + 1)) = f z) (hg : ∀ (k : Nat) z, la[k]? = some z -> ofL V (2 * (((inp.length + k : Nat) : Int) + 1)) = g z) : ∀ k, k <= la.length ->
  (fill2 I (I + L) inp la k).2 = inp.length + k /\ (fill2 I (I + L) inp la k).1.length = I + L /\ (∀ p, p < I -> ofL V ((fill2 I (I + L) inp la k).1.getD p 0) = (if (p : Int) ∈ inp then f p else false)) /\
   ∀ j, j < L -> ofL V ((fill2 I (I + L) inp la k).1.getD (I + j) 0) = (if (j : Int) ∈ la.take k then g j else false)
 | 0, _ => by
  obtain ⟨i1, i2, i3⟩ := fill1_ok (I := I) (L := I + L) (inp := inp) (V := V) (f := f) (by omega) h0 hp hf inp.length (Nat.le_refl _)
  refine ⟨i1, i2, fun p hp' => ?_, fun j hj => ?_⟩
  ·have := i3 p (by omega); rw [List.take_length] at this; exact this
  ·have := i3 (I + j) (by omega)
   rw [List.take_length, if_neg (fun h => by have := (hp _ h).2; omega)] at this
   rw [List.take_zero, if_neg (by simp)]; exact this
 | k + 1, hk => by
  obtain ⟨z, hz⟩ := getI la (show k < _ by omega)
  obtain ⟨i1, i2, i3, i4⟩ := fill2_ok h0 hp hq hf hg k (by omega)
  have hzb := hq z (List.mem_of_getElem? hz)
  rw [fill2_succ hz]
  unfold putFC
  dsimp only
  refine ⟨by omega, by rw [List.length_set]; exact i2, fun p hp' => ?_, fun j hj => ?_⟩
  ·rw [getD_setC, if_neg (fun h => by omega)]; exact i3 p hp'
  ·have hm := mem_take_succ hz (j : Int)
   rw [getD_setC, i2, i1]
   by_cases e : j = z.toNat
   ·have e2 : (j : Int) = z := by omega
    rw [if_pos ⟨by omega, by omega⟩, if_pos (hm.2 (.inr e2)), hg k z hz, e2]
   ·have e2 : ¬ (j : Int) = z := by omega
    rw [if_neg (fun h => by omega), i4 j hj]
    by_cases h3 : (j : Int) ∈ la.take k
    ·rw [if_pos h3, if_pos (hm.2 (.inl h3))]
    ·rw [if_neg h3, if_neg (fun h => (hm.1 h).elim h3 e2)]
theorem fill3_len (I : Nat) (st l : List Int) : ∀ k, (fill3 I st l k).length = l.length
 | 0 => rfl
 | k + 1 => by
  rw [fill3_succ]
  unfold stkP
  split
  ·rw [List.length_set]; exact fill3_len I st l k
  ·exact fill3_len I st l k
theorem fill3_get (I : Nat) (st l : List Int) : ∀ k, I + k <= l.length -> (∀ p, p < I -> (fill3 I st l k).getD p 0 = l.getD p 0) /\ ∀ j, (fill3 I st l k).getD (I + j) 0 = (if j < k /\ st.getD j 0 ≠ 2 then st.getD j 0 else l.getD (I + j) 0)
 | 0, _ => ⟨fun _ _ => rfl, fun j => by rw [if_neg (fun h => by omega)]; rfl⟩
 | k + 1, hk => by
  obtain ⟨i1, i2⟩ := fill3_get I st l k (by omega)
  have hl := fill3_len I st l k
  rw [fill3_succ]
  unfold stkP
  refine ⟨fun p hp => ?_, fun j => ?_⟩
  ·split
   ·rw [getD_setC, if_neg (fun h => by omega)]; exact i1 p hp
   ·exact i1 p hp
  ·by_cases hs : st.getD k 0 ≠ 2
   ·rw [if_pos hs, getD_setC, hl]
    by_cases e : j = k
    ·subst e
     rw [if_pos ⟨rfl, by omega⟩, if_pos ⟨by omega, hs⟩]
    ·rw [if_neg (fun h => by omega), i2 j]
     by_cases h3 : j < k /\ st.getD j 0 ≠ 2
     ·rw [if_pos h3, if_pos ⟨by omega, h3.2⟩]
     ·rw [if_neg h3, if_neg (fun h => h3 ⟨by omega, h.2⟩)]
   ·rw [if_neg hs, i2 j]
    by_cases h3 : j < k /\ st.getD j 0 ≠ 2
    ·rw [if_pos h3, if_pos ⟨by omega, h3.2⟩]
    ·rw [if_neg h3, if_neg (fun h => h3 ⟨by
      rcases Nat.lt_or_ge j k with h4 | h4
      ·exact h4
      ·have : j = k := by omega
       subst this; exact absurd h.2 hs, h.2⟩)]
end fill
def mIn (n : Nat) (inp : List Int) (i : List Bool) : List Bool := tab n fun p => if (p : Int) ∈ inp then i.getD p false else false
def mSt (n : Nat) (st la : List Int) (s : List Bool) : List Bool := tab n fun j => if st.getD j 0 ≠ 2 then decide (st.getD j 0 = 1) else if (j : Int) ∈ la then s.getD j false else false
def tookL (la : List Int) (s : List Bool) : List Bool := la.map fun z => s.getD z.toNat false
theorem tidy_rep : ∀ m, Tidy (List.replicate m ((-1 : Int), (0 : Int)))
 | 0 => Tidy.nil
 | m + 1 => by rw [List.replicate_succ']; exact (tidy_rep m).input
theorem only_litQ {m : Nat} {N : List (Int × Int)} (h : OnlyG m N) (E : List Bool) {k : Nat} (hk : k < m) : ofL (values N E) (2 * ((k : Int) + 1)) = E.getD k false := by
 have hle := h.le
 obtain ⟨x, hx⟩ := getI N (show k < N.length by omega)
 have hxe := h.inp k x hx hk
 rw [ofL_even, values_in E hx (by rw [hxe]; decide), cnt_only h k (by omega)]
structure FoldOk (c : CirT) (st la inp : List Int) : Prop where
 st : st.length = c.lat.length /\ ∀ j, j < c.lat.length -> st.getD j 0 = 0 ∨ st.getD j 0 = 1 ∨ st.getD j 0 = 2
 la : ∀ z ∈ la, 0 <= z /\ z < (c.lat.length : Int)
 inp : ∀ z ∈ inp, 0 <= z /\ z < (c.ins.length : Int)
section
variable {c : CirT} {st la inp : List Int}
theorem fillC_len (h : FoldOk c st la inp) : (fillC c st la inp).length = c.ins.length + c.lat.length := by
 unfold fillC
 rw [fill3_len]
 have V : ofL (values ([] : List (Int × Int)) []) 0 = false := ofL_zero []
 unfold fill2 fill1
 have key : ∀ (off : Nat) (l : List Int) (s : List Int × Nat), (l.foldl (putFC off) s).1.length = s.1.length := by
  intro off l
  induction l with
  | nil => intro s; rfl
  | cons x r ih => intro s; rw [List.foldl_cons, ih]; unfold putFC; rw [List.length_set]
 rw [key, key, List.length_replicate]
theorem fillC_has (h : FoldOk c st la inp) : ∀ z ∈ fillC c st la inp, hasL (foldN la inp) z := by
 have h0 : hasL (foldN la inp) 0 := by unfold hasL; omega
 have key : ∀ (off : Nat) (l : List Int) (s : List Int × Nat), (∀ z ∈ s.1, hasL (foldN la inp) z) -> s.2 + l.length <= inp.length + la.length -> (∀ z ∈ (l.foldl (putFC off) s).1, hasL (foldN la inp) z) /\ (l.foldl (putFC off) s).2 = s.2 + l.length := by
  intro off l
  induction l with
  | nil => intro s h1 _; exact ⟨h1, rfl⟩
  | cons x r ih =>
   intro s h1 h2
   rw [List.foldl_cons]
   have h3 := ih (putFC off s x) (fun z hz => by
    unfold putFC at hz
    rcases List.mem_or_eq_of_mem_set hz with hz | hz
    ·exact h1 z hz
    ·rw [hz]; unfold hasL; simp at h2 ⊢; omega) (by unfold putFC; simp at h2 ⊢; omega)
   refine ⟨h3.1, ?_⟩
   rw [h3.2]; unfold putFC; simp; omega
 have k1 := key 0 (inp.take inp.length) (List.replicate (c.ins.length + c.lat.length) 0, 0) (fun z hz => by rw [List.eq_of_mem_replicate hz]; exact h0) (by simp)
 have k2 := key c.ins.length (la.take la.length) (fill1 (c.ins.length + c.lat.length) inp inp.length) k1.1 (by
  have : (fill1 (c.ins.length + c.lat.length) inp inp.length).2 = 0 + (inp.take inp.length).length := k1.2
  rw [this]; simp)
 have k3 : ∀ k, k <= c.lat.length -> ∀ z ∈ fill3 c.ins.length st (fill2 c.ins.length (c.ins.length + c.lat.length) inp la la.length).1 k, hasL (foldN la inp) z := by
  intro k
  induction k with
  | zero => intro _; exact k2.1
  | succ k ih =>
   intro hk z hz
   rw [fill3_succ] at hz
   unfold stkP at hz
   split at hz
   ·rename_i h2
    rcases List.mem_or_eq_of_mem_set hz with hz | hz
    ·exact ih (by omega) z hz
    ·rw [hz]; unfold hasL
     rcases h.st.2 k (by omega) with e | e | e
     ·rw [e]; omega
     ·rw [e]; omega
     ·exact absurd e h2
   ·exact ih (by omega) z hz
 exact k3 _ (Nat.le_refl _)
theorem fillC_val (h : FoldOk c st la inp) (s i : List Bool) : (fillC c st la inp).map (ofL (values (foldN la inp) (tookL inp i ++ tookL la s))) = insV c (mSt c.lat.length st la s) (mIn c.ins.length inp i) := by
 obtain ⟨V, hV⟩ : ∃ V, V = values (foldN la inp) (tookL inp i ++ tookL la s) := ⟨_, rfl⟩
 have h0 : ofL V 0 = false := by rw [hV]; exact ofL_zero _
 have h1 : ofL V 1 = true := by rw [hV]; exact ofL_one _
 have hlit : ∀ k, k < inp.length + la.length -> ofL V (2 * ((k : Int) + 1)) = (tookL inp i ++ tookL la s).getD k false := fun k hk => by
  rw [hV]; exact only_litQ (OnlyG.start _) _ hk
 have hf : ∀ (k : Nat) z, inp[k]? = some z -> ofL V (2 * ((k : Int) + 1)) = i.getD z.toNat false := fun k z hz => by
  have hk := lGt hz
  rw [hlit k (by omega), List.getD_eq_getElem?_getD, List.getElem?_append_left (by unfold tookL; rw [List.length_map]; exact hk)]
  unfold tookL
  rw [List.getElem?_map, hz]; rfl
 have hg : ∀ (k : Nat) z, la[k]? = some z -> ofL V (2 * (((inp.length + k : Nat) : Int) + 1)) = s.getD z.toNat false := fun k z hz => by
  have hk := lGt hz
  rw [hlit (inp.length + k) (by omega), List.getD_eq_getElem?_getD, List.getElem?_append_right (by unfold tookL; rw [List.length_map]; omega)]
  unfold tookL
  rw [List.length_map, Nat.add_sub_cancel_left, List.getElem?_map, hz]; rfl
 obtain ⟨_, j2, j3, j4⟩ := fill2_ok (f := fun z => i.getD z.toNat false) (g := fun z => s.getD z.toNat false) h0 h.inp h.la hf hg la.length (Nat.le_refl _)
 rw [List.take_length] at j4
 obtain ⟨m1, m2⟩ := fill3_get c.ins.length st (fill2 c.ins.length (c.ins.length + c.lat.length) inp la la.length).1 c.lat.length (by omega)
 rw [<- hV]
 have e1 : insV c (mSt c.lat.length st la s) (mIn c.ins.length inp i) = mIn c.ins.length inp i ++ mSt c.lat.length st la s := by
  unfold insV
  have a1 := brV_self (mIn c.ins.length inp i)
  have a2 := brV_self (mSt c.lat.length st la s)
  rw [show (mIn c.ins.length inp i).length = c.ins.length from tab_len _ _] at a1
  rw [show (mSt c.lat.length st la s).length = c.lat.length from tab_len _ _] at a2
  rw [a1, a2]
 rw [e1]
 apply List.ext_getElem?
 intro p
 have hfl := fillC_len h
 have hml : (mIn c.ins.length inp i).length = c.ins.length := tab_len _ _
 by_cases hp : p < c.ins.length
 ·obtain ⟨z, hz⟩ := getI (fillC c st la inp) (show p < _ by omega)
  have ez : (fillC c st la inp).getD p 0 = z := gDo hz
  rw [List.getElem?_map, hz, List.getElem?_append_left (by omega)]
  unfold mIn
  rw [tab_get _ hp]
  show some (ofL V z) = _
  rw [<- ez]
  unfold fillC
  rw [m1 p hp, j3 p hp]; rfl
 ·by_cases hp2 : p < c.ins.length + c.lat.length
  ·obtain ⟨j, rfl⟩ : ∃ j, p = c.ins.length + j := ⟨p - c.ins.length, by omega⟩
   obtain ⟨z, hz⟩ := getI (fillC c st la inp) (show c.ins.length + j < _ by omega)
   have ez : (fillC c st la inp).getD (c.ins.length + j) 0 = z := gDo hz
   rw [List.getElem?_map, hz, List.getElem?_append_right (by omega), hml, Nat.add_sub_cancel_left]
   unfold mSt
   rw [tab_get _ (show j < c.lat.length by omega)]
   show some (ofL V z) = _
   rw [<- ez]
   unfold fillC
   rw [m2 j]
   by_cases h2 : st.getD j 0 ≠ 2
   ·rw [if_pos ⟨by omega, h2⟩, if_pos h2]
    rcases h.st.2 j (by omega) with e | e | e
    ·rw [e, h0]; rfl
    ·rw [e, h1]; rfl
    ·exact absurd e h2
   ·rw [if_neg (fun hh => h2 hh.2), if_neg h2, j4 j (by omega)]; rfl
  ·rw [List.getElem?_eq_none (by rw [List.length_map]; omega), List.getElem?_eq_none (by rw [List.length_append, hml]; unfold mSt; rw [tab_len]; omega)]
theorem fold_yes (h : FoldOk c st la inp) : foldV c st la inp = ((cto (foldN la inp) (cNet c).1 (fillC c st la inp) (cNet c).1.length).1, (cto (foldN la inp) (cNet c).1 (fillC c st la inp) (cNet c).1.length).2.2) := copyV_yes (fillC_has h)
theorem fold_inv (hg : GoodC' c) (h : FoldOk c st la inp) : (foldV c st la inp).1.length = (cNet c).1.length + 1 /\ (∀ z ∈ (foldV c st la inp).1, hasL (foldV c st la inp).2 z) /\ inp.length + la.length <= (foldV c st la inp).2.length /\ (foldV c st la inp).2.length <= inp.length + la.length + (cNet c).1.length /\ Tidy (foldV c st la inp).2 := by
 have h1 := cto_inv (cNet_ok hg).2 (fillC_has h) (cNet c).1.length (Nat.le_refl _)
 rw [fold_yes h]
 obtain ⟨a1, a2, a3, a4, a5, _⟩ := h1
 rw [List.length_replicate] at a3 a4
 exact ⟨a1, a2, a3, a4, a5.tidy (tidy_rep _)⟩
theorem fold_lit (hg : GoodC' c) (h : FoldOk c st la inp) (s i : List Bool) {l : Int} (hl : KnL c l) : ofL (values (foldV c st la inp).2 (tookL inp i ++ tookL la s)) (foldL c st la inp l) = litV c (mSt c.lat.length st la s) (mIn c.ins.length inp i) l := by
 obtain ⟨a1, a2, _⟩ := fold_inv hg h
 have hcn := net_cnt hg (cNet c).1.length (Nat.le_refl _)
 have hcs := (copy_semG (cNet_ok hg).2 (tidy_rep _) (fillC_has h) (by rw [hcn, fillC_len h, inl_len]; exact Nat.min_le_right _ _) (tookL inp i ++ tookL la s) (cNet c).1.length (Nat.le_refl _)).2.2
 have hr := knL_range hg hl
 unfold litV stepV foldL
 rw [<- fillC_val h s i]
 refine litI_of_copy (N := (foldV c st la inp).2) (fun k z hz => ?_) a2 (by unfold cl; omega)
 rw [fold_yes h] at hz ⊢
 exact hcs k z hz
theorem foldL_has (hg : GoodC' c) (h : FoldOk c st la inp) {l : Int} (hl : KnL c l) : hasL (foldV c st la inp).2 (foldL c st la inp l) := by
 obtain ⟨a1, a2, _⟩ := fold_inv hg h
 have hr := knL_range hg hl
 exact hasL_litI a2 (by unfold cl; omega)
end

theorem cto_onlyQ {m : Nat} {N n : List (Int × Int)} {L : List Int} (hN : OnlyG m N) (hin : cnt n n.length <= L.length) : ∀ k, k <= n.length -> (cto N n L k).2.1 = cnt n k /\ OnlyG m (cto N n L k).2.2
 | 0, _ => ⟨rfl, hN⟩
 | k + 1, hk => by
  obtain ⟨x, hx⟩ := getI n (show k < n.length by omega)
  obtain ⟨h1, h2⟩ := cto_onlyQ hN hin k (by omega)
  rw [cto_succ hx]
  unfold cstep
  by_cases h0 : 0 <= x.1
  ·rw [if_pos h0]; exact ⟨by rw [cnt_gate hx (by omega)]; exact h1, h2.and _ _⟩
  ·have hc1 := cnt_in hx (show x.1 < 0 by omega)
   have hc2 := cnt_mono n (i := k + 1) (k := n.length) (by omega)
   rw [if_neg h0, if_pos (by omega)]; exact ⟨by rw [hc1]; dsimp only; omega, h2⟩
section
variable {c : CirT} {st la inp : List Int}
theorem fold_only (hg : GoodC' c) (h : FoldOk c st la inp) : OnlyG (inp.length + la.length) (foldV c st la inp).2 := by
 rw [fold_yes h]
 have hcn := net_cnt hg (cNet c).1.length (Nat.le_refl _)
 exact (cto_onlyQ (OnlyG.start _) (by rw [hcn, fillC_len h, inl_len]; exact Nat.min_le_right _ _) _ (Nat.le_refl _)).2
end
theorem hang_same {n : List (Int × Int)} (hg : GNt n) {a b : List Bool} {u : Nat} (h : ∀ v, 1 <= v -> Hang n u v -> InP n v -> a.getD (cnt n (v - 1)) false = b.getD (cnt n (v - 1)) false) : ∀ v, Hang n u v -> v <= n.length -> (values n a).getD v false = (values n b).getD v false := by
 intro v
 induction v using Nat.strongRecOn with
 | _ v ih =>
  intro hh hv
  match v, ih, hh, hv with
  | 0, _, _, _ => rw [values_zero, values_zero]
  | k + 1, ih, hh, hv =>
   obtain ⟨x, hx⟩ := getI n (show k < n.length by omega)
   by_cases hin : x.1 < 0
   ·rw [values_in a hx hin, values_in b hx hin]
    exact h (k + 1) (by omega) hh ⟨x, by simpa using hx, hin⟩
   ·have h0 : 0 <= x.1 := by omega
    have hgt := hg.gate hx h0
    have k1 : Kid n (k + 1) (x.1 / 2).toNat := ⟨k, x, rfl, hx, h0, .inl rfl⟩
    have k2 : Kid n (k + 1) (x.2 / 2).toNat := ⟨k, x, rfl, hx, h0, .inr rfl⟩
    rw [values_gate hg a hx h0, values_gate hg _ hx h0]
    unfold ofL
    rw [ih _ (k1.lt hg) (hh.snoc k1) (by omega), ih _ (k2.lt hg) (hh.snoc k2) (by omega)]
theorem hangL_same {n : List (Int × Int)} (hg : GNt n) {a b : List Bool} {l : Int} (hl : hasL n l) (h : ∀ v : Nat, HangL n l v -> InP n v -> a.getD (cnt n (v - 1)) false = b.getD (cnt n (v - 1)) false) : ofL (values n a) l = ofL (values n b) l := by
 unfold hasL at hl
 unfold ofL
 by_cases h2 : 2 <= l
 ·rw [hang_same hg (u := (l / 2).toNat) (fun v h1 hh hp => h v ⟨h2, by omega, by omega, by have := hh.le hg; omega, by simpa using hh⟩ hp) _ (.refl _) (by omega)]
 ·rw [show (l / 2).toNat = 0 by omega, values_zero, values_zero]
theorem hangL_self {n : List (Int × Int)} {l : Int} (h2 : 2 <= l) (hl : hasL n l) : HangL n l ((l / 2).toNat : Nat) := by
 unfold hasL at hl
 exact ⟨h2, by omega, by omega, by omega, by
  have e : (((l / 2).toNat : Nat) : Int).toNat = (l / 2).toNat := Int.toNat_natCast _
  rw [e]; exact .refl _⟩
noncomputable def freeV (c : CirT) : List Int := sel c.lat.length (fun j => (skV c).getD j 0 = 2)
def allI (m : Nat) : List Int := (List.range m).map fun u => ((u : Nat) : Int)
theorem allI_len (m : Nat) : (allI m).length = m := by simp [allI]
theorem allI_get {m k : Nat} (h : k < m) : (allI m)[k]? = some (k : Int) := by simp [allI, h]
theorem allI_mem {m : Nat} {z : Int} : z ∈ allI m ↔ 0 <= z /\ z < (m : Int) := by
 simp only [allI, List.mem_map, List.mem_range]
 constructor
 ·rintro ⟨u, h1, rfl⟩; omega
 ·intro h; exact ⟨z.toNat, by omega, by omega⟩
noncomputable abbrev storeV (c : CirT) : List Int × List (Int × Int) := foldV c (skV c) (freeV c) (allI c.ins.length)
noncomputable abbrev inSt (c : CirT) (l : Int) : Int := foldL c (skV c) (freeV c) (allI c.ins.length) l
def badL (c : CirT) (prop : Int) : Int := if 0 <= prop /\ prop < (c.bads.length : Int) then c.bads.getD prop.toNat 0 else 0
inductive Need (c : CirT) (prop : Int) : Nat -> Prop
 | base {l : Int} {v : Nat} : l ∈ badL c prop :: c.cons -> HangL (storeV c).2 (inSt c l) v -> InP (storeV c).2 v -> Need c prop v
 | step {k v : Nat} {j : Int} {t : T3} : Need c prop (c.ins.length + 1 + k) -> (freeV c)[k]? = some j -> c.lat[j.toNat]? = some t -> HangL (storeV c).2 (inSt c t.2.1) v -> InP (storeV c).2 v -> Need c prop v
noncomputable def laV (c : CirT) (prop : Int) : List Int := sel c.lat.length (fun j => ∃ k, (freeV c)[k]? = some (j : Int) /\ Need c prop (c.ins.length + 1 + k))
noncomputable def inV (c : CirT) (prop : Int) : List Int := sel c.ins.length (fun p => Need c prop (p + 1))
theorem sel_bd {m : Nat} {p : Nat -> Prop} : ∀ z ∈ sel m p, 0 <= z /\ z < (m : Int) := fun z hz => by
 obtain ⟨u, rfl, hu, _⟩ := sel_mem.1 hz
 omega
section
variable {c : CirT} {prop : Int}
theorem free_mem {j : Int} : j ∈ freeV c ↔ 0 <= j /\ j < (c.lat.length : Int) /\ (skV c).getD j.toNat 0 = 2 := by
 unfold freeV
 rw [sel_mem]
 constructor
 ·rintro ⟨u, rfl, h1, h2⟩; exact ⟨by omega, by omega, by simpa using h2⟩
 ·rintro ⟨h0, h1, h2⟩; exact ⟨j.toNat, by omega, by omega, h2⟩
theorem stuck_stOk (hg : GoodC' c) : (skV c).length = c.lat.length /\ ∀ j, j < c.lat.length -> (skV c).getD j 0 = 0 ∨ (skV c).getD j 0 = 1 ∨ (skV c).getD j 0 = 2 := ⟨stuck_len, fun _ h => stuck_three hg h⟩
theorem store_ok (hg : GoodC' c) : FoldOk c (skV c) (freeV c) (allI c.ins.length) := ⟨stuck_stOk hg, sel_bd, fun _ hz => allI_mem.1 hz⟩
theorem need_ok (hg : GoodC' c) (prop : Int) : FoldOk c (skV c) (laV c prop) (inV c prop) := ⟨stuck_stOk hg, sel_bd, sel_bd⟩
theorem la_free {j : Int} (h : j ∈ laV c prop) : j ∈ freeV c := by
 obtain ⟨u, rfl, _, k, hk, _⟩ := sel_mem.1 h
 exact List.mem_of_getElem? hk
theorem bad_kn (hg : GoodC' c) (prop : Int) : KnL c (badL c prop) := by
 unfold badL
 split
 ·obtain ⟨y, hy⟩ := getI c.bads (show prop.toNat < _ by omega)
  rw [gDo hy]; exact kLu hg (used_bad (List.mem_of_getElem? hy))
 ·exact ⟨by omega, fun h => by omega⟩
theorem want_kn (hg : GoodC' c) {l : Int} (h : l ∈ badL c prop :: c.cons) : KnL c l := by
 rcases List.mem_cons.1 h with rfl | h
 ·exact bad_kn hg prop
 ·exact kLu hg (used_con h)
def AllN (c : CirT) (prop l : Int) : Prop := ∀ v : Nat, HangL (storeV c).2 (inSt c l) v -> InP (storeV c).2 v -> Need c prop v
theorem want_all {l : Int} (h : l ∈ badL c prop :: c.cons) : AllN c prop l := fun _ h1 h2 => .base h h1 h2
theorem next_all {j : Int} {t : T3} (h : j ∈ laV c prop) (ht : c.lat[j.toNat]? = some t) : AllN c prop t.2.1 := fun _ h1 h2 => by
 obtain ⟨u, rfl, _, k, hk, hn⟩ := sel_mem.1 h
 exact .step hn hk ht h1 h2
theorem mSt_free {s : List Bool} (hg : GoodC' c) (hl : s.length = c.lat.length) (h : StkAt c s) : mSt c.lat.length (skV c) (freeV c) s = s := by
 symm
 refine tab_eq hl fun u x hx => ?_
 have hu := lGt hx
 have h3 := stuck_three hg (show u < c.lat.length by omega)
 have h4 := h u (by omega)
 rw [gDo hx] at h4
 by_cases h2 : (skV c).getD u 0 ≠ 2
 ·rw [if_pos h2]
  rcases h3 with e | e | e
  ·rw [h4.1 e, e]; rfl
  ·rw [h4.2 e, e]; rfl
  ·exact absurd e h2
 ·rw [if_neg h2, if_pos (free_mem.2 ⟨by omega, by omega, by simpa using h2⟩), gDo hx]
theorem mIn_all (i : List Bool) : mIn c.ins.length (allI c.ins.length) i = brV i c.ins.length := by
 unfold mIn
 symm
 refine tab_eq (brV_len _ _) fun u x hx => ?_
 have hu := lGt hx
 rw [brV_len] at hu
 rw [brV_get _ hu] at hx
 rw [if_pos (allI_mem.2 ⟨by omega, by omega⟩)]
 exact Option.some.inj hx
theorem insV_br (s i : List Bool) : insV c s (brV i c.ins.length) = insV c s i := by
 unfold insV
 have := brV_self (brV i c.ins.length)
 rw [brV_len] at this
 rw [this]
theorem litV_br (s i : List Bool) (l : Int) : litV c s (brV i c.ins.length) l = litV c s i l := by unfold litV stepV; rw [insV_br]
theorem mSt_stk (hg : GoodC' c) (la : List Int) (s : List Bool) : StkAt c (mSt c.lat.length (skV c) la s) := fun j hj => by
 unfold mSt
 rw [tab_getD _ _ hj]
 constructor
 ·intro e; rw [if_pos (by omega), e]; rfl
 ·intro e; rw [if_pos (by omega), e]; rfl
theorem store_lit (hg : GoodC' c) {s : List Bool} (hl : s.length = c.lat.length) (h : StkAt c s) (i : List Bool) {l : Int} (hk : KnL c l) : ofL (values (storeV c).2 (tookL (allI c.ins.length) i ++ tookL (freeV c) s)) (inSt c l) = litV c s i l := by
 have h1 := fold_lit hg (store_ok hg) s i hk
 rw [mSt_free hg hl h, mIn_all, litV_br] at h1
 exact h1
theorem took_get {la : List Int} {s : List Bool} {k : Nat} {z : Int} (h : la[k]? = some z) : (tookL la s).getD k false = s.getD z.toNat false := by
 refine gDo ?_
 unfold tookL; rw [List.getElem?_map, h]; rfl
theorem took_len (la : List Int) (s : List Bool) : (tookL la s).length = la.length := List.length_map _
theorem took_app1 {a b : List Int} {i s : List Bool} {k : Nat} {z : Int} (h : a[k]? = some z) : (tookL a i ++ tookL b s).getD k false = i.getD z.toNat false := by
 rw [List.getD_eq_getElem?_getD, List.getElem?_append_left (by rw [took_len]; exact lGt h), <- List.getD_eq_getElem?_getD]; exact took_get h
theorem took_app2 {a b : List Int} {i s : List Bool} {k : Nat} {z : Int} (h : b[k]? = some z) : (tookL a i ++ tookL b s).getD (a.length + k) false = s.getD z.toNat false := by
 rw [List.getD_eq_getElem?_getD, List.getElem?_append_right (by rw [took_len]; omega), took_len, Nat.add_sub_cancel_left, <- List.getD_eq_getElem?_getD]; exact took_get h
theorem in_var {m : Nat} {N : List (Int × Int)} (h : OnlyG m N) {v : Nat} (h1 : 1 <= v) (hp : InP N v) : v <= m := by
 obtain ⟨x, hx, h0⟩ := hp
 apply Classical.byContradiction
 intro hn
 have := h.gate (v - 1) x hx (by omega)
 omega
theorem in_mem {p : Nat} (hp : p < c.ins.length) (h : Need c prop (p + 1)) : (p : Int) ∈ inV c prop := sel_mem.2 ⟨p, rfl, hp, h⟩
theorem la_mem {k : Nat} {j : Int} (hj : (freeV c)[k]? = some j) (h : Need c prop (c.ins.length + 1 + k)) : j ∈ laV c prop := by
 have hf := free_mem.1 (List.mem_of_getElem? hj)
 have ej : ((j.toNat : Nat) : Int) = j := by omega
 exact sel_mem.2 ⟨j.toNat, ej.symm, by omega, k, by rw [ej]; exact hj, h⟩
theorem need_lit (hg : GoodC' c) {s : List Bool} (hl : s.length = c.lat.length) (h : StkAt c s) (i : List Bool) {l : Int} (hk : KnL c l) (hn : AllN c prop l) : litV c s i l = litV c (mSt c.lat.length (skV c) (laV c prop) s) (mIn c.ins.length (inV c prop) i) l := by
 have hso := store_ok hg
 have hO := fold_only hg hso
 rw [<- store_lit hg hl h i hk, <- store_lit hg (s := mSt c.lat.length (skV c) (laV c prop) s) (tab_len _ _) (mSt_stk hg (laV c prop) s) _ hk]
 refine hangL_same (fold_inv hg hso).2.2.2.2.good (foldL_has hg hso hk) fun v hv hp => ?_
 have hnv := hn v hv hp
 have h1 : 1 <= v := by have := hv.2.2.1; omega
 have hvm := in_var hO h1 hp
 rw [allI_len] at hvm
 rw [cnt_only hO (v - 1) (by rw [allI_len]; omega)]
 by_cases hvi : v - 1 < c.ins.length
 ·rw [took_app1 (allI_get hvi), took_app1 (allI_get hvi)]
  have e : ((v - 1 : Nat) : Int).toNat = v - 1 := Int.toNat_natCast _
  unfold mIn
  rw [e, tab_getD _ _ hvi, if_pos (in_mem hvi (by rw [show v - 1 + 1 = v by omega]; exact hnv))]
 ·obtain ⟨k, hkv⟩ : ∃ k, v = c.ins.length + 1 + k := ⟨v - 1 - c.ins.length, by omega⟩
  obtain ⟨j, hj⟩ := getI (freeV c) (show k < (freeV c).length by omega)
  have hjf := free_mem.1 (List.mem_of_getElem? hj)
  have e2 : v - 1 = (allI c.ins.length).length + k := by rw [allI_len]; omega
  rw [e2, took_app2 hj, took_app2 hj]
  have ej : ((j.toNat : Nat) : Int) = j := by omega
  unfold mSt
  rw [tab_getD _ _ (show j.toNat < c.lat.length by omega), if_neg (by rw [hjf.2.2]; simp), ej, if_pos (la_mem hj (by rw [<- hkv]; exact hnv))]
end

section cut
variable {n : List (Int × Int)} {m : Nat} {P : Nat -> Prop}
theorem rnk_first (h0 : ¬ P 0) (hP : ∀ v, v < m -> P (v + 1)) : ∀ k, k <= m -> rnk P k = k
 | 0, _ => by unfold rnk; rw [sel_no h0]; rfl
 | k + 1, hk => by rw [rnk_yes (hP k (by omega)), rnk_first h0 hP k (by omega)]
theorem cut_only (hg : GNt n) (hO : OnlyG m n) (h0 : ¬ P 0) (hk : ∀ v c, P v -> Kid n v c -> c = 0 ∨ P c) (hP : ∀ v, v < m -> P (v + 1)) : OnlyG m (outTo n P n.length) := by
 have hr := rnk_first h0 hP
 have hle := hO.le
 refine ⟨?_, fun i x hx hi => ?_, fun i x hx hi => ?_⟩
 ·rw [outTo_len n h0]
  have h1 := rnk_mono (P := P) hle
  rw [hr m (Nat.le_refl _)] at h1; exact h1
 ·have h1 := outTo_get (n := n) h0 (hP i hi) (show i < n.length by omega)
  rw [hr i (by omega), hx] at h1
  obtain ⟨y, hy⟩ := getI n (show i < n.length by omega)
  have e : nodeC n P i = (-1, 0) := by unfold nodeC; rw [hy]; exact if_pos (by rw [hO.inp i y hy hi]; decide)
  rw [e] at h1; exact Option.some.inj h1
 ·obtain ⟨k, h1, h2, h3, h4⟩ := outTo_all h0 hx
  obtain ⟨y, hy⟩ := getI n h1
  have hkm : m <= k := by
   rcases Nat.lt_or_ge k m with h5 | h5
   ·rw [hr k (by omega)] at h3; omega
   ·exact h5
  have hy0 := hO.gate k y hy hkm
  obtain ⟨e, c1, _⟩ := node_gate hk hy h2 hy0
  have hgt := hg.gate hy hy0
  rw [h4, e]
  exact (atL_bound (P := P) (k := k) hy0 hgt.1 c1).1
theorem few_first (hO : OnlyG m n) (hP : ∀ v, v < m -> P (v + 1)) (J : List Bool) : ∀ k, k <= n.length -> fewTo n P J k = tab (min k m) (fun i => J.getD i false)
 | 0, _ => by rw [Nat.zero_min]; rfl
 | k + 1, hk => by
  have ih := few_first hO hP J k (by omega)
  obtain ⟨x, hx⟩ := getI n (show k < n.length by omega)
  by_cases hkm : k < m
  ·have hxe := hO.inp k x hx hkm
   rw [fewTo_yes hx ⟨by rw [hxe]; decide, hP k hkm⟩, ih, cnt_only hO k (by omega), show min (k + 1) m = min k m + 1 by omega, show min k m = k by omega, tab_succ]
  ·have hx0 := hO.gate k x hx (by omega)
   rw [fewTo_no hx (fun h => by have := h.1; omega), ih, show min (k + 1) m = min k m by omega]
theorem few_all (hO : OnlyG m n) (hP : ∀ v, v < m -> P (v + 1)) {J : List Bool} (hJ : J.length = m) : fewTo n P J n.length = J := by
 rw [few_first hO hP J n.length (Nat.le_refl _), show min n.length m = m by have := hO.le; omega]
 symm
 exact tab_eq hJ fun u x hx => gDo hx
theorem ofL_add (V : List Bool) {a b : Int} (ha : 0 <= a /\ a % 2 = 0) (hb : b = 0 ∨ b = 1) : ofL V (a + b) = (ofL V a != decide (b = 1)) := by
 unfold ofL
 rcases hb with rfl | rfl
 ·rw [Int.add_zero]; simp
 ·rw [show ((a + 1) / 2).toNat = (a / 2).toNat by omega, decide_eq_true (show (a + 1) % 2 = 1 by omega), decide_eq_false (show ¬ a % 2 = 1 by omega)]; simp
theorem cut_lit (hg : GNt n) (hn : n.length <= 1048576) (hO : OnlyG m n) (h0 : ¬ P 0) (hk : ∀ v c, P v -> Kid n v c -> c = 0 ∨ P c) (hP : ∀ v, v < m -> P (v + 1)) {J : List Bool} (hJ : J.length = m) {l : Int} (hl : hasL n l) (hc : (l / 2).toNat = 0 ∨ P (l / 2).toNat) :
  ofL (values (outTo n P n.length) J) (atL P l) = ofL (values n J) l /\ hasL (outTo n P n.length) (atL P l) := by
 unfold hasL at hl
 have hev := atv_even P hc (show (l / 2).toNat <= 1048576 by omega)
 have h1 := cut_of hg h0 hk J (v := (l / 2).toNat) (by omega) hev.1
 rw [few_all hO hP hJ] at h1
 have hb := atL_bound (P := P) (k := n.length) hl.1 (by omega) hc
 constructor
 ·unfold atL
  rw [ofL_add _ ⟨hev.1, hev.2.1⟩ (by omega), h1]
  rfl
 ·unfold hasL
  rw [outTo_len n h0]
  omega
end cut
section
variable (c : CirT) (prop : Int)
noncomputable abbrev redF : List Int × List (Int × Int) := foldV c (skV c) (laV c prop) (inV c prop)
noncomputable abbrev redL (l : Int) : Int := foldL c (skV c) (laV c prop) (inV c prop) l
abbrev latD (j : Int) : T3 := c.lat.getD j.toNat (0, 0, 0)
noncomputable def nextW : List Int := (laV c prop).map fun j => redL c prop (latD c j).2.1
noncomputable def wantW : List Int := nextW c prop ++ redL c prop (badL c prop) :: c.cons.map (redL c prop)
noncomputable def firstW : Nat := (inV c prop).length + (laV c prop).length
noncomputable def keepW : List Int := wantW c prop ++ evenL 0 (firstW c prop)
noncomputable def keepP : Nat -> Prop := OfP (redF c prop).2 (keepW c prop)
noncomputable def cutW : List (Int × Int) := outTo (redF c prop).2 (keepP c prop) (redF c prop).2.length
noncomputable abbrev nowL (l : Int) : Int := atL (keepP c prop) l
noncomputable def resW : List Int := tab (laV c prop).length fun k => if 1 < (latD c ((laV c prop).getD k 0)).2.2 then 2 * ((((inV c prop).length + k : Nat) : Int) + 1) else (latD c ((laV c prop).getD k 0)).2.2
noncomputable def restW : Rest := ⟨[], [nowL c prop (redL c prop (badL c prop))], (c.cons.map (redL c prop)).map (nowL c prop), [], ⟨#[]⟩⟩
noncomputable def redC : CirT := genC (inV c prop).length ((nextW c prop).map (nowL c prop)) (resW c prop) (restW c prop) (cutW c prop)
end
section
variable {c : CirT} {prop : Int}
theorem latD_mem {j : Int} (h : j ∈ laV c prop) : latD c j ∈ c.lat /\ c.lat[j.toNat]? = some (latD c j) := by
 have hb := sel_bd j h
 obtain ⟨t, ht⟩ := getI c.lat (show j.toNat < c.lat.length by omega)
 have e : latD c j = t := gDo ht
 rw [e]; exact ⟨List.mem_of_getElem? ht, ht⟩
theorem red_len (hg : GoodC' c) (hz : SzC c 100000) : (redF c prop).2.length <= 500000 := by
 have h1 := (fold_inv hg (need_ok hg prop)).2.2.2.1
 have h2 := net_len hg hz
 have h3 : (inV c prop).length <= c.ins.length := sel_le _ _
 have h4 : (laV c prop).length <= c.lat.length := sel_le _ _
 have h5 : c.ins.length <= 100000 := hz.1
 have h6 : c.lat.length <= 100000 := hz.2.1
 show (foldV c (skV c) (laV c prop) (inV c prop)).2.length <= _
 omega
theorem red_only (hg : GoodC' c) : OnlyG (firstW c prop) (redF c prop).2 := fold_only hg (need_ok hg prop)
theorem keep0 : ¬ keepP c prop 0 := fun h => by have := h.1; omega
theorem keepK (hg : GoodC' c) : ∀ v d, keepP c prop v -> Kid (redF c prop).2 v d -> d = 0 ∨ keepP c prop d := fun _ _ h hk => of_kid (fold_inv hg (need_ok hg prop)).2.2.2.2.good h hk
theorem keepF (hg : GoodC' c) : ∀ v, v < firstW c prop -> keepP c prop (v + 1) := fun v hv => by
 have hle := (red_only (prop := prop) hg).le
 have hl : hasL (redF c prop).2 (2 * ((v : Int) + 1)) := by unfold hasL; omega
 have h1 := hangL_self (n := (redF c prop).2) (l := 2 * ((v : Int) + 1)) (by omega) hl
 rw [show (2 * ((v : Int) + 1) / 2).toNat = v + 1 by omega] at h1
 refine ⟨by omega, 2 * ((v : Int) + 1), List.mem_append_right _ (evenL_mem.2 ?_), h1⟩
 omega
theorem keepL {l : Int} (hl : hasL (redF c prop).2 l) (hm : l ∈ wantW c prop) : (l / 2).toNat = 0 ∨ keepP c prop (l / 2).toNat := by
 unfold hasL at hl
 by_cases h2 : 2 <= l
 ·exact .inr ⟨by omega, l, List.mem_append_left _ hm, hangL_self h2 hl⟩
 ·left; omega
theorem redL_has (hg : GoodC' c) {l : Int} (hl : KnL c l) : hasL (redF c prop).2 (redL c prop l) := foldL_has hg (need_ok hg prop) hl
theorem want_next {j : Int} (h : j ∈ laV c prop) : redL c prop (latD c j).2.1 ∈ wantW c prop := List.mem_append_left _ (List.mem_map.2 ⟨j, h, rfl⟩)
theorem want_want {l : Int} (h : l ∈ badL c prop :: c.cons) : redL c prop l ∈ wantW c prop := by
 refine List.mem_append_right _ ?_
 rcases List.mem_cons.1 h with rfl | h
 ·exact List.mem_cons_self ..
 ·exact List.mem_cons_of_mem _ (List.mem_map.2 ⟨l, h, rfl⟩)
theorem now_lit (hg : GoodC' c) (hz : SzC c 100000) {J : List Bool} (hJ : J.length = firstW c prop) {l : Int} (hl : KnL c l) (hm : redL c prop l ∈ wantW c prop) : ofL (values (cutW c prop) J) (nowL c prop (redL c prop l)) = ofL (values (redF c prop).2 J) (redL c prop l) /\ hasL (cutW c prop) (nowL c prop (redL c prop l)) := by
 have hh := redL_has (prop := prop) hg hl
 have hlen := red_len (prop := prop) hg hz
 exact cut_lit (fold_inv hg (need_ok hg prop)).2.2.2.2.good (Nat.le_trans hlen (by omega)) (red_only hg) keep0 (keepK hg) (keepF hg) hJ hh (keepL hh hm)
theorem now_has (hg : GoodC' c) (hz : SzC c 100000) {l : Int} (hl : KnL c l) (hm : redL c prop l ∈ wantW c prop) : hasL (cutW c prop) (nowL c prop (redL c prop l)) := (now_lit hg hz (J := List.replicate (firstW c prop) false) List.length_replicate hl hm).2
theorem cutW_len (hg : GoodC' c) (hz : SzC c 100000) : (cutW c prop).length <= 500001 := by
 have h1 := red_len (prop := prop) hg hz
 have h2 := rnk_le (keepP c prop) (redF c prop).2.length
 unfold cutW
 rw [outTo_len _ keep0]
 omega
theorem nextW_len : (nextW c prop).length = (laV c prop).length := List.length_map _
theorem red_ok (hg : GoodC' c) (hz : SzC c 100000) : GenOk (inV c prop).length ((nextW c prop).map (nowL c prop)) (resW c prop) (restW c prop) (cutW c prop) := by
 have hl := cutW_len (prop := prop) hg hz
 refine ⟨good_out (fold_inv hg (need_ok hg prop)).2.2.2.2.good keep0 (keepK hg) (Nat.le_refl _), ?_, by omega, fun z hz' => ?_, fun i hi => ?_, fun z hz' => (by cases hz'), fun z hz' => ?_, fun z hz' => ?_⟩
 ·rw [List.length_map, nextW_len]
  exact cut_only (fold_inv hg (need_ok hg prop)).2.2.2.2.good (red_only hg) keep0 (keepK hg) (keepF hg)
 ·obtain ⟨x, hx, rfl⟩ := List.mem_map.1 hz'
  obtain ⟨j, hj, rfl⟩ := List.mem_map.1 hx
  exact now_has hg hz (kLu hg (used_next (latD_mem hj).1)) (want_next hj)
 ·rw [List.length_map, nextW_len] at hi
  unfold resW
  rw [tab_getD _ _ hi]
  obtain ⟨j, hj⟩ := getI (laV c prop) hi
  rw [gDo hj]
  have hm := (latD_mem (List.mem_of_getElem? hj)).1
  have h1 := hg.res _ hm
  have h2 := lat_own hg hm
  by_cases h3 : 1 < (latD c j).2.2
  ·rw [if_pos h3]; exact .inr (.inr rfl)
  ·rw [if_neg h3]; omega
 ·rw [List.mem_singleton.1 hz']
  exact now_has hg hz (bad_kn hg prop) (want_want (List.mem_cons_self ..))
 ·obtain ⟨x, hx, rfl⟩ := List.mem_map.1 hz'
  obtain ⟨l, hl', rfl⟩ := List.mem_map.1 hx
  exact now_has hg hz (kLu hg (used_con hl')) (want_want (List.mem_cons_of_mem _ hl'))
theorem red_good (hg : GoodC' c) (hz : SzC c 100000) : GoodC' (redC c prop) := genC_good (red_ok hg hz)
theorem red_lit (hg : GoodC' c) (hz : SzC c 100000) {s : List Bool} (hl : s.length = c.lat.length) (h : StkAt c s) (i : List Bool) {l : Int} (hk : KnL c l) (hn : AllN c prop l) (hm : redL c prop l ∈ wantW c prop) :
  litV (redC c prop) (tookL (laV c prop) s) (tookL (inV c prop) i) (nowL c prop (redL c prop l)) = litV c s i l := by
 have hJ : (tookL (inV c prop) i ++ tookL (laV c prop) s).length = firstW c prop := by rw [List.length_append, took_len, took_len]; rfl
 obtain ⟨h1, h2⟩ := now_lit hg hz hJ hk hm
 unfold redC
 rw [genC_lit (red_ok hg hz) _ _ h2]
 have a1 := brV_self (tookL (inV c prop) i)
 have a2 := brV_self (tookL (laV c prop) s)
 rw [took_len] at a1 a2
 rw [List.length_map, nextW_len, a1, a2, h1]
 have h3 := fold_lit hg (need_ok hg prop) s i hk
 rw [need_lit hg hl h i hk hn]
 exact h3
theorem red_latlen : (redC c prop).lat.length = (laV c prop).length := by
 show (latsG _ _ _).length = _
 rw [latsG_len, List.length_map, nextW_len]
theorem red_inslen : (redC c prop).ins.length = (inV c prop).length := evenL_len _ _
theorem red_lat {k : Nat} {j : Int} (h : (laV c prop)[k]? = some j) : (redC c prop).lat[k]? = some (2 * ((((inV c prop).length + k : Nat) : Int) + 1), nowL c prop (redL c prop (latD c j).2.1), if 1 < (latD c j).2.2 then 2 * ((((inV c prop).length + k : Nat) : Int) + 1) else (latD c j).2.2) := by
 have hk := lGt h
 have h1 := latsG_get (a := (inV c prop).length) (next := (nextW c prop).map (nowL c prop)) (reset := resW c prop) (i := k) (by rw [List.length_map, nextW_len]; exact hk)
 refine h1.trans ?_
 have e1 : ((nextW c prop).map (nowL c prop)).getD k 0 = nowL c prop (redL c prop (latD c j).2.1) := gDo (by
  unfold nextW
  rw [List.map_map, List.getElem?_map, h]; rfl)
 have e2 : (resW c prop).getD k 0 = if 1 < (latD c j).2.2 then 2 * ((((inV c prop).length + k : Nat) : Int) + 1) else (latD c j).2.2 := by
  unfold resW
  rw [tab_getD _ _ hk, gDo h]
 rw [e1, e2]
theorem red_next (hg : GoodC' c) (hz : SzC c 100000) {s : List Bool} (hl : s.length = c.lat.length) (h : StkAt c s) (i : List Bool) : nextV (redC c prop) (tookL (laV c prop) s) (tookL (inV c prop) i) = tookL (laV c prop) (nextV c s i) := by
 apply List.ext_getElem?
 intro k
 by_cases hk : k < (laV c prop).length
 ·obtain ⟨j, hj⟩ := getI (laV c prop) hk
  have hm := latD_mem (List.mem_of_getElem? hj)
  unfold nextV tookL
  rw [List.getElem?_map, red_lat hj, List.getElem?_map, hj]
  show some (litV (redC c prop) (tookL (laV c prop) s) (tookL (inV c prop) i) (nowL c prop (redL c prop (latD c j).2.1))) = some ((nextV c s i).getD j.toNat false)
  have e : (nextV c s i).getD j.toNat false = litV c s i (latD c j).2.1 := gDo (by unfold nextV; rw [List.getElem?_map, hm.2]; rfl)
  rw [e, red_lit hg hz hl h i (kLu hg (used_next hm.1)) (next_all (List.mem_of_getElem? hj) hm.2) (want_next (List.mem_of_getElem? hj))]
 ·rw [List.getElem?_eq_none (by rw [nextV_len, red_latlen]; omega), List.getElem?_eq_none (by rw [took_len]; omega)]
theorem red_holds (hg : GoodC' c) (hz : SzC c 100000) {s : List Bool} (hl : s.length = c.lat.length) (h : StkAt c s) (i : List Bool) : HoldsP (redC c prop) (tookL (laV c prop) s) (tookL (inV c prop) i) ↔ HoldsP c s i := by
 have key : ∀ l ∈ c.cons, litV (redC c prop) (tookL (laV c prop) s) (tookL (inV c prop) i) (nowL c prop (redL c prop l)) = litV c s i l := fun l hl' =>
  red_lit hg hz hl h i (kLu hg (used_con hl')) (want_all (List.mem_cons_of_mem _ hl')) (want_want (List.mem_cons_of_mem _ hl'))
 constructor
 ·intro h1 l hl'
  rw [<- key l hl']
  exact h1 _ (List.mem_map.2 ⟨_, List.mem_map.2 ⟨l, hl', rfl⟩, rfl⟩)
 ·intro h1 x hx
  obtain ⟨y, hy, rfl⟩ := List.mem_map.1 hx
  obtain ⟨l, hl', rfl⟩ := List.mem_map.1 hy
  rw [key l hl']; exact h1 l hl'
theorem litV_zero' (hg : GoodC' c) (s i : List Bool) : litV c s i 0 = false := by
 unfold litV
 have hk : KnL c 0 := ⟨by omega, fun h => by omega⟩
 have hP := (cNet_ok hg).1
 have e : litI (cNet c).2 0 = 0 := by rw [litI_some (x := 0) (z := 0) hP.zero]; rfl
 rw [e]
 exact ofL_zero _
theorem red_bad (hg : GoodC' c) (hz : SzC c 100000) {s : List Bool} (hl : s.length = c.lat.length) (h : StkAt c s) (i : List Bool) : BadP (redC c prop) (tookL (laV c prop) s) (tookL (inV c prop) i) 0 ↔ BadP c s i prop := by
 have key := red_lit hg hz hl h i (bad_kn hg prop) (want_all (prop := prop) (List.mem_cons_self ..)) (want_want (List.mem_cons_self ..))
 have hb : BadP (redC c prop) (tookL (laV c prop) s) (tookL (inV c prop) i) 0 ↔ litV c s i (badL c prop) = true := by
  rw [<- key]
  constructor
  ·rintro ⟨_, l, h1, h2⟩
   cases h1; exact h2
  ·intro h1; exact ⟨by omega, _, rfl, h1⟩
 rw [hb]
 unfold badL
 constructor
 ·intro h1
  by_cases hp : 0 <= prop /\ prop < (c.bads.length : Int)
  ·rw [if_pos hp] at h1
   obtain ⟨y, hy⟩ := getI c.bads (show prop.toNat < _ by omega)
   rw [gDo hy] at h1
   exact ⟨hp.1, y, hy, h1⟩
  ·rw [if_neg hp, litV_zero' hg] at h1; cases h1
 ·rintro ⟨h0, y, hy, h1⟩
  have := lGt hy
  rw [if_pos ⟨h0, by omega⟩, gDo hy]; exact h1
theorem took_self {la : List Int} {m : Nat} (s : List Bool) (hl : s.length = m) : tookL la (brV s m) = tookL la s := by rw [<- hl, brV_self]
theorem red_state (hg : GoodC' c) (hz : SzC c 100000) {s : List Bool} (hs : StartsP c s) (r : List (List Bool)) : ∀ k, k <= r.length -> stateV (redC c prop) (tookL (laV c prop) s) (r.map (tookL (inV c prop))) k = tookL (laV c prop) (stateV c s r k)
 | 0, _ => by
  show brV (tookL (laV c prop) s) (redC c prop).lat.length = tookL (laV c prop) (brV s c.lat.length)
  have a2 := brV_self (tookL (laV c prop) s)
  rw [took_len] at a2
  rw [red_latlen, a2, took_self s hs.1]
 | k + 1, hk => by
  obtain ⟨x, hx⟩ := getI r (show k < r.length by omega)
  show nextV (redC c prop) (stateV (redC c prop) (tookL (laV c prop) s) (r.map (tookL (inV c prop))) k) ((r.map (tookL (inV c prop))).getD k []) = tookL (laV c prop) (nextV c (stateV c s r k) (r.getD k []))
  rw [red_state hg hz hs r k (by omega), gDo hx, gDo (show (r.map (tookL (inV c prop)))[k]? = some (tookL (inV c prop) x) by rw [List.getElem?_map, hx]; rfl)]
  exact red_next hg hz (stateV_len _ _ _ _) (stk_state hg hz hs r k) x
end

def putT (la : List Int) (rs l0 : List Bool) (k : Nat) : List Bool := (List.range k).foldl (fun l q => l.set (la.getD q 0).toNat (rs.getD q false)) l0
theorem putT_succ (la : List Int) (rs l0 : List Bool) (k : Nat) : putT la rs l0 (k + 1) = (putT la rs l0 k).set (la.getD k 0).toNat (rs.getD k false) := by
 unfold putT; rw [List.range_succ, List.foldl_append]; rfl
theorem putT_len (la : List Int) (rs l0 : List Bool) : ∀ k, (putT la rs l0 k).length = l0.length
 | 0 => rfl
 | k + 1 => by rw [putT_succ, List.length_set]; exact putT_len la rs l0 k
theorem getD_setB {l : List Bool} {i p : Nat} {x d : Bool} : (l.set i x).getD p d = if p = i /\ i < l.length then x else l.getD p d := by
 rw [List.getD_eq_getElem?_getD, List.getElem?_set, List.getD_eq_getElem?_getD]
 by_cases h : i = p
 ·subst h
  rw [if_pos rfl]
  by_cases h2 : i < l.length
  ·rw [if_pos h2, if_pos ⟨rfl, h2⟩]; rfl
  ·rw [if_neg h2, if_neg (fun h => h2 h.2), List.getElem?_eq_none (by omega)]
 ·rw [if_neg h, if_neg (fun h2 => h h2.1.symm)]
theorem sel_nodup (m : Nat) (p : Nat -> Prop) : (sel m p).Nodup := by
 unfold sel
 rw [List.nodup_iff_pairwise_ne, List.pairwise_map]
 refine ((List.nodup_iff_pairwise_ne.1 (List.nodup_range (n := m))).filter _).imp fun h he => h (by omega)
theorem nodup_get {l : List Int} (h : l.Nodup) {i j : Nat} {x : Int} (hi : l[i]? = some x) (hj : l[j]? = some x) : i = j := by
 exact (List.getElem?_inj (lGt hi) h).1 (hi.trans hj.symm)
section
variable {la : List Int} {rs l0 : List Bool}
theorem putT_in (hn : la.Nodup) (hb : ∀ z ∈ la, 0 <= z /\ z < (l0.length : Int)) : ∀ k, k <= la.length -> ∀ (q : Nat) z, q < k -> la[q]? = some z -> (putT la rs l0 k).getD z.toNat false = rs.getD q false
 | 0, _, _, _, h, _ => by omega
 | k + 1, hk, q, z, hq, hz => by
  obtain ⟨y, hy⟩ := getI la (show k < la.length by omega)
  have hyb := hb y (List.mem_of_getElem? hy)
  have hzb := hb z (List.mem_of_getElem? hz)
  rw [putT_succ, getD_setB, putT_len, gDo hy]
  by_cases e : q = k
  ·subst e
   rw [hy] at hz; cases hz
   rw [if_pos ⟨rfl, by omega⟩]
  ·rw [if_neg (fun h => e (by
    have e2 : z = y := by omega
    subst e2
    exact nodup_get hn hz hy))]
   exact putT_in hn hb k (by omega) q z (by omega) hz
theorem putT_out (hb : ∀ z ∈ la, 0 <= z /\ z < (l0.length : Int)) {p : Nat} (hp : (p : Int) ∉ la) : ∀ k, k <= la.length -> (putT la rs l0 k).getD p false = l0.getD p false
 | 0, _ => rfl
 | k + 1, hk => by
  obtain ⟨y, hy⟩ := getI la (show k < la.length by omega)
  have hyb := hb y (List.mem_of_getElem? hy)
  rw [putT_succ, getD_setB, gDo hy, if_neg (fun h => hp (by
   have e2 : (p : Int) = y := by omega
   rw [e2]; exact List.mem_of_getElem? hy))]
  exact putT_out hb hp k (by omega)
theorem took_put (hn : la.Nodup) (hb : ∀ z ∈ la, 0 <= z /\ z < (l0.length : Int)) : tookL la (putT la rs l0 la.length) = brV rs la.length := by
 apply List.ext_getElem?
 intro q
 by_cases hq : q < la.length
 ·obtain ⟨z, hz⟩ := getI la hq
  unfold tookL
  rw [List.getElem?_map, hz, brV_get _ hq]
  show some ((putT la rs l0 la.length).getD z.toNat false) = _
  rw [putT_in hn hb la.length (Nat.le_refl _) q z hq hz]
 ·rw [List.getElem?_eq_none (by rw [took_len]; omega), List.getElem?_eq_none (by rw [brV_len]; omega)]
end
noncomputable def extS (c : CirT) (prop : Int) (rs : List Bool) : List Bool := putT (laV c prop) rs (c.lat.map fun t => decide (t.2.2 = 1)) (laV c prop).length
noncomputable def extI (c : CirT) (prop : Int) (r : List Bool) : List Bool := putT (inV c prop) r (List.replicate c.ins.length false) (inV c prop).length
section
variable {c : CirT} {prop : Int}
theorem extS_len (rs : List Bool) : (extS c prop rs).length = c.lat.length := by unfold extS; rw [putT_len, List.length_map]
theorem extI_len (r : List Bool) : (extI c prop r).length = c.ins.length := by unfold extI; rw [putT_len, List.length_replicate]
theorem took_extS (rs : List Bool) : tookL (laV c prop) (extS c prop rs) = brV rs (laV c prop).length := took_put (sel_nodup _ _) fun z hz => by rw [List.length_map]; exact sel_bd z hz
theorem took_extI (r : List Bool) : tookL (inV c prop) (extI c prop r) = brV r (inV c prop).length := took_put (sel_nodup _ _) fun z hz => by rw [List.length_replicate]; exact sel_bd z hz
theorem ext_starts (hg : GoodC' c) {rs : List Bool} (h : StartsP (redC c prop) rs) : StartsP c (extS c prop rs) := by
 refine ⟨extS_len rs, fun k x b hx hb => ?_⟩
 have hk := lGt hx
 have hlb : ∀ z ∈ laV c prop, 0 <= z /\ z < ((c.lat.map fun t => decide (t.2.2 = 1)).length : Int) := fun z hz => by rw [List.length_map]; exact sel_bd z hz
 have eb : (extS c prop rs).getD k false = b := gDo hb
 have hm := List.mem_of_getElem? hx
 by_cases hin : (k : Int) ∈ laV c prop
 ·obtain ⟨q, hq⟩ := List.mem_iff_getElem?.1 hin
  have h1 := putT_in (rs := rs) (sel_nodup _ _) hlb (laV c prop).length (Nat.le_refl _) q _ (lGt hq) hq
  rw [Int.toNat_natCast] at h1
  have h1' : (extS c prop rs).getD k false = rs.getD q false := h1
  rw [eb] at h1'
  have hql : q < rs.length := by rw [h.1, red_latlen]; exact lGt hq
  obtain ⟨y, hy⟩ := getI rs hql
  rw [gDo hy] at h1'
  subst h1'
  have h2 := h.2 q _ _ (red_lat hq) hy
  have e : latD c (k : Int) = x := by unfold latD; rw [Int.toNat_natCast]; exact gDo hx
  rw [e] at h2
  have h3 := lat_own hg hm
  have h4 := hg.res x hm
  dsimp only at h2
  by_cases h5 : 1 < x.2.2
  ·exact ⟨fun hh => (by have := hh.1; omega), fun hh => (by have := hh.1; omega)⟩
  ·rw [if_neg h5] at h2; exact h2
 ·have h1 := putT_out (rs := rs) hlb hin (laV c prop).length (Nat.le_refl _)
  have h1' : (extS c prop rs).getD k false = (c.lat.map fun t => decide (t.2.2 = 1)).getD k false := h1
  rw [eb, gDo (show (c.lat.map fun t => decide (t.2.2 = 1))[k]? = some (decide (x.2.2 = 1)) by rw [List.getElem?_map, hx]; rfl)] at h1'
  rw [h1']
  by_cases h5 : x.2.2 = 1
  ·rw [decide_eq_true h5]; exact ⟨fun hh => (by have := hh.1; omega), fun hh => (by cases hh.2)⟩
  ·rw [decide_eq_false h5]; exact ⟨fun hh => (by cases hh.2), fun hh => h5 hh.1⟩
theorem ext_breaks (hg : GoodC' c) (hz : SzC c 100000) {rs : List Bool} {r : List (List Bool)} (h : BreaksP (redC c prop) rs r 0) : BreaksP c (extS c prop rs) (r.map (extI c prop)) prop := by
 obtain ⟨h1, h2, h3, h4⟩ := h
 have hs := ext_starts hg h1
 have es : tookL (laV c prop) (extS c prop rs) = rs := by
  rw [took_extS]
  have := brV_self rs
  rw [h1.1, red_latlen] at this; exact this
 have er : (r.map (extI c prop)).map (tookL (inV c prop)) = r := by
  rw [List.map_map]
  refine (List.map_congr_left fun x hx => ?_).trans (List.map_id r)
  obtain ⟨j, hj⟩ := List.mem_iff_getElem?.1 hx
  have hxl := (h3 j x (lGt hj) hj).1
  show tookL (inV c prop) (extI c prop x) = x
  rw [took_extI]
  have := brV_self x
  rw [hxl, red_inslen] at this; exact this
 have hst := red_state (prop := prop) hg hz hs (r.map (extI c prop))
 rw [es, er, List.length_map] at hst
 refine ⟨hs, fun e => h2 (List.map_eq_nil_iff.1 e), fun j i hj hi => ?_, ?_⟩
 ·rw [List.getElem?_map] at hi
  obtain ⟨x, hx, rfl⟩ := Option.map_eq_some_iff.1 hi
  have hlt := lGt hx
  obtain ⟨g1, g2⟩ := h3 j x hlt hx
  refine ⟨extI_len x, ?_⟩
  have ex : tookL (inV c prop) (extI c prop x) = x := by
   rw [took_extI]
   have := brV_self x
   rw [g1, red_inslen] at this; exact this
  have g3 := red_holds (prop := prop) hg hz (stateV_len c (extS c prop rs) (r.map (extI c prop)) j) (stk_state hg hz hs _ j) (extI c prop x)
  rw [ex, <- hst j (by omega)] at g3
  exact g3.1 g2
 ·have hne : 0 < r.length := List.length_pos_iff.2 h2
  obtain ⟨x, hx⟩ := getI r (show r.length - 1 < r.length by omega)
  rw [gDo hx] at h4
  have hxl := (h3 _ x (by omega) hx).1
  have ex : tookL (inV c prop) (extI c prop x) = x := by
   rw [took_extI]
   have := brV_self x
   rw [hxl, red_inslen] at this; exact this
  have g3 := red_bad (prop := prop) hg hz (stateV_len c (extS c prop rs) (r.map (extI c prop)) (r.length - 1)) (stk_state hg hz hs _ _) (extI c prop x)
  rw [ex, <- hst _ (by omega)] at g3
  rw [List.length_map, gDo (show (r.map (extI c prop))[r.length - 1]? = some (extI c prop x) by rw [List.getElem?_map, hx]; rfl)]
  exact g3.1 h4
end

abbrev rsN (B gs : Nat) (a : Option Addr) (cap : Nat) (N : List (Int × Int)) : List Piece := [pcell gs #[.slice a N.length cap] 65, prow 2 encN 84 B a cap N]
abbrev AtRs (w0 : World) (gs : Nat) (rest : List Piece) (q : Int × List (Int × Int)) (v : Value) (w' : World) : Prop :=
 Ext w0 w' /\ ∃ a' cap', v = .int .i64 q.1 /\ Sep w0.heap.size w' (rsN w0.heap.size gs a' cap' q.2 ++ rest)
abbrev KeepsR (w0 : World) (gs : Nat) (rest : List Piece) (p : World -> Prop) : Prop :=
 ∀ w' a' cap' N', Ext w0 w' -> Sep w0.heap.size w' (rsN w0.heap.size gs a' cap' N' ++ rest) -> p w'

theorem rs_Has (gs cap : Nat) (a : Option Addr) (N : List (Int × Int)) (x : Int) (w : World) (hc : w.heap[gs]? = some (.cells #[.slice a N.length cap] 65 (0, 0))) (hN : N.length <= 1048576) :
  Still Tryz.prog 143 [.pointer (some ⟨gs, 0, none⟩), .int .i64 x] w (.bool (dec (hasL N x))) := by
 obtain ⟨h1, _⟩ := cHp hc
 refine Spec.of _ Tryz.func143 rfl Tryz.ntmps143 (by kernel_rfl) rfl ?_
 repeat' (first | (apply WL.nilc; (iterate 3 exact rfl)) | (first | apply WL.nil | refine WL.au (k := ?_) | (apply WL.gdF; exact rfl; exact rfl) | (apply WL.gD; exact rfl; exact rfl; all_goals intro _)) | apply Z.tn | (first | apply W.seq | apply W.region | apply W.ret))
 all_goals (refine Z.bd1 Tryz.results143 rfl fun m => ⟨?_, m, rfl⟩; unfold hasL; (first | exact congrArg Value.bool (dFf (by omega)).symm | exact congrArg Value.bool (dCg (by omega))))
theorem rs_Not (l : Int) (w : World) (h : l <= 9223372036854775807) : Still Tryz.prog 95 [.int .i64 l] w (.int .i64 (notL l)) := by
 refine Spec.of _ Tryz.func95 rfl Tryz.ntmps95 (by kernel_rfl) rfl ?_
 repeat' (first | (first | apply WL.nil | refine WL.au (k := ?_)) | (first | apply Z.tn | apply Z.tnr) | (first | apply W.seq | apply W.region | apply W.skip | apply W.ret | (apply W.condD; exact rfl; all_goals intro _)))
 all_goals (refine Z.bd1 Tryz.results95 rfl fun m => ⟨?_, m, rfl⟩; congr 1; unfold notL Lt.xor1; first | (rw [if_pos (by assumption)]; done) | (rw [if_neg (by assumption), if_pos (by omega)]; done) | (rw [if_neg (by assumption), if_neg (by omega)]; done))
theorem rs_put (gs cap : Nat) (a : Option Addr) (N : List (Int × Int)) (x : Int × Int) (rest : List Piece) (w w0 : World) (hX : Ext w0 w) (hS : Sep w0.heap.size w (rsN w0.heap.size gs a cap N ++ rest)) (hN : N.length < 1048576) :
  Lt.Spec Tryz.prog 119 [.pointer (some ⟨gs, 0, none⟩), .agg (encN x).toArray] w (AtRs w0 gs rest (2 * ((N.length : Int) + 1), N ++ [x])) := by
 have hR1 := hS.row (i := 1) rfl
 have hC0 := hS.cell (i := 0) rfl
 have hgs := (hS.lt (i := 0) rfl rfl)
 obtain ⟨hD0, _⟩ := cHp hC0
 have hBC : ∀ k, blk a = some k -> w0.heap.size <= k := fun k hk => (hR1.blk_lt k hk).1
 have hne : blk a ≠ some gs := fun h => by
  rcases hS.apart 1 0 _ _ rfl rfl (by decide) with h1 | h1
  ·rw [show (prow 2 encN 84 w0.heap.size a cap N).b = blk a from rfl] at h1; rw [h1] at h; cases h
  ·exact h1 h
 refine Spec.of _ Tryz.func119 rfl Tryz.ntmps119 (by kernel_rfl) rfl ?_
 repeat' (first | (apply WL.box; (iterate 3 exact rfl); intro gb w' hb hge hc hx; have hcc := hc; obtain ⟨h1, h2, h3, _⟩ := hc) | (first | apply WL.nil | refine WL.au (k := ?_)) | apply Z.tn | (first | apply W.seq | apply W.region))
 have hx1 := hx
 obtain ⟨g3, rfl⟩ : ∃ x, x = gb := ⟨_, rfl⟩
 have hnx : blk a ≠ some g3 := fun h => by have := (hR1.blk_lt g3 h).2; omega
 have hD0' := hx1.cell hD0
 have hNl : (N ++ [x]).length = N.length + 1 := by simp
 repeat' (first | (apply WL.nilc; (iterate 3 exact rfl)) | (apply FL.nilc; (iterate 3 exact rfl)) | (show W _ _ (.region 1 _ _) _ _ _; apply W.regionGB (.fl true 0 (.fl true 1 (.fl true 2 (.fl true 3 (.fl false 4 (.fl false 5 (.br 6 (.br 7 (.fl true 8 (.fl true 9 (.br 10 .done .stop))) .stop) .stop))))))) [5, 6, 7] (blk a) tMix; kernel_rfl) | (apply WL.lit tOk; (iterate 6 exact rfl); kernel_rfl; exact rfl; intro gb w' hb hge hc hx) | (apply WL.ap1 (z := (x)) tOk encN_ok; (iterate 10 exact rfl); assumption; exact extA; exact rfl; assumption; exact rfl; exact rfl; exact extA; omega; intro a' cap' w' hO hX' hU hF; (replace hS := Sep.uRw (i := 1) rfl hU hO hF hS extA (by (exact Below.size extA))); (try simp only [List.set_cons_zero, List.set_cons_succ] at hS); (try have hR1 := hS.row (i := 1) rfl); (try have hC0 := hS.cell (i := 0) rfl); (try have hD0 := (cHp hC0).1)) | (apply WL.storeF (w0 := w0) tOk; (iterate 4 exact rfl); assumption; exact extA; (iterate 4 exact rfl); exact extA; omega; intro w' hb hX' hU; replace hS := Sep.uCl (i := 0) rfl hU hb hS extA (by (exact Below.size extA)); (try simp only [List.set_cons_zero, List.set_cons_succ] at hS); (try have hR1 := hS.row (i := 1) rfl); (try have hC0 := hS.cell (i := 0) rfl); (try have hD0 := (cHp hC0).1)) | (first | apply WL.nil | refine WL.au (k := ?_)) | (first | apply SG.done | (apply SG.fl0; exact rfl) | (apply SG.fl1; exact rfl; (focus ((intro m; first | assumption | (apply Ext.at; exact extA) | apply But.of_at; first | exact But.upd (by assumption) | exact But.ext extA | (refine But.trans ?_ (But.upd (by assumption)); exact But.ext extA) | exact But.at _ _ _); done))) | (apply SG.br1; exact rfl)) | (first | apply FL.nilS | refine FL.au (k := ?_) | (apply FL.loadG tOk; (iterate 5 exact rfl); assumption; assumption) | (apply FL.loadAG tOk; (iterate 5 exact rfl); assumption; exact rfl; assumption)) | (first | (apply Z.sgL; exact rfl) | (apply Z.sgE; (focus ((intro m; first | assumption | (apply Ext.at; exact extA) | apply But.of_at; first | exact But.upd (by assumption) | exact But.ext extA | (refine But.trans ?_ (But.upd (by assumption)); exact But.ext extA) | exact But.at _ _ _); done)))) | apply Z.tn | (first | apply W.seq | apply W.region | apply W.ret))
 all_goals (
  refine Z.bd1 Tryz.results119 rfl fun m => ⟨Ext.at (by assumption) m, a', cap', ?_, hS.ext ((Ext.refl _).at m)⟩
  rw [hNl]; rfl)
theorem rs_Input (gs cap : Nat) (a : Option Addr) (N : List (Int × Int)) (rest : List Piece) (w w0 : World) (hX : Ext w0 w) (hS : Sep w0.heap.size w (rsN w0.heap.size gs a cap N ++ rest)) (hN : N.length < 1048576) :
  Lt.Spec Tryz.prog 55 [.pointer (some ⟨gs, 0, none⟩)] w (AtRs w0 gs rest (2 * ((N.length : Int) + 1), N ++ [(-1, 0)])) := by
 refine Spec.of _ Tryz.func55 rfl Tryz.ntmps55 (by kernel_rfl) rfl ?_
 repeat' (first | (apply WL.build tOk; (iterate 7 exact rfl); kernel_rfl) | (apply WL.call (f := 119); (iterate 4 exact rfl); exact rs_put gs cap a N (-1, 0) rest _ w0 hX hS hN; rintro v' w' ⟨hX2, a', cap', rfl, hS2⟩) | (first | apply WL.nil | refine WL.au (k := ?_)) | apply Z.tn | (first | apply W.seq | apply W.region | apply W.ret))
 exact Z.bd1 Tryz.results55 rfl fun m => ⟨hX2.at m, a', cap', rfl, hS2.ext ((Ext.refl _).at m)⟩

theorem andV_comm_ways {N : List (Int × Int)} {x y : Int} (hx : hasL N x) (hy : hasL N y) :
  ((x = 0 ∨ y = 0 ∨ x = notL y) -> andV N x y = (0, N)) /\
  (¬ (x = 0 ∨ y = 0 ∨ x = notL y) -> (x = 1 ∨ x = y) -> andV N x y = (y, N)) /\
  (¬ (x = 0 ∨ y = 0 ∨ x = notL y) -> ¬ (x = 1 ∨ x = y) -> y = 1 -> andV N x y = (x, N)) /\
  (¬ (x = 0 ∨ y = 0 ∨ x = notL y) -> ¬ (x = 1 ∨ x = y) -> ¬ y = 1 -> ∀ a b : Int, a <= b -> ((a = x /\ b = y) ∨ (a = y /\ b = x)) ->
   (∀ i : Nat, N[i]? = some (a, b) -> (∀ j : Nat, j < i -> N[j]? ≠ some (a, b)) -> andV N x y = (2 * ((i : Int) + 1), N)) /\
   ((∀ j : Nat, N[j]? ≠ some (a, b)) -> andV N x y = (2 * ((N.length : Int) + 1), N ++ [(a, b)]))) := by
 obtain ⟨p, q, hpq, hle, hw⟩ := andV_ways N x y
 have hh : hasL N p /\ hasL N q := by rcases hpq with ⟨rfl, rfl⟩ | ⟨rfl, rfl⟩; exact ⟨hx, hy⟩; exact ⟨hy, hx⟩
 have hx0 := hx.1
 have hy0 := hy.1
 have hn : notL y = if y % 2 = 0 then y + 1 else y - 1 := by rw [notL_xor1 hy0]; rfl
 have hpx : Lt.xor1 q = if q % 2 = 0 then q + 1 else q - 1 := rfl
 rw [hpx] at hw
 rw [hn]
 refine ⟨fun h => ?_, fun h h1 => ?_, fun h h1 h2 => ?_, fun h h1 h2 a b hab hc => ?_⟩
 ·rcases hw with ⟨h1, _⟩ | ⟨_, _, hw⟩ | ⟨_, h1, _, _⟩ | ⟨_, h1, _⟩ | ⟨_, h1, _⟩
  ·exact absurd hh h1
  ·exact hw
  all_goals (exfalso; rcases hpq with ⟨rfl, rfl⟩ | ⟨rfl, rfl⟩ <;> split at h <;> (try split at h1) <;> omega)
 ·rcases hw with ⟨h3, _⟩ | ⟨_, h3, hw⟩ | ⟨_, h3, h4, hw⟩ | ⟨_, h3, _⟩ | ⟨_, h3, _⟩
  ·exact absurd hh h3
  ·exfalso; rcases hpq with ⟨rfl, rfl⟩ | ⟨rfl, rfl⟩ <;> split at h <;> split at h3 <;> omega
  ·rw [hw]; congr 1; rcases hpq with ⟨rfl, rfl⟩ | ⟨rfl, rfl⟩ <;> split at h <;> split at h3 <;> omega
  all_goals (exfalso; rcases hpq with ⟨rfl, rfl⟩ | ⟨rfl, rfl⟩ <;> omega)
 ·rcases hw with ⟨h3, _⟩ | ⟨_, h3, hw⟩ | ⟨_, h3, h4, hw⟩ | ⟨_, h3, _⟩ | ⟨_, h3, _⟩
  ·exact absurd hh h3
  ·exfalso; rcases hpq with ⟨rfl, rfl⟩ | ⟨rfl, rfl⟩ <;> split at h <;> split at h3 <;> omega
  ·rw [hw]; congr 1; rcases hpq with ⟨rfl, rfl⟩ | ⟨rfl, rfl⟩ <;> split at h <;> split at h3 <;> omega
  all_goals (exfalso; rcases hpq with ⟨rfl, rfl⟩ | ⟨rfl, rfl⟩ <;> omega)
 ·have e : p = a /\ q = b := by
   rcases hpq with ⟨rfl, rfl⟩ | ⟨rfl, rfl⟩ <;> rcases hc with ⟨rfl, rfl⟩ | ⟨rfl, rfl⟩ <;> omega
  obtain ⟨rfl, rfl⟩ := e
  rcases hw with ⟨h3, _⟩ | ⟨_, h3, hw⟩ | ⟨_, h3, h4, hw⟩ | ⟨_, h3, i, i1, i2, i3, hw⟩ | ⟨_, h3, h4, hw⟩
  ·exact absurd hh h3
  ·exfalso; rcases hpq with ⟨rfl, rfl⟩ | ⟨rfl, rfl⟩ <;> split at h <;> split at h3 <;> omega
  ·exfalso; rcases hpq with ⟨rfl, rfl⟩ | ⟨rfl, rfl⟩ <;> split at h <;> split at h3 <;> omega
  ·refine ⟨fun j hj hj2 => ?_, fun hj => absurd i2 (hj i)⟩
   have : i = j := by
    rcases Nat.lt_trichotomy i j with hl | hl | hl
    ·exact absurd i2 (hj2 i hl)
    ·exact hl
    ·exact absurd hj (i3 j hl)
   rw [hw, this]
  ·exact ⟨fun j hj _ => absurd hj (h4 j), fun _ => hw⟩

theorem rs_AndLe (gs cap : Nat) (a : Option Addr) (N : List (Int × Int)) (x y : Int) (rest : List Piece) (w w0 : World) (hX : Ext w0 w) (hS : Sep w0.heap.size w (rsN w0.heap.size gs a cap N ++ rest)) (hN : N.length < 1048576) (hxy : x <= y) :
  Lt.Spec Tryz.prog 144 [.pointer (some ⟨gs, 0, none⟩), .int .i64 x, .int .i64 y] w (AtRs w0 gs rest (andV N x y)) := by
 have hR1 := hS.row (i := 1) rfl
 have RN := Own.row encN_ok hR1
 have hC0 := hS.cell (i := 0) rfl
 obtain ⟨hD0, _⟩ := cHp hC0
 by_cases hx : hasL N x
 ·by_cases hy : hasL N y
  ·have hx' : 0 <= x /\ x < 2 * ((N.length : Int) + 1) := hx
   have hy' : 0 <= y /\ y < 2 * ((N.length : Int) + 1) := hy
   obtain ⟨g1, g2, g3, g4⟩ := andV_comm_ways hx hy
   refine Spec.of _ Tryz.func144 rfl Tryz.ntmps144 (by kernel_rfl) rfl ?_
   repeat' (first | (apply WL.callS (f := 143); (iterate 4 exact rfl); exact rs_Has gs cap a N x _ hC0 (by omega)) | (apply WL.callS (f := 143); (iterate 4 exact rfl); exact rs_Has gs cap a N y _ hC0 (by omega)) | (apply WL.callS (f := 95); (iterate 4 exact rfl); exact rs_Not y _ (by omega)) | (apply WL.gF; exact rfl; exact rfl; (focus (first | (rw [dTt hx]; rfl) | exact dFf (by omega); done))) | (apply W.cKF; exact rfl; (focus (first | (rw [dTt hy]; rfl) | exact dFf (by omega); done))) | (first | apply WL.nil | refine WL.au (k := ?_) | (apply WL.gdF; exact rfl; exact rfl) | (apply WL.gD; exact rfl; exact rfl; all_goals intro _)) | (first | apply Z.tn | apply Z.tnr) | (first | apply W.seq | apply W.region | apply W.block | apply W.skip | apply W.ret | (apply W.condT; exact rfl) | (apply W.condD; exact rfl; all_goals intro _)))
   all_goals first
    | (rw [g1 (by omega)]; exact Z.bd1 Tryz.results144 rfl fun m => ⟨hX.at m, a, cap, rfl, hS.ext ((Ext.refl _).at m)⟩)
    | (rw [g2 (by omega) (by omega)]; exact Z.bd1 Tryz.results144 rfl fun m => ⟨hX.at m, a, cap, rfl, hS.ext ((Ext.refl _).at m)⟩)
    | (rw [g3 (by omega) (by omega) (by omega)]; exact Z.bd1 Tryz.results144 rfl fun m => ⟨hX.at m, a, cap, rfl, hS.ext ((Ext.refl _).at m)⟩)
    | skip
   have g5 := g4 (by omega) (by omega) (by omega) x y (by omega) (by omega)
   refine W.loop1 N.length (fun k => k <= N.length /\ ∀ j : Nat, j < k -> N[j]? ≠ some (x, y)) (fun k => [(0, .pointer (some ⟨gs, 0, none⟩)), (1, .int .i64 x), (2, .int .i64 y), (7, .int .i64 k)]) ⟨by omega, fun j h => by omega⟩ (fun k h => h.1) ⟨rfl, rfl, rfl, rfl, trivial⟩ ?_
   rintro k ⟨hk, hno⟩
   by_cases hlt : k < N.length
   ·obtain ⟨z, hz⟩ := getI N hlt
    by_cases z1 : z.1 = x
    ·by_cases z2 : z.2 = y
     ·have hzp : z = (x, y) := Prod.ext z1 z2
      rw [g5.1 k (by rw [hz, hzp]) hno]
      repeat' (first | (apply WL.nilc; (iterate 3 exact rfl)) | (apply WL.gT; exact rfl; exact rfl; (focus (exact dTt (by omega)))) | (apply W.cKT; exact rfl; (focus (exact dTt (by omega)))) | (first | apply WL.nil | refine WL.au (k := ?_) | (apply WL.index tOk; (iterate 8 exact rfl); assumption; exact extA; exact rfl; omega; assumption; intro b off h; have hcc := h; first | (obtain ⟨h1, h2, h3, h4, h5, h6, _⟩ := h) | (obtain ⟨h1, h2, h3, _⟩ := h) | (obtain ⟨h1, h2, _⟩ := h) | (obtain ⟨h1, _⟩ := h))) | (first | apply Z.tn | apply Z.tnr | apply Z.bkr) | (first | apply W.seq | apply W.region | apply W.block | apply W.skip | apply W.ret))
      exact Z.bd1 Tryz.results144 rfl fun m => ⟨hX.at m, a, cap, rfl, hS.ext ((Ext.refl _).at m)⟩
     ·repeat' (first | (apply WL.nilc; (iterate 3 exact rfl)) | (apply WL.gT; exact rfl; exact rfl; (focus (exact dTt (by omega)))) | (apply W.cKT; exact rfl; (focus (exact dTt (by omega)))) | (apply W.cKF; exact rfl; exact dFf z2) | (first | apply WL.nil | refine WL.au (k := ?_) | (apply WL.index tOk; (iterate 8 exact rfl); assumption; exact extA; exact rfl; omega; assumption; intro b off h; have hcc := h; first | (obtain ⟨h1, h2, h3, h4, h5, h6, _⟩ := h) | (obtain ⟨h1, h2, h3, _⟩ := h) | (obtain ⟨h1, h2, _⟩ := h) | (obtain ⟨h1, _⟩ := h))) | (first | apply Z.tn | apply Z.bkn) | (first | apply W.seq | apply W.region | apply W.block | apply W.skip))
      exact Z.again1 ⟨by omega, fun j hj hh => by
       by_cases hjk : j = k
       ·subst hjk; rw [hz] at hh; cases hh; exact z2 rfl
       ·exact hno j (by omega) hh⟩ ⟨rfl, rfl, rfl, rfl, trivial⟩
    ·repeat' (first | (apply WL.nilc; (iterate 3 exact rfl)) | (apply WL.gF; exact rfl; exact rfl; exact dFf z1) | (apply W.cKT; exact rfl; (focus (exact dTt (by omega)))) | (first | apply WL.nil | refine WL.au (k := ?_) | (apply WL.index tOk; (iterate 8 exact rfl); assumption; exact extA; exact rfl; omega; assumption; intro b off h; have hcc := h; first | (obtain ⟨h1, h2, h3, h4, h5, h6, _⟩ := h) | (obtain ⟨h1, h2, h3, _⟩ := h) | (obtain ⟨h1, h2, _⟩ := h) | (obtain ⟨h1, _⟩ := h)) | (apply WL.gdF; exact rfl; exact rfl)) | (first | apply Z.tn | apply Z.bkn) | (first | apply W.seq | apply W.region | apply W.block | apply W.skip | (apply W.condF; exact rfl)))
     exact Z.again1 ⟨by omega, fun j hj hh => by
      by_cases hjk : j = k
      ·subst hjk; rw [hz] at hh; cases hh; exact z1 rfl
      ·exact hno j (by omega) hh⟩ ⟨rfl, rfl, rfl, rfl, trivial⟩
   ·obtain rfl : k = N.length := by omega
    rw [g5.2 (fun j hh => by
     by_cases hj : j < N.length
     ·exact hno j hj hh
     ·rw [List.getElem?_eq_none (by omega)] at hh; cases hh)]
    repeat' (first | (apply WL.nilc; (iterate 3 exact rfl)) | (apply WL.build tOk; (iterate 7 exact rfl); kernel_rfl) | (apply W.cKF; exact rfl; exact dFf (by omega)) | (apply WL.call (f := 119); (iterate 4 exact rfl); exact rs_put gs cap a N (x, y) rest _ w0 hX hS hN; rintro v' w' ⟨hX2, a', cap', rfl, hS2⟩) | (first | apply WL.nil | refine WL.au (k := ?_)) | (first | apply Z.tn | apply Z.tnx | apply Z.bkx) | (first | apply W.seq | apply W.region | apply W.ret | apply W.exit))
    exact Z.bd1 Tryz.results144 rfl fun m => ⟨hX2.at m, a', cap', rfl, hS2.ext ((Ext.refl _).at m)⟩
  ·rw [andV_no (fun h => hy h.2)]
   refine Spec.of _ Tryz.func144 rfl Tryz.ntmps144 (by kernel_rfl) rfl ?_
   repeat' (first | (apply WL.callS (f := 143); (iterate 4 exact rfl); exact rs_Has gs cap a N x _ hC0 (by omega)) | (apply WL.callS (f := 143); (iterate 4 exact rfl); exact rs_Has gs cap a N y _ hC0 (by omega)) | (apply WL.gF; exact rfl; exact rfl; (focus ((rw [dTt hx]; rfl)))) | (apply W.cKT; exact rfl; (focus ((rw [dFf hy]; rfl); done))) | (first | apply WL.nil | refine WL.au (k := ?_)) | (first | apply Z.tn | apply Z.tnr) | (first | apply W.seq | apply W.region | apply W.ret))
   exact Z.bd1 Tryz.results144 rfl fun m => ⟨hX.at m, a, cap, rfl, hS.ext ((Ext.refl _).at m)⟩
 ·rw [andV_no (fun h => hx h.1)]
  refine Spec.of _ Tryz.func144 rfl Tryz.ntmps144 (by kernel_rfl) rfl ?_
  repeat' (first | (apply WL.callS (f := 143); (iterate 4 exact rfl); exact rs_Has gs cap a N x _ hC0 (by omega)) | (apply WL.gT; exact rfl; exact rfl; (focus ((rw [dFf hx]; rfl); done))) | (first | apply WL.nil | refine WL.au (k := ?_) | (apply WL.gdF; exact rfl; exact rfl)) | (first | apply Z.tn | apply Z.tnr) | (first | apply W.seq | apply W.region | apply W.ret | (apply W.condT; exact rfl)))
  exact Z.bd1 Tryz.results144 rfl fun m => ⟨hX.at m, a, cap, rfl, hS.ext ((Ext.refl _).at m)⟩

theorem rs_AndGt (gs cap : Nat) (a : Option Addr) (N : List (Int × Int)) (x y : Int) (rest : List Piece) (w w0 : World) (hX : Ext w0 w) (hS : Sep w0.heap.size w (rsN w0.heap.size gs a cap N ++ rest)) (hN : N.length < 1048576) (hxy : y < x) :
  Lt.Spec Tryz.prog 144 [.pointer (some ⟨gs, 0, none⟩), .int .i64 x, .int .i64 y] w (AtRs w0 gs rest (andV N x y)) := by
 have hR1 := hS.row (i := 1) rfl
 have RN := Own.row encN_ok hR1
 have hC0 := hS.cell (i := 0) rfl
 obtain ⟨hD0, _⟩ := cHp hC0
 by_cases hx : hasL N x
 ·by_cases hy : hasL N y
  ·have hx' : 0 <= x /\ x < 2 * ((N.length : Int) + 1) := hx
   have hy' : 0 <= y /\ y < 2 * ((N.length : Int) + 1) := hy
   obtain ⟨g1, g2, g3, g4⟩ := andV_comm_ways hx hy
   refine Spec.of _ Tryz.func144 rfl Tryz.ntmps144 (by kernel_rfl) rfl ?_
   repeat' (first | (apply WL.callS (f := 143); (iterate 4 exact rfl); exact rs_Has gs cap a N x _ hC0 (by omega)) | (apply WL.callS (f := 143); (iterate 4 exact rfl); exact rs_Has gs cap a N y _ hC0 (by omega)) | (apply WL.callS (f := 95); (iterate 4 exact rfl); exact rs_Not y _ (by omega)) | (apply WL.gF; exact rfl; exact rfl; (focus ((rw [dTt hx]; rfl)))) | (apply W.cKT; exact rfl; exact dTt (by omega)) | (apply W.cKF; exact rfl; (focus ((rw [dTt hy]; rfl)))) | (first | apply WL.nil | refine WL.au (k := ?_) | (apply WL.gdF; exact rfl; exact rfl) | (apply WL.gD; exact rfl; exact rfl; all_goals intro _)) | (first | apply Z.tn | apply Z.tnr) | (first | apply W.seq | apply W.region | apply W.block | apply W.skip | apply W.ret | (apply W.condT; exact rfl) | (apply W.condD; exact rfl; all_goals intro _)))
   all_goals first
    | (rw [g1 (by omega)]; exact Z.bd1 Tryz.results144 rfl fun m => ⟨hX.at m, a, cap, rfl, hS.ext ((Ext.refl _).at m)⟩)
    | (rw [g2 (by omega) (by omega)]; exact Z.bd1 Tryz.results144 rfl fun m => ⟨hX.at m, a, cap, rfl, hS.ext ((Ext.refl _).at m)⟩)
    | (rw [g3 (by omega) (by omega) (by omega)]; exact Z.bd1 Tryz.results144 rfl fun m => ⟨hX.at m, a, cap, rfl, hS.ext ((Ext.refl _).at m)⟩)
    | skip
   have g5 := g4 (by omega) (by omega) (by omega) y x (by omega) (by omega)
   refine W.loop1 N.length (fun k => k <= N.length /\ ∀ j : Nat, j < k -> N[j]? ≠ some (y, x)) (fun k => [(0, .pointer (some ⟨gs, 0, none⟩)), (1, .int .i64 y), (2, .int .i64 x), (7, .int .i64 k)]) ⟨by omega, fun j h => by omega⟩ (fun k h => h.1) ⟨rfl, rfl, rfl, rfl, trivial⟩ ?_
   rintro k ⟨hk, hno⟩
   by_cases hlt : k < N.length
   ·obtain ⟨z, hz⟩ := getI N hlt
    by_cases z1 : z.1 = y
    ·by_cases z2 : z.2 = x
     ·have hzp : z = (y, x) := Prod.ext z1 z2
      rw [g5.1 k (by rw [hz, hzp]) hno]
      repeat' (first | (apply WL.nilc; (iterate 3 exact rfl)) | (apply WL.gT; exact rfl; exact rfl; (focus (exact dTt (by omega)))) | (apply W.cKT; exact rfl; (focus (exact dTt (by omega)))) | (first | apply WL.nil | refine WL.au (k := ?_) | (apply WL.index tOk; (iterate 8 exact rfl); assumption; exact extA; exact rfl; omega; assumption; intro b off h; have hcc := h; first | (obtain ⟨h1, h2, h3, h4, h5, h6, _⟩ := h) | (obtain ⟨h1, h2, h3, _⟩ := h) | (obtain ⟨h1, h2, _⟩ := h) | (obtain ⟨h1, _⟩ := h))) | (first | apply Z.tn | apply Z.tnr | apply Z.bkr) | (first | apply W.seq | apply W.region | apply W.block | apply W.skip | apply W.ret))
      exact Z.bd1 Tryz.results144 rfl fun m => ⟨hX.at m, a, cap, rfl, hS.ext ((Ext.refl _).at m)⟩
     ·repeat' (first | (apply WL.nilc; (iterate 3 exact rfl)) | (apply WL.gT; exact rfl; exact rfl; (focus (exact dTt (by omega)))) | (apply W.cKT; exact rfl; (focus (exact dTt (by omega)))) | (apply W.cKF; exact rfl; exact dFf z2) | (first | apply WL.nil | refine WL.au (k := ?_) | (apply WL.index tOk; (iterate 8 exact rfl); assumption; exact extA; exact rfl; omega; assumption; intro b off h; have hcc := h; first | (obtain ⟨h1, h2, h3, h4, h5, h6, _⟩ := h) | (obtain ⟨h1, h2, h3, _⟩ := h) | (obtain ⟨h1, h2, _⟩ := h) | (obtain ⟨h1, _⟩ := h))) | (first | apply Z.tn | apply Z.bkn) | (first | apply W.seq | apply W.region | apply W.block | apply W.skip))
      exact Z.again1 ⟨by omega, fun j hj hh => by
       by_cases hjk : j = k
       ·subst hjk; rw [hz] at hh; cases hh; exact z2 rfl
       ·exact hno j (by omega) hh⟩ ⟨rfl, rfl, rfl, rfl, trivial⟩
    ·repeat' (first | (apply WL.nilc; (iterate 3 exact rfl)) | (apply WL.gF; exact rfl; exact rfl; exact dFf z1) | (apply W.cKT; exact rfl; (focus (exact dTt (by omega)))) | (first | apply WL.nil | refine WL.au (k := ?_) | (apply WL.index tOk; (iterate 8 exact rfl); assumption; exact extA; exact rfl; omega; assumption; intro b off h; have hcc := h; first | (obtain ⟨h1, h2, h3, h4, h5, h6, _⟩ := h) | (obtain ⟨h1, h2, h3, _⟩ := h) | (obtain ⟨h1, h2, _⟩ := h) | (obtain ⟨h1, _⟩ := h)) | (apply WL.gdF; exact rfl; exact rfl)) | (first | apply Z.tn | apply Z.bkn) | (first | apply W.seq | apply W.region | apply W.block | apply W.skip | (apply W.condF; exact rfl)))
     exact Z.again1 ⟨by omega, fun j hj hh => by
      by_cases hjk : j = k
      ·subst hjk; rw [hz] at hh; cases hh; exact z1 rfl
      ·exact hno j (by omega) hh⟩ ⟨rfl, rfl, rfl, rfl, trivial⟩
   ·obtain rfl : k = N.length := by omega
    rw [g5.2 (fun j hh => by
     by_cases hj : j < N.length
     ·exact hno j hj hh
     ·rw [List.getElem?_eq_none (by omega)] at hh; cases hh)]
    repeat' (first | (apply WL.nilc; (iterate 3 exact rfl)) | (apply WL.build tOk; (iterate 7 exact rfl); kernel_rfl) | (apply W.cKF; exact rfl; exact dFf (by omega)) | (apply WL.call (f := 119); (iterate 4 exact rfl); exact rs_put gs cap a N (y, x) rest _ w0 hX hS hN; rintro v' w' ⟨hX2, a', cap', rfl, hS2⟩) | (first | apply WL.nil | refine WL.au (k := ?_)) | (first | apply Z.tn | apply Z.tnx | apply Z.bkx) | (first | apply W.seq | apply W.region | apply W.ret | apply W.exit))
    exact Z.bd1 Tryz.results144 rfl fun m => ⟨hX2.at m, a', cap', rfl, hS2.ext ((Ext.refl _).at m)⟩
  ·rw [andV_no (fun h => hy h.2)]
   refine Spec.of _ Tryz.func144 rfl Tryz.ntmps144 (by kernel_rfl) rfl ?_
   repeat' (first | (apply WL.callS (f := 143); (iterate 4 exact rfl); exact rs_Has gs cap a N x _ hC0 (by omega)) | (apply WL.callS (f := 143); (iterate 4 exact rfl); exact rs_Has gs cap a N y _ hC0 (by omega)) | (apply WL.gF; exact rfl; exact rfl; (focus ((rw [dTt hx]; rfl)))) | (apply W.cKT; exact rfl; (focus ((rw [dFf hy]; rfl); done))) | (first | apply WL.nil | refine WL.au (k := ?_)) | (first | apply Z.tn | apply Z.tnr) | (first | apply W.seq | apply W.region | apply W.ret))
   exact Z.bd1 Tryz.results144 rfl fun m => ⟨hX.at m, a, cap, rfl, hS.ext ((Ext.refl _).at m)⟩
 ·rw [andV_no (fun h => hx h.1)]
  refine Spec.of _ Tryz.func144 rfl Tryz.ntmps144 (by kernel_rfl) rfl ?_
  repeat' (first | (apply WL.callS (f := 143); (iterate 4 exact rfl); exact rs_Has gs cap a N x _ hC0 (by omega)) | (apply WL.gT; exact rfl; exact rfl; (focus ((rw [dFf hx]; rfl); done))) | (first | apply WL.nil | refine WL.au (k := ?_) | (apply WL.gdF; exact rfl; exact rfl)) | (first | apply Z.tn | apply Z.tnr) | (first | apply W.seq | apply W.region | apply W.ret | (apply W.condT; exact rfl)))
  exact Z.bd1 Tryz.results144 rfl fun m => ⟨hX.at m, a, cap, rfl, hS.ext ((Ext.refl _).at m)⟩

theorem rs_And (gs cap : Nat) (a : Option Addr) (N : List (Int × Int)) (x y : Int) (rest : List Piece) (w w0 : World) (hX : Ext w0 w) (hS : Sep w0.heap.size w (rsN w0.heap.size gs a cap N ++ rest)) (hN : N.length < 1048576) :
  Lt.Spec Tryz.prog 144 [.pointer (some ⟨gs, 0, none⟩), .int .i64 x, .int .i64 y] w (AtRs w0 gs rest (andV N x y)) := by
 by_cases hxy : x <= y
 ·exact rs_AndLe gs cap a N x y rest w w0 hX hS hN hxy
 ·exact rs_AndGt gs cap a N x y rest w w0 hX hS hN (by omega)
theorem all_snocA {N : List (Int × Int)} {L : List Int} {k : Nat} {z : Int} (hz : L[k]? = some z) (h : ∀ x ∈ L.take k, hasL N x) (hx : hasL N z) : ∀ x ∈ L.take (k + 1), hasL N x := by
 intro x hm
 rw [tkS hz] at hm
 rcases List.mem_append.1 hm with h1 | h1
 ·exact h x h1
 ·obtain rfl := List.mem_singleton.1 h1; exact hx

abbrev AtCopyR (w0 : World) (gs : Nat) (rest : List Piece) (q : List Int × List (Int × Int)) (v : Value) (w' : World) : Prop :=
 Ext w0 w' /\ ∃ a' cap' la lc, v = .slice la q.1.length lc /\ Sep w0.heap.size w' (rsN w0.heap.size gs a' cap' q.2 ++ (prow 1 encI 3 w0.heap.size la lc q.1 :: rest))
theorem Sep.back21 {B : Nat} {w : World} {p a b : Piece} {rs : List Piece} (hS : Sep B w (p :: a :: b :: rs)) : Sep B w (a :: b :: p :: rs) := by
 refine Sep.sub' (fun i => if i < 2 then i + 1 else if i < 3 then i - 2 else i) hS (fun i x h => ?_) (fun i j hi hj hne => ?_)
 ·match i, h with
  | 0, h => exact h
  | 1, h => exact h
  | 2, h => exact h
  | i + 3, h =>
   simp only [show ¬ i + 3 < 2 by omega, show ¬ i + 3 < 3 by omega, if_false]; exact h
 ·split <;> split <;> (try split) <;> (try split) <;> omega
theorem Sep.drop22 {B : Nat} {w : World} {p a b : Piece} {rs : List Piece} (hS : Sep B w (a :: b :: p :: rs)) : Sep B w (a :: b :: rs) := by
 refine Sep.sub' (fun i => if i < 2 then i else i + 1) hS (fun i x h => ?_) (fun i j hi hj hne => ?_)
 ·match i, h with
  | 0, h => exact h
  | 1, h => exact h
  | i + 2, h => simp only [show ¬ i + 2 < 2 by omega, if_false]; exact h
 ·split <;> split <;> omega
theorem litI_of {l : List Int} {x z : Int} (hz : l[(x / 2).toNat]? = some z) (h0 : 0 <= z) : litI l x = if x % 2 = 1 then notL z else z := by
 unfold litI xorI; rw [gDo hz, notL_xor1 h0]

theorem rs_Copy (gs cap cn cl : Nat) (a an al : Option Addr) (N n : List (Int × Int)) (ins : List Int) (rest : List Piece) (w w0 : World) (hX : Ext w0 w) (hS : Sep w0.heap.size w (rsN w0.heap.size gs a cap N ++ rest)) (hN : N.length + n.length < 1048576) (hg : GNt n)
  (hn : KeepsR w0 gs rest (fun w' => Row 2 encN w' an n)) (hi : KeepsR w0 gs rest (fun w' => Row 1 encI w' al ins)) :
  Lt.Spec Tryz.prog 92 [.pointer (some ⟨gs, 0, none⟩), .slice an n.length cn, .slice al ins.length cl] w (AtCopyR w0 gs rest (copyV N n ins)) := by
 have hC0 := hS.cell (i := 0) rfl
 have RI := hi w a cap N hX hS
 have hli := RI.len
 refine Spec.of _ Tryz.func92 rfl Tryz.ntmps92 (by kernel_rfl) rfl ?_
 repeat' (first | (first | apply WL.nil | refine WL.au (k := ?_)) | apply Z.tn | (first | apply W.seq | apply W.region | apply W.block))
 refine W.loop1 ins.length (fun k => k <= ins.length /\ ∀ z ∈ ins.take k, hasL N z) (fun k => [(0, .pointer (some ⟨gs, 0, none⟩)), (1, .slice an n.length cn), (2, .slice al ins.length cl), (7, .int .i64 k)]) ⟨by omega, fun z h => by simp at h⟩ (fun k h => h.1) ⟨rfl, rfl, rfl, rfl, trivial⟩ ?_
 rintro k ⟨hk, hall⟩
 by_cases hlt : k < ins.length
 ·obtain ⟨z, hz⟩ := getI ins hlt
  by_cases hzz : hasL N z
  ·repeat' (first | (apply W.cKT; exact rfl; (focus (exact dTt (by omega)))) | (apply W.cKF; exact rfl; (focus ((rw [dTt hzz]; rfl); done))) | (apply WL.callS (f := 143); (iterate 4 exact rfl); exact rs_Has gs cap a N z _ hC0 (by omega)) | (first | apply WL.nil | refine WL.au (k := ?_) | (apply WL.index tOk; (iterate 8 exact rfl); assumption; exact extA; exact rfl; omega; assumption; intro b off h; have hcc := h; first | (obtain ⟨h1, h2, h3, h4, h5, h6, _⟩ := h) | (obtain ⟨h1, h2, h3, _⟩ := h) | (obtain ⟨h1, h2, _⟩ := h) | (obtain ⟨h1, _⟩ := h))) | (first | apply Z.tn | apply Z.bkn) | (first | apply W.seq | apply W.region | apply W.block | apply W.skip))
   exact Z.again1 ⟨by omega, all_snocA hz hall hzz⟩ ⟨rfl, rfl, rfl, rfl, trivial⟩
  ·have e : copyV N n ins = ([], N) := by unfold copyV; rw [dFf (fun h => hzz (h z (List.mem_of_getElem? hz)))]; rfl
   rw [e]
   have hS3 : Lt.Sep w0.heap.size w (rsN w0.heap.size gs a cap N ++ (prow 1 encI 3 w0.heap.size none 0 [] :: rest)) := Sep.back21 (Sep.newRow hS (Ext.refl _) Own.nil (fun k hk => by cases hk) hX.size)
   repeat' (first | (apply W.cKT; exact rfl; (focus (first | exact dTt (by omega) | (rw [dFf hzz]; rfl); done))) | (apply WL.callS (f := 143); (iterate 4 exact rfl); exact rs_Has gs cap a N z _ hC0 (by omega)) | (first | apply WL.nil | refine WL.au (k := ?_) | (apply WL.index tOk; (iterate 8 exact rfl); assumption; exact extA; exact rfl; omega; assumption; intro b off h; have hcc := h; first | (obtain ⟨h1, h2, h3, h4, h5, h6, _⟩ := h) | (obtain ⟨h1, h2, h3, _⟩ := h) | (obtain ⟨h1, h2, _⟩ := h) | (obtain ⟨h1, _⟩ := h))) | (first | apply Z.tn | apply Z.tnr | apply Z.bkr) | (first | apply W.seq | apply W.region | apply W.block | apply W.skip | apply W.ret))
   exact Z.bd1 Tryz.results92 rfl fun m => ⟨hX.at m, a, cap, none, 0, rfl, hS3.ext ((Ext.refl _).at m)⟩
 ·obtain rfl : k = ins.length := by omega
  rw [List.take_length] at hall
  have hh := hall
  have e : copyV N n ins = ((cto N n ins n.length).1, (cto N n ins n.length).2.2) := by unfold copyV; rw [dTt hh]; rfl
  rw [e]
  repeat' (first | (apply W.cKF; exact rfl; exact dFf (by omega)) | (apply WL.lit tOk; (iterate 6 exact rfl); kernel_rfl; exact rfl; intro gb w' hb hge hc hx; have hO := Own.of_block ([(0 : Int)]) eIk hb hge rfl) | (first | apply WL.nil | refine WL.au (k := ?_)) | (first | apply Z.tn | apply Z.tnx | apply Z.bkx) | (first | apply W.seq | apply W.region | apply W.block | apply W.exit))
  have hOl := hO.base hX.size
  have hS0 : Lt.Sep w0.heap.size w' (rsN w0.heap.size gs a cap N ++ (prow 1 encI 3 w0.heap.size (some ⟨gb, 0, none⟩) 1 [0] :: rest)) := Sep.back21 (Sep.newRow hS hx hOl (fun k hk => by cases hk; exact hge) hX.size)
  refine W.loopO n.length (fun k la lc w' => k <= n.length /\ Ext w0 w' /\ ∃ a' cap', Sep w0.heap.size w' (rsN w0.heap.size gs a' cap' (cto N n ins k).2.2 ++ (prow 1 encI 3 w0.heap.size la lc (cto N n ins k).1 :: rest)))
   (fun k la lc => [(0, .pointer (some ⟨gs, 0, none⟩)), (1, .slice an n.length cn), (2, .slice al ins.length cl), (8, .slice la (cto N n ins k).1.length lc), (9, .int .i64 (cto N n ins k).2.1), (10, .int .i64 k)])
   (some ⟨gb, 0, none⟩) _ ⟨by omega, hX.trans hx, a, cap, hS0⟩ (fun k la lc w' h => h.1) ⟨rfl, rfl, rfl, rfl, rfl, rfl, trivial⟩ ?_
  rintro k la lc w9 ⟨hk, hX9, a2, cap2, hS9⟩
  obtain ⟨i1, i2, i3, i4, i5, i6⟩ := cto_inv (N := N) hg hh k hk
  have Rn := hn _ _ _ _ hX9 (Sep.drop22 hS9)
  have Ri := hi _ _ _ _ hX9 (Sep.drop22 hS9)
  have hS := hS9
  (try simp only [List.set_cons_zero, List.set_cons_succ] at hS); (try have hR1 := hS.row (i := 1) rfl); (try have hR2 := hS.row (i := 2) rfl); (try have hC0 := hS.cell (i := 0) rfl); (try have hD0 := (cHp hC0).1)
  have RL := Own.row eIk hR2
  by_cases hlt : k < n.length
  ·obtain ⟨x, hxn⟩ := getI n hlt
   have hs := cto_succ (N := N) (ins := ins) hxn
   by_cases hin : 0 <= x.1
   ·have hgt := hg.gate hxn hin
    obtain ⟨za, hza⟩ := getI (cto N n ins k).1 (show (x.1 / 2).toNat < (cto N n ins k).1.length by omega)
    obtain ⟨zb, hzb⟩ := getI (cto N n ins k).1 (show (x.2 / 2).toNat < (cto N n ins k).1.length by omega)
    have ba : 0 <= za /\ za <= 9223372036854775807 := by have := i2 za (List.mem_of_getElem? hza); unfold hasL at this; omega
    have bb : 0 <= zb /\ zb <= 9223372036854775807 := by have := i2 zb (List.mem_of_getElem? hzb); unfold hasL at this; omega
    have e1 : (cto N n ins (k + 1)).1 = (cto N n ins k).1 ++ [(andV (cto N n ins k).2.2 (litI (cto N n ins k).1 x.1) (litI (cto N n ins k).1 x.2)).1] := by rw [hs, cstep, if_pos hin]
    have e2 : (cto N n ins (k + 1)).2.1 = (cto N n ins k).2.1 := by rw [hs, cstep, if_pos hin]
    have e3 : (cto N n ins (k + 1)).2.2 = (andV (cto N n ins k).2.2 (litI (cto N n ins k).1 x.1) (litI (cto N n ins k).1 x.2)).2 := by rw [hs, cstep, if_pos hin]
    rw [litI_of hza ba.1, litI_of hzb bb.1] at e1 e3
    by_cases pa : x.1 % 2 = 1 <;> by_cases pb : x.2 % 2 = 1
    all_goals (
     first
      | rw [if_pos pa, if_pos pb] at e1 e3
      | rw [if_pos pa, if_neg pb] at e1 e3
      | rw [if_neg pa, if_pos pb] at e1 e3
      | rw [if_neg pa, if_neg pb] at e1 e3
     repeat' (first | (apply W.cKT; exact rfl; (focus (exact dTt (by omega)))) | (apply W.cKF; exact rfl; exact dFf (by omega)) | (apply WL.callS (f := 95); (iterate 4 exact rfl); exact rs_Not za _ ba.2) | (apply WL.callS (f := 95); (iterate 4 exact rfl); exact rs_Not zb _ bb.2) | (apply WL.call (f := 144); (iterate 4 exact rfl); exact rs_And gs _ _ (cto N n ins k).2.2 _ _ (prow 1 encI 3 w0.heap.size la lc (cto N n ins k).1 :: rest) _ w0 hX9 hS9 (by omega); rintro v' w8 ⟨hX8, a8, cap8, rfl, hS⟩; (try simp only [List.set_cons_zero, List.set_cons_succ] at hS); (try have hR1 := hS.row (i := 1) rfl); (try have hR2 := hS.row (i := 2) rfl); (try have hC0 := hS.cell (i := 0) rfl); (try have hD0 := (cHp hC0).1)) | (apply WL.lit tOk; (iterate 6 exact rfl); kernel_rfl; exact rfl; intro gb w' hb hge hc hx) | (apply WL.ap1 tOk eIk; (iterate 10 exact rfl); assumption; exact extA; exact rfl; assumption; exact rfl; exact rfl; exact extA; omega; intro a' cap' w' hO hX' hU hF; (replace hS := Sep.uRw (i := 2) rfl hU hO hF hS extA (by (exact Below.size extA))); (try simp only [List.set_cons_zero, List.set_cons_succ] at hS); (try have hR1 := hS.row (i := 1) rfl); (try have hR2 := hS.row (i := 2) rfl); (try have hC0 := hS.cell (i := 0) rfl); (try have hD0 := (cHp hC0).1)) | (first | apply WL.nil | refine WL.au (k := ?_) | (apply WL.index tOk; (iterate 8 exact rfl); assumption; exact extA; exact rfl; omega; assumption; intro b off h; have hcc := h; first | (obtain ⟨h1, h2, h3, h4, h5, h6, _⟩ := h) | (obtain ⟨h1, h2, h3, _⟩ := h) | (obtain ⟨h1, h2, _⟩ := h) | (obtain ⟨h1, _⟩ := h))) | (first | apply QL.nil | refine QL.au (k := ?_) | (apply QL.index tOk; (iterate 8 exact rfl); assumption; exact extA; exact rfl; omega; assumption; intro b off h; have hcc := h; first | (obtain ⟨h1, h2, h3, h4, h5, h6, _⟩ := h) | (obtain ⟨h1, h2, h3, _⟩ := h) | (obtain ⟨h1, h2, _⟩ := h) | (obtain ⟨h1, _⟩ := h))) | (first | apply Z.tn | apply Z.tnx | apply Z.bkx) | (first | apply W.seq | apply W.region | apply W.block | apply W.skip | apply W.exit | (apply W.rgD tMix; kernel_rfl)))
     exact Z.agO a' cap' ⟨by omega, by assumption, a8, cap8, by rw [e3, e1]; exact hS⟩ (by repeat' first | exact trivial | (refine And.intro ?_ ?_) | exact rfl | (rw [e1]; exact rfl) | (rw [e2]; exact rfl)))
   ·by_cases hki : (cto N n ins k).2.1 < ins.length
    ·obtain ⟨z, hz⟩ := getI ins hki
     have e1 : (cto N n ins (k + 1)).1 = (cto N n ins k).1 ++ [z] := by rw [hs, cstep, if_neg hin, if_pos hki, gDo hz]
     have e2 : (cto N n ins (k + 1)).2.1 = (cto N n ins k).2.1 + 1 := by rw [hs, cstep, if_neg hin, if_pos hki]
     have e2' : ((cto N n ins (k + 1)).2.1 : Int) = ((cto N n ins k).2.1 : Int) + 1 := by rw [e2]; rfl
     have e3 : (cto N n ins (k + 1)).2.2 = (cto N n ins k).2.2 := by rw [hs, cstep, if_neg hin, if_pos hki]
     repeat' (first | (apply W.cKT; exact rfl; (focus (exact dTt (by omega)))) | (apply W.cKF; exact rfl; exact dFf (by omega)) | (apply WL.lit tOk; (iterate 6 exact rfl); kernel_rfl; exact rfl; intro gb w' hb hge hc hx) | (apply WL.ap1 (z := (z)) tOk eIk; (iterate 10 exact rfl); assumption; exact extA; exact rfl; assumption; exact rfl; exact rfl; exact extA; omega; intro a' cap' w' hO hX' hU hF; (replace hS := Sep.uRw (i := 2) rfl hU hO hF hS extA (by (exact Below.size extA))); (try simp only [List.set_cons_zero, List.set_cons_succ] at hS); (try have hR1 := hS.row (i := 1) rfl); (try have hR2 := hS.row (i := 2) rfl); (try have hC0 := hS.cell (i := 0) rfl); (try have hD0 := (cHp hC0).1)) | (first | apply WL.nil | refine WL.au (k := ?_) | (apply WL.index tOk; (iterate 8 exact rfl); assumption; exact extA; exact rfl; omega; assumption; intro b off h; have hcc := h; first | (obtain ⟨h1, h2, h3, h4, h5, h6, _⟩ := h) | (obtain ⟨h1, h2, h3, _⟩ := h) | (obtain ⟨h1, h2, _⟩ := h) | (obtain ⟨h1, _⟩ := h))) | (first | apply Z.tn | apply Z.bkn) | (first | apply W.seq | apply W.region | apply W.block | apply W.skip))
     exact Z.agO a' cap' ⟨by omega, by assumption, a2, cap2, by rw [e3, e1]; exact hS⟩ (by repeat' first | exact trivial | (refine And.intro ?_ ?_) | exact rfl | (rw [e1]; exact rfl) | (rw [e2']; exact rfl))
    ·have e1 : (cto N n ins (k + 1)).1 = (cto N n ins k).1 ++ [2 * (((cto N n ins k).2.2.length : Int) + 1)] := by rw [hs, cstep, if_neg hin, if_neg hki]
     have e2 : (cto N n ins (k + 1)).2.1 = (cto N n ins k).2.1 + 1 := by rw [hs, cstep, if_neg hin, if_neg hki]
     have e2' : ((cto N n ins (k + 1)).2.1 : Int) = ((cto N n ins k).2.1 : Int) + 1 := by rw [e2]; rfl
     have e3 : (cto N n ins (k + 1)).2.2 = (cto N n ins k).2.2 ++ [(-1, 0)] := by rw [hs, cstep, if_neg hin, if_neg hki]
     repeat' (first | (apply W.cKT; exact rfl; (focus (exact dTt (by omega)))) | (apply W.cKF; exact rfl; exact dFf (by omega)) | (apply WL.call (f := 55); (iterate 4 exact rfl); exact rs_Input gs _ _ (cto N n ins k).2.2 (prow 1 encI 3 w0.heap.size la lc (cto N n ins k).1 :: rest) _ w0 hX9 hS9 (by omega); rintro v' w8 ⟨hX8, a8, cap8, rfl, hS⟩; (try simp only [List.set_cons_zero, List.set_cons_succ] at hS); (try have hR1 := hS.row (i := 1) rfl); (try have hR2 := hS.row (i := 2) rfl); (try have hC0 := hS.cell (i := 0) rfl); (try have hD0 := (cHp hC0).1)) | (apply WL.lit tOk; (iterate 6 exact rfl); kernel_rfl; exact rfl; intro gb w' hb hge hc hx) | (apply WL.ap1 (z := (2 * (((cto N n ins k).2.2.length : Int) + 1))) tOk eIk; (iterate 10 exact rfl); assumption; exact extA; exact rfl; assumption; exact rfl; exact rfl; exact extA; omega; intro a' cap' w' hO hX' hU hF; (replace hS := Sep.uRw (i := 2) rfl hU hO hF hS extA (by (exact Below.size extA))); (try simp only [List.set_cons_zero, List.set_cons_succ] at hS); (try have hR1 := hS.row (i := 1) rfl); (try have hR2 := hS.row (i := 2) rfl); (try have hC0 := hS.cell (i := 0) rfl); (try have hD0 := (cHp hC0).1)) | (first | apply WL.nil | refine WL.au (k := ?_) | (apply WL.index tOk; (iterate 8 exact rfl); assumption; exact extA; exact rfl; omega; assumption; intro b off h; have hcc := h; first | (obtain ⟨h1, h2, h3, h4, h5, h6, _⟩ := h) | (obtain ⟨h1, h2, h3, _⟩ := h) | (obtain ⟨h1, h2, _⟩ := h) | (obtain ⟨h1, _⟩ := h))) | (first | apply Z.tn | apply Z.bkn) | (first | apply W.seq | apply W.region | apply W.block | apply W.skip))
     exact Z.agO a' cap' ⟨by omega, by assumption, a8, cap8, by rw [e3, e1]; exact hS⟩ (by repeat' first | exact trivial | (refine And.intro ?_ ?_) | exact rfl | (rw [e1]; exact rfl) | (rw [e2']; exact rfl))
  ·obtain rfl : k = n.length := by omega
   repeat' (first | (apply W.cKF; exact rfl; exact dFf (by omega)) | (first | apply WL.nil | refine WL.au (k := ?_)) | (first | apply Z.tn | apply Z.tnx | apply Z.bkx) | (first | apply W.seq | apply W.region | apply W.ret | apply W.exit))
   exact Z.bd1 Tryz.results92 rfl fun m => ⟨hX9.at m, a2, cap2, la, lc, rfl, hS9.ext ((Ext.refl _).at m)⟩

theorem own_keepC {α : Type} {t : Nat} {enc : α -> List Value} {el : TypeId} {B B' g cap : Nat} {a : Option Addr} {l : List α} {w w' : World} (ho : Own t enc el B' w a cap l) (hU : Upd B (some ⟨g, 0, none⟩) w w') (hg : g < B') : Own t enc el B' w' a cap l := by
 refine hU.own ho ?_
 cases h : blk a with
 | none => exact .inl rfl
 | some k =>
  right
  intro e
  have h1 := ho.blk_lt k h
  have h2 : k = g := Option.some.inj e
  omega
noncomputable abbrev viewV (c : Circ) (aN : Option Addr) (cN : Nat) (aA : Option Addr) (cA : Nat) : List Value :=
 [.int .i64 c.max, rowVal c.ins, rowVal c.lat, rowVal c.outs, rowVal c.bads, rowVal c.cons, rowVal c.gates, rowVal c.syms, .string c.com,
  .slice aN (cNet c.t).1.length cN, .slice aA (cNet c.t).2.length cA]
theorem coi_of (c : Circ) (w : World) (hC : CAt w c) (hg : GoodC' c.t) (hz : SzC c.t 100000) :
  Lt.Spec Tryz.prog 81 [c.val] w (fun v w' => Ext w w' /\ ∃ aN cN aA cA, v = .agg (viewV c aN cN aA cA).toArray /\ Own 2 encN 84 w.heap.size w' aN cN (cNet c.t).1 /\ Own 1 encI 3 w.heap.size w' aA cA (cNet c.t).2) := by
 refine Spec.of _ Tryz.func81 rfl Tryz.ntmps81 (by kernel_rfl) rfl ?_
 repeat' (first | (apply WL.box; (iterate 3 exact rfl); intro gc wc hb hge hc hxc; have hcc := hc; obtain ⟨h1, h2, h3, _⟩ := hc; (have hcells := hcc)) | (apply WL.alloc tOk; (iterate 3 exact rfl); intro g2 w2 hb2 hge2 hx2) | (apply WL.call (f := 49); (iterate 4 exact rfl); exact circ_Net c _ (hC.ext extA) hg hz; rintro v' w5 ⟨hx5, aN, cN, aA, cA, rfl, hON, hOA⟩; have hb5 := hx5.heap hb2) | (apply WL.build tOk; (iterate 7 exact rfl); kernel_rfl) | (show WL _ _ _ (⟨none, .store _ _ _, _, _, _, _⟩ :: _) _ _ _; apply WL.storeB (w0 := w) tOk; (iterate 4 exact rfl); exact hb5; exact extA; kernel_rfl; kernel_rfl; kernel_rfl; exact extA; exact Nat.le_trans (Below.size extA) hge2; intro w6 hb6 hc6 hX6 hU6) | (first | apply WL.nil | refine WL.au (k := ?_)) | apply Z.tn | (first | apply W.seq | apply W.region | apply W.ret))
 have hc7 : Cells w6 g2 0 (viewV c aN cN aA cA) := hc6
 have hlt2 : g2 < w2.heap.size := heap_lt hb2
 have hB2 : w.heap.size <= w2.heap.size := Below.size (hxc.trans hx2)
 have hN6 := (own_keepC hON hU6 hlt2).base hB2
 have hA6 := (own_keepC hOA hU6 hlt2).base hB2
 exact Z.bodyC tOk Tryz.results81 rfl rfl rfl rfl hc7 fun m => ⟨hX6.at m, aN, cN, aA, cA, rfl, hN6.ext ((Ext.refl _).at m), hA6.ext ((Ext.refl _).at m)⟩
theorem coi_lit (c : Circ) (aN aA : Option Addr) (cN cA : Nat) (hg : GoodC' c.t) (hz : SzC c.t 100000) (l : Int) (hl : KnL c.t l) (w : World) (RA : Row 1 encI w aA (cNet c.t).2) :
  Pure Tryz.prog 84 [.agg (viewV c aN cN aA cA).toArray, .int .i64 l] w (.int .i64 (cl c.t l)) := by
 obtain ⟨z, z1, z2, z3, z4⟩ := knL_lit hg hl
 have hm := knL_max hg hl
 have h0 := hl.1
 have hmx := hg.max
 have hlt := lGt z1
 have hRl := RA.len
 have e0 : cl c.t l = xorI z (l % 2) := litI_some z1
 have hnl := net_len hg hz
 rw [e0]
 refine Spec.of _ Tryz.func84 rfl Tryz.ntmps84 (by kernel_rfl) rfl ?_
 repeat' (first | (apply WL.box; (iterate 3 exact rfl); intro gb w' hb hge hc hx; have hcc := hc; obtain ⟨h1, h2, h3, _⟩ := hc; (obtain ⟨y0, y1, y2, y3, y4, y5, y6, y7, y8, y9, y10, _⟩ := hcc)) | (apply WL.andA; (iterate 4 exact rfl)) | (apply WL.xorI; (iterate 4 exact rfl); omega; omega) | (first | apply WL.nil | refine WL.au (k := ?_) | (apply WL.index tOk; (iterate 8 exact rfl); assumption; exact extA; exact rfl; omega; assumption; intro b off h; have hcc := h; first | (obtain ⟨h1, h2, h3, h4, h5, h6, _⟩ := h) | (obtain ⟨h1, h2, h3, _⟩ := h) | (obtain ⟨h1, h2, _⟩ := h) | (obtain ⟨h1, _⟩ := h))) | apply Z.tn | (first | apply W.seq | apply W.region | apply W.ret))
 exact Z.bd1 Tryz.results84 rfl fun m => ⟨rfl, Ext.at extA m⟩
theorem coi_bad (c : Circ) (prop : Int) (w : World) (hC : CAt w c) : Pure Tryz.prog 76 [c.val, .int .i64 prop] w (.int .i64 (badL c.t prop)) := by
 have RB := hC.bads.row
 by_cases h0 : prop < 0
 ·have e : badL c.t prop = 0 := by unfold badL; rw [if_neg (fun h => by omega)]
  rw [e]
  refine Spec.of _ Tryz.func76 rfl Tryz.ntmps76 (by kernel_rfl) rfl ?_
  repeat' (first | (apply WL.box; (iterate 3 exact rfl); intro gb w' hb hge hc hx; have hcc := hc; obtain ⟨h1, h2, h3, _⟩ := hc) | (apply WL.gT; exact rfl; exact rfl; (focus (exact dTt (by omega)))) | (first | apply WL.nil | refine WL.au (k := ?_) | (apply WL.gdF; exact rfl; exact rfl)) | (first | apply Z.tn | apply Z.tnr) | (first | apply W.seq | apply W.region | apply W.ret | (apply W.condT; exact rfl)))
  exact Z.bd1 Tryz.results76 rfl fun m => ⟨rfl, Ext.at extA m⟩
 ·by_cases h1 : prop < (c.bads.2.2.length : Int)
  ·obtain ⟨z, hz⟩ := getI c.bads.2.2 (show prop.toNat < _ by omega)
   have e : badL c.t prop = z := by
    unfold badL
    rw [if_pos (show 0 <= prop /\ prop < (c.t.bads.length : Int) from ⟨by omega, h1⟩)]
    exact gDo hz
   rw [e]
   refine Spec.of _ Tryz.func76 rfl Tryz.ntmps76 (by kernel_rfl) rfl ?_
   repeat' (first | (apply WL.box; (iterate 3 exact rfl); intro gb w' hb hge hc hx; have hcc := hc; obtain ⟨h1, h2, h3, _⟩ := hc; (obtain ⟨y0, y1, y2, y3, y4, _⟩ := hcc)) | (apply WL.gF; exact rfl; exact rfl; exact dFf (by omega)) | (apply W.cKF; exact rfl; exact dFf (by omega)) | (first | apply WL.nil | refine WL.au (k := ?_) | (apply WL.index tOk; (iterate 8 exact rfl); assumption; exact extA; exact rfl; omega; assumption; intro b off h; have hcc := h; first | (obtain ⟨h1, h2, h3, h4, h5, h6, _⟩ := h) | (obtain ⟨h1, h2, h3, _⟩ := h) | (obtain ⟨h1, h2, _⟩ := h) | (obtain ⟨h1, _⟩ := h))) | apply Z.tn | (first | apply W.seq | apply W.region | apply W.skip | apply W.ret))
   exact Z.bd1 Tryz.results76 rfl fun m => ⟨rfl, Ext.at extA m⟩
  ·have e : badL c.t prop = 0 := by unfold badL; rw [if_neg (fun h => h1 h.2)]
   rw [e]
   refine Spec.of _ Tryz.func76 rfl Tryz.ntmps76 (by kernel_rfl) rfl ?_
   repeat' (first | (apply WL.box; (iterate 3 exact rfl); intro gb w' hb hge hc hx; have hcc := hc; obtain ⟨h1, h2, h3, _⟩ := hc; (obtain ⟨y0, y1, y2, y3, y4, _⟩ := hcc)) | (apply WL.gF; exact rfl; exact rfl; exact dFf (by omega)) | (apply W.cKT; exact rfl; (focus (exact dTt (by omega)))) | (first | apply WL.nil | refine WL.au (k := ?_)) | (first | apply Z.tn | apply Z.tnr) | (first | apply W.seq | apply W.region | apply W.ret))
   exact Z.bd1 Tryz.results76 rfl fun m => ⟨rfl, Ext.at extA m⟩
def upF (m k : Nat) : List Int := tab m (fun u => if u < k then (u : Int) else 0)
theorem upF_set (m k : Nat) : (upF m k).set k (k : Int) = upF m (k + 1) := by
 unfold upF
 refine tab_set fun u _ => ?_
 by_cases h : u = k
 ·subst h; rw [if_pos rfl, if_pos (by omega)]
 ·rw [if_neg h]
  by_cases h1 : u < k
  ·rw [if_pos h1, if_pos (by omega)]
  ·rw [if_neg h1, if_neg (by omega)]
theorem upF_all (m : Nat) : upF m m = allI m := tab_congr fun _ hu => if_pos hu
theorem coi_upTo (m : Nat) (w : World) (hm : m <= 100000) : Lt.Spec Tryz.prog 86 [.int .i64 m] w (IsFresh 1 encI 3 w (allI m)) := by
 refine Spec.of _ Tryz.func86 rfl Tryz.ntmps86 (by kernel_rfl) rfl ?_
 repeat' (first | (apply WL.makeC (w0 := w) (z := (0:Int)) tOk; (iterate 9 exact rfl); exact eIk; exact rfl; exact rfl; exact extA; omega; intro gl w8 hOL hgeL hxL) | (first | apply WL.nil | refine WL.au (k := ?_)) | apply Z.tn | (first | apply W.seq | apply W.region | apply W.block))
 have en : ((m : Int)).toNat = m := Int.toNat_natCast _
 have e0 : List.replicate m (0 : Int) = upF m 0 := by rw [tab_rep]; exact tab_congr fun u hu => (if_neg (by omega)).symm
 have e0l : (List.replicate m (0 : Int)).length = m := List.length_replicate
 rw [en] at hOL ⊢
 rw [e0] at hOL
 refine W.loopW m (fun k w' => k <= m /\ Ext w w' /\ Own 1 encI 3 w.heap.size w' (some ⟨gl, 0, none⟩) m (upF m k))
  (fun k => [(3, .slice (some ⟨gl, 0, none⟩) m m), (8, .int .i64 (m : Nat)), (9, .int .i64 k)]) ⟨by omega, hxL, hOL⟩ (fun k w' h => h.1) (by repeat' first | exact trivial | (refine And.intro ?_ ?_) | exact rfl | (rw [e0l]; exact rfl)) ?_
 clear hOL
 rintro k w1 ⟨hk, hX1, hO1⟩
 have hfl : (upF m k).length = m := tab_len _ _
 by_cases hlt : k < m
 ·obtain ⟨z, hz⟩ := getI (upF m k) (show k < _ by omega)
  have hO := hO1
  repeat' (first | (apply W.cKT; exact rfl; exact dTt (by omega)) | (apply WL.indexO tOk; (iterate 8 exact rfl); assumption; exact extA; exact eIk; ((focus (simp [*]; done))); omega; assumption; intro gb ha hc; cases ha; have hcc := hc; first | (obtain ⟨h1, h2, h3, _⟩ := hc) | (obtain ⟨h1, h2, _⟩ := hc) | (obtain ⟨h1, _⟩ := hc)) | (apply WL.storeO tOk; (iterate 4 exact rfl); assumption; exact extA; (iterate 3 exact rfl); exact eIk; assumption; exact rfl; exact extA; intro w' hO hX' hU) | (first | apply WL.nil | refine WL.au (k := ?_)) | (first | apply Z.tn | apply Z.bkn) | (first | apply W.seq | apply W.region | apply W.block | apply W.skip))
  rw [Int.toNat_natCast, upF_set] at hO
  exact Z.agW ⟨by omega, extA, hO⟩ (by repeat' first | exact trivial | (refine And.intro ?_ ?_) | exact rfl)
 obtain rfl : k = m := by omega
 repeat' (first | (apply W.cKF; exact rfl; exact dFf (by omega)) | (first | apply WL.nil | refine WL.au (k := ?_)) | (first | apply Z.tn | apply Z.tnx | apply Z.bkx) | (first | apply W.seq | apply W.region | apply W.ret | apply W.exit))
 rw [upF_all] at hO1
 exact Z.bd1 Tryz.results86 rfl fun q => ⟨hX1.at q, _, _, by rw [allI_len], hO1.ext ((Ext.refl _).at q)⟩
theorem coi_told (a : Option Addr) (cap : Nat) (l : List Bool) (i : Nat) (w : World) (R : Row 1 encB w a l) : Still Tryz.prog 31 [.slice a l.length cap, .int .i64 i] w (.bool (l.getD i false)) := by
 refine Spec.of _ Tryz.func31 rfl Tryz.ntmps31 (by kernel_rfl) rfl ?_
 by_cases h : i < l.length
 ·obtain ⟨z, hz⟩ := getI l h
  rw [gDo hz]
  repeat' (first | (apply WL.gT; exact rfl; exact rfl; (focus (exact dTt (by omega)))) | (first | apply WL.nil | refine WL.au (k := ?_) | (apply WL.index tOk; (iterate 8 exact rfl); assumption; exact extA; exact rfl; omega; assumption; intro b off h; have hcc := h; first | (obtain ⟨h1, h2, h3, h4, h5, h6, _⟩ := h) | (obtain ⟨h1, h2, h3, _⟩ := h) | (obtain ⟨h1, h2, _⟩ := h) | (obtain ⟨h1, _⟩ := h))) | apply Z.tn | (first | apply W.seq | apply W.region | apply W.ret))
  exact Z.bd1 Tryz.results31 rfl fun m => ⟨rfl, m, rfl⟩
 ·have e : l.getD i false = false := by rw [List.getD_eq_getElem?_getD, List.getElem?_eq_none (by omega)]; rfl
  rw [e]
  repeat' (first | (apply WL.gF; exact rfl; exact rfl; exact dFf (by omega)) | (first | apply WL.nil | refine WL.au (k := ?_) | (apply WL.gdF; exact rfl; exact rfl)) | apply Z.tn | (first | apply W.seq | apply W.region | apply W.ret))
  exact Z.bd1 Tryz.results31 rfl fun m => ⟨rfl, m, rfl⟩
theorem r42_at (a : Option Addr) (cap : Nat) (A : List Int) (l z : Int) (w : World) (R : Row 1 encI w a A) (h0 : 0 <= l) (hl : l <= 4294967296) (hz : A[(l / 2).toNat]? = some z) (hz0 : 0 <= z /\ z <= 9223372036854775806) :
  Still Tryz.prog 36 [.slice a A.length cap, .int .i64 l] w (.int .i64 (litI A l)) := by
 have hlt := lGt hz
 have hRl := R.len
 have e0 := litI_of hz hz0.1
 rw [e0]
 refine Spec.of _ Tryz.func36 rfl Tryz.ntmps36 (by kernel_rfl) rfl ?_
 by_cases hp : l % 2 = 1
 ·rw [if_pos hp]
  repeat' (first | (apply W.cKT; exact rfl; (focus (exact dTt hp))) | (apply WL.callS (f := 95); (iterate 4 exact rfl); exact rs_Not z _ (by omega)) | (first | apply WL.nil | refine WL.au (k := ?_) | (apply WL.index tOk; (iterate 8 exact rfl); assumption; exact extA; exact rfl; omega; assumption; intro b off h; have hcc := h; first | (obtain ⟨h1, h2, h3, h4, h5, h6, _⟩ := h) | (obtain ⟨h1, h2, h3, _⟩ := h) | (obtain ⟨h1, h2, _⟩ := h) | (obtain ⟨h1, _⟩ := h))) | (first | apply Z.tn | apply Z.tnr) | (first | apply W.seq | apply W.region | apply W.ret))
  exact Z.bd1 Tryz.results36 rfl fun m => ⟨rfl, m, rfl⟩
 ·rw [if_neg hp]
  repeat' (first | (apply W.cKF; exact rfl; (focus (exact dFf hp))) | (first | apply WL.nil | refine WL.au (k := ?_) | (apply WL.index tOk; (iterate 8 exact rfl); assumption; exact extA; exact rfl; omega; assumption; intro b off h; have hcc := h; first | (obtain ⟨h1, h2, h3, h4, h5, h6, _⟩ := h) | (obtain ⟨h1, h2, h3, _⟩ := h) | (obtain ⟨h1, h2, _⟩ := h) | (obtain ⟨h1, _⟩ := h))) | apply Z.tn | (first | apply W.seq | apply W.region | apply W.skip | apply W.ret))
  exact Z.bd1 Tryz.results36 rfl fun m => ⟨rfl, m, rfl⟩
theorem r42_bad (c : Circ) (prop : Int) (w : World) (hC : CAt w c) : Pure Tryz.prog 37 [c.val, .int .i64 prop] w (.int .i64 (badL c.t prop)) := by
 have RB := hC.bads.row
 by_cases h0 : prop < 0
 ·have e : badL c.t prop = 0 := by unfold badL; rw [if_neg (fun h => by omega)]
  rw [e]
  refine Spec.of _ Tryz.func37 rfl Tryz.ntmps37 (by kernel_rfl) rfl ?_
  repeat' (first | (apply WL.box; (iterate 3 exact rfl); intro gb w' hb hge hc hx; have hcc := hc; obtain ⟨h1, h2, h3, _⟩ := hc) | (apply WL.gT; exact rfl; exact rfl; (focus (exact dTt (by omega)))) | (first | apply WL.nil | refine WL.au (k := ?_) | (apply WL.gdF; exact rfl; exact rfl)) | (first | apply Z.tn | apply Z.tnr) | (first | apply W.seq | apply W.region | apply W.ret | (apply W.condT; exact rfl)))
  exact Z.bd1 Tryz.results37 rfl fun m => ⟨rfl, Ext.at extA m⟩
 ·by_cases h1 : prop < (c.bads.2.2.length : Int)
  ·obtain ⟨z, hz⟩ := getI c.bads.2.2 (show prop.toNat < _ by omega)
   have e : badL c.t prop = z := by
    unfold badL
    rw [if_pos (show 0 <= prop /\ prop < (c.t.bads.length : Int) from ⟨by omega, h1⟩)]
    exact gDo hz
   rw [e]
   refine Spec.of _ Tryz.func37 rfl Tryz.ntmps37 (by kernel_rfl) rfl ?_
   repeat' (first | (apply WL.box; (iterate 3 exact rfl); intro gb w' hb hge hc hx; have hcc := hc; obtain ⟨h1, h2, h3, _⟩ := hc; (obtain ⟨y0, y1, y2, y3, y4, _⟩ := hcc)) | (apply WL.gF; exact rfl; exact rfl; exact dFf (by omega)) | (apply W.cKF; exact rfl; exact dFf (by omega)) | (first | apply WL.nil | refine WL.au (k := ?_) | (apply WL.index tOk; (iterate 8 exact rfl); assumption; exact extA; exact rfl; omega; assumption; intro b off h; have hcc := h; first | (obtain ⟨h1, h2, h3, h4, h5, h6, _⟩ := h) | (obtain ⟨h1, h2, h3, _⟩ := h) | (obtain ⟨h1, h2, _⟩ := h) | (obtain ⟨h1, _⟩ := h))) | apply Z.tn | (first | apply W.seq | apply W.region | apply W.skip | apply W.ret))
   exact Z.bd1 Tryz.results37 rfl fun m => ⟨rfl, Ext.at extA m⟩
  ·have e : badL c.t prop = 0 := by unfold badL; rw [if_neg (fun h => h1 h.2)]
   rw [e]
   refine Spec.of _ Tryz.func37 rfl Tryz.ntmps37 (by kernel_rfl) rfl ?_
   repeat' (first | (apply WL.box; (iterate 3 exact rfl); intro gb w' hb hge hc hx; have hcc := hc; obtain ⟨h1, h2, h3, _⟩ := hc; (obtain ⟨y0, y1, y2, y3, y4, _⟩ := hcc)) | (apply WL.gF; exact rfl; exact rfl; exact dFf (by omega)) | (apply W.cKT; exact rfl; (focus (exact dTt (by omega)))) | (first | apply WL.nil | refine WL.au (k := ?_)) | (first | apply Z.tn | apply Z.tnr) | (first | apply W.seq | apply W.region | apply W.ret))
   exact Z.bd1 Tryz.results37 rfl fun m => ⟨rfl, Ext.at extA m⟩

def preT (m : Nat) (f g : Nat -> Int) (k : Nat) : List Int := tab m (fun u => if u < k then f u else g u)
theorem preT_len (m : Nat) (f g : Nat -> Int) (k : Nat) : (preT m f g k).length = m := tab_len _ _
theorem preT_set {m : Nat} {f g : Nat -> Int} {k : Nat} {y : Int} (h : y = f k) : (preT m f g k).set k y = preT m f g (k + 1) := by
 unfold preT
 refine tab_set fun u _ => ?_
 by_cases e : u = k
 ·subst e; rw [if_pos rfl, if_pos (by omega), h]
 ·rw [if_neg e]
  by_cases h1 : u < k
  ·rw [if_pos h1, if_pos (by omega)]
  ·rw [if_neg h1, if_neg (by omega)]
theorem preT_same {m : Nat} {f g : Nat -> Int} {k : Nat} (h : f k = g k) : preT m f g (k + 1) = preT m f g k := by
 unfold preT
 refine tab_congr fun u _ => ?_
 by_cases e : u = k
 ·subst e; rw [if_pos (by omega), if_neg (by omega), h]
 ·by_cases h1 : u < k
  ·rw [if_pos h1, if_pos (by omega)]
  ·rw [if_neg h1, if_neg (by omega)]
theorem preT_all {m : Nat} {f g : Nat -> Int} {l : List Int} (hl : l.length = m) (h : ∀ u x, l[u]? = some x -> f u = x) : preT m f g m = l := by
 symm
 refine tab_eq hl fun u x hx => ?_
 have hu := lGt hx
 rw [if_pos (by omega)]; exact h u x hx
theorem preT_zero {m : Nat} {f g : Nat -> Int} {l : List Int} (hl : l.length = m) (h : ∀ u x, l[u]? = some x -> g u = x) : preT m f g 0 = l := by
 symm
 refine tab_eq hl fun u x hx => ?_
 rw [if_neg (by omega)]; exact h u x hx
theorem rep_get {m u : Nat} {y x : Int} (h : (List.replicate m y)[u]? = some x) : y = x := by
 rw [List.getElem?_replicate] at h
 split at h
 ·exact Option.some.inj h
 ·cases h
theorem coi_Stuck (c : Circ) (w : World) (hC : CAt w c) (hg : GoodC' c.t) (hz : SzC c.t 100000) :
  Lt.Spec Tryz.prog 28 [c.val] w (IsFresh 1 encI 3 w (skV c.t)) := by
 have z1 : c.ins.2.2.length <= 100000 := hz.1
 have z2 : c.lat.2.2.length <= 100000 := hz.2.1
 have hnl := net_len hg hz
 refine Spec.of _ Tryz.func28 rfl Tryz.ntmps28 (by kernel_rfl) rfl ?_
 repeat' (first | (apply WL.box; (iterate 3 exact rfl); intro gc wc hb hge hc hxc; have hcc := hc; obtain ⟨h1, h2, h3, _⟩ := hc; (have hcells := hcc)) | (apply WL.call (f := 81); (iterate 4 exact rfl); exact coi_of c _ (hC.ext extA) hg hz; rintro v' w2 ⟨hx2, aN, cN, aA, cA, rfl, hON, hOA⟩) | (apply WL.alloc tOk; (iterate 3 exact rfl); intro g3 w3 hb3 hge3 hx3) | (show WL _ _ _ (⟨none, .store _ _ _, _, _, _, _⟩ :: _) _ _ _; apply WL.storeB (w0 := w2) tOk; (iterate 4 exact rfl); exact hb3; exact Ext.refl _; kernel_rfl; kernel_rfl; kernel_rfl; exact hx3; exact hge3; intro w4 hb4 hc4 hX4 hU4; obtain ⟨y0, y1, y2, y3, y4, y5, y6, y7, y8, _⟩ := Cells.ext (hx2.trans hX4) hcells) | (apply WL.makeC (w0 := w4) (z := (0:Int)) tOk; (iterate 9 exact rfl); exact eIk; exact rfl; exact rfl; exact extA; omega; intro gl w5 hOL hgeL hxL) | (first | apply WL.nil | refine WL.au (k := ?_)) | apply Z.tn | (first | apply W.seq | apply W.region | apply W.block))
 have hV4 : Cells w4 g3 0 (viewV c aN cN aA cA) := hc4
 have hX24 : Ext w2 w4 := hX4
 have hXw4 : Ext w w4 := (hxc.trans hx2).trans hX24
 have hc44 : Cells w4 gc 0 c.vals := Cells.ext (hx2.trans hX24) hcells
 have RN4 := (hON.row encN_ok).ext hX24
 have RA4 := (hOA.row eIk).ext hX24
 have hC4 := hC.ext hXw4
 have en : ((c.lat.2.2.length : Nat) : Int).toNat = c.lat.2.2.length := Int.toNat_natCast _
 have e0l : (List.replicate c.lat.2.2.length (0 : Int)).length = c.lat.2.2.length := List.length_replicate
 obtain ⟨f, hf⟩ : ∃ f : Nat -> Int, f = fun u => (stk0 c.t).getD u 0 := ⟨_, rfl⟩
 have e0 : preT c.lat.2.2.length f (fun _ => 0) 0 = List.replicate c.lat.2.2.length (0 : Int) := preT_zero e0l fun u x hx => rep_get hx
 rw [en] at hOL ⊢
 have hS0 := Sep.newRow Sep.none' hxL (hOL.base (Nat.le_refl _)) (fun k hk => by cases hk; exact hgeL) (Nat.le_refl _)
 rw [<- e0] at hS0
 refine W.loopW c.lat.2.2.length (fun k w' => k <= c.lat.2.2.length /\ Ext w4 w' /\ Lt.Sep w4.heap.size w' [prow 1 encI 3 w4.heap.size (some ⟨gl, 0, none⟩) c.lat.2.2.length (preT c.lat.2.2.length f (fun _ => 0) k)])
  (fun k => [(1, .pointer (some ⟨gc, 0, none⟩)), (3, .pointer (some ⟨g3, 0, none⟩)), (4, .slice (some ⟨gl, 0, none⟩) c.lat.2.2.length c.lat.2.2.length), (21, rowVal c.lat), (22, .int .i64 c.lat.2.2.length), (23, .int .i64 k)]) ⟨Nat.zero_le _, hxL, hS0⟩ (fun k w' h => h.1) (by repeat' first | exact trivial | (refine And.intro ?_ ?_) | exact rfl | (rw [e0l]; exact rfl)) ?_
 clear hS0 hOL hb3 hb4 hc4 hU4
 rintro k w9 ⟨hk, hX9, hS⟩
 have hpl := preT_len c.lat.2.2.length f (fun _ => 0) k
 by_cases hlt : k < c.lat.2.2.length
 ·obtain ⟨t, ht⟩ := getI c.lat.2.2 hlt
  have RL := (hC4.ext hX9).lat.row
  have hgl9 : gl < w9.heap.size := (hS.lt (i := 0) rfl rfl).2
  obtain ⟨y, hy⟩ := getI (preT c.lat.2.2.length f (fun _ => 0) k) (show k < _ by omega)
  (try simp only [List.set_cons_zero, List.set_cons_succ] at hS); (try have hR0 := hS.row (i := 0) rfl)
  repeat' (first | (apply W.cKT; exact rfl; exact dTt (by omega)) | (apply WL.min; (iterate 4 exact rfl)) | (apply WL.alloc tOk; (iterate 3 exact rfl); intro gb w' hb hge hx) | (apply WL.storeB (w0 := w4) tOk; (iterate 4 exact rfl); assumption; exact extA; (iterate 3 exact rfl); exact extA; omega; intro w' hb hc hX' hU; have hcc := hc; obtain ⟨h1, h2, _⟩ := hc; (replace hS := Sep.updNew hS extA hU (by first | assumption | omega)); (try simp only [List.set_cons_zero, List.set_cons_succ] at hS); (try have hR0 := hS.row (i := 0) rfl); (obtain ⟨e1', e2', e3', _⟩ := hcc; have hb10 := hb; have hne10 : gb ≠ gl := by omega)) | (apply WL.indexO tOk; (iterate 8 exact rfl); assumption; exact extA; exact eIk; omega; omega; assumption; intro gb ha hc; cases ha; have hcc := hc; first | (obtain ⟨h1, h2, h3, _⟩ := hc) | (obtain ⟨h1, h2, _⟩ := hc) | (obtain ⟨h1, _⟩ := hc)) | (apply WL.storeO tOk; (iterate 4 exact rfl); assumption; exact extA; (iterate 3 exact rfl); exact eIk; assumption; exact rfl; exact extA; intro w' hO hX' hU; (replace hS := Sep.uRw (i := 0) rfl hU hO (.inl rfl) hS extA (by (exact Below.size extA))); (try simp only [List.set_cons_zero, List.set_cons_succ] at hS); (try have hR0 := hS.row (i := 0) rfl)) | (first | apply WL.nil | refine WL.au (k := ?_) | (apply WL.index tOk; (iterate 8 exact rfl); assumption; exact extA; exact rfl; omega; assumption; intro b off h; have hcc := h; first | (obtain ⟨h1, h2, h3, h4, h5, h6, _⟩ := h) | (obtain ⟨h1, h2, h3, _⟩ := h) | (obtain ⟨h1, h2, _⟩ := h) | (obtain ⟨h1, _⟩ := h))) | (first | apply Z.tn | apply Z.bkn) | (first | apply W.seq | apply W.region | apply W.block | apply W.skip))
  have hfk : min t.2.2 2 = f k := by rw [hf]; exact (stk0_get ht).symm
  rw [Int.toNat_natCast, preT_set hfk] at hS
  exact Z.agW ⟨by omega, by assumption, hS⟩ (by repeat' first | exact trivial | (refine And.intro ?_ ?_) | exact rfl)
 obtain rfl : k = c.lat.2.2.length := by omega
 have e1 : preT c.lat.2.2.length f (fun _ => 0) c.lat.2.2.length = stkI c.t 0 := preT_all (stkI_len (c := c.t) 0) fun u x hx => by rw [hf]; exact gDo hx
 rw [e1] at hS
 have hsl : (stkI c.t 0).length = c.lat.2.2.length := stkI_len 0
 repeat' (first | (apply W.cKF; exact rfl; exact dFf (by omega)) | (first | apply WL.nil | refine WL.au (k := ?_)) | (first | apply Z.tn | apply Z.tnx | apply Z.bkx) | (first | apply W.seq | apply W.region | apply W.block | apply W.exit))
 refine W.loopO c.lat.2.2.length (fun k b cp w' => k <= c.lat.2.2.length /\ Ext w4 w' /\ (∀ j, j < k -> stkS c.t (stkI c.t j) ≠ stkI c.t j) /\ Own 1 encI 3 w4.heap.size w' b cp (stkI c.t k))
  (fun k b cp => [(1, .pointer (some ⟨gc, 0, none⟩)), (3, .pointer (some ⟨g3, 0, none⟩)), (4, .slice b (stkI c.t k).length cp)]) (some ⟨gl, 0, none⟩) c.lat.2.2.length ⟨Nat.zero_le _, hX9, fun j hj => absurd hj (Nat.not_lt_zero j), hS.row (i := 0) rfl⟩ (fun k a cp w' h => h.1) (by repeat' first | exact trivial | (refine And.intro ?_ ?_) | exact rfl | (rw [hsl]; exact rfl)) ?_
 clear hS hX9 y0 y1 y2 y3 y4 y5 y6 y7 y8
 rintro k b cp wi ⟨hk, hXi, hne, hOv⟩
 obtain ⟨v, hv⟩ : ∃ v, v = stkI c.t k := ⟨_, rfl⟩
 rw [<- hv] at hOv ⊢
 have hvl : v.length = c.lat.2.2.length := by rw [hv]; exact stkI_len k
 have Rv := hOv.row eIk
 have nv := hOv.nCp
 have hCi := hC4.ext hXi
 obtain ⟨y0, y1, y2, y3, y4, y5, y6, y7, y8, _⟩ := Cells.ext hXi hc44
 have hVi := Cells.ext hXi hV4
 have RNi := RN4.ext hXi
 have RAi := RA4.ext hXi
 repeat' (first | (apply WL.makeC (w0 := wi) (z := (0:Int)) tOk; (iterate 9 exact rfl); exact eIk; exact rfl; exact rfl; exact extA; omega; intro gi wm hOi hgei hxi) | (first | apply WL.nil | refine WL.au (k := ?_)) | apply Z.tn | (first | apply W.seq | apply W.region | apply W.block))
 have eni : ((c.ins.2.2.length : Nat) : Int).toNat = c.ins.2.2.length := Int.toNat_natCast _
 have e0i : (List.replicate c.ins.2.2.length (0 : Int)).length = c.ins.2.2.length := List.length_replicate
 have e00 : preT c.ins.2.2.length (fun _ => 2) (fun _ => 0) 0 = List.replicate c.ins.2.2.length (0 : Int) := preT_zero e0i fun u x hx => rep_get hx
 rw [eni] at hOi ⊢
 have hS0 := Sep.newRow Sep.none' hxi (hOi.base (Nat.le_refl _)) (fun k hk => by cases hk; exact hgei) (Nat.le_refl _)
 rw [<- e00] at hS0
 refine W.loopW c.ins.2.2.length (fun j w' => j <= c.ins.2.2.length /\ Ext wi w' /\ Lt.Sep wi.heap.size w' [prow 1 encI 3 wi.heap.size (some ⟨gi, 0, none⟩) c.ins.2.2.length (preT c.ins.2.2.length (fun _ => 2) (fun _ => 0) j)])
  (fun j => [(1, .pointer (some ⟨gc, 0, none⟩)), (3, .pointer (some ⟨g3, 0, none⟩)), (4, .slice b v.length cp), (7, .slice (some ⟨gi, 0, none⟩) c.ins.2.2.length c.ins.2.2.length), (40, .int .i64 c.ins.2.2.length), (41, .int .i64 j)]) ⟨Nat.zero_le _, hxi, hS0⟩ (fun k w' h => h.1) (by repeat' first | exact trivial | (refine And.intro ?_ ?_) | exact rfl | (rw [e0i]; exact rfl)) ?_
 clear hS0 hOi
 rintro j wj ⟨hj, hXj, hS⟩
 have hpl := preT_len c.ins.2.2.length (fun _ => 2) (fun _ => 0) j
 by_cases hlt : j < c.ins.2.2.length
 ·obtain ⟨y, hy⟩ := getI (preT c.ins.2.2.length (fun _ => 2) (fun _ => 0) j) (show j < _ by omega)
  (try simp only [List.set_cons_zero, List.set_cons_succ] at hS); (try have hR0 := hS.row (i := 0) rfl)
  repeat' (first | (apply W.cKT; exact rfl; exact dTt (by omega)) | (apply WL.indexO tOk; (iterate 8 exact rfl); assumption; exact extA; exact eIk; ((focus (simp [*]; done))); omega; assumption; intro gb ha hc; cases ha; have hcc := hc; first | (obtain ⟨h1, h2, h3, _⟩ := hc) | (obtain ⟨h1, h2, _⟩ := hc) | (obtain ⟨h1, _⟩ := hc)) | (apply WL.storeO tOk; (iterate 4 exact rfl); assumption; exact extA; (iterate 3 exact rfl); exact eIk; assumption; exact rfl; exact extA; intro w' hO hX' hU; (replace hS := Sep.uRw (i := 0) rfl hU hO (.inl rfl) hS extA (by (exact Below.size extA))); (try simp only [List.set_cons_zero, List.set_cons_succ] at hS); (try have hR0 := hS.row (i := 0) rfl)) | (first | apply WL.nil | refine WL.au (k := ?_)) | (first | apply Z.tn | apply Z.bkn) | (first | apply W.seq | apply W.region | apply W.block | apply W.skip))
  rw [Int.toNat_natCast, preT_set rfl] at hS
  exact Z.agW ⟨by omega, by assumption, hS⟩ (by repeat' first | exact trivial | (refine And.intro ?_ ?_) | exact rfl)
 obtain rfl : j = c.ins.2.2.length := by omega
 have e2 : preT c.ins.2.2.length (fun _ => 2) (fun _ => 0) c.ins.2.2.length = List.replicate c.ins.2.2.length (2 : Int) := preT_all List.length_replicate fun u x hx => rep_get hx
 rw [e2] at hS
 have hOj : Own 1 encI 3 wi.heap.size wj (some ⟨gi, 0, none⟩) c.ins.2.2.length (List.replicate c.ins.2.2.length (2 : Int)) := hS.row (i := 0) rfl
 have hrl : (List.replicate c.ins.2.2.length (2 : Int)).length = c.ins.2.2.length := List.length_replicate
 clear hS
 obtain ⟨_, _, _, _, _, _, _, _, _, v9, v10, _⟩ := id hVi
 have eE : tvals (cNet c.t).1 (List.replicate c.ins.2.2.length 2 ++ v) = stkE c.t v := rfl
 repeat' (first | (apply W.cKF; exact rfl; exact dFf (by omega)) | (show W _ _ (.region 14 _ _) _ _ _; apply W.regionG (.fl true 0 (.fl true 2 (.fl true 3 (.fl false 1 (.br 4 (.br 5 (.fl true 6 (.fl true 7 .done)) .stop) .stop))))) [4] (Ext wi) tMix; kernel_rfl) | (show WL _ _ _ (⟨some 52, _, _, _, _, _⟩ :: _) _ _ _; apply WL.appendS (w0 := wi) tOk eIk; (iterate 10 exact rfl); exact hOj; exact extA; exact hrl; exact Rv; exact extA; exact rfl; exact nv; exact rfl; exact extA; omega; intro aI cI wI hOI hXI hUI hFI; have RI := hOI.row eIk) | (apply WL.call (f := 82); (iterate 4 exact rfl); exact tern_Eval _ _ _ _ _ _ _ (RNi.ext extA) (RI.ext extA) hOI.capLe (cNet_ok hg).2 (by omega); rintro v' w7 ⟨hx7, aE, cE, rfl, hOE⟩; rw [eE] at hOE ⊢) | (apply WL.call (f := 78); (iterate 4 exact rfl); exact slices_CloneI b cp v _ (Rv.ext extA) nv (by omega); rintro v' w8 ⟨hx8, aX, cX, rfl, hOX⟩) | (first | apply WL.nil | refine WL.au (k := ?_)) | (first | apply SG.done | (apply SG.fl0; exact rfl) | (apply SG.fl1; exact rfl; (focus ((intro m; first | assumption | (apply Ext.at; exact extA) | apply But.of_at; first | exact But.upd (by assumption) | exact But.ext extA | (refine But.trans ?_ (But.upd (by assumption)); exact But.ext extA) | exact But.at _ _ _); done))) | (apply SG.br1; exact rfl)) | (apply FL.loadE tOk; (iterate 5 exact rfl); assumption) | (first | apply FL.nilS | refine FL.au (k := ?_)) | (first | (apply Z.sgL; exact rfl) | (apply Z.sgE; (focus ((intro m; first | assumption | (apply Ext.at; exact extA) | apply But.of_at; first | exact But.upd (by assumption) | exact But.ext extA | (refine But.trans ?_ (But.upd (by assumption)); exact But.ext extA) | exact But.at _ _ _); done)))) | (first | apply Z.tn | apply Z.tnx | apply Z.bkx) | (first | apply W.seq | apply W.region | apply W.block | apply W.exit))
 have RE := hOE.row eIk
 have hXi8 : Ext wi w8 := extA
 have hB8 : wi.heap.size <= w8.heap.size := Below.size hXi8
 have h78 := hx8.size
 have hXi7 : Ext wi w7 := extA
 have hS0 := Sep.newRow (w := w7) Sep.none' hx8 (hOX.base (Nat.le_refl _)) (fun q hq => (hOX.blk_lt q hq).1) (Nat.le_refl _)
 have g0 : preT c.lat.2.2.length (stkF c.t v) (fun u => v.getD u 0) 0 = v := preT_zero hvl fun u x hx => gDo hx
 rw [<- g0] at hS0
 have d0 : dec (∀ u, u < 0 -> stkF c.t v u = v.getD u 0) = true := dTt fun u hu => absurd hu (Nat.not_lt_zero u)
 have g0l : v.length = c.lat.2.2.length := hvl
 refine W.loopW c.lat.2.2.length (fun j w' => j <= c.lat.2.2.length /\ Ext w7 w' /\ Lt.Sep w7.heap.size w' [prow 1 encI 3 w7.heap.size aX cX (preT c.lat.2.2.length (stkF c.t v) (fun u => v.getD u 0) j)])
  (fun j => [(1, .pointer (some ⟨gc, 0, none⟩)), (3, .pointer (some ⟨g3, 0, none⟩)), (4, .slice b v.length cp), (9, .slice aE (stkE c.t v).length cE), (10, .bool (dec (∀ u, u < j -> stkF c.t v u = v.getD u 0))), (11, .slice aX c.lat.2.2.length cX), (57, rowVal c.lat), (58, .int .i64 c.lat.2.2.length), (59, .int .i64 j)]) ⟨Nat.zero_le _, hx8, hS0⟩ (fun k w' h => h.1) (by repeat' first | exact trivial | (refine And.intro ?_ ?_) | exact rfl | (rw [d0]; exact rfl) | (rw [g0l]; exact rfl)) ?_
 clear hS0 hOX hOE hOj hOI hUI hFI RI
 rintro j2 wl ⟨hj2, hXl, hS⟩
 have hpl2 := preT_len c.lat.2.2.length (stkF c.t v) (fun u => v.getD u 0) j2
 have hXil : Ext wi wl := hXi7.trans hXl
 by_cases hlt : j2 < c.lat.2.2.length
 ·obtain ⟨t, ht⟩ := getI c.lat.2.2 hlt
  have RL := (hCi.ext hXil).lat.row
  obtain ⟨x, hx⟩ := getI v (show j2 < v.length by omega)
  have hxD : v.getD j2 0 = x := gDo hx
  have hkn := kLu hg (used_next (c := c.t) (List.mem_of_getElem? ht))
  have hxi : v[(j2 : Int).toNat]? = some x := by rw [Int.toNat_natCast]; exact hx
  have hst : stkF c.t v j2 = if x ≠ 2 /\ lit3 (stkE c.t v) (cl c.t t.2.1) ≠ x then 2 else x := by
   unfold stkF
   rw [hxD, gDo (show c.t.lat[j2]? = some t from ht)]
  have RXl := hS.row (i := 0) rfl
  obtain ⟨y, hy⟩ := getI (preT c.lat.2.2.length (stkF c.t v) (fun u => v.getD u 0) j2) (show j2 < _ by omega)
  have Rvl := Rv.ext hXil
  have hVl := Cells.ext hXil hVi
  by_cases q1 : x = 2
  ·have hs2 : stkF c.t v j2 = v.getD j2 0 := by rw [hst, if_neg (fun h => h.1 q1), hxD]
   have e1 : dec (∀ u, u < j2 + 1 -> stkF c.t v u = v.getD u 0) = dec (∀ u, u < j2 -> stkF c.t v u = v.getD u 0) := dCg ⟨fun h u hu => h u (by omega), fun h u hu => by
    rcases Nat.lt_or_ge u j2 with h5 | h5
    ·exact h u h5
    ·rw [show u = j2 by omega]; exact hs2⟩
   repeat' (first | (apply FL.gF; exact rfl; exact rfl; exact dFf (by omega)) | (apply W.cKT; exact rfl; (focus (exact dTt (by omega)))) | (show W _ _ (.region 19 _ _) _ _ _; apply W.regionGX (.fl true 0 (.fl true 1 (.fl true 2 (.fl false 3 (.fl true 4 (.fl true 5 (.fl true 6 (.fl true 8 (.fl true 12 (.fl true 13 (.fl true 14 (.fl false 7 (.fl false 9 (.fl false 15 (.br 10 (.br 11 (.fl true 16 (.fl true 17 .done)) .stop) .stop))))))))))))))) [5, 6, 7, 8, 9, 10, 11, 12, 13, 14, 15, 16, 17] tMix; kernel_rfl) | (apply WL.alloc tOk; (iterate 3 exact rfl); intro gb w' hb hge hx) | (apply WL.storeB (w0 := wl) tOk; (iterate 4 exact rfl); assumption; exact extA; (iterate 3 exact rfl); exact extA; assumption; intro w' hb hc hX' hU; have hcc := hc; obtain ⟨h1, h2, _⟩ := hc; (replace hS := Sep.updNew hS extA hU (by first | assumption | omega)); (try simp only [List.set_cons_zero, List.set_cons_succ] at hS); (try have hR0 := hS.row (i := 0) rfl)) | (first | (apply SX.done; intro w' hx) | (apply SX.fl0; exact rfl) | (apply SX.fl1; exact rfl; exact extA) | (apply SX.br1; exact rfl; intro w' hx)) | (first | apply FL.nilX | (apply FL.loadE tOk; (iterate 5 exact rfl); ((focus (apply Ext.cell; rotate_left; assumption; exact extA; done)))) | (apply FL.indexE tOk; (iterate 8 exact rfl); assumption; exact rfl; omega; assumption; intro b off h; have hcc := h; first | (obtain ⟨h1, h2, h3, h4, h5, h6, _⟩ := h) | (obtain ⟨h1, h2, h3, _⟩ := h) | (obtain ⟨h1, h2, _⟩ := h) | (obtain ⟨h1, _⟩ := h))) | (first | refine FL.au (k := ?_) | (apply FL.gdF; exact rfl; exact rfl)) | (apply Z.sxE; exact extA) | (first | apply WL.nil | refine WL.au (k := ?_) | (apply WL.index tOk; (iterate 8 exact rfl); assumption; exact extA; exact rfl; omega; assumption; intro b off h; have hcc := h; first | (obtain ⟨h1, h2, h3, h4, h5, h6, _⟩ := h) | (obtain ⟨h1, h2, h3, _⟩ := h) | (obtain ⟨h1, h2, _⟩ := h) | (obtain ⟨h1, _⟩ := h)) | (apply WL.gdF; exact rfl; exact rfl)) | (first | apply Z.tn | apply Z.bkn) | (first | apply W.seq | apply W.region | apply W.block | apply W.skip | (apply W.condF; exact rfl)))
   all_goals
    rw [<- preT_same hs2] at hS
    exact Z.agW ⟨by omega, extA, hS.ext extA⟩ (by repeat' first | exact trivial | (refine And.intro ?_ ?_) | exact rfl | (rw [e1]; exact rfl))
  ·by_cases q2 : lit3 (stkE c.t v) (cl c.t t.2.1) = x
   ·have hs2 : stkF c.t v j2 = v.getD j2 0 := by rw [hst, if_neg (fun h => h.2 q2), hxD]
    have e1 : dec (∀ u, u < j2 + 1 -> stkF c.t v u = v.getD u 0) = dec (∀ u, u < j2 -> stkF c.t v u = v.getD u 0) := dCg ⟨fun h u hu => h u (by omega), fun h u hu => by
     rcases Nat.lt_or_ge u j2 with h5 | h5
     ·exact h u h5
     ·rw [show u = j2 by omega]; exact hs2⟩
    repeat' (first | (apply FL.gT; exact rfl; exact rfl; (focus (exact dTt (by omega)))) | (apply W.cKT; exact rfl; (focus (exact dTt (by omega)))) | (apply W.cKF; exact rfl; exact dFf (fun h => h q2)) | (show W _ _ (.region 19 _ _) _ _ _; apply W.regionGX (.fl true 0 (.fl true 1 (.fl true 2 (.fl false 3 (.fl true 4 (.fl true 5 (.fl true 6 (.fl true 8 (.fl true 12 (.fl true 13 (.fl true 14 (.fl false 7 (.fl false 9 (.fl false 15 (.br 10 (.br 11 (.fl true 16 (.fl true 17 .done)) .stop) .stop))))))))))))))) [5, 6, 7, 8, 9, 10, 11, 12, 13, 14, 15, 16, 17] tMix; kernel_rfl) | (apply FL.loadAE (vs := viewV c aN cN aA cA) tOk; (iterate 5 exact rfl); exact Cells.ext extA hVl; exact rfl) | (apply WL.alloc tOk; (iterate 3 exact rfl); intro gb w' hb hge hx) | (apply WL.storeB (w0 := wl) tOk; (iterate 4 exact rfl); assumption; exact extA; (iterate 3 exact rfl); exact extA; assumption; intro w' hb hc hX' hU; have hcc := hc; obtain ⟨h1, h2, _⟩ := hc; (replace hS := Sep.updNew hS extA hU (by first | assumption | omega)); (try simp only [List.set_cons_zero, List.set_cons_succ] at hS); (try have hR0 := hS.row (i := 0) rfl)) | (apply WL.callP (f := 84); (iterate 4 exact rfl); exact coi_lit c aN aA cN cA hg hz _ hkn _ (RAi.ext (hXil.trans extA)); intro w' hx) | (apply WL.callS (f := 83); (iterate 4 exact rfl); exact tri_Lit _ _ _ _ _ (RE.ext (hXl.trans extA))) | (first | (apply SX.done; intro w' hx) | (apply SX.fl0; exact rfl) | (apply SX.fl1; exact rfl; exact extA) | (apply SX.br1; exact rfl; intro w' hx)) | (first | apply FL.nilX | (apply FL.loadE tOk; (iterate 5 exact rfl); (first | assumption | (focus (apply Ext.cell; rotate_left; assumption; exact extA; done)))) | (apply FL.indexE tOk; (iterate 8 exact rfl); assumption; exact rfl; omega; assumption; intro b off h; have hcc := h; first | (obtain ⟨h1, h2, h3, h4, h5, h6, _⟩ := h) | (obtain ⟨h1, h2, h3, _⟩ := h) | (obtain ⟨h1, h2, _⟩ := h) | (obtain ⟨h1, _⟩ := h))) | refine FL.au (k := ?_) | (apply Z.sxE; exact extA) | (first | apply WL.nil | refine WL.au (k := ?_) | (apply WL.index tOk; (iterate 8 exact rfl); assumption; exact extA; exact rfl; omega; assumption; intro b off h; have hcc := h; first | (obtain ⟨h1, h2, h3, h4, h5, h6, _⟩ := h) | (obtain ⟨h1, h2, h3, _⟩ := h) | (obtain ⟨h1, h2, _⟩ := h) | (obtain ⟨h1, _⟩ := h))) | (first | apply Z.tn | apply Z.bkn) | (first | apply W.seq | apply W.region | apply W.block | apply W.skip))
    all_goals
     rw [<- preT_same hs2] at hS
     exact Z.agW ⟨by omega, hXl.trans extA, hS.ext extA⟩ (by repeat' first | exact trivial | (refine And.intro ?_ ?_) | exact rfl | (rw [e1]; exact rfl))
   ·have hs2 : (2 : Int) = stkF c.t v j2 := by rw [hst, if_pos ⟨q1, q2⟩]
    have e1 : dec (∀ u, u < j2 + 1 -> stkF c.t v u = v.getD u 0) = false := dFf fun h => by
     have h5 := h j2 (by omega)
     rw [<- hs2, hxD] at h5; exact q1 h5.symm
    repeat' (first | (apply FL.gT; exact rfl; exact rfl; (focus (exact dTt (by omega)))) | (apply W.cKT; exact rfl; (focus (exact dTt (by omega)))) | (show W _ _ (.region 19 _ _) _ _ _; apply W.regionGX (.fl true 0 (.fl true 1 (.fl true 2 (.fl false 3 (.fl true 4 (.fl true 5 (.fl true 6 (.fl true 8 (.fl true 12 (.fl true 13 (.fl true 14 (.fl false 7 (.fl false 9 (.fl false 15 (.br 10 (.br 11 (.fl true 16 (.fl true 17 .done)) .stop) .stop))))))))))))))) [5, 6, 7, 8, 9, 10, 11, 12, 13, 14, 15, 16, 17] tMix; kernel_rfl) | (apply FL.loadAE (vs := viewV c aN cN aA cA) tOk; (iterate 5 exact rfl); exact Cells.ext extA hVl; exact rfl) | (apply WL.alloc tOk; (iterate 3 exact rfl); intro gb w' hb hge hx) | (apply WL.storeB (w0 := wl) tOk; (iterate 4 exact rfl); assumption; exact extA; (iterate 3 exact rfl); exact extA; assumption; intro w' hb hc hX' hU; have hcc := hc; obtain ⟨h1, h2, _⟩ := hc; (replace hS := Sep.updNew hS extA hU (by first | assumption | omega)); (try simp only [List.set_cons_zero, List.set_cons_succ] at hS); (try have hR0 := hS.row (i := 0) rfl)) | (apply WL.callP (f := 84); (iterate 4 exact rfl); exact coi_lit c aN aA cN cA hg hz _ hkn _ (RAi.ext (hXil.trans extA)); intro w' hx) | (apply WL.callS (f := 83); (iterate 4 exact rfl); exact tri_Lit _ _ _ _ _ (RE.ext (hXl.trans extA))) | (apply WL.indexO tOk; (iterate 8 exact rfl); assumption; exact extA; exact eIk; omega; omega; assumption; intro gb ha hc; cases ha; have hcc := hc; first | (obtain ⟨h1, h2, h3, _⟩ := hc) | (obtain ⟨h1, h2, _⟩ := hc) | (obtain ⟨h1, _⟩ := hc)) | (apply FL.indexO tOk; (iterate 8 exact rfl); assumption; exact extA; exact eIk; exact rfl; omega; assumption; intro gb ha hc; cases ha; have hcc := hc; first | (obtain ⟨h1, h2, h3, _⟩ := hc) | (obtain ⟨h1, h2, _⟩ := hc) | (obtain ⟨h1, _⟩ := hc)) | (apply WL.storeO tOk; (iterate 4 exact rfl); assumption; exact extA; (iterate 3 exact rfl); exact eIk; assumption; exact rfl; exact extA; intro w' hO hX' hU; (replace hS := Sep.uRw (i := 0) rfl hU hO (.inl rfl) hS extA (by (exact Below.size extA))); (try simp only [List.set_cons_zero, List.set_cons_succ] at hS); (try have hR0 := hS.row (i := 0) rfl)) | (first | (apply SX.done; intro w' hx) | (apply SX.fl0; exact rfl) | (apply SX.fl1; exact rfl; exact extA) | (apply SX.br1; exact rfl; intro w' hx)) | (first | apply FL.nilX | (apply FL.loadE tOk; (iterate 5 exact rfl); assumption)) | refine FL.au (k := ?_) | (apply Z.sxE; exact extA) | (first | apply WL.nil | refine WL.au (k := ?_) | (apply WL.index tOk; (iterate 8 exact rfl); assumption; exact extA; exact rfl; omega; assumption; intro b off h; have hcc := h; first | (obtain ⟨h1, h2, h3, h4, h5, h6, _⟩ := h) | (obtain ⟨h1, h2, h3, _⟩ := h) | (obtain ⟨h1, h2, _⟩ := h) | (obtain ⟨h1, _⟩ := h))) | (first | apply Z.tn | apply Z.bkn) | (first | apply W.seq | apply W.region | apply W.block | apply W.skip))
    all_goals
     rw [Int.toNat_natCast, preT_set hs2] at hS
     exact Z.agW ⟨by omega, extA, hS.ext extA⟩ (by repeat' first | exact trivial | (refine And.intro ?_ ?_) | exact rfl | (rw [e1]; exact rfl))
 obtain rfl : j2 = c.lat.2.2.length := by omega
 have eAll : preT c.lat.2.2.length (stkF c.t v) (fun u => v.getD u 0) c.lat.2.2.length = stkS c.t v := preT_all (stkS_len v) fun u x hx => by
  have hu := lGt hx
  rw [stkS_len] at hu
  have h5 := stkS_get (c := c.t) v hu
  rw [gDo hx] at h5; exact h5.symm
 rw [eAll] at hS
 by_cases hfix : ∀ u, u < c.lat.2.2.length -> stkF c.t v u = v.getD u 0
 ·have hvs : stkS c.t v = v := by
   have h5 : stkS c.t v = tab c.lat.2.2.length (fun u => v.getD u 0) := tab_congr hfix
   rw [h5]
   symm
   exact tab_eq hvl fun u x hx => gDo hx
  have hvd : v = skV c.t := by rw [hv]; rw [hv] at hvs; exact stk_done hk hvs
  have hOf := hOv.ext hXil
  repeat' (first | (apply W.cKT; exact rfl; exact dTt hfix) | (apply W.cKF; exact rfl; (focus (exact dFf (by omega)))) | (first | apply WL.nil | refine WL.au (k := ?_)) | (first | apply Z.tn | apply Z.tnx | apply Z.bkx | apply Z.tnr | apply Z.bkr) | (first | apply W.seq | apply W.region | apply W.ret | apply W.exit))
  rw [hvd] at hOf ⊢
  exact Z.bd1 Tryz.results28 rfl fun q => ⟨(((hXw4.trans hXi).trans hXil)).at q, _, _, rfl, (hOf.base (Below.size hXw4)).ext ((Ext.refl _).at q)⟩
 ·have hns : stkS c.t v ≠ v := fun h5 => hfix fun u hu => by rw [<- stkS_get (c := c.t) v hu, h5]
  have hne' : ∀ j, j < k + 1 -> stkS c.t (stkI c.t j) ≠ stkI c.t j := fun j hj => by
   rcases Nat.lt_or_ge j k with h5 | h5
   ·exact hne j h5
   ·rw [show j = k by omega, <- hv]; exact hns
  have hk1 : k + 1 <= c.lat.2.2.length := stk_short hne'
  have hOn : Own 1 encI 3 w7.heap.size wl aX cX (stkS c.t v) := hS.row (i := 0) rfl
  have e9 : stkI c.t (k + 1) = stkS c.t v := by rw [hv]; rfl
  have e9l : (stkI c.t (k + 1)).length = c.lat.2.2.length := stkI_len (k + 1)
  repeat' (first | (apply W.cKF; exact rfl; (focus (exact dFf (by omega)))) | (first | apply WL.nil | refine WL.au (k := ?_)) | (first | apply Z.tn | apply Z.bkn | apply Z.tnx | apply Z.bkx) | (first | apply W.seq | apply W.region | apply W.skip | apply W.exit))
  exact Z.agO aX cX ⟨hk1, hXi.trans hXil, hne', by rw [e9]; exact hOn.base (Below.size (hXi.trans hXi7))⟩ (by repeat' first | exact trivial | (refine And.intro ?_ ?_) | exact rfl | (rw [e9l]; exact rfl))

theorem r42_Stuck (c : Circ) (w : World) (hC : CAt w c) (hg : GoodC' c.t) (hz : SzC c.t 100000) :
  Lt.Spec Tryz.prog 35 [c.val] w (IsFresh 1 encI 3 w (skV c.t)) := by
 have z1 : c.ins.2.2.length <= 100000 := hz.1
 have z2 : c.lat.2.2.length <= 100000 := hz.2.1
 have hnl := net_len hg hz
 refine Spec.of _ Tryz.func35 rfl Tryz.ntmps35 (by kernel_rfl) rfl ?_
 repeat' (first | (apply WL.box; (iterate 3 exact rfl); intro gc wc hb hge hc hxc; have hcc := hc; obtain ⟨h1, h2, h3, _⟩ := hc; (have hcells := hcc)) | (apply WL.call (f := 39); (iterate 4 exact rfl); exact ref11_Net c _ (hC.ext extA) hg hz; rintro v' w4 ⟨hx4, aN, cN, aA, cA, rfl, hON, hOA⟩; obtain ⟨y0, y1, y2, y3, y4, y5, y6, y7, y8, _⟩ := Cells.ext hx4 hcells) | (apply WL.lit (len := 0) tOk; (iterate 6 exact rfl); kernel_rfl; exact rfl; intro gb w' hb hge hc hx; have hO0 := Own.ofB0 (enc := encI) (s := 1) hb hge) | (first | apply WL.nil | refine WL.au (k := ?_)) | apply Z.tn | (first | apply W.seq | apply W.region | apply W.block))
 obtain ⟨w5, rfl⟩ : ∃ x, x = w' := ⟨_, rfl⟩; obtain ⟨hx5, rfl⟩ : ∃ x, x = hx := ⟨_, rfl⟩
 have hXw4 : Ext w w4 := hxc.trans hx4
 have hc44 : Cells w4 gc 0 c.vals := Cells.ext hx4 hcells
 have RN4 := hON.row encN_ok
 have RA4 := hOA.row eIk
 have hC4 := hC.ext hXw4
 have hO5 : Own 1 encI 3 w4.heap.size w5 (some ⟨gb, 0, none⟩) 0 ((stk0 c.t).take 0) := hO0
 refine W.loopO c.lat.2.2.length (fun k b cp w' => k <= c.lat.2.2.length /\ Ext w4 w' /\ Own 1 encI 3 w4.heap.size w' b cp ((stk0 c.t).take k))
  (fun k b cp => [(1, .pointer (some ⟨gc, 0, none⟩)), (3, .slice aN (cNet c.t).1.length cN), (4, .slice aA (cNet c.t).2.length cA), (5, .slice b ((stk0 c.t).take k).length cp), (6, .int .i64 k)]) (some ⟨gb, 0, none⟩) 0 ⟨Nat.zero_le _, hx5, hO5⟩ (fun k a cp w' h => h.1) (by repeat' first | exact trivial | (refine And.intro ?_ ?_) | exact rfl) ?_
 clear hO5 hO0
 rintro k bV cp w9 ⟨hk, hX9, hO9⟩
 have hsl : (stk0 c.t).length = c.lat.2.2.length := stkI_len (c := c.t) 0
 have htl : ((stk0 c.t).take k).length = k := by rw [List.length_take]; omega
 by_cases hlt : k < c.lat.2.2.length
 ·obtain ⟨t, ht⟩ := getI c.lat.2.2 hlt
  have RL := (hC4.ext hX9).lat.row
  have hsk : (stk0 c.t)[k]? = some (min t.2.2 2) := by unfold stk0; rw [List.getElem?_map, show c.t.lat[k]? = some t from ht]; rfl
  have e1 : (stk0 c.t).take (k + 1) = (stk0 c.t).take k ++ [min t.2.2 2] := tkS hsk
  by_cases q1 : 1 < t.2.2
  ·rw [show min t.2.2 2 = 2 by omega] at e1
   repeat' (first | (apply W.cKT; exact rfl; (focus (exact dTt (by omega)))) | (apply WL.lit tOk; (iterate 6 exact rfl); kernel_rfl; exact rfl; intro gb w' hb hge hc hx) | (apply WL.ap1 (z := (2)) tOk eIk; (iterate 10 exact rfl); assumption; exact extA; exact rfl; assumption; exact rfl; exact rfl; exact extA; omega; intro a' cap' w' hO hX' hU hF) | (first | apply WL.nil | refine WL.au (k := ?_) | (apply WL.index tOk; (iterate 8 exact rfl); assumption; exact extA; exact rfl; omega; assumption; intro b off h; have hcc := h; first | (obtain ⟨h1, h2, h3, h4, h5, h6, _⟩ := h) | (obtain ⟨h1, h2, h3, _⟩ := h) | (obtain ⟨h1, h2, _⟩ := h) | (obtain ⟨h1, _⟩ := h))) | (first | apply Z.tn | apply Z.bkn) | (first | apply W.seq | apply W.region | apply W.block | apply W.skip))
   exact Z.agO a' cap' ⟨by omega, hX', by rw [e1]; exact hO⟩ (by repeat' first | exact trivial | (refine And.intro ?_ ?_) | exact rfl | (rw [e1]; exact rfl))
  ·rw [show min t.2.2 2 = t.2.2 by omega] at e1
   repeat' (first | (apply W.cKT; exact rfl; (focus (exact dTt (by omega)))) | (apply W.cKF; exact rfl; exact dFf q1) | (apply WL.lit tOk; (iterate 6 exact rfl); kernel_rfl; exact rfl; intro gb w' hb hge hc hx) | (apply WL.ap1 (z := (t.2.2)) tOk eIk; (iterate 10 exact rfl); assumption; exact extA; exact rfl; assumption; exact rfl; exact rfl; exact extA; omega; intro a' cap' w' hO hX' hU hF) | (first | apply WL.nil | refine WL.au (k := ?_) | (apply WL.index tOk; (iterate 8 exact rfl); assumption; exact extA; exact rfl; omega; assumption; intro b off h; have hcc := h; first | (obtain ⟨h1, h2, h3, h4, h5, h6, _⟩ := h) | (obtain ⟨h1, h2, h3, _⟩ := h) | (obtain ⟨h1, h2, _⟩ := h) | (obtain ⟨h1, _⟩ := h))) | (first | apply Z.tn | apply Z.bkn) | (first | apply W.seq | apply W.region | apply W.block | apply W.skip))
   exact Z.agO a' cap' ⟨by omega, hX', by rw [e1]; exact hO⟩ (by repeat' first | exact trivial | (refine And.intro ?_ ?_) | exact rfl | (rw [e1]; exact rfl))
 obtain rfl : k = c.lat.2.2.length := by omega
 have e1 : (stk0 c.t).take c.lat.2.2.length = stkI c.t 0 := by rw [<- hsl, List.take_length]; rfl
 rw [e1] at hO9 ⊢
 repeat' (first | (apply W.cKF; exact rfl; exact dFf (by omega)) | (first | apply WL.nil | refine WL.au (k := ?_)) | (first | apply Z.tn | apply Z.tnx | apply Z.bkx) | (first | apply W.seq | apply W.region | apply W.block | apply W.exit))
 refine W.loopO c.lat.2.2.length (fun k b cp w' => k <= c.lat.2.2.length /\ Ext w4 w' /\ (∀ j, j < k -> stkS c.t (stkI c.t j) ≠ stkI c.t j) /\ Own 1 encI 3 w4.heap.size w' b cp (stkI c.t k))
  (fun k b cp => [(1, .pointer (some ⟨gc, 0, none⟩)), (3, .slice aN (cNet c.t).1.length cN), (4, .slice aA (cNet c.t).2.length cA), (5, .slice b (stkI c.t k).length cp)]) bV cp ⟨Nat.zero_le _, hX9, fun j hj => absurd hj (Nat.not_lt_zero j), hO9⟩ (fun k a cp w' h => h.1) (by repeat' first | exact trivial | (refine And.intro ?_ ?_) | exact rfl) ?_
 clear hO9 hX9 y0 y1 y2 y3 y4 y5 y6 y7 y8 htl
 rintro k bW cW wi ⟨hk, hXi, hne, hOv⟩
 obtain ⟨v, hv⟩ : ∃ v, v = stkI c.t k := ⟨_, rfl⟩
 rw [<- hv] at hOv ⊢
 have hvl : v.length = c.lat.2.2.length := by rw [hv]; exact stkI_len k
 have Rv := hOv.row eIk
 have nv := hOv.nCp
 have hCi := hC4.ext hXi
 obtain ⟨y0, y1, y2, y3, y4, y5, y6, y7, y8, _⟩ := Cells.ext hXi hc44
 have RNi := RN4.ext hXi
 have RAi := RA4.ext hXi
 repeat' (first | (apply WL.lit (len := 0) tOk; (iterate 6 exact rfl); kernel_rfl; exact rfl; intro gb w' hb hge hc hx; have hO0 := Own.ofB0 (enc := encI) (s := 1) hb hge) | (first | apply WL.nil | refine WL.au (k := ?_)) | apply Z.tn | (first | apply W.seq | apply W.region | apply W.block))
 obtain ⟨wm, rfl⟩ : ∃ x, x = w' := ⟨_, rfl⟩; obtain ⟨hxm, rfl⟩ : ∃ x, x = hx := ⟨_, rfl⟩
 have hOm : Own 1 encI 3 wi.heap.size wm (some ⟨gb, 0, none⟩) 0 (List.replicate 0 2) := hO0
 refine W.loopO c.ins.2.2.length (fun j b cp w' => j <= c.ins.2.2.length /\ Ext wi w' /\ Own 1 encI 3 wi.heap.size w' b cp (List.replicate j 2))
  (fun j b cp => [(1, .pointer (some ⟨gc, 0, none⟩)), (3, .slice aN (cNet c.t).1.length cN), (4, .slice aA (cNet c.t).2.length cA), (5, .slice bW v.length cW), (7, .slice b (List.replicate j (2 : Int)).length cp), (8, .int .i64 j)]) (some ⟨gb, 0, none⟩) 0 ⟨Nat.zero_le _, hxm, hOm⟩ (fun k a cp w' h => h.1) (by repeat' first | exact trivial | (refine And.intro ?_ ?_) | exact rfl) ?_
 clear hOm hO0
 rintro j bI cI wj ⟨hj, hXj, hOj⟩
 have hrl : (List.replicate j (2 : Int)).length = j := List.length_replicate
 by_cases hlt : j < c.ins.2.2.length
 ·have e1 : List.replicate (j + 1) (2 : Int) = List.replicate j 2 ++ [2] := List.replicate_succ'
  repeat' (first | (apply W.cKT; exact rfl; exact dTt (by omega)) | (apply WL.lit tOk; (iterate 6 exact rfl); kernel_rfl; exact rfl; intro gb w' hb hge hc hx) | (apply WL.ap1 (z := (2)) tOk eIk; (iterate 10 exact rfl); assumption; exact extA; exact rfl; assumption; exact rfl; exact rfl; exact extA; omega; intro a' cap' w' hO hX' hU hF) | (first | apply WL.nil | refine WL.au (k := ?_)) | (first | apply Z.tn | apply Z.bkn) | (first | apply W.seq | apply W.region | apply W.block | apply W.skip))
  exact Z.agO a' cap' ⟨by omega, hX', by rw [e1]; exact hO⟩ (by repeat' first | exact trivial | (refine And.intro ?_ ?_) | exact rfl | (rw [e1]; exact rfl))
 obtain rfl : j = c.ins.2.2.length := by omega
 have eE : tvals (cNet c.t).1 (List.replicate c.ins.2.2.length 2 ++ v) = stkE c.t v := rfl
 repeat' (first | (apply W.cKF; exact rfl; exact dFf (by omega)) | (show WL _ _ _ (⟨some 60, _, _, _, _, _⟩ :: _) _ _ _; apply WL.appendS (w0 := wi) tOk eIk; (iterate 10 exact rfl); exact hOj; exact extA; exact rfl; exact Rv; exact extA; exact rfl; exact nv; exact rfl; exact extA; omega; intro aI cI wI hOI hXI hUI hFI; have RI := hOI.row eIk) | (apply WL.call (f := 93); (iterate 4 exact rfl); exact ref10_Eval _ _ _ _ _ _ _ (RNi.ext extA) (RI.ext extA) (cNet_ok hg).2 (by omega); rintro v' w7 ⟨hx7, aE, cE, rfl, hOE⟩; rw [eE] at hOE ⊢) | (apply WL.lit (len := 0) tOk; (iterate 6 exact rfl); kernel_rfl; exact rfl; intro gb w' hb hge hc hx; have hO0 := Own.ofB0 (enc := encI) (s := 1) hb hge) | (first | apply WL.nil | refine WL.au (k := ?_)) | (first | apply Z.tn | apply Z.tnx | apply Z.bkx) | (first | apply W.seq | apply W.region | apply W.block | apply W.exit))
 obtain ⟨w8, rfl⟩ : ∃ x, x = w' := ⟨_, rfl⟩; obtain ⟨hx8, rfl⟩ : ∃ x, x = hx := ⟨_, rfl⟩
 have RE := hOE.row eIk
 have hXi7 : Ext wi w7 := extA
 have hXi8 : Ext wi w8 := extA
 have hO8 := hO0
 have d0 : dec (∀ u, u < 0 -> stkF c.t v u = v.getD u 0) = true := dTt fun u hu => absurd hu (Nat.not_lt_zero u)
 refine W.loopO c.lat.2.2.length (fun j b cp w' => j <= c.lat.2.2.length /\ Ext w7 w' /\ Own 1 encI 3 w7.heap.size w' b cp ((stkS c.t v).take j))
  (fun j b cp => [(1, .pointer (some ⟨gc, 0, none⟩)), (3, .slice aN (cNet c.t).1.length cN), (4, .slice aA (cNet c.t).2.length cA), (5, .slice bW v.length cW), (9, .slice aE (stkE c.t v).length cE), (10, .slice b ((stkS c.t v).take j).length cp), (11, .bool (dec (∀ u, u < j -> stkF c.t v u = v.getD u 0))), (12, .int .i64 j)]) (some ⟨gb, 0, none⟩) 0 ⟨Nat.zero_le _, extA, hO8⟩ (fun k a cp w' h => h.1) (by repeat' first | exact trivial | (refine And.intro ?_ ?_) | exact rfl | (rw [d0]; exact rfl)) ?_
 clear hO8 hO0 hOE hOI hUI hFI RI hOj
 rintro j2 bX cX wl ⟨hj2, hXl, hOX⟩
 have hXil : Ext wi wl := hXi7.trans hXl
 have hkl : (stkS c.t v).length = c.lat.2.2.length := stkS_len v
 have htl : ((stkS c.t v).take j2).length = j2 := by rw [List.length_take]; omega
 by_cases hlt : j2 < c.lat.2.2.length
 ·obtain ⟨t, ht⟩ := getI c.lat.2.2 hlt
  have RL := (hCi.ext hXil).lat.row
  obtain ⟨x, hx⟩ := getI v (show j2 < v.length by omega)
  have hxD : v.getD j2 0 = x := gDo hx
  have hkn := kLu hg (used_next (c := c.t) (List.mem_of_getElem? ht))
  obtain ⟨z, hz1, hz2, hz3, hz4⟩ := knL_lit hg hkn
  have hkm := knL_max hg hkn
  have hk0 := hkn.1
  have hmx := hg.max
  have hst : stkF c.t v j2 = if x ≠ 2 /\ lit3 (stkE c.t v) (cl c.t t.2.1) ≠ x then 2 else x := by
   unfold stkF
   rw [hxD, gDo (show c.t.lat[j2]? = some t from ht)]
  have hsk : (stkS c.t v)[j2]? = some (stkF c.t v j2) := tab_get _ hlt
  have eT := tkS hsk
  have Rvl := Rv.ext hXil
  have hal := r42_at aA cA _ t.2.1 z wl (RAi.ext hXil) hk0 (by omega) hz1 ⟨hz2, by omega⟩
  have hll := ref_Lit aE cE _ (cl c.t t.2.1) wl (RE.ext hXl)
  by_cases q1 : x = 2
  ·have hs2 : stkF c.t v j2 = x := by rw [hst, if_neg (fun h => h.1 q1)]
   have e1 : dec (∀ u, u < j2 + 1 -> stkF c.t v u = v.getD u 0) = dec (∀ u, u < j2 -> stkF c.t v u = v.getD u 0) := dCg ⟨fun h u hu => h u (by omega), fun h u hu => by
    rcases Nat.lt_or_ge u j2 with h5 | h5
    ·exact h u h5
    ·rw [show u = j2 by omega, hxD]; exact hs2⟩
   rw [hs2] at eT
   repeat' (first | (apply WL.gF; exact rfl; exact rfl; exact dFf (by omega)) | (apply W.cKT; exact rfl; (focus (exact dTt (by omega)))) | (apply WL.lit tOk; (iterate 6 exact rfl); kernel_rfl; exact rfl; intro gb w' hb hge hc hx) | (apply WL.ap1 (z := (x)) tOk eIk; (iterate 10 exact rfl); assumption; exact extA; exact rfl; assumption; exact rfl; exact rfl; exact extA; omega; intro a' cap' w' hO hX' hU hF) | (first | apply WL.nil | refine WL.au (k := ?_) | (apply WL.index tOk; (iterate 8 exact rfl); assumption; exact extA; exact rfl; omega; assumption; intro b off h; have hcc := h; first | (obtain ⟨h1, h2, h3, h4, h5, h6, _⟩ := h) | (obtain ⟨h1, h2, h3, _⟩ := h) | (obtain ⟨h1, h2, _⟩ := h) | (obtain ⟨h1, _⟩ := h)) | (apply WL.gdF; exact rfl; exact rfl)) | (first | apply Z.tn | apply Z.bkn) | (first | apply W.seq | apply W.region | apply W.block | apply W.skip | (apply W.condF; exact rfl)))
   exact Z.agO a' cap' ⟨by omega, extA, by rw [eT]; exact hO⟩ (by repeat' first | exact trivial | (refine And.intro ?_ ?_) | exact rfl | (rw [e1]; exact rfl) | (rw [eT]; exact rfl))
  ·by_cases q2 : lit3 (stkE c.t v) (cl c.t t.2.1) = x
   ·have hs2 : stkF c.t v j2 = x := by rw [hst, if_neg (fun h => h.2 q2)]
    have e1 : dec (∀ u, u < j2 + 1 -> stkF c.t v u = v.getD u 0) = dec (∀ u, u < j2 -> stkF c.t v u = v.getD u 0) := dCg ⟨fun h u hu => h u (by omega), fun h u hu => by
     rcases Nat.lt_or_ge u j2 with h5 | h5
     ·exact h u h5
     ·rw [show u = j2 by omega, hxD]; exact hs2⟩
    rw [hs2] at eT
    repeat' (first | (apply WL.gT; exact rfl; exact rfl; (focus (exact dTt (by omega)))) | (apply W.cKT; exact rfl; (focus (exact dTt (by omega)))) | (apply W.cKF; exact rfl; exact dFf (fun h => h q2)) | (apply WL.callS (f := 36); (iterate 4 exact rfl); exact hal) | (apply WL.callS (f := 94); (iterate 4 exact rfl); exact hll) | (apply WL.lit tOk; (iterate 6 exact rfl); kernel_rfl; exact rfl; intro gb w' hb hge hc hx) | (apply WL.ap1 (z := (x)) tOk eIk; (iterate 10 exact rfl); assumption; exact extA; exact rfl; assumption; exact rfl; exact rfl; exact extA; omega; intro a' cap' w' hO hX' hU hF) | (first | apply WL.nil | refine WL.au (k := ?_) | (apply WL.index tOk; (iterate 8 exact rfl); assumption; exact extA; exact rfl; omega; assumption; intro b off h; have hcc := h; first | (obtain ⟨h1, h2, h3, h4, h5, h6, _⟩ := h) | (obtain ⟨h1, h2, h3, _⟩ := h) | (obtain ⟨h1, h2, _⟩ := h) | (obtain ⟨h1, _⟩ := h))) | (first | apply Z.tn | apply Z.bkn) | (first | apply W.seq | apply W.region | apply W.block | apply W.skip))
    exact Z.agO a' cap' ⟨by omega, extA, by rw [eT]; exact hO⟩ (by repeat' first | exact trivial | (refine And.intro ?_ ?_) | exact rfl | (rw [e1]; exact rfl) | (rw [eT]; exact rfl))
   ·have hs2 : stkF c.t v j2 = 2 := by rw [hst, if_pos ⟨q1, q2⟩]
    have e1 : dec (∀ u, u < j2 + 1 -> stkF c.t v u = v.getD u 0) = false := dFf fun h => by
     have h5 := h j2 (by omega)
     rw [hs2, hxD] at h5; exact q1 h5.symm
    rw [hs2] at eT
    repeat' (first | (apply WL.gT; exact rfl; exact rfl; (focus (exact dTt (by omega)))) | (apply W.cKT; exact rfl; (focus (exact dTt (by omega)))) | (apply WL.callS (f := 36); (iterate 4 exact rfl); exact hal) | (apply WL.callS (f := 94); (iterate 4 exact rfl); exact hll) | (apply WL.lit tOk; (iterate 6 exact rfl); kernel_rfl; exact rfl; intro gb w' hb hge hc hx) | (apply WL.ap1 (z := (2)) tOk eIk; (iterate 10 exact rfl); assumption; exact extA; exact rfl; assumption; exact rfl; exact rfl; exact extA; omega; intro a' cap' w' hO hX' hU hF) | (first | apply WL.nil | refine WL.au (k := ?_) | (apply WL.index tOk; (iterate 8 exact rfl); assumption; exact extA; exact rfl; omega; assumption; intro b off h; have hcc := h; first | (obtain ⟨h1, h2, h3, h4, h5, h6, _⟩ := h) | (obtain ⟨h1, h2, h3, _⟩ := h) | (obtain ⟨h1, h2, _⟩ := h) | (obtain ⟨h1, _⟩ := h))) | (first | apply Z.tn | apply Z.bkn) | (first | apply W.seq | apply W.region | apply W.block | apply W.skip))
    exact Z.agO a' cap' ⟨by omega, extA, by rw [eT]; exact hO⟩ (by repeat' first | exact trivial | (refine And.intro ?_ ?_) | exact rfl | (rw [e1]; exact rfl) | (rw [eT]; exact rfl))
 obtain rfl : j2 = c.lat.2.2.length := by omega
 have eAll : (stkS c.t v).take c.lat.2.2.length = stkS c.t v := by rw [<- hkl, List.take_length]
 rw [eAll] at hOX ⊢
 by_cases hfix : ∀ u, u < c.lat.2.2.length -> stkF c.t v u = v.getD u 0
 ·have hvs : stkS c.t v = v := by
   have h5 : stkS c.t v = tab c.lat.2.2.length (fun u => v.getD u 0) := tab_congr hfix
   rw [h5]
   symm
   exact tab_eq hvl fun u x hx => gDo hx
  have hvd : v = skV c.t := by rw [hv]; rw [hv] at hvs; exact stk_done hk hvs
  have hOf := hOv.ext hXil
  repeat' (first | (apply W.cKT; exact rfl; exact dTt hfix) | (apply W.cKF; exact rfl; (focus (exact dFf (by omega)))) | (first | apply WL.nil | refine WL.au (k := ?_)) | (first | apply Z.tn | apply Z.tnx | apply Z.bkx | apply Z.tnr | apply Z.bkr) | (first | apply W.seq | apply W.region | apply W.ret | apply W.exit))
  rw [hvd] at hOf ⊢
  exact Z.bd1 Tryz.results35 rfl fun q => ⟨(((hXw4.trans hXi).trans hXil)).at q, _, _, rfl, (hOf.base (Below.size hXw4)).ext ((Ext.refl _).at q)⟩
 ·have hns : stkS c.t v ≠ v := fun h5 => hfix fun u hu => by rw [<- stkS_get (c := c.t) v hu, h5]
  have hne' : ∀ j, j < k + 1 -> stkS c.t (stkI c.t j) ≠ stkI c.t j := fun j hj => by
   rcases Nat.lt_or_ge j k with h5 | h5
   ·exact hne j h5
   ·rw [show j = k by omega, <- hv]; exact hns
  have hk1 : k + 1 <= c.lat.2.2.length := stk_short hne'
  have e9 : stkI c.t (k + 1) = stkS c.t v := by rw [hv]; rfl
  repeat' (first | (apply W.cKF; exact rfl; (focus (exact dFf (by omega)))) | (first | apply WL.nil | refine WL.au (k := ?_)) | (first | apply Z.tn | apply Z.bkn | apply Z.tnx | apply Z.bkx) | (first | apply W.seq | apply W.region | apply W.skip | apply W.exit))
  exact Z.agO bX cX ⟨hk1, hXi.trans hXil, hne', by rw [e9]; exact hOX.base (Below.size (hXi.trans hXi7))⟩ (by repeat' first | exact trivial | (refine And.intro ?_ ?_) | exact rfl | (rw [e9]; exact rfl))

abbrev Fr := RowV (Int × Int) × RowV Int
def Known (w0 : World) (R : List Piece) (P : World -> Prop) : Prop := ∀ w, Ext w0 w -> (∀ p ∈ R, p.P w) -> P w
theorem Known.sep {w0 w : World} {R ps : List Piece} {P : World -> Prop} (h : Known w0 R P) (hX : Ext w0 w) {B : Nat} (hS : Lt.Sep B w ps) (hsub : ∀ p ∈ R, p ∈ ps) : P w :=
 h w hX fun p hp => by
  obtain ⟨i, hi⟩ := List.mem_iff_getElem?.1 (hsub p hp)
  exact (hS.holds i p hi).1
structure UM where
 gf : Nat
 gs : Nat
 r : Nat
 d : Circ
 aN : Option Addr
 cN : Nat
 aA : Option Addr
 cA : Nat
structure UX where
 a : Option Addr
 cap : Nat
 af : Option Addr
 cf : Nat
 fr : List Fr
 as' : Option Addr
 cs : Nat
 st : List (RowV Int)
 R : List Piece

theorem Known.frz {α : Type} {s : Nat} {enc : α -> List Value} {el b cap : Nat} {w0 w2 : World} {a : Option Addr} {l : List α} (hE : Enc s enc) (h : Own s enc el b w2 a cap l) : Known w0 (frz b w2) (fun w => Row s enc w a l) := fun w _ hR => by
 refine (h.row hE).keep fun k hk => ?_
 obtain ⟨h1, h2⟩ := h.blk_lt k hk
 have hm : pfro k (w2.heap[k]?) ∈ Lt.frz b w2 := by
  unfold Lt.frz
  exact List.mem_map.2 ⟨k - b, List.mem_range.2 (by omega), by simp only [show b + (k - b) = k by omega]⟩
 exact hR _ hm

section cls
variable {P : Program} {T : Tab} {N d : Nat} {e : Env} {w : World} {C : World -> Prop} {ops l : List Oper} {Kf : Act -> Prop} {tt t : TypeId} {ps : String} {af : Array Edge} {g : Option (Nat × Bool)} {x : Operand}
theorem FL.loadK {p : Addr} {v : Value} {i : TI} (hT : OkTab P T) (hg : gate ops e g = some true) (hd : Nat.blt d N = true) (hx : ev e x = some (.pointer (some p))) (ht : tget T t = some i) (ha : isAggD i.desc = false) (hv : ∀ w', C w' -> w'.cell? p = some v)
  (k : FL P N ops.toArray C l ((d, v) :: e) w Kf) : FL P N ops.toArray C (⟨some d, .load t x, tt, ps, af, g⟩ :: l) e w Kf := by
 refine FL.step hg hd ?_ k
 intro ρ hρ w' hw'
 have h1 := run_isAgg' (hT.at ht); rw [ha] at h1
 have h2 := hv w' hw'
 simp [execOp, hρ _ _ hx, Instr.loadAt, Instr.sureAddr, loadVar, h1, h2]
end cls
theorem Sep.pickL {B : Nat} {w : World} {pre tl : List Piece} (L : List Nat) (d : Piece) (hS : Lt.Sep B w (pre ++ tl)) (hok : (L.all (fun i => Nat.blt i pre.length) && decide L.Nodup) = true) : Lt.Sep B w (L.map (fun i => pre.getD i d) ++ tl) := by
 simp only [Bool.and_eq_true, List.all_eq_true, decide_eq_true_eq] at hok
 obtain ⟨h1, h2⟩ := hok
 have hl : (L.map (fun i => pre.getD i d)).length = L.length := List.length_map _
 have hL : ∀ i, i < L.length -> ∃ k, L[i]? = some k /\ k < pre.length := fun i hi => by
  obtain ⟨k, hk⟩ := getI L hi
  exact ⟨k, hk, by simpa [Nat.blt_eq] using h1 k (List.mem_of_getElem? hk)⟩
 refine hS.pick (fun i => if i < L.length then L.getD i 0 else i - L.length + pre.length) (fun i x h => ?_) (fun i j hi hj hne => ?_)
 ·by_cases hi : i < L.length
  ·obtain ⟨k, hk, hkl⟩ := hL i hi
   rw [List.getElem?_append_left (by omega), List.getElem?_map, hk] at h
   obtain ⟨y, hy⟩ := getI pre hkl
   have h' : pre.getD k d = x := Option.some.inj h
   rw [gDo hy] at h'
   show (pre ++ tl)[if i < L.length then L.getD i 0 else i - L.length + pre.length]? = some x
   rw [if_pos hi, gDo hk, List.getElem?_append_left hkl, hy, h']
  ·rw [List.getElem?_append_right (by omega), hl] at h
   show (pre ++ tl)[if i < L.length then L.getD i 0 else i - L.length + pre.length]? = some x
   rw [if_neg hi, List.getElem?_append_right (by omega), Nat.add_sub_cancel]; exact h
 ·show (if i < L.length then L.getD i 0 else i - L.length + pre.length) ≠ (if j < L.length then L.getD j 0 else j - L.length + pre.length)
  by_cases hi' : i < L.length
  ·obtain ⟨k, hk, hkl⟩ := hL i hi'
   by_cases hj' : j < L.length
   ·obtain ⟨k2, hk2, hkl2⟩ := hL j hj'
    rw [if_pos hi', if_pos hj', gDo hk, gDo hk2]
    intro he
    subst he
    have := List.pairwise_iff_getElem.1 (List.nodup_iff_pairwise_ne.1 h2)
    obtain ⟨a1, a2⟩ := List.getElem?_eq_some_iff.1 hk
    obtain ⟨b1, b2⟩ := List.getElem?_eq_some_iff.1 hk2
    rcases Nat.lt_or_gt_of_ne hne with hlt | hlt
    ·exact this i j a1 b1 hlt (by rw [a2, b2])
    ·exact this j i b1 a1 hlt (by rw [a2, b2])
   ·rw [if_pos hi', if_neg hj', gDo hk]; omega
  ·by_cases hj' : j < L.length
   ·obtain ⟨k2, hk2, hkl2⟩ := hL j hj'
    rw [if_neg hi', if_pos hj', gDo hk2]; omega
   ·rw [if_neg hi', if_neg hj']; omega
def pnone : Piece := ⟨none, fun _ => True, fun _ _ => trivial⟩

noncomputable abbrev foldW (c : Circ) (aN : Option Addr) (cN : Nat) (aA : Option Addr) (cA : Nat) (vs vp vo : Value) : List Value :=
 [.int .i64 c.max, rowVal c.ins, rowVal c.lat, rowVal c.outs, rowVal c.bads, rowVal c.cons, rowVal c.gates, rowVal c.syms, .string c.com,
  .slice aN (cNet c.t).1.length cN, .slice aA (cNet c.t).2.length cA, vs, vp, vo]
abbrev zeroW : List Value := [.int .i64 0, .slice none 0 0, .slice none 0 0, .slice none 0 0, .slice none 0 0, .slice none 0 0, .slice none 0 0, .slice none 0 0, .string ⟨#[]⟩, .slice none 0 0, .slice none 0 0, .slice none 0 0, .pointer none, .slice none 0 0]
noncomputable abbrev foP (B gs gi g9 gc g8 m : Nat) (a : Option Addr) (cap r : Nat) (N : List (Int × Int)) (c : Circ) (v9 : List Value) (l : List Int) (F : List Piece) : List Piece :=
 stN B gs a cap r N ++ (prow 1 encI 3 B (some ⟨gi, 0, none⟩) m l :: pcell g9 v9.toArray 112 :: pcell gc c.vals.toArray 27 :: pcell g8 zeroW.toArray 112 :: F)
theorem fill1_cnt (m : Nat) (inp : List Int) : ∀ k, k <= inp.length -> (fill1 m inp k).2 = k /\ (fill1 m inp k).1.length = m
 | 0, _ => ⟨rfl, by simp [fill1]⟩
 | k + 1, hk => by
  obtain ⟨z, hz⟩ := getI inp (show k < _ by omega)
  obtain ⟨i1, i2⟩ := fill1_cnt m inp k (by omega)
  rw [fill1_succ hz]
  unfold putFC
  exact ⟨by dsimp only; omega, by rw [List.length_set]; exact i2⟩
theorem fill2_cnt (I m : Nat) (inp la : List Int) : ∀ k, k <= la.length -> (fill2 I m inp la k).2 = inp.length + k /\ (fill2 I m inp la k).1.length = m
 | 0, _ => fill1_cnt m inp inp.length (Nat.le_refl _)
 | k + 1, hk => by
  obtain ⟨z, hz⟩ := getI la (show k < _ by omega)
  obtain ⟨i1, i2⟩ := fill2_cnt I m inp la k (by omega)
  rw [fill2_succ hz]
  unfold putFC
  exact ⟨by dsimp only; omega, by rw [List.length_set]; exact i2⟩
theorem fill1_put {m : Nat} {inp : List Int} {k : Nat} {z : Int} (h : inp[k]? = some z) : (fill1 m inp (k + 1)).1 = (fill1 m inp k).1.set z.toNat (2 * ((k : Int) + 1)) := by
 rw [fill1_succ h]
 unfold putFC
 rw [(fill1_cnt m inp k (Nat.le_of_lt (lGt h))).1, Nat.zero_add]
theorem fill2_put {I m : Nat} {inp la : List Int} {k : Nat} {z : Int} (h : la[k]? = some z) : (fill2 I m inp la (k + 1)).1 = (fill2 I m inp la k).1.set (I + z.toNat) (2 * (((inp.length + k : Nat) : Int) + 1)) := by
 rw [fill2_succ h]
 unfold putFC
 rw [(fill2_cnt I m inp la k (Nat.le_of_lt (lGt h))).1]
theorem frz_ltF {B b k : Nat} {w w2 : World} {ps : List Piece} (hS : Lt.Sep B w ps) (hsub : ∀ p ∈ Lt.frz b w2, p ∈ ps) (h1 : b <= k) (h2 : k < w2.heap.size) : k < w.heap.size := by
 have hm : pfro k (w2.heap[k]?) ∈ Lt.frz b w2 := by
  unfold Lt.frz
  exact List.mem_map.2 ⟨k - b, List.mem_range.2 (by omega), by simp only [show b + (k - b) = k by omega]⟩
 obtain ⟨i, hi⟩ := List.mem_iff_getElem?.1 (hsub _ hm)
 exact ((hS.holds i _ hi).2 k rfl).2
structure FoC (gc g9 : Nat) (v1 v12 : Value) (w : World) : Prop where
 c1 : w.cell? ⟨gc, 0 + 1, none⟩ = some v1
 c12 : w.cell? ⟨g9, 0 + 12, none⟩ = some v12
theorem FoC.at {gc g9 : Nat} {v1 v12 : Value} {w : World} (h : FoC gc g9 v1 v12 w) (q : Nat) : FoC gc g9 v1 v12 (at' w q) := ⟨((Ext.refl w).at q).cell h.c1, ((Ext.refl w).at q).cell h.c12⟩
theorem coi_fold (c : Circ) (st la inp : List Int) (aS aL aI : Option Addr) (cS cL cI : Nat) (w : World) (hC : CAt w c) (hg : GoodC' c.t) (hz : SzC c.t 100000) (hF : FoldOk c.t st la inp) (hll : la.length <= 100000) (hil : inp.length <= 100000) (RS0 : Row 1 encI w aS st) (RL0 : Row 1 encI w aL la) (RI0 : Row 1 encI w aI inp) :
  Lt.Spec Tryz.prog 74 [c.val, .slice aS st.length cS, .slice aL la.length cL, .slice aI inp.length cI] w (fun v w' => Ext w w' /\ ∃ aN cN aA cA gs r a cap aO cO, v = .agg (foldW c aN cN aA cA (.slice aS st.length cS) (.pointer (some ⟨gs, 0, none⟩)) (.slice aO (foldV c.t st la inp).1.length cO)).toArray /\
   Row 2 encN w' aN (cNet c.t).1 /\ Row 1 encI w' aA (cNet c.t).2 /\ Row 1 encI w' aO (foldV c.t st la inp).1 /\ Lt.Sep w.heap.size w' (stN w.heap.size gs a cap r (foldV c.t st la inp).2) /\ (∀ k, (blk aN = some k ∨ blk aA = some k ∨ blk aO = some k) -> w.heap.size <= k /\ k < w'.heap.size)) := by
 have z1 : c.ins.2.2.length <= 100000 := hz.1
 have z2 : c.lat.2.2.length <= 100000 := hz.2.1
 have hnl := net_len hg hz
 refine Spec.of _ Tryz.func74 rfl Tryz.ntmps74 (by kernel_rfl) rfl ?_
 repeat' (first | (apply WL.box; (iterate 3 exact rfl); intro gc wc hbc hgec hc hxc; have hcc := hc; obtain ⟨h1, h2, h3, _⟩ := hc; (have hcells := hcc; have hSc := Sep.newCell Sep.none' hxc hbc hgec (Nat.le_refl _))) | (show WL _ _ _ (⟨some 8, .alloc _, _, _, _, _⟩ :: _) _ _ _; apply WL.alloc tOk; (iterate 3 exact rfl); intro g8 w1 hb8 hge8 hx8; have hb8' : w1.heap[g8]? = some (.cells zeroW.toArray 112 (0, 0)) := hb8; have hS1 := Sep.newCell hSc hx8 hb8' hge8 (Below.size hxc)) | (apply WL.call (f := 81); (iterate 4 exact rfl); exact coi_of c _ (hC.ext (hxc.trans hx8)) hg hz; rintro v' w2 ⟨hx2, aN, cN, aA, cA, rfl, hON, hOA⟩; have hS2 := Sep.freeze hS1 hx2 (Below.size (hxc.trans hx8))) | (apply WL.call (f := 48); (iterate 4 exact rfl); exact aig_NewV w2 w _ ((hxc.trans hx8).trans hx2) hS2; rintro v' w3 ⟨hx3, gs, r, rfl, hS3⟩) | (apply WL.build tOk; (iterate 7 exact rfl); kernel_rfl) | (show WL _ _ _ (⟨some 9, .alloc _, _, _, _, _⟩ :: _) _ _ _; apply WL.alloc tOk; (iterate 3 exact rfl); intro g9 w4 hb9 hge9 hx9; have hB3 := Below.size ((hxc.trans hx8).trans (hx2.trans hx3)); have hS4 := Sep.newCell hS3 hx9 hb9 hge9 (Below.size ((hxc.trans hx8).trans (hx2.trans hx3)))) | (show WL _ _ _ (⟨none, .store _ (.tmp 9) _, _, _, _, _⟩ :: _) _ _ _; apply WL.storeB (w0 := w3) tOk; (iterate 4 exact rfl); exact hb9; exact Ext.refl _; kernel_rfl; kernel_rfl; kernel_rfl; exact hx9; exact hge9; intro w5 hb5 hc5 hX5 hU5; obtain ⟨y0, y1, y2, y3, y4, y5, y6, y7, y8, _⟩ := Cells.ext ((hx8.trans hx2).trans (hx3.trans hX5)) hcells) | (apply WL.makeC (w0 := w5) (z := (0:Int)) tOk; (iterate 9 exact rfl); exact eIk; exact rfl; exact rfl; exact extA; omega; intro gi w6 hOi hgei hxi) | (first | apply WL.nil | refine WL.au (k := ?_)) | apply Z.tn | (first | apply W.seq | apply W.region | apply W.block))
 obtain ⟨v9, hv9⟩ : ∃ v9, v9 = foldW c aN cN aA cA (.slice aS st.length cS) (.pointer (some ⟨gs, 0, none⟩)) (.slice none 0 0) := ⟨_, rfl⟩
 have hb5' : w5.heap[g9]? = some (.cells v9.toArray 112 (0, 0)) := by rw [hv9]; exact hb5
 have hB4 : w.heap.size <= w4.heap.size := Nat.le_trans hB3 (Below.size hx9)
 have hX35 : Ext w3 w5 := hX5
 have hXw5 : Ext w w5 := ((hxc.trans hx8).trans (hx2.trans hx3)).trans hX35
 have hS5 := Sep.uCl (i := 0) rfl hU5 hb5' hS4 (Ext.refl _) hB4
 have hM : ((c.ins.2.2.length : Int) + (c.lat.2.2.length : Int)).toNat = c.ins.2.2.length + c.lat.2.2.length := by omega
 have hMl : (List.replicate (c.ins.2.2.length + c.lat.2.2.length) (0 : Int)).length = c.ins.2.2.length + c.lat.2.2.length := List.length_replicate
 obtain ⟨M, hMM⟩ : ∃ M, M = c.ins.2.2.length + c.lat.2.2.length := ⟨_, rfl⟩
 rw [hM] at hOi ⊢
 rw [<- hMM] at hOi hMl ⊢
 have hS6 := Sep.newRow hS5 hxi (hOi.base (Below.size hXw5)) (fun k hk => by cases hk; exact hgei) (Below.size hXw5)
 have hS7 : Lt.Sep w.heap.size w6 (foP w.heap.size gs gi g9 gc g8 M none 0 r [] c v9 (List.replicate M 0) (Lt.frz w1.heap.size w2)) := Sep.pickL (pre := [_, _, _, _, _, _, _]) [2, 3, 4, 0, 1, 6, 5] pnone hS6 rfl
 have hB1 : w.heap.size <= w1.heap.size := Below.size (hxc.trans hx8)
 have hkN : Known w (Lt.frz w1.heap.size w2) (fun w' => Row 2 encN w' aN (cNet c.t).1) := Known.frz encN_ok hON
 have hkA : Known w (Lt.frz w1.heap.size w2) (fun w' => Row 1 encI w' aA (cNet c.t).2) := Known.frz eIk hOA
 have hbN : ∀ k, blk aN = some k -> w1.heap.size <= k /\ k < w2.heap.size := fun k hk => hON.blk_lt k hk
 have hbA : ∀ k, blk aA = some k -> w1.heap.size <= k /\ k < w2.heap.size := fun k hk => hOA.blk_lt k hk
 obtain ⟨F, hF0⟩ : ∃ F, F = Lt.frz w1.heap.size w2 := ⟨_, rfl⟩
 rw [<- hF0] at hS7 hkN hkA
 have hX6 : Ext w w6 := hXw5.trans hxi
 clear hS1 hSc hS2 hS3 hS4 hS5 hS6 hOi hb5 hb5' hc5 hb9 hb8 hb8' hbc hU5
 have hg9 : ∀ (w9 : World) (a : Option Addr) (cap : Nat) (N : List (Int × Int)) (l : List Int), Lt.Sep w.heap.size w9 (foP w.heap.size gs gi g9 gc g8 M a cap r N c v9 l F) -> Cells w9 g9 0 (foldW c aN cN aA cA (.slice aS st.length cS) (.pointer (some ⟨gs, 0, none⟩)) (.slice none 0 0)) /\ Cells w9 gc 0 c.vals := fun w9 a cap N l h => ⟨by
  have h1 := cHp (h.cell (i := 4) (gb := g9) rfl)
  rw [hv9] at h1; exact h1, cHp (h.cell (i := 5) (gb := gc) rfl)⟩
 refine W.loopW inp.length (fun k w' => k <= inp.length /\ Ext w w' /\ ∃ a cap, Lt.Sep w.heap.size w' (foP w.heap.size gs gi g9 gc g8 M a cap r (List.replicate k (-1, 0)) c v9 (fill1 M inp k).1 F))
  (fun k => [(1, .slice aS st.length cS), (2, .slice aL la.length cL), (4, .pointer (some ⟨gc, 0, none⟩)), (8, .pointer (some ⟨g8, 0, none⟩)), (9, .pointer (some ⟨g9, 0, none⟩)), (10, .slice (some ⟨gi, 0, none⟩) M M), (30, .slice aI inp.length cI), (31, .int .i64 inp.length), (32, .int .i64 k)]) ⟨Nat.zero_le _, hX6, none, 0, hS7⟩ (fun k w' h => h.1) (by repeat' first | exact trivial | (refine And.intro ?_ ?_) | exact rfl | (rw [hMl]; exact rfl)) ?_
 clear hS7 y0 y1 y2 y3 y4 y5 y6 y7 y8
 rintro k w9 ⟨hk, hX9, a9, cap9, hS⟩
 obtain ⟨q1, q2⟩ := fill1_cnt M inp k hk
 have hrk : (List.replicate k ((-1 : Int), (0 : Int))).length = k := List.length_replicate
 by_cases hlt : k < inp.length
 ·obtain ⟨z, hz'⟩ := getI inp hlt
  have RIk := RI0.ext hX9
  have hzb := hF.inp z (List.mem_of_getElem? hz')
  have hzI : z < (c.ins.2.2.length : Int) := hzb.2
  have e1 := fill1_put (m := M) hz'
  obtain ⟨y, hy⟩ := getI (fill1 M inp k).1 (show z.toNat < _ by omega)
  obtain ⟨_, _, _, _, _, _, _, _, _, _, _, _, u12, _⟩ := (hg9 _ _ _ _ _ hS).1
  repeat' (first | (apply W.cKT; exact rfl; exact dTt (by omega)) | (apply WL.call (f := 50); (iterate 4 exact rfl); exact aig_InputV gs r _ _ (List.replicate k (-1, 0)) _ _ w hX9 hS (by omega); rintro v' w8 ⟨hX8', a8, cap8, rfl, hS⟩; (try simp only [List.set_cons_zero, List.set_cons_succ] at hS); (try have hR1 := hS.row (i := 1) rfl); (try have hR3 := hS.row (i := 3) rfl); (try have hC0 := hS.cell (i := 0) rfl); (try have hD0 := (cHp hC0).1); (try have hE0 := (cHp hC0).2.1); (try have hC4 := hS.cell (i := 4) rfl); (try have hM2 := hS.map (i := 2) rfl)) | (apply WL.indexO tOk; (iterate 8 exact rfl); assumption; exact extA; exact eIk; omega; omega; assumption; intro gb ha hc; cases ha; have hcc := hc; first | (obtain ⟨h1, h2, h3, _⟩ := hc) | (obtain ⟨h1, h2, _⟩ := hc) | (obtain ⟨h1, _⟩ := hc)) | (apply WL.storeO tOk; (iterate 4 exact rfl); assumption; exact extA; (iterate 3 exact rfl); exact eIk; assumption; exact rfl; exact extA; intro w' hO hX' hU; (replace hS := Sep.uRw (i := 3) rfl hU hO (.inl rfl) hS extA (by (exact Below.size extA))); (try simp only [List.set_cons_zero, List.set_cons_succ] at hS); (try have hR1 := hS.row (i := 1) rfl); (try have hR3 := hS.row (i := 3) rfl); (try have hC0 := hS.cell (i := 0) rfl); (try have hD0 := (cHp hC0).1); (try have hE0 := (cHp hC0).2.1); (try have hC4 := hS.cell (i := 4) rfl); (try have hM2 := hS.map (i := 2) rfl)) | (first | apply WL.nil | refine WL.au (k := ?_) | (apply WL.index tOk; (iterate 8 exact rfl); assumption; exact extA; exact rfl; omega; assumption; intro b off h; have hcc := h; first | (obtain ⟨h1, h2, h3, h4, h5, h6, _⟩ := h) | (obtain ⟨h1, h2, h3, _⟩ := h) | (obtain ⟨h1, h2, _⟩ := h) | (obtain ⟨h1, _⟩ := h))) | (first | apply Z.tn | apply Z.bkn) | (first | apply W.seq | apply W.region | apply W.block | apply W.skip))
  rw [List.length_replicate, <- e1, <- List.replicate_succ'] at hS
  exact Z.agW ⟨by omega, by assumption, a8, cap8, hS⟩ (by repeat' first | exact trivial | (refine And.intro ?_ ?_) | exact rfl)
 obtain rfl : k = inp.length := by omega
 have e1 : (fill1 M inp inp.length).1 = (fill2 c.ins.2.2.length M inp la 0).1 := rfl
 rw [e1, show inp.length = inp.length + 0 from rfl] at hS
 repeat' (first | (apply W.cKF; exact rfl; exact dFf (by omega)) | (first | apply WL.nil | refine WL.au (k := ?_)) | (first | apply Z.tn | apply Z.tnx | apply Z.bkx) | (first | apply W.seq | apply W.region | apply W.block | apply W.exit))
 refine W.loopW la.length (fun k w' => k <= la.length /\ Ext w w' /\ ∃ a cap, Lt.Sep w.heap.size w' (foP w.heap.size gs gi g9 gc g8 M a cap r (List.replicate (inp.length + k) (-1, 0)) c v9 (fill2 c.ins.2.2.length M inp la k).1 F))
  (fun k => [(1, .slice aS st.length cS), (4, .pointer (some ⟨gc, 0, none⟩)), (8, .pointer (some ⟨g8, 0, none⟩)), (9, .pointer (some ⟨g9, 0, none⟩)), (10, .slice (some ⟨gi, 0, none⟩) M M), (43, .slice aL la.length cL), (44, .int .i64 la.length), (45, .int .i64 k)]) ⟨Nat.zero_le _, hX9, a9, cap9, hS⟩ (fun k w' h => h.1) (by repeat' first | exact trivial | (refine And.intro ?_ ?_) | exact rfl) ?_
 clear hS
 rintro k wk ⟨hk2, hXk, ak, capk, hS⟩
 obtain ⟨q3, q4⟩ := fill2_cnt c.ins.2.2.length M inp la k hk2
 have hrk2 : (List.replicate (inp.length + k) ((-1 : Int), (0 : Int))).length = inp.length + k := List.length_replicate
 by_cases hlt2 : k < la.length
 ·obtain ⟨z, hz'⟩ := getI la hlt2
  have RLk := RL0.ext hXk
  have hzb := hF.la z (List.mem_of_getElem? hz')
  have hzI : z < (c.lat.2.2.length : Int) := hzb.2
  have e2 := fill2_put (I := c.ins.2.2.length) (m := M) (inp := inp) hz'
  have ez : ((c.ins.2.2.length : Int) + z).toNat = c.ins.2.2.length + z.toNat := by omega
  obtain ⟨y, hy⟩ := getI (fill2 c.ins.2.2.length M inp la k).1 (show ((c.ins.2.2.length : Int) + z).toNat < _ by omega)
  have hOi : Own 1 encI 3 w.heap.size wk (some ⟨gi, 0, none⟩) M (fill2 c.ins.2.2.length M inp la k).1 := hS.row (i := 3) rfl
  have hC0 : FoC gc g9 (rowVal c.ins) (.pointer (some ⟨gs, 0, none⟩)) wk := by
   obtain ⟨h1, h2⟩ := hg9 _ _ _ _ _ hS
   obtain ⟨_, _, _, _, _, _, _, _, _, _, _, _, u12, _⟩ := h1
   obtain ⟨_, u1, _⟩ := h2
   exact ⟨u1, u12⟩
  repeat' (first | (apply W.cKT; exact rfl; exact dTt (by omega)) | (show W _ _ (.region 11 _ _) _ _ _; apply W.regionG (.fl true 0 (.fl true 1 (.fl true 4 (.fl true 6 (.fl false 2 (.fl true 3 (.fl true 5 (.fl false 7 (.br 8 (.fl true 9 (.br 10 .done .stop)) .stop))))))))) [5, 7, 8] (FoC gc g9 (rowVal c.ins) (.pointer (some ⟨gs, 0, none⟩))) tMix; kernel_rfl) | (apply FL.loadK tOk; (iterate 5 exact rfl); (first | exact fun w9 h9 => h9.c1 | exact fun w9 h9 => h9.c12)) | (apply FL.indexO tOk; (iterate 8 exact rfl); (exact hOi2); exact Ext.refl _; exact eIk; exact q4; omega; exact hy; intro gS hgS hcS; cases hgS) | (apply WL.call (f := 50); (iterate 4 exact rfl); exact aig_InputV gs r _ _ (List.replicate (inp.length + k) (-1, 0)) _ _ w hXk hS (by omega); rintro v' w8 ⟨hX8', a8, cap8, rfl, hS8⟩; have hOi2 : Own 1 encI 3 w.heap.size w8 (some ⟨gi, 0, none⟩) M (fill2 c.ins.2.2.length M inp la k).1 := hS8.row (i := 3) rfl; have hS := hS8; have hC2 : FoC gc g9 (rowVal c.ins) (.pointer (some ⟨gs, 0, none⟩)) w8 := (by obtain ⟨h1, h2⟩ := hg9 _ _ _ _ _ hS8; obtain ⟨_, _, _, _, _, _, _, _, _, _, _, _, u12, _⟩ := h1; obtain ⟨_, u1, _⟩ := h2; exact ⟨u1, u12⟩)) | (apply WL.storeO tOk; (iterate 4 exact rfl); assumption; exact extA; (iterate 3 exact rfl); exact eIk; assumption; exact rfl; exact extA; intro w' hO hX' hU; (replace hS := Sep.uRw (i := 3) rfl hU hO (.inl rfl) hS extA (by (exact Below.size extA))); (try simp only [List.set_cons_zero, List.set_cons_succ] at hS); (try have hR1 := hS.row (i := 1) rfl); (try have hR3 := hS.row (i := 3) rfl); (try have hC0 := hS.cell (i := 0) rfl); (try have hD0 := (cHp hC0).1); (try have hE0 := (cHp hC0).2.1); (try have hC4 := hS.cell (i := 4) rfl); (try have hM2 := hS.map (i := 2) rfl); (have hC3 : FoC gc g9 (rowVal c.ins) (.pointer (some ⟨gs, 0, none⟩)) w' := (by obtain ⟨h1, h2⟩ := hg9 _ _ _ _ _ hS; obtain ⟨_, _, _, _, _, _, _, _, _, _, _, _, u12, _⟩ := h1; obtain ⟨_, u1, _⟩ := h2; exact ⟨u1, u12⟩))) | (apply SG.fl1; exact rfl; intro q; exact hC0.at q) | (apply Z.sgE; intro q; first | exact hC3.at q | exact hC2.at q | exact hC0.at q) | (first | apply WL.nil | refine WL.au (k := ?_) | (apply WL.index tOk; (iterate 8 exact rfl); assumption; exact extA; exact rfl; omega; assumption; intro b off h; have hcc := h; first | (obtain ⟨h1, h2, h3, h4, h5, h6, _⟩ := h) | (obtain ⟨h1, h2, h3, _⟩ := h) | (obtain ⟨h1, h2, _⟩ := h) | (obtain ⟨h1, _⟩ := h))) | (first | apply SG.done | (apply SG.fl0; exact rfl) | (apply SG.br1; exact rfl)) | (first | apply FL.nilS | refine FL.au (k := ?_)) | (first | apply Z.tn | apply Z.bkn) | (first | apply W.seq | apply W.region | apply W.block | apply W.skip))
  all_goals
   rw [List.length_replicate, ez, <- e2, <- List.replicate_succ'] at hS
   exact Z.agW ⟨by omega, by assumption, a8, cap8, hS⟩ (by repeat' first | exact trivial | (refine And.intro ?_ ?_) | exact rfl)
 obtain rfl : k = la.length := by omega
 have hst := hF.st.1
 have hsl : st.length = c.lat.2.2.length := hst
 obtain ⟨N0, hN0⟩ : ∃ N0, N0 = foldN la inp := ⟨_, rfl⟩
 have hN0l : N0.length = inp.length + la.length := by rw [hN0]; exact List.length_replicate
 obtain ⟨L2, hL2⟩ : ∃ L2, L2 = (fill2 c.ins.2.2.length M inp la la.length).1 := ⟨_, rfl⟩
 have hL2l : L2.length = M := by rw [hL2]; exact q4
 rw [show List.replicate (inp.length + la.length) ((-1 : Int), (0 : Int)) = N0 from hN0.symm, <- hL2] at hS
 repeat' (first | (apply W.cKF; exact rfl; exact dFf (by omega)) | (first | apply WL.nil | refine WL.au (k := ?_)) | (first | apply Z.tn | apply Z.tnx | apply Z.bkx) | (first | apply W.seq | apply W.region | apply W.block | apply W.exit))
 refine W.loopW st.length (fun k w' => k <= st.length /\ Ext w w' /\ Lt.Sep w.heap.size w' (foP w.heap.size gs gi g9 gc g8 M ak capk r N0 c v9 (fill3 c.ins.2.2.length st L2 k) F))
  (fun k => [(4, .pointer (some ⟨gc, 0, none⟩)), (8, .pointer (some ⟨g8, 0, none⟩)), (9, .pointer (some ⟨g9, 0, none⟩)), (10, .slice (some ⟨gi, 0, none⟩) M M), (60, .slice aS st.length cS), (61, .int .i64 st.length), (62, .int .i64 k)]) ⟨Nat.zero_le _, hXk, hS⟩ (fun k w' h => h.1) (by repeat' first | exact trivial | (refine And.intro ?_ ?_) | exact rfl) ?_
 clear hS
 rintro k wm ⟨hk3, hXm, hS⟩
 have hfl := fill3_len c.ins.2.2.length st L2 k
 by_cases hlt3 : k < st.length
 ·obtain ⟨y, hy⟩ := getI st hlt3
  have RSk := RS0.ext hXm
  have hyD : st.getD k 0 = y := gDo hy
  obtain ⟨_, u1, u2, _⟩ := (hg9 _ _ _ _ _ hS).2
  by_cases q5 : y = 2
  ·have e3 : fill3 c.ins.2.2.length st L2 (k + 1) = fill3 c.ins.2.2.length st L2 k := by
    rw [fill3_succ]; unfold stkP; rw [if_neg (by rw [hyD]; exact fun h => h q5)]
   repeat' (first | (apply W.cKT; exact rfl; (focus (exact dTt (by omega)))) | (apply W.cKF; exact rfl; exact dFf (by omega)) | (first | apply WL.nil | refine WL.au (k := ?_) | (apply WL.index tOk; (iterate 8 exact rfl); assumption; exact extA; exact rfl; omega; assumption; intro b off h; have hcc := h; first | (obtain ⟨h1, h2, h3, h4, h5, h6, _⟩ := h) | (obtain ⟨h1, h2, h3, _⟩ := h) | (obtain ⟨h1, h2, _⟩ := h) | (obtain ⟨h1, _⟩ := h))) | (first | apply Z.tn | apply Z.bkn) | (first | apply W.seq | apply W.region | apply W.block | apply W.skip))
   exact Z.agW ⟨by omega, hXm, by rw [e3]; exact hS⟩ (by repeat' first | exact trivial | (refine And.intro ?_ ?_) | exact rfl)
  ·have e3 : fill3 c.ins.2.2.length st L2 (k + 1) = (fill3 c.ins.2.2.length st L2 k).set (c.ins.2.2.length + k) y := by
    rw [fill3_succ]; unfold stkP; rw [hyD, if_pos q5]
   have ez : ((c.ins.2.2.length : Int) + (k : Int)).toNat = c.ins.2.2.length + k := by omega
   obtain ⟨yy, hyy⟩ := getI (fill3 c.ins.2.2.length st L2 k) (show ((c.ins.2.2.length : Int) + (k : Int)).toNat < _ by omega)
   (try simp only [List.set_cons_zero, List.set_cons_succ] at hS); (try have hR1 := hS.row (i := 1) rfl); (try have hR3 := hS.row (i := 3) rfl); (try have hC0 := hS.cell (i := 0) rfl); (try have hD0 := (cHp hC0).1); (try have hE0 := (cHp hC0).2.1); (try have hC4 := hS.cell (i := 4) rfl); (try have hM2 := hS.map (i := 2) rfl)
   repeat' (first | (apply W.cKT; exact rfl; exact dTt (by omega)) | (apply WL.indexO tOk; (iterate 8 exact rfl); assumption; exact extA; exact eIk; omega; omega; assumption; intro gb ha hc; cases ha; have hcc := hc; first | (obtain ⟨h1, h2, h3, _⟩ := hc) | (obtain ⟨h1, h2, _⟩ := hc) | (obtain ⟨h1, _⟩ := hc)) | (apply WL.storeO tOk; (iterate 4 exact rfl); assumption; exact extA; (iterate 3 exact rfl); exact eIk; assumption; exact rfl; exact extA; intro w' hO hX' hU; (replace hS := Sep.uRw (i := 3) rfl hU hO (.inl rfl) hS extA (by (exact Below.size extA))); (try simp only [List.set_cons_zero, List.set_cons_succ] at hS); (try have hR1 := hS.row (i := 1) rfl); (try have hR3 := hS.row (i := 3) rfl); (try have hC0 := hS.cell (i := 0) rfl); (try have hD0 := (cHp hC0).1); (try have hE0 := (cHp hC0).2.1); (try have hC4 := hS.cell (i := 4) rfl); (try have hM2 := hS.map (i := 2) rfl)) | (first | apply WL.nil | refine WL.au (k := ?_) | (apply WL.index tOk; (iterate 8 exact rfl); assumption; exact extA; exact rfl; omega; assumption; intro b off h; have hcc := h; first | (obtain ⟨h1, h2, h3, h4, h5, h6, _⟩ := h) | (obtain ⟨h1, h2, h3, _⟩ := h) | (obtain ⟨h1, h2, _⟩ := h) | (obtain ⟨h1, _⟩ := h))) | (first | apply Z.tn | apply Z.bkn) | (first | apply W.seq | apply W.region | apply W.block | apply W.skip))
   rw [ez, <- e3] at hS
   exact Z.agW ⟨by omega, by assumption, hS⟩ (by repeat' first | exact trivial | (refine And.intro ?_ ?_) | exact rfl)
 obtain rfl : k = st.length := by omega
 have eF : fill3 c.ins.2.2.length st L2 st.length = fillC c.t st la inp := by
  unfold fillC
  rw [hL2, hMM, hsl]
 rw [eF] at hS hfl
 obtain ⟨_, _, _, _, _, _, _, _, _, u9, _, _, u12, _⟩ := (hg9 _ _ _ _ _ hS).1
 have hcL : (fillC c.t st la inp).length = M := by omega
 have hsubF : ∀ (w' : World) (P : World -> Prop) (a' : Option Addr) (cap' : Nat) (N' : List (Int × Int)), Known w F P -> Ext w w' -> Lt.Sep w.heap.size w' (stN w.heap.size gs a' cap' r N' ++ (prow 1 encI 3 w.heap.size (some ⟨gi, 0, none⟩) M (fillC c.t st la inp) :: pcell g9 v9.toArray 112 :: pcell gc c.vals.toArray 27 :: pcell g8 zeroW.toArray 112 :: F)) -> P w' := fun w' P a' cap' N' h1 h2 h3 =>
  h1.sep h2 h3 fun p hp => List.mem_append_right _ (List.mem_cons_of_mem _ (List.mem_cons_of_mem _ (List.mem_cons_of_mem _ (List.mem_cons_of_mem _ hp))))
 have hcp := aig_CopyV gs r capk cN M ak aN (some ⟨gi, 0, none⟩) N0 (cNet c.t).1 (fillC c.t st la inp) _ wm w hXm hS (by omega) (cNet_ok hg).2 (by omega) (fun w' a' cap' N' h1 h2 => hsubF w' _ a' cap' N' hkN h1 h2) (fun w' a' cap' N' h1 h2 => Own.row eIk (h2.row (i := 3) rfl))
 have eV : copyV N0 (cNet c.t).1 (fillC c.t st la inp) = foldV c.t st la inp := by unfold foldV; rw [hN0]
 rw [eV, hcL] at hcp
 obtain ⟨V, hV⟩ : ∃ V, V = foldV c.t st la inp := ⟨_, rfl⟩
 rw [<- hV] at hcp ⊢
 repeat' (first | (apply W.cKF; exact rfl; exact dFf (by omega)) | (apply WL.call (f := 103); (iterate 4 exact rfl); exact hcp; rintro v' wC ⟨hXC, a8, cap8, aO, cO, rfl, hSC⟩; have hbC : wC.heap[g9]? = some (.cells (foldW c aN cN aA cA (.slice aS st.length cS) (.pointer (some ⟨gs, 0, none⟩)) (.slice none 0 0)).toArray 112 (0, 0)) := (by have h := hSC.cell (i := 5) (gb := g9) rfl; rw [hv9] at h; exact h)) | (apply WL.storeF (w0 := w) tOk; (iterate 4 exact rfl); exact hbC; exact Ext.refl _; (iterate 4 exact rfl); exact hXC; exact Nat.le_trans hB3 hge9; intro wS hbS hXS hUS; have hSS := Sep.uCl (i := 5) rfl hUS hbS hSC (Ext.refl _) (Below.size hXC); have hcS : Cells wS g9 0 (foldW c aN cN aA cA (.slice aS st.length cS) (.pointer (some ⟨gs, 0, none⟩)) (.slice aO V.1.length cO)) := cHp hbS; have hb8S : wS.heap[g8]? = some (.cells zeroW.toArray 112 (0, 0)) := hSS.cell (i := 7) rfl) | (show WL _ _ _ (⟨none, .store _ (.tmp 8) _, _, _, _, _⟩ :: _) _ _ _; apply WL.storeB (w0 := w) tOk; (iterate 4 exact rfl); exact hb8S; exact Ext.refl _; kernel_rfl; kernel_rfl; kernel_rfl; exact hXS; exact Nat.le_trans (Below.size hxc) hge8; intro wE hbE hcE hXE hUE) | (first | apply WL.nil | refine WL.au (k := ?_)) | (first | apply Z.tn | apply Z.tnx | apply Z.bkx) | (first | apply W.seq | apply W.region | apply W.ret | apply W.exit))
 have hcE' : Cells wE g8 0 (foldW c aN cN aA cA (.slice aS st.length cS) (.pointer (some ⟨gs, 0, none⟩)) (.slice aO V.1.length cO)) := hcE
 have hXE0 : Ext w wE := hXE
 have hSE : Lt.Sep w.heap.size wE (stN w.heap.size gs a8 cap8 r V.2 ++ (prow 1 encI 3 w.heap.size aO cO V.1 :: prow 1 encI 3 w.heap.size (some ⟨gi, 0, none⟩) M (fillC c.t st la inp) :: pcell g9 (foldW c aN cN aA cA (.slice aS st.length cS) (.pointer (some ⟨gs, 0, none⟩)) (.slice aO V.1.length cO)).toArray 112 :: pcell gc c.vals.toArray 27 :: pcell g8 (foldW c aN cN aA cA (.slice aS st.length cS) (.pointer (some ⟨gs, 0, none⟩)) (.slice aO V.1.length cO)).toArray 112 :: F)) := Sep.uCl (i := 7) rfl hUE hbE hSS (Ext.refl _) (Below.size hXS)
 have RNE := hkN.sep hXE0 hSE (fun p hp => List.mem_append_right _ (List.mem_cons_of_mem _ (List.mem_cons_of_mem _ (List.mem_cons_of_mem _ (List.mem_cons_of_mem _ (List.mem_cons_of_mem _ hp))))))
 have RAE := hkA.sep hXE0 hSE (fun p hp => List.mem_append_right _ (List.mem_cons_of_mem _ (List.mem_cons_of_mem _ (List.mem_cons_of_mem _ (List.mem_cons_of_mem _ (List.mem_cons_of_mem _ hp))))))
 have ROE : Own 1 encI 3 w.heap.size wE aO cO V.1 := hSE.row (i := 3) rfl
 have hfrz : ∀ k, (w1.heap.size <= k /\ k < w2.heap.size) -> k < wE.heap.size := fun k hk => by
  rw [hF0] at hSE
  exact frz_ltF hSE (fun p hp => List.mem_append_right _ (List.mem_cons_of_mem _ (List.mem_cons_of_mem _ (List.mem_cons_of_mem _ (List.mem_cons_of_mem _ (List.mem_cons_of_mem _ hp)))))) hk.1 hk.2
 have hS3 := Sep.takeN hSE 3
 exact Z.bodyC tOk Tryz.results74 rfl rfl rfl rfl hcE' fun m => ⟨hXE0.at m, aN, cN, aA, cA, gs, r, a8, cap8, aO, cO, rfl, RNE.ext ((Ext.refl _).at m), RAE.ext ((Ext.refl _).at m), (ROE.row eIk).ext ((Ext.refl _).at m), hS3.ext ((Ext.refl _).at m), fun k hk => by
  rcases hk with hk | hk | hk
  ·exact ⟨Nat.le_trans hB1 (hbN k hk).1, hfrz k (hbN k hk)⟩
  ·exact ⟨Nat.le_trans hB1 (hbA k hk).1, hfrz k (hbA k hk)⟩
  ·exact ⟨(ROE.blk_lt k hk).1, (ROE.blk_lt k hk).2⟩⟩

structure OwnOk (c : CirT) (own : List Int) : Prop where
 len : own.length = (cNet c).1.length + 1
 all : ∀ z ∈ own, 0 <= z /\ z <= 4611686018427387904
theorem fold_ownOk {c : CirT} {st la inp : List Int} (hg : GoodC' c) (hz : SzC c 100000) (h : FoldOk c st la inp) (hll : la.length <= 100000) (hil : inp.length <= 100000) : OwnOk c (foldV c st la inp).1 := by
 obtain ⟨a1, a2, _, a4, _⟩ := fold_inv hg h
 have := net_len hg hz
 exact ⟨a1, fun z hz' => by have := a2 z hz'; unfold hasL at this; omega⟩
noncomputable abbrev flit (c : CirT) (own : List Int) (l : Int) : Int := litI own (cl c l)
theorem flit_bd {c : CirT} {own : List Int} (hg : GoodC' c) (ho : OwnOk c own) {l : Int} (hl : KnL c l) : ∃ z, own[(cl c l / 2).toNat]? = some z /\ 0 <= z /\ z <= 4611686018427387904 /\ flit c own l = xorI z (cl c l % 2) := by
 have hr : 0 <= cl c l /\ cl c l <= 2 * ((cNet c).1.length : Int) + 1 := knL_range hg hl
 obtain ⟨z, hz⟩ := getI own (show (cl c l / 2).toNat < own.length by rw [ho.len]; omega)
 obtain ⟨h1, h2⟩ := ho.all z (List.mem_of_getElem? hz)
 exact ⟨z, hz, h1, h2, litI_some hz⟩
theorem flit_in {c : CirT} {own : List Int} (hg : GoodC' c) (ho : OwnOk c own) {l : Int} (hl : KnL c l) : 0 <= flit c own l /\ flit c own l <= 4611686018427387905 := by
 obtain ⟨z, hz, h1, h2, h3⟩ := flit_bd hg ho hl
 rw [h3]
 unfold xorI Lt.xor1
 split <;> (try split) <;> omega
theorem coi_flit (c : Circ) (aN aA aO : Option Addr) (cN cA cO : Nat) (vs vp : Value) (own : List Int) (hg : GoodC' c.t) (hz : SzC c.t 100000) (ho : OwnOk c.t own) (l : Int) (hl : KnL c.t l) (w : World) (RA : Row 1 encI w aA (cNet c.t).2) (RO : Row 1 encI w aO own) (kvs : vs.oneCell' = true) (kvp : vp.oneCell' = true) :
  Pure Tryz.prog 75 [.agg (foldW c aN cN aA cA vs vp (.slice aO own.length cO)).toArray, .int .i64 l] w (.int .i64 (flit c.t own l)) := by
 obtain ⟨z, hzz, z1, z2, ez⟩ := flit_bd hg ho hl
 have hr := knL_range hg hl
 have hnl := net_len hg hz
 have hx0 : 0 <= cl c.t l := hr.1
 have hx1 : cl c.t l <= 600001 := by unfold cl; omega
 rw [ez]
 refine Spec.of _ Tryz.func75 rfl Tryz.ntmps75 (by kernel_rfl) rfl ?_
 repeat' (first | (apply WL.box; (iterate 3 exact rfl); intro gb w' hb hge hc hx; have hcc := hc; obtain ⟨h1, h2, h3, _⟩ := hc; (have hcells : Cells w' gb 0 (foldW c aN cN aA cA vs vp (.slice aO own.length cO)) := hcc; obtain ⟨y0, y1, y2, y3, y4, y5, y6, y7, y8, y9, y10, y11, y12, y13, _⟩ := id hcells; have hview : Cells w' gb (0 + 0) (viewV c aN cN aA cA) := ⟨y0, y1, y2, y3, y4, y5, y6, y7, y8, y9, y10, trivial⟩)) | (apply WL.andA; (iterate 4 exact rfl)) | (apply WL.xorI; (iterate 4 exact rfl); omega; omega) | (apply WL.callP (f := 84); (iterate 4 exact rfl); exact coi_lit c aN aA cN cA hg hz l hl _ (RA.ext extA); intro w' hx) | (first | apply WL.nil | refine WL.au (k := ?_) | (apply WL.index tOk; (iterate 8 exact rfl); assumption; exact extA; exact rfl; omega; assumption; intro b off h; have hcc := h; first | (obtain ⟨h1, h2, h3, h4, h5, h6, _⟩ := h) | (obtain ⟨h1, h2, h3, _⟩ := h) | (obtain ⟨h1, h2, _⟩ := h) | (obtain ⟨h1, _⟩ := h))) | apply Z.tn | (first | apply W.seq | apply W.region | apply W.ret))
 exact Z.bd1 Tryz.results75 rfl fun m => ⟨rfl, Ext.at extA m⟩
theorem coi_fall (c : Circ) (aN aA aO a : Option Addr) (cN cA cO cap : Nat) (vs vp : Value) (own l : List Int) (hg : GoodC' c.t) (hz : SzC c.t 100000) (ho : OwnOk c.t own) (hl : ∀ x ∈ l, KnL c.t x) (hll : l.length <= 1000000) (w : World) (RA : Row 1 encI w aA (cNet c.t).2) (RO : Row 1 encI w aO own) (R : Row 1 encI w a l) (kvs : vs.oneCell' = true) (kvp : vp.oneCell' = true) :
  Lt.Spec Tryz.prog 77 [.agg (foldW c aN cN aA cA vs vp (.slice aO own.length cO)).toArray, .slice a l.length cap] w (IsFresh 1 encI 3 w (l.map (flit c.t own))) := by
 refine Spec.of _ Tryz.func77 rfl Tryz.ntmps77 (by kernel_rfl) rfl ?_
 repeat' (first | (apply WL.box; (iterate 3 exact rfl); intro gf wf hb hge hc hxf; have hcc := hc; obtain ⟨h1, h2, h3, _⟩ := hc; (have hcells : Cells wf gf 0 (foldW c aN cN aA cA vs vp (.slice aO own.length cO)) := hcc)) | (apply WL.makeC (w0 := wf) (z := (0:Int)) tOk; (iterate 9 exact rfl); exact eIk; exact rfl; exact rfl; exact extA; omega; intro gl w8 hOL hgeL hxL) | (first | apply WL.nil | refine WL.au (k := ?_)) | apply Z.tn | (first | apply W.seq | apply W.region | apply W.block))
 have en : ((l.length : Nat) : Int).toNat = l.length := Int.toNat_natCast _
 have e0l : (List.replicate l.length (0 : Int)).length = l.length := List.length_replicate
 obtain ⟨f, hf⟩ : ∃ f : Nat -> Int, f = fun u => flit c.t own (l.getD u 0) := ⟨_, rfl⟩
 have e0 : preT l.length f (fun _ => 0) 0 = List.replicate l.length (0 : Int) := preT_zero e0l fun u x hx => rep_get hx
 rw [en] at hOL ⊢
 rw [<- e0] at hOL
 refine W.loopW l.length (fun k w' => k <= l.length /\ Ext wf w' /\ Own 1 encI 3 wf.heap.size w' (some ⟨gl, 0, none⟩) l.length (preT l.length f (fun _ => 0) k))
  (fun k => [(2, .pointer (some ⟨gf, 0, none⟩)), (5, .slice (some ⟨gl, 0, none⟩) l.length l.length), (11, .slice a l.length cap), (12, .int .i64 l.length), (13, .int .i64 k)]) ⟨by omega, hxL, hOL⟩ (fun k w' h => h.1) (by repeat' first | exact trivial | (refine And.intro ?_ ?_) | exact rfl | (rw [e0l]; exact rfl)) ?_
 clear hOL
 rintro k wk ⟨hk, hXk, hOk⟩
 have hpl := preT_len l.length f (fun _ => 0) k
 by_cases hlt : k < l.length
 ·obtain ⟨x, hx⟩ := getI l hlt
  have Rk := R.ext (hxf.trans hXk)
  have hkn := hl x (List.mem_of_getElem? hx)
  have hck := Cells.ext hXk hcells
  obtain ⟨y, hy⟩ := getI (preT l.length f (fun _ => 0) k) (show k < _ by omega)
  repeat' (first | (apply W.cKT; exact rfl; exact dTt (by omega)) | (apply WL.callP (f := 75); (iterate 4 exact rfl); exact coi_flit c aN aA aO cN cA cO vs vp own hg hz ho x hkn _ (RA.ext (hxf.trans hXk)) (RO.ext (hxf.trans hXk)) kvs kvp; intro w9 hx9; have hO := hOk.ext hx9) | (apply WL.indexO tOk; (iterate 8 exact rfl); assumption; exact extA; exact eIk; omega; omega; assumption; intro gb ha hc; cases ha; have hcc := hc; first | (obtain ⟨h1, h2, h3, _⟩ := hc) | (obtain ⟨h1, h2, _⟩ := hc) | (obtain ⟨h1, _⟩ := hc)) | (apply WL.storeO tOk; (iterate 4 exact rfl); assumption; exact extA; (iterate 3 exact rfl); exact eIk; assumption; exact rfl; exact extA; intro w' hO hX' hU) | (first | apply WL.nil | refine WL.au (k := ?_) | (apply WL.index tOk; (iterate 8 exact rfl); assumption; exact extA; exact rfl; omega; assumption; intro b off h; have hcc := h; first | (obtain ⟨h1, h2, h3, h4, h5, h6, _⟩ := h) | (obtain ⟨h1, h2, h3, _⟩ := h) | (obtain ⟨h1, h2, _⟩ := h) | (obtain ⟨h1, _⟩ := h))) | (first | apply Z.tn | apply Z.bkn) | (first | apply W.seq | apply W.region | apply W.block | apply W.skip))
  have hfk : flit c.t own x = f k := by rw [hf]; dsimp only; rw [gDo hx]
  rw [Int.toNat_natCast, preT_set hfk] at hO
  exact Z.agW ⟨by omega, extA, hO⟩ (by repeat' first | exact trivial | (refine And.intro ?_ ?_) | exact rfl)
 obtain rfl : k = l.length := by omega
 repeat' (first | (apply W.cKF; exact rfl; exact dFf (by omega)) | (first | apply WL.nil | refine WL.au (k := ?_)) | (first | apply Z.tn | apply Z.tnx | apply Z.bkx) | (first | apply W.seq | apply W.region | apply W.ret | apply W.exit))
 have e1 : preT l.length f (fun _ => 0) l.length = l.map (flit c.t own) := preT_all (List.length_map _) fun u x hx => by
  rw [List.getElem?_map] at hx
  obtain ⟨y, hy, rfl⟩ := Option.map_eq_some_iff.1 hx
  rw [hf]; dsimp only; rw [gDo hy]
 rw [e1] at hOk
 exact Z.bd1 Tryz.results77 rfl fun q => ⟨(hxf.trans hXk).at q, _, _, by rw [List.length_map], (hOk.base (Below.size hxf)).ext ((Ext.refl _).at q)⟩

def Mark (c : CirT) (kI kL : List Int) (v : Nat) : Prop := (1 <= v /\ v <= c.ins.length /\ ((v : Int) - 1) ∈ kI) ∨ ∃ k j, v = c.ins.length + 1 + k /\ (freeV c)[k]? = some j /\ j ∈ kL
def DoneX (c : CirT) (kI kL : List Int) (x : Int) : Prop := ∀ v : Nat, HangL (storeV c).2 x v -> InP (storeV c).2 v -> Mark c kI kL v
structure NdB (c : CirT) (prop : Int) (kI kL : List Int) : Prop where
 i : ∀ p ∈ kI, 0 <= p /\ p < (c.ins.length : Int) /\ Need c prop (p.toNat + 1)
 l : ∀ j ∈ kL, ∃ k, (freeV c)[k]? = some j /\ Need c prop (c.ins.length + 1 + k)
 nd : kL.Nodup
structure NdI (c : CirT) (prop : Int) (kI kL todo : List Int) : Prop where
 b : NdB c prop kI kL
 t : ∀ x ∈ todo, ∃ l, KnL c l /\ x = inSt c l /\ AllN c prop l
 w : ∀ l ∈ badL c prop :: c.cons, inSt c l ∈ todo ∨ DoneX c kI kL (inSt c l)
 e : ∀ j ∈ kL, ∀ t, c.lat[j.toNat]? = some t -> inSt c t.2.1 ∈ todo ∨ DoneX c kI kL (inSt c t.2.1)
structure NdJ (c : CirT) (prop : Int) (kI0 kL0 s : List Int) (q : Nat) (kI kL todo : List Int) : Prop where
 b : NdB c prop kI kL
 si : ∀ p ∈ kI0, p ∈ kI
 sl : ∀ j ∈ kL0, j ∈ kL
 t : ∀ x ∈ todo, ∃ j ∈ kL, ∃ t, c.lat[j.toNat]? = some t /\ x = inSt c t.2.1
 e : ∀ j ∈ kL, j ∈ kL0 ∨ ∀ t, c.lat[j.toNat]? = some t -> inSt c t.2.1 ∈ todo
 m : ∀ v ∈ s.take q, Mark c kI kL v.toNat
 g : kL0.length <= kL.length /\ (todo ≠ [] -> kL0.length < kL.length)
section
variable {c : CirT} {prop : Int} {kI kL kI0 kL0 todo : List Int}
theorem Mark.mono {v : Nat} {kI' kL' : List Int} (h : Mark c kI kL v) (h1 : ∀ p ∈ kI, p ∈ kI') (h2 : ∀ j ∈ kL, j ∈ kL') : Mark c kI' kL' v := by
 rcases h with ⟨a, b, d⟩ | ⟨k, j, a, b, d⟩
 ·exact .inl ⟨a, b, h1 _ d⟩
 ·exact .inr ⟨k, j, a, b, h2 _ d⟩
theorem DoneX.mono {x : Int} {kI' kL' : List Int} (h : DoneX c kI kL x) (h1 : ∀ p ∈ kI, p ∈ kI') (h2 : ∀ j ∈ kL, j ∈ kL') : DoneX c kI' kL' x := fun v a b => (h v a b).mono h1 h2
theorem ndI_first : NdI c prop [] [] (inSt c (badL c prop) :: c.cons.map (inSt c)) ∨ ¬ GoodC' c := by
 by_cases hg : GoodC' c
 ·left
  have hw : ∀ l ∈ badL c prop :: c.cons, inSt c l ∈ inSt c (badL c prop) :: c.cons.map (inSt c) := fun l hl => by
   rcases List.mem_cons.1 hl with rfl | hl
   ·exact List.mem_cons_self ..
   ·exact List.mem_cons_of_mem _ (List.mem_map.2 ⟨l, hl, rfl⟩)
  refine ⟨⟨fun p hp => (by cases hp), fun j hj => (by cases hj), List.nodup_nil⟩, fun x hx => ?_, fun l hl => .inl (hw l hl), fun j hj => (by cases hj)⟩
  rcases List.mem_cons.1 hx with rfl | hx
  ·exact ⟨_, bad_kn hg prop, rfl, want_all (List.mem_cons_self ..)⟩
  ·obtain ⟨l, hl, rfl⟩ := List.mem_map.1 hx
   exact ⟨l, kLu hg (used_con hl), rfl, want_all (List.mem_cons_of_mem _ hl)⟩
 ·exact .inr hg
theorem sup_mem {n : List (Int × Int)} {l : List Int} {v : Int} (h : v ∈ supL n l) : ∃ x ∈ l, HangL n x (v.toNat : Nat) /\ InP n v.toNat /\ 1 <= v := by
 obtain ⟨u, rfl, hu, ⟨h1, x, hx, hh⟩, hp⟩ := sel_mem.1 h
 refine ⟨x, hx, ?_, ?_, by omega⟩
 ·rw [Int.toNat_natCast]; exact hh
 ·rw [Int.toNat_natCast]; exact hp
theorem mem_sup {n : List (Int × Int)} {l : List Int} {x : Int} {v : Nat} (hx : x ∈ l) (h : HangL n x v) (hp : InP n v) : (v : Int) ∈ supL n l := by
 have h1 := h.2.2.1
 have h2 := h.2.1
 have h3 := h.2.2.2.1
 exact sel_mem.2 ⟨v, rfl, by omega, ⟨by omega, x, hx, h⟩, hp⟩
theorem ndI_meets (hg : GoodC' c) (h : NdI c prop kI kL todo) {v : Int} (hv : v ∈ supL (storeV c).2 todo) : Need c prop v.toNat /\ 1 <= v /\ v <= ((c.ins.length + (freeV c).length : Nat) : Int) := by
 obtain ⟨x, hx, hh, hp, h1⟩ := sup_mem hv
 obtain ⟨l, _, rfl, hn⟩ := h.t x hx
 have h2 := in_var (fold_only hg (store_ok hg)) (v := v.toNat) (by omega) hp
 rw [allI_len] at h2
 exact ⟨hn _ hh hp, h1, by omega⟩
theorem ndJ_first (h : NdI c prop kI kL todo) (s : List Int) : NdJ c prop kI kL s 0 kI kL [] :=
 ⟨h.b, fun _ h => h, fun _ h => h, fun x hx => (by cases hx), fun j hj => .inl hj, fun v hv => (by simp at hv), Nat.le_refl _, fun h => absurd rfl h⟩
variable {s : List Int} {q : Nat} {t2 : List Int}
theorem take_mem {s : List Int} {q : Nat} {v : Int} (hv : s[q]? = some v) {x : Int} (h : x ∈ s.take (q + 1)) : x ∈ s.take q ∨ x = v := by
 rw [tkS hv, List.mem_append, List.mem_singleton] at h; exact h
theorem ndJ_in (h : NdJ c prop kI0 kL0 s q kI kL t2) {v : Int} (hv : s[q]? = some v) (hn : Need c prop v.toNat) (h1 : 1 <= v) (h2 : v <= (c.ins.length : Int)) {kI' : List Int} (h3 : ∀ p, p ∈ kI' ↔ p ∈ kI ∨ p = v - 1) : NdJ c prop kI0 kL0 s (q + 1) kI' kL t2 := by
 have hsub : ∀ p ∈ kI, p ∈ kI' := fun p hp => (h3 p).2 (.inl hp)
 refine ⟨⟨fun p hp => ?_, h.b.l, h.b.nd⟩, fun p hp => hsub p (h.si p hp), h.sl, h.t, h.e, fun x hx => ?_, h.g⟩
 ·rcases (h3 p).1 hp with hp | rfl
  ·exact h.b.i p hp
  ·refine ⟨by omega, by omega, ?_⟩
   rw [show (v - 1).toNat + 1 = v.toNat by omega]; exact hn
 ·rcases take_mem hv hx with hx | rfl
  ·exact (h.m x hx).mono hsub fun _ h => h
  ·refine .inl ⟨by omega, by omega, (h3 _).2 (.inr ?_)⟩
   omega
theorem ndJ_old (h : NdJ c prop kI0 kL0 s q kI kL t2) {v j : Int} (hv : s[q]? = some v) (h1 : (c.ins.length : Int) < v) (hj : (freeV c)[(v - 1 - (c.ins.length : Int)).toNat]? = some j) (hm : j ∈ kL) : NdJ c prop kI0 kL0 s (q + 1) kI kL t2 := by
 refine ⟨h.b, h.si, h.sl, h.t, h.e, fun x hx => ?_, h.g⟩
 rcases take_mem hv hx with hx | rfl
 ·exact h.m x hx
 ·exact .inr ⟨_, j, by omega, hj, hm⟩
theorem ndJ_new (h : NdJ c prop kI0 kL0 s q kI kL t2) {v j : Int} {t : T3} (hv : s[q]? = some v) (hn : Need c prop v.toNat) (h1 : (c.ins.length : Int) < v) (hj : (freeV c)[(v - 1 - (c.ins.length : Int)).toNat]? = some j) (ht : c.lat[j.toNat]? = some t) (hm : j ∉ kL) : NdJ c prop kI0 kL0 s (q + 1) kI (kL ++ [j]) (t2 ++ [inSt c t.2.1]) := by
 have hsub : ∀ p ∈ kL, p ∈ kL ++ [j] := fun p hp => List.mem_append_left _ hp
 have hjm : j ∈ kL ++ [j] := List.mem_append_right _ (List.mem_singleton.2 rfl)
 refine ⟨⟨h.b.i, fun p hp => ?_, ?_⟩, h.si, fun p hp => hsub p (h.sl p hp), fun x hx => ?_, fun p hp => ?_, fun x hx => ?_, ?_, fun _ => ?_⟩
 ·rcases List.mem_append.1 hp with hp | hp
  ·exact h.b.l p hp
  ·rw [List.mem_singleton.1 hp]
   exact ⟨_, hj, by rw [show c.ins.length + 1 + (v - 1 - (c.ins.length : Int)).toNat = v.toNat by omega]; exact hn⟩
 ·refine List.nodup_append.2 ⟨h.b.nd, (by simp), fun a ha b hb => ?_⟩
  rw [List.mem_singleton.1 hb]
  intro e; subst e; exact hm ha
 ·rcases List.mem_append.1 hx with hx | hx
  ·obtain ⟨j', h2, h3⟩ := h.t x hx
   exact ⟨j', hsub _ h2, h3⟩
  ·rw [List.mem_singleton.1 hx]; exact ⟨j, hjm, t, ht, rfl⟩
 ·rcases List.mem_append.1 hp with hp | hp
  ·rcases h.e p hp with h2 | h2
   ·exact .inl h2
   ·exact .inr fun t' ht' => List.mem_append_left _ (h2 t' ht')
  ·rw [List.mem_singleton.1 hp]
   right
   intro t' ht'
   rw [ht] at ht'; cases ht'
   exact List.mem_append_right _ (List.mem_singleton.2 rfl)
 ·rcases take_mem hv hx with hx | rfl
  ·exact (h.m x hx).mono (fun _ h => h) hsub
  ·exact .inr ⟨_, j, by omega, hj, hjm⟩
 ·rw [List.length_append]; have := h.g.1; omega
 ·rw [List.length_append, List.length_singleton]; have := h.g.1; omega
theorem ndJ_end (hg : GoodC' c) (hI : NdI c prop kI0 kL0 todo) (hs : s = supL (storeV c).2 todo) (h : NdJ c prop kI0 kL0 s s.length kI kL t2) : NdI c prop kI kL t2 := by
 have hdone : ∀ x ∈ todo, DoneX c kI kL x := fun x hx v h1 h2 => by
  have h3 := mem_sup hx h1 h2
  rw [<- hs] at h3
  have h4 := h.m v (by rw [List.take_length]; exact h3)
  rw [Int.toNat_natCast] at h4; exact h4
 have keep : ∀ x, (x ∈ todo ∨ DoneX c kI0 kL0 x) -> DoneX c kI kL x := fun x hx => by
  rcases hx with hx | hx
  ·exact hdone x hx
  ·exact hx.mono h.si h.sl
 refine ⟨h.b, fun x hx => ?_, fun l hl => .inr (keep _ (hI.w l hl)), fun j hj t ht => ?_⟩
 ·obtain ⟨j, hj, t, ht, rfl⟩ := h.t x hx
  obtain ⟨k, hk, hn⟩ := h.b.l j hj
  exact ⟨t.2.1, kLu hg (used_next (List.mem_of_getElem? ht)), rfl, fun v h1 h2 => .step hn hk ht h1 h2⟩
 ·rcases h.e j hj with h2 | h2
  ·exact .inr (keep _ (hI.e j h2 t ht))
  ·exact .inl (h2 t ht)
theorem ndI_marks (h : NdI c prop kI kL []) {v : Nat} (hn : Need c prop v) : Mark c kI kL v := by
 induction hn with
 | base hl h1 h2 =>
  rcases h.w _ hl with h3 | h3
  ·cases h3
  ·exact h3 _ h1 h2
 | step _ hk ht h1 h2 ih =>
  rename_i k v' j t hn'
  rcases ih with ⟨_, a, _⟩ | ⟨k', j', e, hk', hm⟩
  ·omega
  ·have : k' = k := by omega
   subst this
   rw [hk] at hk'; cases hk'
   rcases h.e _ hm _ ht with h3 | h3
   ·cases h3
   ·exact h3 _ h1 h2
theorem allI_sel (m : Nat) : allI m = sel m (fun _ => True) := by
 unfold allI sel
 rw [List.filter_eq_self.2 fun u _ => dTt trivial]
theorem ndI_in (h : NdI c prop kI kL []) : (allI c.ins.length).filter (fun v => dec (v ∈ kI)) = inV c prop := by
 rw [allI_sel, sel_filter]
 unfold inV
 refine sel_congr fun u hu => ⟨fun hh => ?_, fun hh => ⟨trivial, ?_⟩⟩
 ·have := (h.b.i _ hh.2).2.2
  rw [Int.toNat_natCast] at this; exact this
 ·rcases ndI_marks h hh with ⟨_, _, a⟩ | ⟨k, j, e, _, _⟩
  ·rw [show (((u + 1 : Nat) : Int) - 1) = (u : Int) by omega] at a; exact a
  ·omega
theorem ndI_la (h : NdI c prop kI kL []) : (freeV c).filter (fun v => dec (v ∈ kL)) = laV c prop := by
 unfold freeV
 rw [sel_filter]
 unfold laV
 refine sel_congr fun u hu => ⟨fun hh => ?_, fun hh => ?_⟩
 ·exact h.b.l _ hh.2
 ·obtain ⟨k, hk, hn⟩ := hh
  have hf := free_mem.1 (List.mem_of_getElem? hk)
  refine ⟨by have := hf.2.2; rwa [Int.toNat_natCast] at this, ?_⟩
  rcases ndI_marks h hn with ⟨_, a, _⟩ | ⟨k', j', e, hk', hm⟩
  ·omega
  ·have : k' = k := by omega
   subst this
   rw [hk] at hk'; cases hk'; exact hm
theorem nd_len (h : NdB c prop kI kL) : kL.length <= c.lat.length := by
 have hsub : ∀ j ∈ kL, j ∈ freeV c := fun j hj => by
  obtain ⟨k, hk, _⟩ := h.l j hj
  exact List.mem_of_getElem? hk
 have h1 := List.Nodup.length_le_of_subset h.nd hsub
 have h2 : (freeV c).length <= c.lat.length := sel_le _ _
 omega
end

noncomputable def outQ (st : List Int) (x : Int) : Bool := dec (st.getD x.toNat 0 ≠ 2)
theorem coi_Needs1 (g6 cS : Nat) (aS : Option Addr) (st : List Int) (x : Int) (w : World) (hc : w.cell? ⟨g6, 0, none⟩ = some (.slice aS st.length cS)) (RS : Row 1 encI w aS st) (hx : 0 <= x /\ x.toNat < st.length) :
  Still Tryz.prog 87 ([.int .i64 x] ++ [.pointer (some ⟨g6, 0, none⟩)]) w (.bool (outQ st x)) := by
 obtain ⟨z, hz⟩ := getI st hx.2
 have e : outQ st x = dec (z ≠ 2) := by unfold outQ; rw [gDo hz]
 rw [e]
 refine Spec.of _ Tryz.func87 rfl Tryz.ntmps87 (by kernel_rfl) rfl ?_
 repeat' (first | (first | apply WL.nil | refine WL.au (k := ?_) | (apply WL.index tOk; (iterate 8 exact rfl); assumption; exact extA; exact rfl; omega; assumption; intro b off h; have hcc := h; first | (obtain ⟨h1, h2, h3, h4, h5, h6, _⟩ := h) | (obtain ⟨h1, h2, h3, _⟩ := h) | (obtain ⟨h1, h2, _⟩ := h) | (obtain ⟨h1, _⟩ := h))) | apply Z.tn | (first | apply W.seq | apply W.region | apply W.ret))
 exact Z.bd1 Tryz.results87 rfl fun m => ⟨rfl, m, rfl⟩
theorem coi_Needs21 (g3 r : Nat) (ks : List Int) (x : Int) (w : World) (hc : w.cell? ⟨g3, 0, none⟩ = some (.map (some r))) (hM : MapIs encK isB w r (keysL true ks)) :
  Still Tryz.prog 90 ([.int .i64 x] ++ [.pointer (some ⟨g3, 0, none⟩)]) w (.bool (!dec (x ∈ ks))) := by
 refine Spec.of _ Tryz.func90 rfl Tryz.ntmps90 (by kernel_rfl) rfl ?_
 repeat' (first | (apply WL.lookKeys tOk keyI; (iterate 8 exact rfl); exact hM) | (first | apply WL.nil | refine WL.au (k := ?_)) | apply Z.tn | (first | apply W.seq | apply W.region | apply W.ret))
 exact Z.bd1 Tryz.results90 rfl fun m => ⟨rfl, m, rfl⟩
theorem upd_map {B r : Nat} {a : Option Addr} {w w' : World} {ks : List Int} (hM : MapIs encK isB w r (keysL true ks)) (hU : Upd B a w w') (hr : blk a ≠ some r) : MapIs encK isB w' r (keysL true ks) := by
 refine hM.keep (hU.grown.block r hM.lt fun he => hr ?_)
 exact he.symm
theorem coi_Needs2 (a : Option Addr) (cap r : Nat) (l ks : List Int) (w w0 : World) (ho : Own 1 encI 3 w0.heap.size w a cap l) (hX : Ext w0 w) (hl : l.length <= 1000000) (hM : MapIs encK isB w r (keysL true ks)) (hr : blk a ≠ some r) :
  Lt.Spec Tryz.prog 89 [.slice a l.length cap, .map (some r)] w (fun v w' => Ext w0 w' /\ v = .slice a (l.filter (fun x => dec (x ∈ ks))).length cap /\ Own 1 encI 3 w0.heap.size w' a cap (l.filter (fun x => dec (x ∈ ks))) /\ ∀ g, g < w.heap.size -> blk a ≠ some g -> w'.heap[g]? = w.heap[g]?) := by
 refine Spec.of _ Tryz.func89 rfl Tryz.ntmps89 (by kernel_rfl) rfl ?_
 have hcl : ∀ w1 g3 w', Ext w w1 -> w1.heap[g3]? = some (.cells #[.map (some r)] 122 (0, 0)) -> w.heap.size <= g3 -> Upd w0.heap.size a w1 w' -> w'.cell? ⟨g3, 0, none⟩ = some (.map (some r)) /\ MapIs encK isB w' r (keysL true ks) := fun w1 g3 w' hx1 hb1 hge1 hU9 => by
  have h1 : w'.heap[g3]? = w1.heap[g3]? := hU9.grown.block g3 (heap_lt hb1) fun he => by
   have h2 := ho.blk_lt g3 he.symm
   omega
  rw [hb1] at h1
  exact ⟨(cHp h1).1, upd_map (hM.ext hx1) hU9 hr⟩
 repeat' (first | (apply WL.box; (iterate 3 exact rfl); intro g3 w1 hb1 hge1 hc hx1; have hcc := hc; (first | (obtain ⟨h1, h2, h3, _⟩ := hc) | (obtain ⟨h1, h2, _⟩ := hc))) | (apply WL.call (f := 85); (iterate 4 exact rfl); exact slices_DeleteFuncU a cap l 90 [.pointer (some ⟨g3, 0, none⟩)] (fun x => !dec (x ∈ ks)) w1 w0 (ho.ext hx1) (hX.trans hx1) (by omega) (fun w' _ hU9 x _ => coi_Needs21 g3 r ks x w' (hcl w1 g3 w' hx1 hb1 hge1 hU9).1 (hcl w1 g3 w' hx1 hb1 hge1 hU9).2); rintro v' w2 ⟨hX2, hU2, rfl, hO2⟩; simp only [Bool.not_not] at hO2 ⊢) | (first | apply WL.nil | refine WL.au (k := ?_)) | apply Z.tn | (first | apply W.seq | apply W.region | apply W.ret))
 exact Z.bd1 Tryz.results89 rfl fun m => ⟨hX2.at m, rfl, hO2.ext ((Ext.refl _).at m), fun g hg hne => (hU2.grown.block g (Nat.lt_of_lt_of_le hg (Below.size hx1)) (fun he => hne he.symm)).trans (hx1.block g hg)⟩
theorem free_out (c : CirT) : (allI c.lat.length).filter (fun x => !outQ (skV c) x) = freeV c := by
 have e : (fun x => !outQ (skV c) x) = fun v => dec ((skV c).getD v.toNat 0 = 2) := by
  funext x
  unfold outQ
  by_cases h : (skV c).getD x.toNat 0 = 2
  ·rw [dFf (fun hh => hh h), dTt h]; rfl
  ·rw [dTt h, dFf h]; rfl
 rw [e, allI_sel, sel_filter]
 unfold freeV
 refine sel_congr fun u _ => ⟨fun h => ?_, fun h => ⟨trivial, ?_⟩⟩
 ·have := h.2; rwa [Int.toNat_natCast] at this
 ·rwa [Int.toNat_natCast]

structure MAt (w : World) (gm : Nat) (c : Circ) (rn : RowV (Int × Int)) (ra : RowV Int) : Prop where
 cells : Cells w gm 0 (c.vals ++ [rowVal rn, rowVal ra])
 cat : CAt w c
 net : Row 2 encN w rn.1 rn.2.2
 at_ : Row 1 encI w ra.1 ra.2.2
 en : rn.2.2 = (cNet c.t).1
 ea : ra.2.2 = (cNet c.t).2
 good : GoodC' c.t
 size : SzC c.t 100000
theorem MAt.ext {w w' : World} {gm : Nat} {c : Circ} {rn : RowV (Int × Int)} {ra : RowV Int} (h : MAt w gm c rn ra) (hx : Ext w w') : MAt w' gm c rn ra :=
 ⟨h.cells.ext hx, h.cat.ext hx, h.net.ext hx, h.at_.ext hx, h.en, h.ea, h.good, h.size⟩

theorem ref17_Brought (a : Option Addr) (cap : Nat) (l : List Bool) (m : Nat) (w : World) (R : Row 1 encB w a l) (hm : m <= 1048576) :
  Lt.Spec Tryz.prog 99 [.slice a l.length cap, .int .i64 (m : Nat)] w (IsFresh 1 encB 4 w (brV l m)) := by
 have hlen := R.len
 refine Spec.of _ Tryz.func99 rfl Tryz.ntmps99 (by kernel_rfl) rfl ?_
 repeat' (first | (apply WL.lit (len := 0) tOk; (iterate 6 exact rfl); kernel_rfl; exact rfl; intro gb w' hb hge hc hx; have hO0 := Own.ofB0 (enc := encB) (s := 1) hb hge) | (first | apply WL.nil | refine WL.au (k := ?_)) | apply Z.tn | (first | apply W.seq | apply W.region | apply W.block))
 refine W.loopO m (fun k d dp w' => k <= m /\ Ext w w' /\ Own 1 encB 4 w.heap.size w' d dp (brV l k)) (fun k d dp => [(0, .slice a l.length cap), (1, .int .i64 (m : Nat)), (5, .slice d (brV l k).length dp), (6, .int .i64 k)]) (some ⟨gb, 0, none⟩) 0 ⟨Nat.zero_le _, hx, hO0⟩ (fun k d dp w' h => h.1) ⟨rfl, rfl, rfl, rfl, trivial⟩ ?_
 rintro k d dp w' ⟨hk, hx', hO'⟩
 have hbl := brV_len l k
 have e1 := brV_succ l k
 by_cases hlt : k < m
 ·by_cases hkl : k < l.length
  ·obtain ⟨z, hz⟩ := getI l hkl
   rw [gDo hz] at e1
   repeat' (first | (apply WL.gT; exact rfl; exact rfl; exact dTt (by omega)) | (apply W.cKT; exact rfl; exact dTt (by omega)) | (apply WL.lit tOk; (iterate 6 exact rfl); kernel_rfl; exact rfl; intro gb w' hb hge hc hx) | (apply WL.ap1 (z := (z)) tOk eBk; (iterate 10 exact rfl); assumption; exact extA; exact rfl; assumption; exact rfl; exact rfl; exact extA; omega; intro a' cap' w' hO hX' hU hF) | (first | apply WL.nil | refine WL.au (k := ?_) | (apply WL.index tOk; (iterate 8 exact rfl); assumption; exact extA; exact rfl; omega; assumption; intro b off h; have hcc := h; first | (obtain ⟨h1, h2, h3, h4, h5, h6, _⟩ := h) | (obtain ⟨h1, h2, h3, _⟩ := h) | (obtain ⟨h1, h2, _⟩ := h) | (obtain ⟨h1, _⟩ := h))) | (first | apply Z.tn | apply Z.bkn) | (first | apply W.seq | apply W.region | apply W.block | apply W.skip))
   exact Z.agO a' cap' ⟨by omega, hX', by rw [e1]; exact hO⟩ (by repeat' first | exact trivial | (refine And.intro ?_ ?_) | exact rfl | (rw [e1]; exact rfl))
  ·rw [List.getD, List.getElem?_eq_none (by omega)] at e1
   have e1 : brV l (k + 1) = brV l k ++ [false] := e1
   repeat' (first | (apply WL.gF; exact rfl; exact rfl; exact dFf (by omega)) | (apply W.cKT; exact rfl; (focus (exact dTt (by omega)))) | (apply WL.lit tOk; (iterate 6 exact rfl); kernel_rfl; exact rfl; intro gb w' hb hge hc hx) | (apply WL.ap1 (z := (false)) tOk eBk; (iterate 10 exact rfl); assumption; exact extA; exact rfl; assumption; exact rfl; exact rfl; exact extA; omega; intro a' cap' w' hO hX' hU hF) | (first | apply WL.nil | refine WL.au (k := ?_) | (apply WL.gdF; exact rfl; exact rfl)) | (first | apply Z.tn | apply Z.bkn) | (first | apply W.seq | apply W.region | apply W.block | apply W.skip))
   exact Z.agO a' cap' ⟨by omega, hX', by rw [e1]; exact hO⟩ (by repeat' first | exact trivial | (refine And.intro ?_ ?_) | exact rfl | (rw [e1]; exact rfl))
 ·obtain rfl : k = m := by omega
  repeat' (first | (apply W.cKF; exact rfl; exact dFf (by omega)) | (first | apply WL.nil | refine WL.au (k := ?_)) | (first | apply Z.tn | apply Z.tnx | apply Z.bkx) | (first | apply W.seq | apply W.region | apply W.ret | apply W.exit))
  exact Z.bd1 Tryz.results99 rfl fun m => ⟨hx'.at m, d, dp, rfl, hO'⟩

theorem ref17_Lit (gm : Nat) (c : Circ) (rn : RowV (Int × Int)) (ra : RowV Int) (a b : Option Addr) (ca cb : Nat) (s i : List Bool) (l : Int) (w : World) (hM : MAt w gm c rn ra) (Rs : Row 1 encB w a s) (Ri : Row 1 encB w b i) (hl : l ∈ c.t.used) :
  Pure Tryz.prog 101 [.pointer (some ⟨gm, 0, none⟩), .slice a s.length ca, .slice b i.length cb, .int .i64 l] w (.bool (litV c.t s i l)) := by
 obtain ⟨hcells, hC, Rn, Ra, en, ea, hg, hz⟩ := hM
 have hcells0 := hcells
 obtain ⟨y0, y1, y2, y3, y4, y5, y6, y7, y8, y9, y10, _⟩ := hcells
 have hnl := Nat.le_trans (net_len hg hz) (show 300000 <= 1048576 by omega)
 have hng := (cNet_ok hg).2
 rw [<- en] at hnl hng
 obtain ⟨z, z1, z2, z3, z4⟩ := net_lit hg hl
 have hlu := hg.used l hl
 have hmx := hg.max
 rw [<- ea] at z1
 rw [<- en] at z4
 have k1 : c.ins.2.2.length <= 100000 := hz.1
 have k2 : c.lat.2.2.length <= 100000 := hz.2.1
 have b1 := brV_len i c.ins.2.2.length
 have b2 := brV_len s c.lat.2.2.length
 have hvl := values_len' rn.2.2 (brV i c.ins.2.2.length ++ brV s c.lat.2.2.length)
 have ez : litV c.t s i l = (ofL (values rn.2.2 (brV i c.ins.2.2.length ++ brV s c.lat.2.2.length)) z != decide (l % 2 = 1)) := by
  rw [litV_ref z1 z2, en, ea]; rfl
 refine Spec.of _ Tryz.func101 rfl Tryz.ntmps101 (by kernel_rfl) rfl ?_
 repeat' (first | (apply FL.nilc; (iterate 3 exact rfl)) | (show W _ _ (.region 1 _ _) _ _ _; apply W.regionGX (.fl true 0 (.fl true 1 (.fl true 2 (.fl true 3 (.fl true 4 (.fl true 8 (.fl true 9 (.fl true 10 (.fl true 11 (.fl true 12 (.fl false 5 (.fl true 6 (.fl false 13 (.fl true 14 (.br 7 (.br 15 (.br 16 (.fl true 17 .done) .stop) .stop) .stop))))))))))))))) [7, 13, 14, 15, 16] tMix; kernel_rfl) | (apply WL.call (f := 99); (iterate 4 exact rfl); exact ref17_Brought _ _ i c.ins.2.2.length _ (Ri.ext extA) (by omega); rintro v' w1 ⟨hx, a1, c1, rfl, hO1⟩) | (apply WL.call (f := 99); (iterate 4 exact rfl); exact ref17_Brought _ _ s c.lat.2.2.length _ (Rs.ext extA) (by omega); rintro v' w' ⟨hx, a2, c2, rfl, hO2⟩; (have R2 := hO2.row eBk; have n2 := hO2.nCp)) | (apply WL.appendS tOk eBk; (iterate 10 exact rfl); assumption; exact extA; exact rfl; assumption; exact extA; exact rfl; assumption; exact rfl; exact extA; omega; intro a' cap' w' hO hX' hU hF) | (first | (apply SX.done; intro w' hx) | (apply SX.fl0; exact rfl) | (apply SX.fl1; exact rfl; exact extA) | (apply SX.br1; exact rfl; intro w' hx)) | (first | apply FL.nilX | (apply FL.loadE tOk; (iterate 5 exact rfl); assumption)) | refine FL.au (k := ?_) | (apply Z.sxE; exact extA) | (first | apply WL.nil | refine WL.au (k := ?_)) | apply Z.tn | (first | apply W.seq | apply W.region))
 obtain ⟨w5, rfl⟩ : ∃ x, x = w' := ⟨_, rfl⟩; obtain ⟨a5, rfl⟩ : ∃ x, x = a' := ⟨_, rfl⟩; obtain ⟨c5, rfl⟩ : ∃ x, x = cap' := ⟨_, rfl⟩
 have hX5 : Ext w w5 := extA
 have Rv := hO.row eBk
 have Ra5 := Ra.ext hX5
 clear y0 y1 y2 y3 y4 y5 y6 y7 y8 y9 y10
 have hcells := hcells0.ext hX5
 obtain ⟨y0, y1, y2, y3, y4, y5, y6, y7, y8, y9, y10, _⟩ := hcells
 repeat' (first | (apply FL.nilc; (iterate 3 exact rfl)) | (show W _ _ (.region 2 _ _) _ _ _; apply W.regionGX (.fl true 0 (.fl true 1 (.fl true 2 (.fl true 4 (.fl true 6 (.fl true 7 (.fl true 8 (.fl true 10 (.fl true 11 (.fl true 15 (.fl true 16 (.fl true 17 (.fl false 3 (.fl false 9 (.fl true 12 (.fl false 13 (.br 5 (.br 14 (.fl true 18 (.fl true 19 .done)) .stop) .stop))))))))))))))))) [5, 9, 12, 13, 14, 18] tMix; kernel_rfl) | (apply WL.call (f := 72); (iterate 4 exact rfl); exact ref07_Values _ _ _ _ rn.2.2 _ _ (Rn.ext extA) (Rv.ext extA) hng hnl; rintro v' w' ⟨hx, av, cv, rfl, hOv⟩; (have RV := hOv.row eBk)) | (apply WL.callS (f := 131); (iterate 4 exact rfl); exact ref07_Of _ _ _ z _ (RV.ext extA) ⟨z2, by omega, by omega⟩) | (first | (apply SX.done; intro w' hx) | (apply SX.fl0; exact rfl) | (apply SX.fl1; exact rfl; exact extA) | (apply SX.br1; exact rfl; intro w' hx)) | (first | apply FL.nilX | (apply FL.loadE tOk; (iterate 5 exact rfl); assumption) | (apply FL.indexE tOk; (iterate 8 exact rfl); assumption; exact rfl; omega; assumption; intro b off h; have hcc := h; first | (obtain ⟨h1, h2, h3, h4, h5, h6, _⟩ := h) | (obtain ⟨h1, h2, h3, _⟩ := h) | (obtain ⟨h1, h2, _⟩ := h) | (obtain ⟨h1, _⟩ := h))) | refine FL.au (k := ?_) | (apply Z.sxE; exact extA) | apply WL.nil | apply Z.tn | apply W.ret)
 exact Z.bd1 Tryz.results101 rfl fun m => ⟨by rw [ez]; exact congrArg Value.bool (by rw [dec_ne_dec]), Ext.at extA m⟩

theorem ref17_Starts (gm : Nat) (c : Circ) (rn : RowV (Int × Int)) (ra : RowV Int) (a : Option Addr) (ca : Nat) (s : List Bool) (w : World) (hM : MAt w gm c rn ra) (Rs : Row 1 encB w a s) :
  Still Tryz.prog 40 [.pointer (some ⟨gm, 0, none⟩), .slice a s.length ca] w (.bool (dec (StartsP c.t s))) := by
 obtain ⟨hcells, hC, Rn, Ra, en, ea, hg, hz⟩ := hM
 obtain ⟨y0, y1, y2, _⟩ := hcells
 have k2 : c.lat.2.2.length <= 100000 := hz.2.1
 have Rl := hC.lat.row
 have hsl := Rs.len
 by_cases he : s.length = c.lat.2.2.length
 rotate_left
 ·have e : dec (StartsP c.t s) = false := dFf fun h => he h.1
  refine Spec.of _ Tryz.func40 rfl Tryz.ntmps40 (by kernel_rfl) rfl ?_
  repeat' (first | (apply WL.nilc; (iterate 3 exact rfl)) | (apply W.cKT; exact rfl; exact dTt (by omega)) | (first | apply WL.nil | refine WL.au (k := ?_)) | (first | apply Z.tn | apply Z.tnr) | (first | apply W.seq | apply W.region | apply W.ret))
  exact Z.bd1 Tryz.results40 rfl fun m => ⟨by rw [e], m, rfl⟩
 refine Spec.of _ Tryz.func40 rfl Tryz.ntmps40 (by kernel_rfl) rfl ?_
 repeat' (first | (apply WL.nilc; (iterate 3 exact rfl)) | (apply W.cKF; exact rfl; exact dFf (by omega)) | (first | apply WL.nil | refine WL.au (k := ?_)) | apply Z.tn | (first | apply W.seq | apply W.region | apply W.block | apply W.skip))
 refine W.loop1 s.length (fun k => k <= s.length /\ ∀ (j : Nat) x b, j < k -> c.lat.2.2[j]? = some x -> s[j]? = some b -> ¬ (x.2.2 = 0 /\ b = true) /\ ¬ (x.2.2 = 1 /\ b = false)) (fun k => [(0, .pointer (some ⟨gm, 0, none⟩)), (1, .slice a s.length ca), (5, .int .i64 k)]) ⟨Nat.zero_le _, fun j x b h => by omega⟩ (fun k h => h.1) ⟨rfl, rfl, rfl, trivial⟩ ?_
 rintro k ⟨hk, hall⟩
 by_cases hlt : k < s.length
 ·obtain ⟨b, hb⟩ := getI s hlt
  obtain ⟨x, hx⟩ := getI c.lat.2.2 (show k < c.lat.2.2.length by omega)
  have hstep : (¬ (x.2.2 = 0 /\ b = true) /\ ¬ (x.2.2 = 1 /\ b = false)) -> ∀ (j : Nat) x b, j < k + 1 -> c.lat.2.2[j]? = some x -> s[j]? = some b -> ¬ (x.2.2 = 0 /\ b = true) /\ ¬ (x.2.2 = 1 /\ b = false) := by
   intro h j y d hj h1 h2
   by_cases hjk : j = k
   ·subst hjk; rw [hx] at h1; rw [hb] at h2; cases h1; cases h2; exact h
   ·exact hall j y d (by omega) h1 h2
  by_cases h0 : x.2.2 = 0
  ·cases b
   ·repeat' (first | (apply WL.nilc; (iterate 3 exact rfl)) | (apply WL.gT; exact rfl; exact rfl; (focus (exact dTt (by omega)))) | (apply WL.gF; exact rfl; exact rfl; exact dFf (by omega)) | (apply W.cKT; exact rfl; (focus (exact dTt (by omega)))) | (first | apply WL.nil | refine WL.au (k := ?_) | (apply WL.index tOk; (iterate 8 exact rfl); assumption; exact extA; exact rfl; omega; assumption; intro b off h; have hcc := h; first | (obtain ⟨h1, h2, h3, h4, h5, h6, _⟩ := h) | (obtain ⟨h1, h2, h3, _⟩ := h) | (obtain ⟨h1, h2, _⟩ := h) | (obtain ⟨h1, _⟩ := h)) | (apply WL.gdF; exact rfl; exact rfl)) | (first | apply Z.tn | apply Z.bkn) | (first | apply W.seq | apply W.region | apply W.block | apply W.skip | (apply W.condF; exact rfl)))
    exact Z.again1 ⟨by omega, hstep ⟨by simp, by omega⟩⟩ ⟨rfl, rfl, rfl, trivial⟩
   ·have e : dec (StartsP c.t s) = false := dFf fun h => (h.2 k x true hx hb).1 ⟨h0, rfl⟩
    repeat' (first | (apply WL.nilc; (iterate 3 exact rfl)) | (apply WL.gT; exact rfl; exact rfl; (focus (exact dTt (by omega)))) | (apply W.cKT; exact rfl; (focus (exact dTt (by omega)))) | (first | apply WL.nil | refine WL.au (k := ?_) | (apply WL.index tOk; (iterate 8 exact rfl); assumption; exact extA; exact rfl; omega; assumption; intro b off h; have hcc := h; first | (obtain ⟨h1, h2, h3, h4, h5, h6, _⟩ := h) | (obtain ⟨h1, h2, h3, _⟩ := h) | (obtain ⟨h1, h2, _⟩ := h) | (obtain ⟨h1, _⟩ := h)) | (apply WL.gdF; exact rfl; exact rfl)) | (first | apply Z.tn | apply Z.tnr | apply Z.bkr) | (first | apply W.seq | apply W.region | apply W.block | apply W.skip | apply W.ret | (apply W.condT; exact rfl)))
    exact Z.bd1 Tryz.results40 rfl fun m => ⟨by rw [e], m, rfl⟩
  ·by_cases h1 : x.2.2 = 1
   ·cases b
    ·have e : dec (StartsP c.t s) = false := dFf fun h => (h.2 k x false hx hb).2 ⟨h1, rfl⟩
     repeat' (first | (apply WL.nilc; (iterate 3 exact rfl)) | (apply WL.gT; exact rfl; exact rfl; (focus (exact dTt (by omega)))) | (apply WL.gF; exact rfl; exact rfl; exact dFf (by omega)) | (apply W.cKT; exact rfl; (focus (exact dTt (by omega)))) | (first | apply WL.nil | refine WL.au (k := ?_) | (apply WL.index tOk; (iterate 8 exact rfl); assumption; exact extA; exact rfl; omega; assumption; intro b off h; have hcc := h; first | (obtain ⟨h1, h2, h3, h4, h5, h6, _⟩ := h) | (obtain ⟨h1, h2, h3, _⟩ := h) | (obtain ⟨h1, h2, _⟩ := h) | (obtain ⟨h1, _⟩ := h)) | (apply WL.gdF; exact rfl; exact rfl)) | (first | apply Z.tn | apply Z.tnr | apply Z.bkr) | (first | apply W.seq | apply W.region | apply W.block | apply W.skip | apply W.ret | (apply W.condT; exact rfl)))
     exact Z.bd1 Tryz.results40 rfl fun m => ⟨by rw [e], m, rfl⟩
    ·repeat' (first | (apply WL.nilc; (iterate 3 exact rfl)) | (apply WL.gT; exact rfl; exact rfl; (focus (exact dTt (by omega)))) | (apply WL.gF; exact rfl; exact rfl; exact dFf (by omega)) | (apply W.cKT; exact rfl; (focus (exact dTt (by omega)))) | (first | apply WL.nil | refine WL.au (k := ?_) | (apply WL.index tOk; (iterate 8 exact rfl); assumption; exact extA; exact rfl; omega; assumption; intro b off h; have hcc := h; first | (obtain ⟨h1, h2, h3, h4, h5, h6, _⟩ := h) | (obtain ⟨h1, h2, h3, _⟩ := h) | (obtain ⟨h1, h2, _⟩ := h) | (obtain ⟨h1, _⟩ := h)) | (apply WL.gdF; exact rfl; exact rfl)) | (first | apply Z.tn | apply Z.bkn) | (first | apply W.seq | apply W.region | apply W.block | apply W.skip | (apply W.condF; exact rfl)))
     exact Z.again1 ⟨by omega, hstep ⟨by omega, by simp⟩⟩ ⟨rfl, rfl, rfl, trivial⟩
   ·repeat' (first | (apply WL.nilc; (iterate 3 exact rfl)) | (apply WL.gF; exact rfl; exact rfl; exact dFf (by omega)) | (apply W.cKT; exact rfl; (focus (exact dTt (by omega)))) | (first | apply WL.nil | refine WL.au (k := ?_) | (apply WL.index tOk; (iterate 8 exact rfl); assumption; exact extA; exact rfl; omega; assumption; intro b off h; have hcc := h; first | (obtain ⟨h1, h2, h3, h4, h5, h6, _⟩ := h) | (obtain ⟨h1, h2, h3, _⟩ := h) | (obtain ⟨h1, h2, _⟩ := h) | (obtain ⟨h1, _⟩ := h)) | (apply WL.gdF; exact rfl; exact rfl)) | (first | apply Z.tn | apply Z.bkn) | (first | apply W.seq | apply W.region | apply W.block | apply W.skip | (apply W.condF; exact rfl)))
    exact Z.again1 ⟨by omega, hstep ⟨by omega, by omega⟩⟩ ⟨rfl, rfl, rfl, trivial⟩
 ·obtain rfl : k = s.length := by omega
  have e : dec (StartsP c.t s) = true := dTt ⟨he, fun j x b h1 h2 => hall j x b (lGt h2) h1 h2⟩
  repeat' (first | (apply W.cKF; exact rfl; exact dFf (by omega)) | (first | apply WL.nil | refine WL.au (k := ?_)) | (first | apply Z.tn | apply Z.tnx | apply Z.bkx) | (first | apply W.seq | apply W.region | apply W.ret | apply W.exit))
  exact Z.bd1 Tryz.results40 rfl fun m => ⟨by rw [e], m, rfl⟩

theorem nextT_succ {c : CirT} {s i : List Bool} {k : Nat} {x : T3} (h : c.lat[k]? = some x) : (c.lat.take (k + 1)).map (fun x => litV c s i x.2.1) = (c.lat.take k).map (fun x => litV c s i x.2.1) ++ [litV c s i x.2.1] := by
 rw [tkS h, List.map_append]; rfl
theorem ref17_Next (gm : Nat) (c : Circ) (rn : RowV (Int × Int)) (ra : RowV Int) (a b : Option Addr) (ca cb : Nat) (s i : List Bool) (w : World) (hM : MAt w gm c rn ra) (Rs : Row 1 encB w a s) (Ri : Row 1 encB w b i) :
  Lt.Spec Tryz.prog 100 [.pointer (some ⟨gm, 0, none⟩), .slice a s.length ca, .slice b i.length cb] w (IsFresh 1 encB 4 w (nextV c.t s i)) := by
 have hM' := hM
 obtain ⟨hcells, hC, Rn, Ra, en, ea, hg, hz⟩ := hM
 have k2 : c.lat.2.2.length <= 100000 := hz.2.1
 have Rl := hC.lat.row
 refine Spec.of _ Tryz.func100 rfl Tryz.ntmps100 (by kernel_rfl) rfl ?_
 repeat' (first | (apply WL.lit (len := 0) tOk; (iterate 6 exact rfl); kernel_rfl; exact rfl; intro gb w' hb hge hc hx; have hO0 := Own.ofB0 (enc := encB) (s := 1) hb hge) | (first | apply WL.nil | refine WL.au (k := ?_)) | apply Z.tn | (first | apply W.seq | apply W.region | apply W.block))
 refine W.loopO c.lat.2.2.length (fun k d dp w' => k <= c.lat.2.2.length /\ Ext w w' /\ Own 1 encB 4 w.heap.size w' d dp ((c.t.lat.take k).map (fun x => litV c.t s i x.2.1)))
  (fun k d dp => [(0, .pointer (some ⟨gm, 0, none⟩)), (1, .slice a s.length ca), (2, .slice b i.length cb), (7, .slice d ((c.t.lat.take k).map (fun x => litV c.t s i x.2.1)).length dp), (8, .int .i64 k)]) (some ⟨gb, 0, none⟩) 0 ⟨Nat.zero_le _, hx, hO0⟩ (fun k d dp w' h => h.1) ⟨rfl, rfl, rfl, rfl, rfl, trivial⟩ ?_
 rintro k d dp w1 ⟨hk, hx1, hO'⟩
 have hl : ((c.t.lat.take k).map (fun x => litV c.t s i x.2.1)).length = k := by rw [List.length_map, List.length_take]; exact Nat.min_eq_left hk
 have hc1 := hcells.ext hx1
 obtain ⟨y0, y1, y2, _⟩ := hc1
 have Rl1 := Rl.ext hx1
 by_cases hlt : k < c.lat.2.2.length
 ·obtain ⟨x, hxx⟩ := getI c.lat.2.2 hlt
  have hu : x.2.1 ∈ c.t.used := used_next (List.mem_of_getElem? hxx)
  have e1 := nextT_succ (c := c.t) (s := s) (i := i) hxx
  repeat' (first | (apply WL.nilc; (iterate 3 exact rfl)) | (apply W.cKT; exact rfl; exact dTt (by omega)) | (apply WL.callP (f := 101); (iterate 4 exact rfl); exact ref17_Lit gm c rn ra _ _ _ _ s i x.2.1 _ (hM'.ext extA) (Rs.ext extA) (Ri.ext extA) hu; intro w' hx) | (apply WL.lit tOk; (iterate 6 exact rfl); kernel_rfl; exact rfl; intro gb w' hb hge hc hx) | (apply WL.ap1 (z := (litV c.t s i x.2.1)) tOk eBk; (iterate 10 exact rfl); assumption; exact extA; exact rfl; assumption; exact rfl; exact rfl; exact extA; omega; intro a' cap' w' hO hX' hU hF) | (first | apply WL.nil | refine WL.au (k := ?_) | (apply WL.index tOk; (iterate 8 exact rfl); assumption; exact extA; exact rfl; omega; assumption; intro b off h; have hcc := h; first | (obtain ⟨h1, h2, h3, h4, h5, h6, _⟩ := h) | (obtain ⟨h1, h2, h3, _⟩ := h) | (obtain ⟨h1, h2, _⟩ := h) | (obtain ⟨h1, _⟩ := h))) | (first | apply Z.tn | apply Z.bkn) | (first | apply W.seq | apply W.region | apply W.block | apply W.skip))
  exact Z.agO a' cap' ⟨by omega, hX', by rw [e1]; exact hO⟩ (by repeat' first | exact trivial | (refine And.intro ?_ ?_) | exact rfl | (rw [e1]; exact rfl))
 ·obtain rfl : k = c.lat.2.2.length := by omega
  have e9 : (c.t.lat.take c.lat.2.2.length).map (fun x => litV c.t s i x.2.1) = nextV c.t s i := by rw [List.take_of_length_le (Nat.le_refl _)]; rfl
  repeat' (first | (apply WL.nilc; (iterate 3 exact rfl)) | (apply W.cKF; exact rfl; exact dFf (by omega)) | (first | apply WL.nil | refine WL.au (k := ?_)) | (first | apply Z.tn | apply Z.tnx | apply Z.bkx) | (first | apply W.seq | apply W.region | apply W.ret | apply W.exit))
  rw [e9] at hO'
  exact Z.bd1 Tryz.results100 rfl fun m => ⟨hx1.at m, d, dp, by rw [e9], hO'⟩
end Go.Proofs.YteidpnpbfagaeaaGreat
namespace Go.Lt
open Go.RowKit

theorem OwnRR.nil {α : Type} {s : Nat} {enc : α -> List Value} {el elO B : Nat} {w : World} {a : Option Addr} {cap : Nat} (h : Own 1 encRow elO B w a cap ([] : List (RowV α))) : OwnRR s enc el elO B w a cap [] :=
 ⟨h, fun i r hr => by simp at hr, fun i r hr => by simp at hr, fun i j r q hr => by simp at hr⟩
structure RR1 {α : Type} (s : Nat) (enc : α -> List Value) (el elO B : Nat) (w : World) (a : Option Addr) (cap : Nat) (rs : List (RowV α)) (b : Option Addr) (dp : Nat) (S : List α) : Prop where
 rr : OwnRR s enc el elO B w a cap rs
 own : Own s enc el B w b dp S
 apartO : blk b = none ∨ blk b ≠ blk a
 apart : ∀ (i : Nat) (q : RowV α), rs[i]? = some q -> blk q.1 = none ∨ blk q.1 ≠ blk b
section
variable {α : Type} {s : Nat} {enc : α -> List Value} {el elO B : Nat} {w w1 w2 w3 : World} {a a' b : Option Addr} {cap cap' dp : Nat} {rs : List (RowV α)} {S : List α}
theorem RR1.ext (h : RR1 s enc el elO B w a cap rs b dp S) (hx : Ext w w1) : RR1 s enc el elO B w1 a cap rs b dp S := ⟨h.rr.ext hx, h.own.ext hx, h.apartO, h.apart⟩
theorem RR1.new (h : OwnRR s enc el elO B w1 a cap rs) (hx : Ext w1 w2) (hO : Own s enc el w1.heap.size w2 b dp S) (hB : B <= w1.heap.size) : RR1 s enc el elO B w2 a cap rs b dp S := by
 refine ⟨h.ext hx, hO.base hB, ?_, fun i q hq => ?_⟩
 ·cases hb : blk b with
  | none => exact .inl rfl
  | some k =>
   refine .inr fun he => ?_
   have h1 := (hO.blk_lt k hb).1
   have h2 := (h.outer.blk_lt k he.symm).2
   omega
 ·cases hb : blk q.1 with
  | none => exact .inl rfl
  | some k =>
   refine .inr fun he => ?_
   have h1 := ((h.inner i q hq).blk_lt k hb).2
   have h2 := (hO.blk_lt k he.symm).1
   omega
theorem RR1.first {g c0 : Nat} (hO : Own s enc el B w b dp S) (h : Own 1 encRow elO B w (some ⟨g, 0, none⟩) c0 ([] : List (RowV α))) (hg : ∀ k, blk b = some k -> k ≠ g) : RR1 s enc el elO B w (some ⟨g, 0, none⟩) c0 [] b dp S := by
 refine ⟨OwnRR.nil h, hO, ?_, fun i q hq => by simp at hq⟩
 cases hb : blk b with
 | none => exact .inl rfl
 | some k =>
  refine .inr fun he => hg k hb ?_
  simp only [blk, Option.map_some, Option.some.injEq] at he; exact he
theorem RR1.push (h : RR1 s enc el elO B w2 a cap rs b dp S) (hU : Upd B a w2 w3) (hO : Own 1 encRow elO B w3 a' cap' (rs ++ [(b, dp, S)])) (hF : blk a' = blk a ∨ ∃ k, blk a' = some k /\ w2.heap.size <= k) : OwnRR s enc el elO B w3 a' cap' (rs ++ [(b, dp, S)]) := by
 obtain ⟨hr, ho, hA, hI⟩ := h
 have get : ∀ (i : Nat) (q : RowV α), (rs ++ [(b, dp, S)])[i]? = some q -> (i < rs.length /\ rs[i]? = some q) ∨ (i = rs.length /\ q = (b, dp, S)) := fun i q hq => by
  by_cases hi : i < rs.length
  ·rw [List.getElem?_append_left hi] at hq; exact .inl ⟨hi, hq⟩
  ·rw [List.getElem?_append_right (by omega)] at hq
   have h0 := lGt hq
   simp at h0
   have h1 : i - rs.length = 0 := by omega
   rw [h1] at hq
   simp at hq
   exact .inr ⟨by omega, hq.symm⟩
 have lt2 : ∀ (i : Nat) (q : RowV α) (k : Nat), (rs ++ [(b, dp, S)])[i]? = some q -> blk q.1 = some k -> k < w2.heap.size := fun i q k hq hk => by
  rcases get i q hq with ⟨_, hq⟩ | ⟨_, rfl⟩
  ·exact ((hr.inner i q hq).blk_lt k hk).2
  ·exact (ho.blk_lt k hk).2
 have apA : ∀ (i : Nat) (q : RowV α), (rs ++ [(b, dp, S)])[i]? = some q -> blk q.1 = none ∨ blk q.1 ≠ blk a := fun i q hq => by
  rcases get i q hq with ⟨_, hq⟩ | ⟨_, rfl⟩
  ·exact hr.apartO i q hq
  ·exact hA
 refine ⟨hO, fun i q hq => ?_, fun i q hq => ?_, fun i j q p h1 h2 hne => ?_⟩
 ·rcases get i q hq with ⟨_, hq'⟩ | ⟨_, rfl⟩
  ·exact hU.own (hr.inner i q hq') (hr.apartO i q hq')
  ·exact hU.own ho hA
 ·rcases hF with hF | ⟨k, hk, hle⟩
  ·rw [hF]; exact apA i q hq
  ·cases hb : blk q.1 with
   | none => exact .inl rfl
   | some b =>
    refine .inr fun he => ?_
    have := lt2 i q b hq hb
    rw [hk] at he
    have := Option.some.inj he
    omega
 ·rcases get i q h1 with ⟨_, h1'⟩ | ⟨rfl, rfl⟩
  ·rcases get j p h2 with ⟨_, h2'⟩ | ⟨rfl, rfl⟩
   ·exact hr.apart i j q p h1' h2' hne
   ·exact hI i q h1'
  ·rcases get j p h2 with ⟨_, h2'⟩ | ⟨rfl, rfl⟩
   ·show blk b = none ∨ blk b ≠ blk p.1
    cases hb : blk b with
    | none => exact .inl rfl
    | some k =>
     refine .inr fun he => ?_
     rcases hI j p h2' with h3 | h3
     ·rw [h3] at he; cases he
     ·exact h3 (by rw [hb]; exact he.symm)
   ·exact absurd rfl hne
end
theorem OwnRR.base {α : Type} {s : Nat} {enc : α -> List Value} {el elO B C : Nat} {w : World} {a : Option Addr} {cap : Nat} {rs : List (RowV α)} (h : OwnRR s enc el elO C w a cap rs) (hB : B <= C) : OwnRR s enc el elO B w a cap rs := ⟨h.outer.base hB, fun i r hr => (h.inner i r hr).base hB, h.apartO, h.apart⟩
theorem OwnRR.row {α : Type} {s : Nat} {enc : α -> List Value} {el elO B : Nat} {w : World} {a : Option Addr} {cap : Nat} {rs : List (RowV α)} (h : OwnRR s enc el elO B w a cap rs) (hE : Enc s enc) {i : Nat} {r : RowV α} (hr : rs[i]? = some r) : Row s enc w r.1 r.2.2 := (h.inner i r hr).row hE
theorem OwnRR.at {α : Type} {s : Nat} {enc : α -> List Value} {el elO B : Nat} {w : World} {a : Option Addr} {cap : Nat} {rs : List (RowV α)} (h : OwnRR s enc el elO B w a cap rs) (m : Nat) : OwnRR s enc el elO B (at' w m) a cap rs := h.ext ((Ext.refl w).at m)
end Go.Lt
