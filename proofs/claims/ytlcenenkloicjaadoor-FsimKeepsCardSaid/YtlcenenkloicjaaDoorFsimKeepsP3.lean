/- FsimKeeps: which tests are kept, that they show all that all did, and that each shows a fault that no other one does. The row lists the table that counts a word's lowest zeros, which is tied to the program's text. -/
import Derived.Test.YtlcenenkloicjaaDoorRows
import Derived.Lib.SmallJoins
import Derived.KernelRfl
import Derived.Test.YtlcenenkloicjaaDoorTie
import Derived.Test.YtlcenenkloicjaaDoorCards
import Derived.WalkKit
import Derived.ProofKit
import Derived.Deep.Quiet
import Derived.Deep.LoopGhost
import Derived.StillTail
import Derived.Test.YtlcenenkloicjaaDoorProg
import Derived.OpenShut
import Derived.ShutString
import Derived.ChangeOld
import Derived.Deep.Slices
import Derived.SizedLaws
import Derived.Laws.StructEq
import Derived.Laws.Externs
import Derived.MapKept
import Derived.Lib.LaidTab
import Derived.LaidMore
import Derived.LaidOnce
import Derived.SevenTiedAt
import Derived.MakeChecks
import Derived.Test.YtlcenenkloicjaaDoorFsimKeepsP2
namespace Go.Proofs.YtlcenenkloicjaaDoor
open Go Go.Lt Go.RowKit
set_option linter.unusedVariables false
set_option linter.unusedSimpArgs false
set_option maxRecDepth 20000

abbrev bitsOf (v : List (BitVec 64)) (i : Nat) : List Bool := v.map (fun u => u.getLsbD i)
theorem getD_bits (v : List (BitVec 64)) (i k : Nat) : (bitsOf v i).getD k false = (v.getD k 0#64).getLsbD i := by
  simp only [List.getD, bitsOf, List.getElem?_map]
  cases v[k]? <;> simp
theorem bit_wordOf {v : List (BitVec 64)} {l : Int} {i : Nat} (hv : v.getD 0 0#64 = 0#64) (h0 : 0 ≤ l) (h1 : l / 2 < v.length) (hi : i < 64) : (wordOf v l).getLsbD i = ofL (bitsOf v i) l := by
  rw [wordOf, if_neg (by omega), ofL, getD_bits]
  have hw : (if 0 < l / 2 then v.getD (l / 2).toNat 0#64 else 0#64) = v.getD (l / 2).toNat 0#64 := by
    split
    · rfl
    · rw [show (l / 2).toNat = 0 by omega, hv]
  rw [hw]
  split
  · simp [*]
  · simp [*]
theorem wto_head (n : List (Int × Int)) (W : List (BitVec 64)) : ∀ k, k ≤ n.length → (wto n W k).1.getD 0 0#64 = 0#64
  | 0, _ => by simp [wto]
  | k + 1, h => by
    obtain ⟨x, hx⟩ := getI n (show k < n.length by omega)
    have ih := wto_head n W k (by omega)
    have hl := wto_len n W k (by omega)
    rw [wto_succ W hx]; unfold wstep
    have happ : ∀ y : BitVec 64, ((wto n W k).1 ++ [y]).getD 0 0#64 = (wto n W k).1.getD 0 0#64 := fun y => by
      simp only [List.getD]
      rw [List.getElem?_append_left (by omega)]
    split <;> simp only [happ, ih]
theorem bits_to {n : List (Int × Int)} (hg : GoodNet n) (W : List (BitVec 64)) {i : Nat} (hi : i < 64) : ∀ k, k ≤ n.length → bitsOf (wto n W k).1 i = (vto n (bitsOf W i) k).1 ∧ (wto n W k).2 = (vto n (bitsOf W i) k).2
  | 0, _ => by simp [wto, vto, bitsOf]
  | k + 1, h => by
    obtain ⟨x, hx⟩ := getI n (show k < n.length by omega)
    obtain ⟨ih1, ih2⟩ := bits_to hg W hi k (by omega)
    have hl := wto_len n W k (by omega)
    have hh := wto_head n W k (by omega)
    rw [wto_succ W hx, vto_succ (bitsOf W i) hx]; unfold wstep vstep
    by_cases h0 : 0 ≤ x.1
    · have hgt := hg.gate hx h0
      rw [if_pos h0, if_neg (by omega)]
      refine ⟨?_, ih2⟩
      show bitsOf ((wto n W k).1 ++ [_]) i = _
      rw [bitsOf, List.map_append, List.map_cons, List.map_nil, ← bitsOf, ih1, BitVec.getLsbD_and, bit_wordOf hh h0 (by omega) hi, bit_wordOf hh (by omega) (by omega) hi, ih1]
    · rw [if_neg h0, if_pos (by omega)]
      refine ⟨?_, by show _ + 1 = _ + 1; rw [ih2]⟩
      show bitsOf ((wto n W k).1 ++ [_]) i = _
      rw [bitsOf, List.map_append, List.map_cons, List.map_nil, ← bitsOf, ih1, ← ih2, ← getD_bits]
theorem bits_wvalues {n : List (Int × Int)} (hg : GoodNet n) (W : List (BitVec 64)) {i : Nat} (hi : i < 64) : bitsOf (wvalues n W) i = values n (bitsOf W i) := (bits_to hg W hi n.length (Nat.le_refl _)).1

theorem getD_set {α : Type} (l : List α) (k q : Nat) (y d : α) : (l.set k y).getD q d = if q = k ∧ q < l.length then y else l.getD q d := by
  simp only [List.getD, List.getElem?_set]
  by_cases h : k = q
  · subst h
    by_cases h2 : k < l.length
    · simp [h2]
    · simp [h2]
  · rw [if_neg h, if_neg (fun hh => h hh.1.symm)]
theorem bit_pow (u : BitVec 64) (i t : Nat) (hi : i < 64) : (u ||| (1#64 <<< i)).getLsbD t = (u.getLsbD t || decide (t = i)) := by
  have h : (1#64 <<< i).getLsbD t = decide (t = i) := by
    show (BitVec.twoPow 64 i).getLsbD t = _
    rw [BitVec.getLsbD_twoPow]
    simp [hi, eq_comm]
  rw [BitVec.getLsbD_or, h]
theorem rowTo_bit (v : List (BitVec 64)) (i : Nat) (row : List Bool) (q t : Nat) (hi : i < 64) (ht : t < 64) : ∀ k, ((rowTo v i row k).getD q 0#64).getLsbD t = ((v.getD q 0#64).getLsbD t || (decide (t = i ∧ q < k ∧ q < v.length) && row.getD q false))
  | 0 => by simp [rowTo]
  | k + 1 => by
    have ih := rowTo_bit v i row q t hi ht k
    have hl := rowTo_len v i row k
    unfold rowTo
    by_cases hr : row.getD k false = true
    · rw [if_pos hr, getD_set]
      by_cases hqk : q = k ∧ q < (rowTo v i row k).length
      · obtain ⟨rfl, hq⟩ := hqk
        rw [if_pos ⟨rfl, hq⟩, bit_pow _ _ _ hi, ih, hr]
        rw [hl] at hq
        simp [hq]
      · rw [if_neg hqk, ih]
        congr 2
        rw [decide_eq_decide]
        rw [hl] at hqk
        omega
    · rw [if_neg hr, ih]
      by_cases hqk : q = k
      · subst hqk
        have : row.getD q false = false := by simpa using hr
        rw [this]; simp
      · congr 2
        rw [decide_eq_decide]
        omega
theorem grow_get (v : List (BitVec 64)) (m q : Nat) : (growW v m).getD q 0#64 = v.getD q 0#64 := by
  simp only [growW, List.getD, List.getElem?_append]
  split
  · rfl
  · rename_i h
    rw [List.getElem?_eq_none (l := v) (by omega), List.getElem?_replicate]
    split <;> rfl
theorem pack_bit (rs : List BRow) (q t : Nat) (ht : t < 64) : ∀ i, i ≤ 64 → ((packTo rs i).getD q 0#64).getLsbD t = (decide (t < i) && (rs.getD t (none, 0, [])).2.2.getD q false)
  | 0, _ => by simp [packTo]
  | i + 1, h => by
    rw [packTo, rowTo_bit _ _ _ _ _ (by omega) ht, grow_get, pack_bit rs q t ht i (by omega), growW_len]
    by_cases hti : t = i
    · subst hti
      by_cases hq : q < (rs.getD t (none, 0, [])).2.2.length
      · have : q < max (packTo rs t).length (rs.getD t (none, 0, [])).2.2.length := by omega
        rw [decide_eq_true (show t = t ∧ q < _ ∧ q < _ from ⟨rfl, hq, this⟩), decide_eq_true (Nat.lt_succ_self t)]
        simp
      · have : (rs.getD t (none, 0, [])).2.2.getD q false = false := by rw [List.getD, List.getElem?_eq_none (by omega)]; rfl
        rw [this]; simp
    · have h1 : decide (t < i + 1) = decide (t < i) := by rw [decide_eq_decide]; omega
      rw [h1]; simp [hti]

end Go.Proofs.YtlcenenkloicjaaDoor
namespace Go.Proofs.YtlcenenkloicjaaDoor
open Go Go.Lt Go.RowKit
set_option linter.unusedVariables false
set_option linter.unusedSimpArgs false
set_option maxRecDepth 20000

theorem pack_one (b : Option Addr) (cb : Nat) (ins : List Bool) : (pack [(b, cb, ins)]).length = ins.length ∧ bitsOf (pack [(b, cb, ins)]) 0 = ins := by
  have hpk : (pack [(b, cb, ins)]).length = ins.length := by
    show (rowTo (growW [] ins.length) 0 ins ins.length).length = _
    rw [rowTo_len, growW_len]; simp
  refine ⟨hpk, ?_⟩
  apply List.ext_getElem?
  intro q
  by_cases hq : q < ins.length
  · have h1 := pack_bit [(b, cb, ins)] q 0 (by omega) 1 (by omega)
    have h2 : ((pack [(b, cb, ins)]).getD q 0#64).getLsbD 0 = ins.getD q false := by
      show ((packTo [(b, cb, ins)] 1).getD q 0#64).getLsbD 0 = _
      rw [h1]; rfl
    rw [← getD_bits] at h2
    have hbl : (bitsOf (pack [(b, cb, ins)]) 0).length = ins.length := by rw [bitsOf, List.length_map, hpk]
    obtain ⟨x, hx⟩ := getI (bitsOf (pack [(b, cb, ins)]) 0) (show q < _ by omega)
    obtain ⟨y, hy⟩ := getI ins hq
    rw [getD_of hx, getD_of hy] at h2
    rw [hx, hy, h2]
  · rw [List.getElem?_eq_none (by rw [bitsOf, List.length_map, hpk]; omega), List.getElem?_eq_none (by omega)]

/-- Which lanes differ. -/
def shownF (W1 W2 : List (BitVec 64)) (f : Int → Int) (l : List Int) : BitVec 64 := l.foldl (fun s x => s ||| (wordOf W1 x ^^^ wordOf W2 (f x))) 0#64
theorem shownF_snoc (W1 W2 : List (BitVec 64)) (f : Int → Int) {l : List Int} {k : Nat} {x : Int} (h : l[k]? = some x) : shownF W1 W2 f (l.take (k + 1)) = shownF W1 W2 f (l.take k) ||| (wordOf W1 x ^^^ wordOf W2 (f x)) := by
  unfold shownF; rw [take_succ' h, List.foldl_append]; rfl
theorem shownF_bit (W1 W2 : List (BitVec 64)) (f : Int → Int) (i : Nat) (l : List Int) : ∀ s : BitVec 64, (l.foldl (fun s x => s ||| (wordOf W1 x ^^^ wordOf W2 (f x))) s).getLsbD i = (s.getLsbD i || l.any (fun x => (wordOf W1 x).getLsbD i != (wordOf W2 (f x)).getLsbD i)) := by
  induction l with
  | nil => intro s; simp
  | cons x r ih =>
    intro s
    rw [List.foldl_cons, ih, List.any_cons, BitVec.getLsbD_or, BitVec.getLsbD_xor, Bool.or_assoc]
noncomputable def fwords (n : List (Int × Int)) (outs : List Int) (v p : Int) (o : Bool) (ins : List (BitVec 64)) : BitVec 64 :=
  bif dec (goodF n v p) then shownF (wvalues n ins) (wvalues (injNet n v p o) ins) (injL v p o) outs else 0#64
theorem any_ne {f g : Int → Bool} : ∀ l : List Int, l.any (fun x => f x != g x) = !dec (l.map f = l.map g)
  | [] => by show false = !dec (([] : List Bool) = []); rw [dec_true rfl]; rfl
  | x :: r => by
    have ih := any_ne (f := f) (g := g) r
    rw [List.any_cons, ih]
    by_cases h1 : f x = g x
    · by_cases h2 : r.map f = r.map g
      · rw [dec_true h2, dec_true (show (x :: r).map f = (x :: r).map g by rw [List.map_cons, List.map_cons, h1, h2])]; simp [h1]
      · rw [dec_false h2, dec_false (show ¬ (x :: r).map f = (x :: r).map g from fun h => h2 (by rw [List.map_cons, List.map_cons] at h; exact (List.cons.inj h).2))]; simp
    · rw [dec_false (show ¬ (x :: r).map f = (x :: r).map g from fun h => h1 (by rw [List.map_cons, List.map_cons] at h; exact (List.cons.inj h).1))]
      have : (f x != g x) = true := by cases hf : f x <;> cases hg : g x <;> simp_all
      rw [this]; rfl
theorem fwords_bit {n : List (Int × Int)} {outs : List Int} {v p : Int} {o : Bool} (hg : GoodNet n) (hk : ∀ l ∈ outs, 0 ≤ l ∧ l ≤ 2 * (n.length : Int) + 1) (ins : List (BitVec 64)) {i : Nat} (hi : i < 64) :
    (fwords n outs v p o ins).getLsbD i = dec (detP n outs v p o (bitsOf ins i)) := by
  unfold fwords
  by_cases hf : goodF n v p
  · rw [dec_true hf]
    show (shownF _ _ _ _).getLsbD i = _
    have hng := injNet_good (o := o) hg hf
    have hl1 : (wvalues n ins).length = n.length + 1 := (wto_len n ins n.length (Nat.le_refl _)).1
    have hl2 : (wvalues (injNet n v p o) ins).length = n.length + 1 := by rw [← injNet_len n v p o]; exact (wto_len (injNet n v p o) ins _ (Nat.le_refl _)).1
    have hh1 : (wvalues n ins).getD 0 0#64 = 0#64 := wto_head n ins n.length (Nat.le_refl _)
    have hh2 : (wvalues (injNet n v p o) ins).getD 0 0#64 = 0#64 := wto_head _ ins _ (Nat.le_refl _)
    have e : outs.any (fun x => (wordOf (wvalues n ins) x).getLsbD i != (wordOf (wvalues (injNet n v p o) ins) (injL v p o x)).getLsbD i) = outs.any (fun x => ofL (values n (bitsOf ins i)) x != ofL (values (injNet n v p o) (bitsOf ins i)) (injL v p o x)) := by
      have key : ∀ L : List Int, (∀ l ∈ L, 0 ≤ l ∧ l ≤ 2 * (n.length : Int) + 1) → L.any (fun x => (wordOf (wvalues n ins) x).getLsbD i != (wordOf (wvalues (injNet n v p o) ins) (injL v p o x)).getLsbD i) = L.any (fun x => ofL (values n (bitsOf ins i)) x != ofL (values (injNet n v p o) (bitsOf ins i)) (injL v p o x)) := by
        intro L
        induction L with
        | nil => intro _; rfl
        | cons x r ih =>
          intro hL
          have hx := hL x (by simp)
          have hy := injL_le (v := v) (p := p) (o := o) hx
          rw [List.any_cons, List.any_cons, ih (fun l hl => hL l (by simp [hl])), bit_wordOf hh1 hx.1 (by omega) hi, bit_wordOf hh2 hy.1 (by omega) hi, bits_wvalues hg ins hi, bits_wvalues hng ins hi]
      exact key outs hk
    rw [shownF, shownF_bit, e]
    have e2 : outsF n outs v p o (bitsOf ins i) = outs.map (fun x => ofL (values (injNet n v p o) (bitsOf ins i)) (injL v p o x)) := by
      show (outs.map (injL v p o)).map _ = _
      rw [List.map_map]; rfl
    have e3 := any_ne (f := ofL (values n (bitsOf ins i))) (g := fun x => ofL (values (injNet n v p o) (bitsOf ins i)) (injL v p o x)) outs
    rw [e3, ← e2]
    by_cases h : outsV n outs (bitsOf ins i) = outsF n outs v p o (bitsOf ins i)
    · rw [dec_true h, dec_false (fun hh => hh.2 h)]; simp
    · rw [dec_false h, dec_true ⟨hf, h⟩]; simp
  · rw [dec_false hf, dec_false (fun h => hf h.1)]
    show (0#64).getLsbD i = false
    simp

set_option maxHeartbeats 4000000 in
theorem fsim_Words (ra rb ri : Option Addr) (cap cb ci : Nat) (n : List (Int × Int)) (outs : List Int) (v p : Int) (o : Bool) (ins : List (BitVec 64)) (w : World) (R : Row 2 encN w ra n) (Rb : Row 1 encI w rb outs) (Ri : Row 1 encV w ri ins) (hna : ra = none → cap = 0) (hnb : rb = none → cb = 0) (hci : ins.length ≤ ci) (hg : GoodNet n) (hn : n.length ≤ 1048576) (ho : outs.length ≤ 1048576) (hv : inI64 v) (hk : ∀ l ∈ outs, 0 ≤ l ∧ l ≤ 2 * (n.length : Int) + 1) :
    Pure Tryd.prog 35 [.slice ra n.length cap, .slice rb outs.length cb, fv v p o, .slice ri ins.length ci] w (u64 (fwords n outs v p o ins)) := by
  have hlb := Rb.len
  by_cases hf : goodF n v p
  · have e : fwords n outs v p o ins = shownF (wvalues n ins) (wvalues (injNet n v p o) ins) (injL v p o) outs := by unfold fwords; rw [dec_true hf]; rfl
    rw [e]
    have hng := injNet_good (o := o) hg hf
    have hnl := injNet_len n v p o
    refine Spec.of _ Tryd.func35 rfl Tryd.ntmps35 (by kernel_rfl) rfl ?_
    repeat' (first
      | (apply WL.box; exact rfl; exact rfl; exact rfl; intro gb w' hb hge hc hx; have hcc := hc; (first | (obtain ⟨h1, h2, h3, _⟩ := hc) | (obtain ⟨h1, h2, _⟩ := hc)))
      | ((show WL _ _ _ (⟨_, .call ⟨.value (.func 43), _, _⟩, _, _, _, _⟩ :: _) _ _ _); apply WL.callP; exact rfl; exact rfl; exact rfl; exact rfl; exact fault_Good _ _ n v p o _ (R.ext (by (exact extA))) hv; intro w' hx)
      | (apply W.condKF; exact rfl; (focus ((rw [dec_true hf]; rfl); done)))
      | (((show WL _ _ _ (⟨_, .call ⟨.value (.func 44), _, _⟩, _, _, _, _⟩ :: _) _ _ _); apply WL.call; exact rfl; exact rfl; exact rfl; exact rfl; exact fault_Inject _ _ _ _ n outs v p o _ (R.ext (by (exact extA))) (Rb.ext (by (exact extA))) hna hnb hg hn ho hf hk; rintro v' w2 ⟨hx2, a2, c2, a3, c3, rfl, R2, R3⟩))
      | (show WL _ _ _ _ _ _ _; first | apply WL.nil | (refine WL.au (k := ?_)))
      | (show Z _ _ _ _ _; apply Z.then_normal)
      | (show W _ _ _ _ _ _; first | apply W.seq | apply W.region | apply W.skip)
      | fail)
    have hxw2 : Ext w w2 := (by (exact extA))
    repeat' (first
      | ((show WL _ _ _ (⟨_, .call ⟨.value (.func 45), _, _⟩, _, _, _, _⟩ :: _) _ _ _); apply WL.call; exact rfl; exact rfl; exact rfl; exact rfl; exact sim_Words _ _ _ _ n ins _ (R.ext (by (exact extA))) (Ri.ext (by (exact extA))) hci hg hn; rintro v' w' ⟨hx, a', cap', rfl, hO⟩)
      | (show WL _ _ _ _ _ _ _; (refine WL.au (k := ?_)))
      | fail)
    have RW1 := Own.row encV_ok hO
    have hx3 : Ext w2 w' := (by (exact extA))
    obtain ⟨a4, rfl⟩ : ∃ x, x = a' := ⟨_, rfl⟩; obtain ⟨c4, rfl⟩ : ∃ x, x = cap' := ⟨_, rfl⟩; obtain ⟨w3, rfl⟩ : ∃ x, x = w' := ⟨_, rfl⟩
    repeat' (first
      | ((show WL _ _ _ (⟨_, .call ⟨.value (.func 45), _, _⟩, _, _, _, _⟩ :: _) _ _ _); apply WL.call; exact rfl; exact rfl; exact rfl; exact rfl; exact sim_Words _ _ _ _ (injNet n v p o) ins _ (R2.ext (by (exact extA))) (Ri.ext (hxw2.trans hx3)) hci hng (by omega); rintro v' w' ⟨hx, a', cap', rfl, hO⟩)
      | (show WL _ _ _ _ _ _ _; first | apply WL.nil | (refine WL.au (k := ?_)))
      | (show Z _ _ _ _ _; apply Z.then_normal)
      | (show W _ _ _ _ _ _; first | apply W.seq | apply W.region | apply W.block)
      | fail)
    have RW2 := Own.row encV_ok hO
    have hx4 : Ext w3 w' := (by (exact extA))
    have hxw4 : Ext w w' := hxw2.trans (hx3.trans hx4)
    have RW1b := RW1.ext hx4
    have R3b := R3.ext (hx3.trans hx4)
    have Rb4 := Rb.ext hxw4
    obtain ⟨a5, rfl⟩ : ∃ x, x = a' := ⟨_, rfl⟩; obtain ⟨c5, rfl⟩ : ∃ x, x = cap' := ⟨_, rfl⟩; obtain ⟨w4, rfl⟩ : ∃ x, x = w' := ⟨_, rfl⟩
    skip
    refine W.loop1 outs.length (fun k => k ≤ outs.length) (fun k => [(10, .slice a3 (outs.map (injL v p o)).length c3), (11, .slice a4 (wvalues n ins).length c4), (12, .slice a5 (wvalues (injNet n v p o) ins).length c5), (13, u64 (shownF (wvalues n ins) (wvalues (injNet n v p o) ins) (injL v p o) (outs.take k))), (33, .slice rb outs.length cb), (34, .int .i64 outs.length), (35, .int .i64 k)]) (by omega) (fun k h => h) ⟨rfl, rfl, rfl, rfl, rfl, rfl, rfl, trivial⟩ ?_
    rintro k hkk
    by_cases hlt : k < outs.length
    · obtain ⟨z, hz⟩ := getI outs hlt
      have hzk := hk z (List.mem_of_getElem? hz)
      have hyk := injL_le (v := v) (p := p) (o := o) hzk
      have hzm : (outs.map (injL v p o))[k]? = some (injL v p o z) := by rw [List.getElem?_map, hz]; rfl
      have e1 := shownF_snoc (wvalues n ins) (wvalues (injNet n v p o) ins) (injL v p o) hz
      have hml : (outs.map (injL v p o)).length = outs.length := by simp
      repeat' (first
        | (apply W.condKT; exact rfl; (focus (exact dec_true (by omega); done)))
        | (apply QL.uor; exact rfl; exact rfl; exact rfl; exact rfl; (first | exact rfl | exact u64_lit _ (by omega)); (first | exact rfl | exact u64_lit _ (by omega)))
        | (apply QL.uxor; exact rfl; exact rfl; exact rfl; exact rfl; (first | exact rfl | exact u64_lit _ (by omega)); (first | exact rfl | exact u64_lit _ (by omega)))
        | ((show QL _ _ _ _ (⟨_, .call ⟨.value (.func 46), _, _⟩, _, _, _, _⟩ :: _) _ _); apply QL.callS; exact rfl; exact rfl; exact rfl; exact rfl; exact sim_Word _ _ (wvalues n ins) z _ RW1b (by unfold inI64; omega))
        | ((show QL _ _ _ _ (⟨_, .call ⟨.value (.func 46), _, _⟩, _, _, _, _⟩ :: _) _ _); apply QL.callS; exact rfl; exact rfl; exact rfl; exact rfl; exact sim_Word _ _ (wvalues (injNet n v p o) ins) (injL v p o z) _ RW2 (by unfold inI64; omega))
        | (show WL _ _ _ _ _ _ _; first | apply WL.nil | (refine WL.au (k := ?_)) | (apply WL.index tOk; exact rfl; exact rfl; exact rfl; exact rfl; exact rfl; exact rfl; exact rfl; exact rfl; assumption; (exact extA); exact rfl; omega; assumption; intro b off h; have hcc := h; first | (obtain ⟨h1, h2, h3, h4, h5, h6, _⟩ := h) | (obtain ⟨h1, h2, h3, _⟩ := h) | (obtain ⟨h1, h2, _⟩ := h) | (obtain ⟨h1, _⟩ := h)))
        | (show QL _ _ _ _ _ _ _; first | apply QL.nil | (refine QL.au (k := ?_)) | (apply QL.index tOk; exact rfl; exact rfl; exact rfl; exact rfl; exact rfl; exact rfl; exact rfl; exact rfl; assumption; (exact extA); exact rfl; omega; assumption; intro b off h; have hcc := h; first | (obtain ⟨h1, h2, h3, h4, h5, h6, _⟩ := h) | (obtain ⟨h1, h2, h3, _⟩ := h) | (obtain ⟨h1, h2, _⟩ := h) | (obtain ⟨h1, _⟩ := h)))
        | (show Z _ _ _ _ _; first | apply Z.then_normal | apply Z.block_normal)
        | (show W _ _ _ _ _ _; first | apply W.seq | apply W.region | apply W.block | apply W.skip | (apply W.regionD tMix; kernel_rfl))
        | fail)
      exact Z.again1 (by omega) (by repeat' first | exact trivial | (refine And.intro ?_ ?_) | exact rfl | (rw [e1]; exact rfl))
    · obtain rfl : k = outs.length := by omega
      rw [List.take_length]
      repeat' (first
        | (apply W.condKF; exact rfl; (focus (exact dec_false (by omega); done)))
        | (show WL _ _ _ _ _ _ _; first | apply WL.nil | (refine WL.au (k := ?_)))
        | (show Z _ _ _ _ _; first | apply Z.then_normal | apply Z.then_exit | apply Z.block_exit)
        | (show W _ _ _ _ _ _; first | apply W.seq | apply W.region | apply W.ret | apply W.exit)
        | fail)
      exact Z.body1 Tryd.results35 rfl fun m => ⟨rfl, hxw4.at m⟩
  · have e : fwords n outs v p o ins = 0#64 := by unfold fwords; rw [dec_false hf]; rfl
    rw [e]
    refine Spec.of _ Tryd.func35 rfl Tryd.ntmps35 (by kernel_rfl) rfl ?_
    repeat' (first
      | (apply WL.box; exact rfl; exact rfl; exact rfl; intro gb w' hb hge hc hx; have hcc := hc; (first | (obtain ⟨h1, h2, h3, _⟩ := hc) | (obtain ⟨h1, h2, _⟩ := hc)))
      | ((show WL _ _ _ (⟨_, .call ⟨.value (.func 43), _, _⟩, _, _, _, _⟩ :: _) _ _ _); apply WL.callP; exact rfl; exact rfl; exact rfl; exact rfl; exact fault_Good _ _ n v p o _ (R.ext (by (exact extA))) hv; intro w' hx)
      | (apply W.condKT; exact rfl; (focus ((rw [dec_false hf]; rfl); done)))
      | (show WL _ _ _ _ _ _ _; first | apply WL.nil | (refine WL.au (k := ?_)))
      | (show Z _ _ _ _ _; first | apply Z.then_normal | apply Z.then_ret)
      | (show W _ _ _ _ _ _; first | apply W.seq | apply W.region | apply W.ret)
      | fail)
    exact Z.body1 Tryd.results35 rfl fun m => ⟨rfl, Ext.at (by (exact extA)) m⟩

theorem bit0 (u : BitVec 64) : dec (((u &&& BitVec.ofInt 64 1).toNat : Int) = 1) = u.getLsbD 0 := by
  have := bit_and u 0
  rwa [BitVec.ushiftRight_zero] at this
set_option maxHeartbeats 4000000 in
theorem fsim_Detects (ra rb ri : Option Addr) (cap cb ci : Nat) (n : List (Int × Int)) (outs : List Int) (v p : Int) (o : Bool) (ins : List Bool) (w : World) (R : Row 2 encN w ra n) (Rb : Row 1 encI w rb outs) (Ri : Row 1 encB w ri ins) (hna : ra = none → cap = 0) (hnb : rb = none → cb = 0) (hci : ins.length ≤ ci) (hi : ins.length ≤ 1048576) (hg : GoodNet n) (hn : n.length ≤ 1048576) (ho : outs.length ≤ 1048576) (hv : inI64 v) (hk : ∀ l ∈ outs, 0 ≤ l ∧ l ≤ 2 * (n.length : Int) + 1) :
    Pure Tryd.prog 27 [.slice ra n.length cap, .slice rb outs.length cb, fv v p o, .slice ri ins.length ci] w (.bool (dec (detP n outs v p o ins))) := by
  have hp1 := pack_one ri ci ins
  have hfb := fwords_bit (v := v) (p := p) (o := o) hg hk (pack [(ri, ci, ins)]) (i := 0) (by omega)
  rw [hp1.2] at hfb
  refine Spec.of _ Tryd.func27 rfl Tryd.ntmps27 (by kernel_rfl) rfl ?_
  repeat' (first
    | (show W _ _ _ _ _ _; first | apply W.seq | apply W.region)
    | fail)
  apply WL.box; exact rfl; exact rfl; exact rfl; intro gb w' hb hge hc hx
  obtain ⟨g6, rfl⟩ : ∃ x, x = gb := ⟨_, rfl⟩; obtain ⟨wb, rfl⟩ : ∃ x, x = w' := ⟨_, rfl⟩
  have hc6 : Cells wb g6 0 [.int .i64 v, .int .i64 p, .bool o] := hc
  have hXb : Ext w wb := hx
  have hbs : ∀ r ∈ [((ri, ci, ins) : BRow)], r.2.2.length ≤ 1048576 := fun r hr => by
    have : r = (ri, ci, ins) := by simpa using hr
    subst this; exact hi
  have hri : ∀ w9, Ext w w9 → RowsIn w9 [(ri, ci, ins)] := fun w9 h9 r hr => by
    have h8 : r = (ri, ci, ins) := by simpa using hr
    subst h8; exact ⟨Ri.ext h9, hci⟩
  repeat' (first
    | (apply WL.uand; exact rfl; exact rfl; exact rfl; exact rfl; (first | exact rfl | exact u64_lit _ (by omega)); (first | exact rfl | exact u64_lit _ (by omega)))
    | (show W _ _ (.region 1 _ _) _ _ _; apply W.regionG (.fl true 0 (.fl true 1 (.fl true 3 (.fl false 2 (.br 4 (.br 5 (.br 6 (.br 7 (.fl true 8 (.fl true 9 .done)) .stop) .stop) .stop) .stop))))) [4, 5, 7, 8] (Ext wb) tMix; kernel_rfl)
    | (apply WL.lit tOk; exact rfl; exact rfl; exact rfl; exact rfl; exact rfl; exact rfl; (first | exact rfl | kernel_rfl | (simp [Instr.fill, catCells]; done)); exact rfl; intro gb w' hb hge hc hx; have hO := Own.of_block ([(ri, ci, ins)]) encR_ok hb hge rfl)
    | ((show WL _ _ _ (⟨_, .call ⟨.value (.func 36), _, _⟩, _, _, _, _⟩ :: _) _ _ _); apply WL.call; exact rfl; exact rfl; exact rfl; exact rfl; exact sim_Pack _ _ [(ri, ci, ins)] _ (Own.row encR_ok (by assumption)) (Nat.le_refl _) (hri _ (by (exact extA))) hbs; rintro v' w' ⟨hx, a', cap', rfl, hO⟩)
    | ((show WL _ _ _ (⟨_, .call ⟨.value (.func 35), _, _⟩, _, _, _, _⟩ :: _) _ _ _); apply WL.callP; exact rfl; exact rfl; exact rfl; exact rfl; exact fsim_Words _ _ _ _ _ _ n outs v p o (pack [(ri, ci, ins)]) _ (R.ext (by (exact extA))) (Rb.ext (by (exact extA))) (Own.row encV_ok (by assumption)) hna hnb (Own.capLe (by assumption)) hg hn ho hv hk; intro w' hx)
    | (show WL _ _ _ _ _ _ _; first | apply WL.nil | (refine WL.au (k := ?_)))
    | (show SG _ _ _ _ _ _ _ _ _; first | apply SG.done | (apply SG.fl0; exact rfl) | (apply SG.fl1; exact rfl; (focus ((intro m; first | assumption | (apply Ext.at; (exact extA)) | apply But.of_at; first | exact But.upd (by assumption) | exact But.ext (by (exact extA)) | (refine But.trans ?_ (But.upd (by assumption)); exact But.ext (by (exact extA))) | exact But.at _ _ _); done))) | (apply SG.br1; exact rfl))
    | (show FL _ _ _ _ _ _ _ _; (apply FL.loadAE tOk; exact rfl; exact rfl; exact rfl; exact rfl; exact rfl; assumption; exact rfl))
    | (show FL _ _ _ _ _ _ _ _; first | apply FL.nilS | (refine FL.au (k := ?_)))
    | (show Z _ _ _ _ _; first | (apply Z.sgL; exact rfl) | (apply Z.sgE; (focus ((intro m; first | assumption | (apply Ext.at; (exact extA)) | apply But.of_at; first | exact But.upd (by assumption) | exact But.ext (by (exact extA)) | (refine But.trans ?_ (But.upd (by assumption)); exact But.ext (by (exact extA))) | exact But.at _ _ _); done))))
    | (show Z _ _ _ _ _; apply Z.then_normal)
    | (show W _ _ _ _ _ _; first | apply W.seq | apply W.ret)
    | fail)
  all_goals exact Z.body1 Tryd.results27 rfl fun m => ⟨congrArg Value.bool (by rw [← hfb, ← bit0]), Ext.at (by (exact extA)) m⟩
end Go.Proofs.YtlcenenkloicjaaDoor
namespace Go.Proofs.YtlcenenkloicjaaDoor
open Go Go.Lt Go.RowKit
set_option linter.unusedVariables false
set_option linter.unusedSimpArgs false
set_option maxRecDepth 20000

theorem vto_ins {a b : List Bool} (h : ∀ q, a.getD q false = b.getD q false) (n : List (Int × Int)) (k : Nat) : vto n a k = vto n b k := by
  unfold vto
  have e : vstep a = vstep b := by
    funext s x; unfold vstep; rw [h]
  rw [e]
theorem values_ins {a b : List Bool} (h : ∀ q, a.getD q false = b.getD q false) (n : List (Int × Int)) : values n a = values n b := by unfold values; rw [vto_ins h]
theorem det_ins {n : List (Int × Int)} {outs : List Int} {v p : Int} {o : Bool} {a b : List Bool} (h : ∀ q, a.getD q false = b.getD q false) : detP n outs v p o a ↔ detP n outs v p o b := by
  unfold detP outsF outsV
  rw [values_ins h, values_ins h]
noncomputable def dB (n : List (Int × Int)) (outs : List Int) (v p : Int) (o : Bool) (r : BRow) : Bool := dec (detP n outs v p o r.2.2)
theorem pack_row {rs : List BRow} (hl : rs.length ≤ 64) {i : Nat} {r : BRow} (h : rs[i]? = some r) (q : Nat) : (bitsOf (pack rs) i).getD q false = r.2.2.getD q false := by
  have hlt := (List.getElem?_eq_some_iff.1 h).1
  rw [getD_bits]
  show ((packTo rs (min rs.length 64)).getD q 0#64).getLsbD i = _
  rw [pack_bit rs q i (by omega) (min rs.length 64) (by omega), decide_eq_true (by omega), Bool.true_and, getD_of h]
/-- The word of a chunk of tests, without the lanes beyond its last one. -/
noncomputable def wordC (n : List (Int × Int)) (outs : List Int) (v p : Int) (o : Bool) (ck : List BRow) : BitVec 64 :=
  if ck.length < 64 then fwords n outs v p o (pack ck) &&& (1#64 <<< ck.length - 1#64) else fwords n outs v p o (pack ck)
theorem low_mask {m : Nat} (hm : m < 64) (i : Nat) : (1#64 <<< m - 1#64).getLsbD i = decide (i < m) := by
  have h1 : (1#64 <<< m - 1#64).toNat = 2 ^ m - 1 := by
    have h2 : (1#64 <<< m).toNat = 2 ^ m := by
      rw [BitVec.toNat_shiftLeft, Nat.shiftLeft_eq]
      have : 2 ^ m < 2 ^ 64 := Nat.pow_lt_pow_right (by decide) hm
      rw [show (1#64).toNat = 1 from rfl, Nat.one_mul, Nat.mod_eq_of_lt this]
    have h3 : 1 ≤ 2 ^ m := Nat.one_le_two_pow
    rw [BitVec.toNat_sub_of_le (by rw [BitVec.le_def, h2]; exact h3), h2]; rfl
  unfold BitVec.getLsbD
  rw [h1, Nat.testBit_two_pow_sub_one]
theorem wordC_bit {n : List (Int × Int)} {outs : List Int} {v p : Int} {o : Bool} (hg : GoodNet n) (hk : ∀ l ∈ outs, 0 ≤ l ∧ l ≤ 2 * (n.length : Int) + 1) {ck : List BRow} (hl : ck.length ≤ 64) (i : Nat) :
    (wordC n outs v p o ck).getLsbD i = (decide (i < ck.length) && dB n outs v p o (ck.getD i (none, 0, []))) := by
  have hin : ∀ i, i < ck.length → (fwords n outs v p o (pack ck)).getLsbD i = dB n outs v p o (ck.getD i (none, 0, [])) := fun i hi => by
    obtain ⟨r, hr⟩ := getI ck hi
    rw [fwords_bit hg hk _ (by omega), List.getD, hr]
    exact dec_congr (det_ins (fun q => pack_row hl hr q))
  unfold wordC
  split
  · rename_i h64
    rw [BitVec.getLsbD_and, low_mask h64]
    by_cases hi : i < ck.length
    · rw [decide_eq_true hi, hin i hi, Bool.and_comm]
    · rw [decide_eq_false hi]; simp
  · by_cases hi : i < ck.length
    · rw [decide_eq_true hi, hin i hi]; rfl
    · rw [decide_eq_false hi, BitVec.getLsbD_of_ge _ _ (by omega)]; rfl

/-- Which tests are told to show, of those below f all that do, of the next 64 those that w has no more. -/
def stF (B : Nat → Bool) (f : Nat) (w : BitVec 64) (j : Nat) : Bool := B j && (decide (j < f) || (decide (j < f + 64) && !w.getLsbD (j - f)))
theorem stF_start {B : Nat → Bool} {nt f : Nat} {w : BitVec 64} (h : ∀ i, f + i < nt → i < 64 → w.getLsbD i = B (f + i)) : tab nt (fun j => B j && decide (j < f)) = tab nt (stF B f w) := by
  refine tab_congr fun j hj => ?_
  unfold stF
  by_cases h1 : j < f
  · rw [decide_eq_true h1]; simp
  · rw [decide_eq_false h1]
    by_cases h2 : j < f + 64
    · have := h (j - f) (by omega) (by omega)
      rw [show f + (j - f) = j by omega] at this
      rw [this, decide_eq_true h2]; cases B j <;> rfl
    · rw [decide_eq_false h2]; simp
theorem stF_end (B : Nat → Bool) (nt f : Nat) : tab nt (stF B f 0#64) = tab nt (fun j => B j && decide (j < f + 64)) := by
  refine tab_congr fun j hj => ?_
  unfold stF
  rw [BitVec.getLsbD_zero]
  by_cases h1 : j < f
  · rw [decide_eq_true h1, decide_eq_true (by omega : j < f + 64)]; rfl
  · rw [decide_eq_false h1]; simp
theorem stF_set {B : Nat → Bool} {nt f k : Nat} {w : BitVec 64} (h : IsLow w k) (hB : B (f + k) = true) : (tab nt (stF B f w)).set (f + k) true = tab nt (stF B f (w &&& (w - 1#64))) := by
  refine tab_set fun j hj => ?_
  unfold stF
  rw [clear_low h]
  have h64 := h.1
  by_cases h1 : j = f + k
  · subst h1; rw [if_pos rfl, hB, decide_eq_true (by omega : f + k < f + 64), show f + k - f = k by omega]; simp
  · rw [if_neg h1]
    by_cases h2 : j < f
    · rw [decide_eq_true h2]; simp
    · rw [decide_eq_false (by omega : ¬ j - f = k)]; simp
theorem all_done (B : Nat → Bool) {nt f : Nat} (h : nt ≤ f) : tab nt (fun j => B j && decide (j < f)) = tab nt B := tab_congr fun j hj => by rw [decide_eq_true (by omega)]; simp
/-- A chunk. -/
def ckOf (rs : List BRow) (f : Nat) : List BRow := (rs.drop f).take 64
theorem ckOf_len (rs : List BRow) (f : Nat) : (ckOf rs f).length = min 64 (rs.length - f) := by unfold ckOf; rw [List.length_take, List.length_drop]
theorem ckOf_get (rs : List BRow) {f i : Nat} (h : i < 64) : (ckOf rs f).getD i (none, 0, []) = rs.getD (f + i) (none, 0, []) := by
  unfold ckOf; rw [List.getD_eq_getElem?_getD, List.getD_eq_getElem?_getD, List.getElem?_take, if_pos h, List.getElem?_drop]
theorem ckOf_cut (rs : List BRow) (f : Nat) (hf : f < rs.length) : (rs.drop ((f : Nat) : Int).toNat).take (min (((f : Nat) : Int) + 64) ((rs.length : Nat) : Int) - (f : Int)).toNat = ckOf rs f := by
  unfold ckOf
  rw [Int.toNat_natCast]
  by_cases h : f + 64 ≤ rs.length
  · rw [show (min (((f : Nat) : Int) + 64) ((rs.length : Nat) : Int) - (f : Int)).toNat = 64 by omega]
  · rw [show (min (((f : Nat) : Int) + 64) ((rs.length : Nat) : Int) - (f : Int)).toNat = rs.length - f by omega, List.take_of_length_le (by rw [List.length_drop]; omega), List.take_of_length_le (by rw [List.length_drop]; omega)]
theorem tab_map {α β : Type} (f : α → β) (l : List α) (z : α) : tab l.length (fun j => f (l.getD j z)) = l.map f := by
  refine (tab_eq (l := l.map f) (by simp) fun u x h => ?_).symm
  rw [List.getElem?_map] at h
  cases hy : l[u]? with
  | none => rw [hy] at h; cases h
  | some y =>
    rw [hy] at h
    rw [List.getD, hy]
    exact Option.some.inj h
end Go.Proofs.YtlcenenkloicjaaDoor
namespace Go.Lt
open Go.RowKit
set_option linter.unusedVariables false
section
variable {P : Program}
theorem run_sliceLH {T : Tab} {t : TypeId} (hT : OkTab P T) {ti : TI} {el : TypeId} {ei : TI} {ao : Option Addr} {n cap : Nat} {k k' : IntKind} {lo hi : Int} (ht : tget T t = some ti) (htd : ti.desc = .slice el) (he : tget T el = some ei) (h0 : 0 ≤ lo ∧ lo ≤ hi) (h1 : hi ≤ cap) (w : World) :
    (Instr.sliceAt t (.slice ao n cap) (some (.int k lo)) (some (.int k' hi)) none).run P w = .ok (.slice (if cap = lo.toNat then ao else ao.map (·.add (lo.toNat * ei.size))) (hi.toNat - lo.toNat) (cap - lo.toNat)) w := by
  have e1 := run_underlying' (hT.at ht); rw [htd] at e1
  have e2 := run_sizeOf' (hT.at he)
  have e3 : 0 ≤ hi := by omega
  simp [Instr.sliceAt, Instr.slice, e1, e2, Instr.sliceBounds, Instr.sliceBound, asIntOf, h0.1, e3, h1]
  intro hh; exfalso; omega
end
section rules
variable {P : Program} {N : Nat} {e : Env} {w : World} {Q : Exit → Act → World → Prop} {ops : List Oper} {l : List Oper} {T : Tab}
  {d : Nat} {tt ty : TypeId} {ps : String} {af : Array Edge} {g : Option (Nat × Bool)} {t : TypeId} {α : Type} {s : Nat} {enc : α → List Value} {B : Nat} {ti ei : TI} {el : TypeId} {C : World → Prop}
end rules
end Go.Lt
namespace Go.Lt
open Go.RowKit
set_option linter.unusedVariables false
set_option linter.unusedSimpArgs false
section
variable {P : Program} {e : Env} {dd : Option Tmp} {t ty tt : TypeId} {x y : Operand} {ps : String} {af : Array Edge} {g : Option (Nat × Bool)} {a b : Int} {u v : BitVec 64}
theorem usub (hx : ev e x = some (.int .u64 a)) (hy : ev e y = some (.int .u64 b)) (ha : a = (u.toNat : Int)) (hb : b = (v.toNat : Int)) : Yields P e ⟨dd, .binOp .sub t x y ty, tt, ps, af, g⟩ (u64 (u - v)) := by
  subst ha; subst hb
  have := Yields.bin (P := P) (d := dd) (op := .sub) (t := t) (ty := ty) (tt := tt) (ps := ps) (af := af) (g := g) hx hy rfl
  have e1 : IntKind.u64.wrap ((u.toNat : Int) - v.toNat) = (u - v).toNat := by
    have h1 := u.isLt
    have h2 := v.isLt
    rw [IntKind.wrap_u64, BitVec.toNat_sub]; omega
  rwa [e1] at this
theorem uneg (hx : ev e x = some (.int .u64 a)) (ha : a = (u.toNat : Int)) : Yields P e ⟨dd, .unOp .neg t x, tt, ps, af, g⟩ (u64 (-u)) := by
  subst ha
  intro ρ hρ w
  have e1 : IntKind.u64.wrap ((0 : Int) - u.toNat) = (-u).toNat := by
    have h1 := u.isLt
    rw [IntKind.wrap_u64, BitVec.toNat_neg]; omega
  have hrun : (Op.unary .neg (.int .u64 (u.toNat : Int))).run P w = .ok (u64 (-u)) w := by
    simp only [Op.unary, Op.intArith, Sem.run_pure]
    rw [e1]
  simp [execOp, hρ _ _ hx, hrun]
variable {N d : Nat} {w : World} {Q : Exit → Act → World → Prop} {C : World → Prop} {Kf : Act → Prop} {ops l : List Oper}
theorem WL.usub (hg : gate ops e g = some true) (hd : Nat.blt d N = true) (hx : ev e x = some (.int .u64 a)) (hy : ev e y = some (.int .u64 b)) (ha : a = (u.toNat : Int)) (hb : b = (v.toNat : Int)) (k : WL P N ops.toArray l ((d, u64 (u - v)) :: e) w Q) : WL P N ops.toArray (⟨some d, .binOp .sub t x y ty, tt, ps, af, g⟩ :: l) e w Q := WL.step hg hd (Lt.usub hx hy ha hb).in k
theorem QL.usub (hg : gate ops e g = some true) (hd : Nat.blt d N = true) (hx : ev e x = some (.int .u64 a)) (hy : ev e y = some (.int .u64 b)) (ha : a = (u.toNat : Int)) (hb : b = (v.toNat : Int)) (k : QL P N C ops.toArray l ((d, u64 (u - v)) :: e) Q) : QL P N C ops.toArray (⟨some d, .binOp .sub t x y ty, tt, ps, af, g⟩ :: l) e Q := QL.step hg hd (Lt.usub hx hy ha hb).in k
theorem WL.uneg (hg : gate ops e g = some true) (hd : Nat.blt d N = true) (hx : ev e x = some (.int .u64 a)) (ha : a = (u.toNat : Int)) (k : WL P N ops.toArray l ((d, u64 (-u)) :: e) w Q) : WL P N ops.toArray (⟨some d, .unOp .neg t x, tt, ps, af, g⟩ :: l) e w Q := WL.step hg hd (Lt.uneg hx ha).in k
theorem QL.uneg (hg : gate ops e g = some true) (hd : Nat.blt d N = true) (hx : ev e x = some (.int .u64 a)) (ha : a = (u.toNat : Int)) (k : QL P N C ops.toArray l ((d, u64 (-u)) :: e) Q) : QL P N C ops.toArray (⟨some d, .unOp .neg t x, tt, ps, af, g⟩ :: l) e Q := QL.step hg hd (Lt.uneg hx ha).in k
end
section
variable {P : Program} {N : Nat} {e : Env} {w : World} {Q : Exit → Act → World → Prop} {ops : List Oper} {l : List Oper} {T : Tab}
  {d : Nat} {tt ty : TypeId} {ps : String} {af : Array Edge} {g : Option (Nat × Bool)} {t : TypeId} {α : Type} {s : Nat} {enc : α → List Value} {ti ei : TI} {el : TypeId}
/-- l[lo:hi] of a row. -/
theorem WL.sliceR {x y z : Operand} {a : Option Addr} {xs : List α} {n cap : Nat} {kk k2 : IntKind} {lo hi : Int} {w0 : World} (hT : OkTab P T) (hg : gate ops e g = some true) (hd : Nat.blt d N = true)
    (hx : ev e x = some (.slice a n cap)) (hy : ev e y = some (.int kk lo)) (hz : ev e z = some (.int k2 hi)) (ht : tget T t = some ti) (htd : ti.desc = .slice el) (he : tget T el = some ei) (hs : ei.size = s)
    (R : Row s enc w0 a xs) (hn : xs.length = n) (hc : xs.length ≤ cap) (h0 : 0 ≤ lo ∧ lo ≤ hi ∧ hi ≤ xs.length)
    (k : ∀ a' cap', Row s enc w0 a' ((xs.drop lo.toNat).take (hi - lo).toNat) → ((xs.drop lo.toNat).take (hi - lo).toNat).length ≤ cap' → WL P N ops.toArray l ((d, .slice a' ((xs.drop lo.toNat).take (hi - lo).toNat).length cap') :: e) w Q) : WL P N ops.toArray (⟨some d, .slice t x (some y) (some z) none, tt, ps, af, g⟩ :: l) e w Q := by
  have el1 : ((xs.drop lo.toNat).take (hi - lo).toNat).length = hi.toNat - lo.toNat := by rw [List.length_take, List.length_drop]; omega
  refine WL.step hg hd ?_ (k _ (cap - lo.toNat) ((R.dropAt lo.toNat cap hc).take (hi - lo).toNat) (by rw [el1]; omega))
  refine Yields.in ?_
  intro ρ hρ w'
  have := run_sliceLH (P := P) hT (t := t) (ao := a) (n := n) (cap := cap) (k := kk) (k' := k2) (lo := lo) (hi := hi) ht htd he (by omega) (by omega) w'
  rw [hs] at this
  simp [execOp, hρ _ _ hx, hρ _ _ hy, hρ _ _ hz, this]
  omega
end
end Go.Lt
namespace Go.Lt
open Go.RowKit
set_option linter.unusedVariables false
set_option linter.unusedSimpArgs false

section arr
variable {P : Program} {T : Tab} {e : Env} {dd : Option Tmp} {t tt ty : TypeId} {x y : Operand} {ps : String} {af : Array Edge} {g : Option (Nat × Bool)}
theorem yindexA (hT : OkTab P T) {b off n s : Nat} {k : IntKind} {i : Int} {ti ei : TI} {el : TypeId}
    (hx : ev e x = some (.pointer (some ⟨b, off, none⟩))) (hy : ev e y = some (.int k i)) (ht : tget T t = some ti) (hd : ti.desc = .array n el) (he : tget T el = some ei) (hs : ei.size = s)
    (h0 : 0 ≤ i ∧ i < n) : Yields P e ⟨dd, .indexAddr t x y, tt, ps, af, g⟩ (.pointer (some ⟨b, off + i.toNat * s, none⟩)) := by
  intro ρ hρ w'
  have h1 := run_underlying' (hT.at ht); rw [hd] at h1
  have h2 := run_sizeOf' (hT.at he); rw [hs] at h2
  simp [execOp, hρ _ _ hx, hρ _ _ hy, Instr.indexAt, Instr.sureAddr, asIntOf, h1, h2, h0, Addr_add_none]
end arr
section rules
variable {P : Program} {N : Nat} {e : Env} {w : World} {Q : Exit → Act → World → Prop} {C : World → Prop} {ops : List Oper} {l : List Oper} {T : Tab}
  {d : Nat} {tt t ty : TypeId} {ps : String} {af : Array Edge} {g : Option (Nat × Bool)} {x y : Operand}
theorem WL.indexA (hT : OkTab P T) {b off n s : Nat} {k : IntKind} {i : Int} {ti ei : TI} {el : TypeId} (hg : gate ops e g = some true) (hd : Nat.blt d N = true)
    (hx : ev e x = some (.pointer (some ⟨b, off, none⟩))) (hy : ev e y = some (.int k i)) (ht : tget T t = some ti) (htd : ti.desc = .array n el) (he : tget T el = some ei) (hs : ei.size = s) (h0 : 0 ≤ i ∧ i < n)
    (k : WL P N ops.toArray l ((d, .pointer (some ⟨b, off + i.toNat * s, none⟩)) :: e) w Q) : WL P N ops.toArray (⟨some d, .indexAddr t x y, tt, ps, af, g⟩ :: l) e w Q := WL.step hg hd (yindexA hT hx hy ht htd he hs h0).in k
theorem QL.indexA (hT : OkTab P T) {b off n s : Nat} {k : IntKind} {i : Int} {ti ei : TI} {el : TypeId} (hg : gate ops e g = some true) (hd : Nat.blt d N = true)
    (hx : ev e x = some (.pointer (some ⟨b, off, none⟩))) (hy : ev e y = some (.int k i)) (ht : tget T t = some ti) (htd : ti.desc = .array n el) (he : tget T el = some ei) (hs : ei.size = s) (h0 : 0 ≤ i ∧ i < n)
    (k : QL P N C ops.toArray l ((d, .pointer (some ⟨b, off + i.toNat * s, none⟩)) :: e) Q) : QL P N C ops.toArray (⟨some d, .indexAddr t x y, tt, ps, af, g⟩ :: l) e Q := QL.step hg hd (yindexA hT hx hy ht htd he hs h0).in k
end rules

section lift
variable {H : Type} {enc : TypeId × Value → H} {P : Program} {w : World} {base : Nat} {spare : Nat → Bool} {held : Bool}
end lift
end Go.Lt
namespace Go.Lt
open Go.ChangeShapes Go.WideShapes Go.ChangeAt Go.RowKit Go.Deep
end Go.Lt
namespace Go.Lt
open Go.RowKit
set_option linter.unusedVariables false
set_option linter.unusedSimpArgs false

section
variable {P : Program} {T : Tab} {N d : Nat} {e : Env} {w : World} {ops l : List Oper} {Kf : Act → Prop} {tt t ty ct : TypeId} {ps : String} {af : Array Edge} {g : Option (Nat × Bool)} {x y : Operand}
end
end Go.Lt
namespace Go.Lt
open Go.RowKit
set_option linter.unusedVariables false
set_option linter.unusedSimpArgs false

section
variable {P : Program} {T : Tab} {N : Nat} {e : Env} {w : World} {Q : Exit → Act → World → Prop} {ops : List Oper} {l : List Oper}
  {d : Nat} {tt t ty kt et : TypeId} {ps : String} {af : Array Edge} {g : Option (Nat × Bool)} {x y : Operand} {i : TI} {dd : Option Tmp}
end
end Go.Lt
namespace Go.Lt
open Go.RowKit
theorem cells_tabFrom {W : World} {b : Nat} {k : IntKind} {zs : List Int} (h : ∀ i, i < zs.length → W.cell? ⟨b, i, none⟩ = some (.int k (zs.getD i 0))) : ∀ (r : List Int) (off : Nat), zs.drop off = r → Cells W b off (r.map (Value.int k))
  | [], _, _ => trivial
  | z :: r, off, e => by
    have hl : off < zs.length := by
      refine Classical.byContradiction fun hn => ?_
      rw [List.drop_eq_nil_of_le (by omega)] at e; cases e
    rw [List.drop_eq_getElem_cons hl] at e
    simp only [List.cons.injEq] at e
    refine ⟨?_, cells_tabFrom h r (off + 1) e.2⟩
    rw [h off hl, List.getD_eq_getElem?_getD, List.getElem?_eq_getElem hl, e.1]; rfl
theorem cells_tab {W : World} {b : Nat} {k : IntKind} {zs : List Int} (h : ∀ i, i < zs.length → W.cell? ⟨b, i, none⟩ = some (.int k (zs.getD i 0))) : Cells W b 0 (zs.map (Value.int k)) := cells_tabFrom h zs 0 rfl
theorem Cells.at {w : World} {b : Nat} : ∀ {l : List Value} {off i : Nat} {v : Value}, Cells w b off l → l[i]? = some v → w.cell? ⟨b, off + i, none⟩ = some v
  | u :: r, off, 0, v, h, e => by simp at e; subst e; exact h.1
  | u :: r, off, i + 1, v, h, e => by
    have := Cells.at (i := i) h.2 (by simpa using e)
    rwa [show off + 1 + i = off + (i + 1) by omega] at this
end Go.Lt
namespace Go.Proofs.YtlcenenkloicjaaDoor
open Go Go.Lt Go.RowKit
set_option linter.unusedVariables false
set_option linter.unusedSimpArgs false
set_option maxRecDepth 20000

abbrev tzW : List Value := debr.map (Value.int .u8)
theorem bits_Trail (x : BitVec 64) (k : Nat) (h : IsLow x k) (w : World) (hT : Cells w 1 0 tzW) : Still Tryd.prog 37 [u64 x] w (.int .i64 k) := by
  have hx0 : ¬ ((x.toNat : Nat) : Int) = 0 := fun e => by
    have : x = 0#64 := BitVec.eq_of_toNat_eq (by simpa using e)
    have h1 := h.2.1
    rw [this, BitVec.getLsbD_zero] at h1; cases h1
  have hd := debr_at h
  have e1 : (285870213051353865#64) = BitVec.ofInt 64 285870213051353865 := by decide
  rw [e1] at hd
  have hlt : 0 ≤ ((((x &&& -x) * BitVec.ofInt 64 285870213051353865) >>> Int.toNat 58).toNat : Int) ∧ ((((x &&& -x) * BitVec.ofInt 64 285870213051353865) >>> Int.toNat 58).toNat : Int) < (64 : Nat) := by
    refine ⟨by omega, ?_⟩
    rw [show Int.toNat 58 = 58 from rfl, BitVec.toNat_ushiftRight, Nat.shiftRight_eq_div_pow]
    have := ((x &&& -x) * BitVec.ofInt 64 285870213051353865).isLt
    have : ((x &&& -x) * BitVec.ofInt 64 285870213051353865).toNat / 2 ^ 58 < 64 := by rw [Nat.div_lt_iff_lt_mul (by decide)]; omega
    omega
  have hv : w.cell? ⟨1, 0 + ((((x &&& -x) * BitVec.ofInt 64 285870213051353865) >>> Int.toNat 58).toNat : Int).toNat * 1, none⟩ = some (.int .u8 (k : Int)) := by
    rw [Nat.mul_one, Int.toNat_natCast]
    refine Cells.at hT ?_
    rw [List.getElem?_map, show Int.toNat 58 = 58 from rfl, hd]; rfl
  have hw : IntKind.i64.wrap (k : Int) = k := IntWalk.i64_in _ (by have := h.1; omega)
  refine Spec.of _ Tryd.func37 rfl Tryd.ntmps37 (by kernel_rfl) rfl ?_
  repeat' (first
    | (apply W.condKF; exact rfl; (focus (first | exact dec_false hx0; done)))
    | (apply WL.uneg; exact rfl; exact rfl; exact rfl; (first | exact rfl | exact u64_lit _ (by omega)))
    | (apply WL.uand; exact rfl; exact rfl; exact rfl; exact rfl; (first | exact rfl | exact u64_lit _ (by omega)); (first | exact rfl | exact u64_lit _ (by omega)))
    | (apply WL.umul; exact rfl; exact rfl; exact rfl; exact rfl; (first | exact rfl | exact u64_lit _ (by omega)); (first | exact rfl | exact u64_lit _ (by omega)))
    | (apply WL.ushr; exact rfl; exact rfl; exact rfl; exact rfl; (first | exact rfl | exact u64_lit _ (by omega)); omega)
    | ((apply WL.indexA tOk; exact rfl; exact rfl; exact rfl; exact rfl; exact rfl; exact rfl; exact rfl; exact rfl; exact hlt))
    | (show WL _ _ _ _ _ _ _; first | apply WL.nil | (refine WL.au (k := ?_)))
    | (show Z _ _ _ _ _; apply Z.then_normal)
    | (show W _ _ _ _ _ _; first | apply W.seq | apply W.region | apply W.skip | apply W.ret)
    | fail)
  exact Z.body1 Tryd.results37 rfl fun m => ⟨congrArg (Value.int .i64) hw, m, rfl⟩

set_option maxHeartbeats 4000000 in
theorem fsim_shows (ra rb rt : Option Addr) (cap cb ct : Nat) (n : List (Int × Int)) (outs : List Int) (v p : Int) (o : Bool) (rs : List BRow) (w : World) (R : Row 2 encN w ra n) (Rb : Row 1 encI w rb outs) (Rt : Row 1 encR w rt rs) (hna : ra = none → cap = 0) (hnb : rb = none → cb = 0) (hct : rs.length ≤ ct) (hRs : RowsIn w rs) (hbs : ∀ r ∈ rs, r.2.2.length ≤ 1048576) (hnt : rs.length ≤ 1048576) (hg : GoodNet n) (hn : n.length ≤ 1048576) (ho : outs.length ≤ 1048576) (hv : inI64 v) (hk : ∀ l ∈ outs, 0 ≤ l ∧ l ≤ 2 * (n.length : Int) + 1) (hT : Cells w 1 0 tzW) :
    Lt.Spec Tryd.prog 29 [.slice ra n.length cap, .slice rb outs.length cb, fv v p o, .slice rt rs.length ct] w (IsFresh 1 encB 4 w (rs.map (dB n outs v p o))) := by
  refine Spec.of _ Tryd.func29 rfl Tryd.ntmps29 (by kernel_rfl) rfl ?_
  repeat' (first
    | (show W _ _ _ _ _ _; first | apply W.seq | apply W.region)
    | fail)
  apply WL.box; exact rfl; exact rfl; exact rfl; intro gb w' hb hge hc hx
  obtain ⟨g6, rfl⟩ : ∃ x, x = gb := ⟨_, rfl⟩; obtain ⟨wb, rfl⟩ : ∃ x, x = w' := ⟨_, rfl⟩; obtain ⟨hge6, rfl⟩ : ∃ x, x = hge := ⟨_, rfl⟩
  have hc6 : Cells wb g6 0 [.int .i64 v, .int .i64 p, .bool o] := hc
  have hXb : Ext w wb := hx
  clear hc hx hb
  repeat' (first
    | (apply WL.make (w0 := wb) tOk; exact rfl; exact rfl; exact rfl; exact rfl; exact rfl; exact rfl; exact rfl; exact rfl; exact rfl; exact encB_ok; exact rfl; exact rfl; (exact extA); (first | omega | (simp; omega) | (simp at *; omega)); intro gb w' hO hge hx)
    | (show WL _ _ _ _ _ _ _; first | apply WL.nil | (refine WL.au (k := ?_)))
    | (show Z _ _ _ _ _; apply Z.then_normal)
    | (show W _ _ _ _ _ _; first | apply W.seq | apply W.region | apply W.block)
    | fail)
  have en : ((rs.length : Nat) : Int).toNat = rs.length := Int.toNat_natCast _
  have e0l : (List.replicate rs.length false).length = rs.length := List.length_replicate
  rw [en] at hO ⊢
  obtain ⟨g0, rfl⟩ : ∃ x, x = gb := ⟨_, rfl⟩
  let B : Nat → Bool := fun j => dB n outs v p o (rs.getD j (none, 0, []))
  have hB : B = fun j => dB n outs v p o (rs.getD j (none, 0, [])) := rfl
  clear_value B
  have e0 : List.replicate rs.length false = tab rs.length (fun j => B j && decide (j < 64 * 0)) := by rw [tab_rep]; exact tab_congr fun u hu => by simp
  rw [e0] at hO
  refine W.loopW (rs.length + 64) (fun k w' => 64 * k ≤ rs.length + 63 ∧ Ext wb w' ∧ Own 1 encB 4 wb.heap.size w' (some ⟨g0, 0, none⟩) rs.length (tab rs.length (fun j => B j && decide (j < 64 * k))))
    (fun k => [(0, .slice ra n.length cap), (1, .slice rb outs.length cb), (3, .slice rt rs.length ct), (6, .pointer (some ⟨g6, 0, none⟩)), (9, .slice (some ⟨g0, 0, none⟩) rs.length rs.length), (10, .int .i64 ((64 * k : Nat) : Int))]) ⟨by omega, hx, hO⟩ (fun k w' h => by omega) (by repeat' first | exact trivial | (refine And.intro ?_ ?_) | exact rfl | (rw [e0l]; exact rfl)) ?_
  clear hO
  rintro k w' ⟨hkb, hx', hO'⟩
  have Rt1 := (Rt.ext hXb).ext hx'
  by_cases hlt : 64 * k < rs.length
  · have eck := ckOf_cut rs (64 * k) hlt
    have ecl := ckOf_len rs (64 * k)
    repeat' (first
      | (apply W.condKT; exact rfl; (focus (first | exact dec_true (by omega); done)))
      | (apply WL.min; exact rfl; exact rfl; exact rfl; exact rfl)
      | (apply WL.sliceR tOk; exact rfl; exact rfl; exact rfl; exact rfl; exact rfl; exact rfl; exact rfl; exact rfl; exact rfl; assumption; (first | exact rfl | (focus (simp only [List.length_set]; done)) | (focus (simp; done)) | (focus (simp [*]; done)) | omega | (focus (simp only [List.length_set]; omega))); (first | assumption | omega); (first | omega | (simp; omega) | (simp at *; omega)); intro a' cap' hR hc)
      | (show WL _ _ _ _ _ _ _; first | apply WL.nil | (refine WL.au (k := ?_)))
      | (show Z _ _ _ _ _; apply Z.then_normal)
      | (show W _ _ _ _ _ _; first | apply W.seq | apply W.region | apply W.block | apply W.skip)
      | fail)
    rw [eck] at hR hc ⊢
    have hmem : ∀ r ∈ ckOf rs (64 * k), r ∈ rs := fun r hr => List.mem_of_mem_drop (List.mem_of_mem_take hr)
    have hckb : ∀ r ∈ ckOf rs (64 * k), r.2.2.length ≤ 1048576 := fun r hr => hbs r (hmem r hr)
    have hcr : ∀ w9, Ext w w9 → RowsIn w9 (ckOf rs (64 * k)) := fun w9 h9 r hr => ⟨(hRs r (hmem r hr)).1.ext h9, (hRs r (hmem r hr)).2⟩
    have hXw : Ext w w' := hXb.trans hx'
    have hc6' : Cells w' g6 0 [.int .i64 v, .int .i64 p, .bool o] := hc6.ext hx'
    have hbit := wordC_bit (v := v) (p := p) (o := o) hg hk (ck := ckOf rs (64 * k)) (by omega)
    have hsame : ∀ i, 64 * k + i < rs.length → i < 64 → (wordC n outs v p o (ckOf rs (64 * k))).getLsbD i = B (64 * k + i) := fun i h1 h2 => by
      rw [hbit, ckOf_get rs h2, hB, decide_eq_true (by omega)]; rfl
    have honly : ∀ i, (wordC n outs v p o (ckOf rs (64 * k))).getLsbD i = true → 64 * k + i < rs.length ∧ i < 64 ∧ B (64 * k + i) = true := fun i hi => by
      have h0 := hi
      rw [hbit, Bool.and_eq_true] at h0
      have h1 := of_decide_eq_true h0.1
      exact ⟨by omega, by omega, by rw [← hsame i (by omega) (by omega)]; exact hi⟩
    have ew1 : (ckOf rs (64 * k)).length < 64 → fwords n outs v p o (pack (ckOf rs (64 * k))) &&& (BitVec.ofInt 64 1 <<< ((ckOf rs (64 * k)).length : Int).toNat - BitVec.ofInt 64 1) = wordC n outs v p o (ckOf rs (64 * k)) := fun h => by
      unfold wordC; rw [if_pos h, Int.toNat_natCast]; rfl
    have ew2 : ¬ (ckOf rs (64 * k)).length < 64 → fwords n outs v p o (pack (ckOf rs (64 * k))) = wordC n outs v p o (ckOf rs (64 * k)) := fun h => by
      unfold wordC; rw [if_neg h]
    by_cases h64 : (ckOf rs (64 * k)).length < 64
    · repeat' (first
        | (apply WL.uand; exact rfl; exact rfl; exact rfl; exact rfl; (first | exact rfl | exact u64_lit _ (by omega)); (first | exact rfl | exact u64_lit _ (by omega)))
        | (apply WL.ushl; exact rfl; exact rfl; exact rfl; exact rfl; (first | exact rfl | exact u64_lit _ (by omega)); omega)
        | (apply WL.usub; exact rfl; exact rfl; exact rfl; exact rfl; (first | exact rfl | exact u64_lit _ (by omega)); (first | exact rfl | exact u64_lit _ (by omega)))
        | (apply W.condKT; exact rfl; (focus (first | exact dec_true (by omega); done)))
        | (show W _ _ (.region 6 _ _) _ _ _; apply W.regionG (.fl true 0 (.fl true 1 (.fl true 3 (.fl false 2 (.br 4 (.br 5 (.fl true 6 .done) .stop) .stop))))) [4] (Ext w') tMix; kernel_rfl)
        | ((show WL _ _ _ (⟨_, .call ⟨.value (.func 36), _, _⟩, _, _, _, _⟩ :: _) _ _ _); apply WL.call; exact rfl; exact rfl; exact rfl; exact rfl; exact sim_Pack _ _ (ckOf rs (64 * k)) _ (hR.ext (by (exact extA))) hc (hcr _ (hXw.trans (by (exact extA)))) hckb; rintro v' w' ⟨hx, a', cap', rfl, hO⟩)
        | ((show WL _ _ _ (⟨_, .call ⟨.value (.func 35), _, _⟩, _, _, _, _⟩ :: _) _ _ _); apply WL.callP; exact rfl; exact rfl; exact rfl; exact rfl; exact fsim_Words _ _ _ _ _ _ n outs v p o (pack (ckOf rs (64 * k))) _ (R.ext (hXw.trans (by (exact extA)))) (Rb.ext (hXw.trans (by (exact extA)))) (Own.row encV_ok (by assumption)) hna hnb (Own.capLe (by assumption)) hg hn ho hv hk; intro w' hx)
        | (show WL _ _ _ _ _ _ _; first | apply WL.nil | (refine WL.au (k := ?_)))
        | (show SG _ _ _ _ _ _ _ _ _; first | apply SG.done | (apply SG.fl0; exact rfl) | (apply SG.fl1; exact rfl; (focus ((intro m; first | assumption | (apply Ext.at; (exact extA)) | apply But.of_at; first | exact But.upd (by assumption) | exact But.ext (by (exact extA)) | (refine But.trans ?_ (But.upd (by assumption)); exact But.ext (by (exact extA))) | exact But.at _ _ _); done))) | (apply SG.br1; exact rfl))
        | (show FL _ _ _ _ _ _ _ _; (apply FL.loadAE tOk; exact rfl; exact rfl; exact rfl; exact rfl; exact rfl; assumption; exact rfl))
        | (show FL _ _ _ _ _ _ _ _; first | apply FL.nilS | (refine FL.au (k := ?_)))
        | (show Z _ _ _ _ _; first | (apply Z.sgL; exact rfl) | (apply Z.sgE; (focus ((intro m; first | assumption | (apply Ext.at; (exact extA)) | apply But.of_at; first | exact But.upd (by assumption) | exact But.ext (by (exact extA)) | (refine But.trans ?_ (But.upd (by assumption)); exact But.ext (by (exact extA))) | exact But.at _ _ _); done))))
        | (show Z _ _ _ _ _; apply Z.then_normal)
        | (show W _ _ _ _ _ _; first | apply W.seq | apply W.region | apply W.block)
        | fail)
      rw [ew1 h64]
      rw [stF_start hsame] at hO'
      refine W.loop (σ := BitVec 64 × World) (fun s => (∀ i, s.1.getLsbD i = true → 64 * k + i < rs.length ∧ i < 64 ∧ B (64 * k + i) = true) ∧ Ext wb s.2 ∧ Own 1 encB 4 wb.heap.size s.2 (some ⟨g0, 0, none⟩) rs.length (tab rs.length (stF B (64 * k) s.1)))
        (fun s => [(0, .slice ra n.length cap), (1, .slice rb outs.length cb), (3, .slice rt rs.length ct), (6, .pointer (some ⟨g6, 0, none⟩)), (9, .slice (some ⟨g0, 0, none⟩) rs.length rs.length), (10, .int .i64 ((64 * k : Nat) : Int)), (12, u64 s.1)]) (fun s => s.2) (fun s => s.1.toNat) (wordC n outs v p o (ckOf rs (64 * k)), _) ⟨honly, hx'.trans (by (exact extA)), hO'.ext (by (exact extA))⟩ (by repeat' first | exact trivial | (refine And.intro ?_ ?_) | exact rfl) rfl ?_
      clear hO'
      rintro ⟨wd, w5⟩ ⟨hbits, hx5, hO5⟩
      dsimp only at hbits hx5 hO5 ⊢
      by_cases hz : wd = 0#64
      · subst hz
        repeat' (first
          | (apply W.condKF; exact rfl; (focus (first | exact dec_false (by simp); done)))
          | (show WL _ _ _ _ _ _ _; first | apply WL.nil | (refine WL.au (k := ?_)))
          | (show Z _ _ _ _ _; first | apply Z.then_normal | apply Z.block_normal | apply Z.then_exit | apply Z.block_exit)
          | (show W _ _ _ _ _ _; first | apply W.seq | apply W.region | apply W.exit)
          | fail)
        rw [stF_end] at hO5
        exact Z.againW ⟨by omega, hx5, hO5⟩ ⟨rfl, rfl, rfl, rfl, rfl, rfl, trivial⟩
      · have hz' : ((wd.toNat : Nat) : Int) ≠ 0 := fun e => hz (BitVec.eq_of_toNat_eq (by simpa using e))
        obtain ⟨q, hq⟩ := exists_low hz
        obtain ⟨hq1, hq2, hq3⟩ := hbits q hq.2.1
        have hl5 : (tab rs.length (stF B (64 * k) wd)).length = rs.length := tab_len _ _
        have hi5 : (tab rs.length (stF B (64 * k) wd))[(((64 * k : Nat) : Int) + (q : Int)).toNat]? = some (stF B (64 * k) wd (64 * k + q)) := by
          rw [show (((64 * k : Nat) : Int) + (q : Int)).toNat = 64 * k + q by omega]; exact tab_get _ hq1
        repeat' (first
          | (apply W.condKT; exact rfl; (focus (first | exact dec_true hz'; done)))
          | ((show WL _ _ _ (⟨_, .call ⟨.value (.func 37), _, _⟩, _, _, _, _⟩ :: _) _ _ _); apply WL.callS; exact rfl; exact rfl; exact rfl; exact rfl; exact bits_Trail wd q hq _ ((hT.ext hXb).ext (hx5.trans (by (exact extA)))))
          | (apply WL.usub; exact rfl; exact rfl; exact rfl; exact rfl; (first | exact rfl | exact u64_lit _ (by omega)); (first | exact rfl | exact u64_lit _ (by omega)))
          | (apply WL.uand; exact rfl; exact rfl; exact rfl; exact rfl; (first | exact rfl | exact u64_lit _ (by omega)); (first | exact rfl | exact u64_lit _ (by omega)))
          | (apply WL.indexO tOk; exact rfl; exact rfl; exact rfl; exact rfl; exact rfl; exact rfl; exact rfl; exact rfl; assumption; (exact extA); exact encB_ok; (first | exact rfl | (focus (simp only [List.length_set]; done)) | (focus (simp; done)) | (focus (simp [*]; done)) | omega | (focus (simp only [List.length_set]; omega))); omega; assumption; intro gb ha hc; cases ha; have hcc := hc; first | (obtain ⟨h1, h2, h3, _⟩ := hc) | (obtain ⟨h1, h2, _⟩ := hc) | (obtain ⟨h1, _⟩ := hc))
          | (apply WL.storeO tOk; exact rfl; exact rfl; exact rfl; exact rfl; assumption; (exact extA); exact rfl; exact rfl; exact rfl; exact encB_ok; assumption; exact rfl; (exact extA); intro w' hO hX' hU)
          | (show WL _ _ _ _ _ _ _; first | apply WL.nil | (refine WL.au (k := ?_)))
          | (show Z _ _ _ _ _; first | apply Z.then_normal | apply Z.block_normal)
          | (show W _ _ _ _ _ _; first | apply W.seq | apply W.region | apply W.block | apply W.skip)
          | fail)
        rw [show (((64 * k : Nat) : Int) + (q : Int)).toNat = 64 * k + q by omega, stF_set hq hq3] at hO
        exact Z.again (wd &&& (wd - 1#64), _) ⟨fun i hi => hbits i (by rw [clear_low hq, Bool.and_eq_true] at hi; exact hi.1), (by (exact extA)), hO⟩ (clear_less hz) ⟨rfl, rfl, rfl, rfl, rfl, rfl, rfl, trivial⟩ rfl
    · repeat' (first
        | (apply W.condKF; exact rfl; (focus (first | exact dec_false (by omega); done)))
        | (show W _ _ (.region 6 _ _) _ _ _; apply W.regionG (.fl true 0 (.fl true 1 (.fl true 3 (.fl false 2 (.br 4 (.br 5 (.fl true 6 .done) .stop) .stop))))) [4] (Ext w') tMix; kernel_rfl)
        | ((show WL _ _ _ (⟨_, .call ⟨.value (.func 36), _, _⟩, _, _, _, _⟩ :: _) _ _ _); apply WL.call; exact rfl; exact rfl; exact rfl; exact rfl; exact sim_Pack _ _ (ckOf rs (64 * k)) _ (hR.ext (by (exact extA))) hc (hcr _ (hXw.trans (by (exact extA)))) hckb; rintro v' w' ⟨hx, a', cap', rfl, hO⟩)
        | ((show WL _ _ _ (⟨_, .call ⟨.value (.func 35), _, _⟩, _, _, _, _⟩ :: _) _ _ _); apply WL.callP; exact rfl; exact rfl; exact rfl; exact rfl; exact fsim_Words _ _ _ _ _ _ n outs v p o (pack (ckOf rs (64 * k))) _ (R.ext (hXw.trans (by (exact extA)))) (Rb.ext (hXw.trans (by (exact extA)))) (Own.row encV_ok (by assumption)) hna hnb (Own.capLe (by assumption)) hg hn ho hv hk; intro w' hx)
        | (show WL _ _ _ _ _ _ _; first | apply WL.nil | (refine WL.au (k := ?_)))
        | (show SG _ _ _ _ _ _ _ _ _; first | apply SG.done | (apply SG.fl0; exact rfl) | (apply SG.fl1; exact rfl; (focus ((intro m; first | assumption | (apply Ext.at; (exact extA)) | apply But.of_at; first | exact But.upd (by assumption) | exact But.ext (by (exact extA)) | (refine But.trans ?_ (But.upd (by assumption)); exact But.ext (by (exact extA))) | exact But.at _ _ _); done))) | (apply SG.br1; exact rfl))
        | (show FL _ _ _ _ _ _ _ _; (apply FL.loadAE tOk; exact rfl; exact rfl; exact rfl; exact rfl; exact rfl; assumption; exact rfl))
        | (show FL _ _ _ _ _ _ _ _; first | apply FL.nilS | (refine FL.au (k := ?_)))
        | (show Z _ _ _ _ _; first | (apply Z.sgL; exact rfl) | (apply Z.sgE; (focus ((intro m; first | assumption | (apply Ext.at; (exact extA)) | apply But.of_at; first | exact But.upd (by assumption) | exact But.ext (by (exact extA)) | (refine But.trans ?_ (But.upd (by assumption)); exact But.ext (by (exact extA))) | exact But.at _ _ _); done))))
        | (show Z _ _ _ _ _; apply Z.then_normal)
        | (show W _ _ _ _ _ _; first | apply W.seq | apply W.region | apply W.block | apply W.skip)
        | fail)
      rw [ew2 h64]
      rw [stF_start hsame] at hO'
      refine W.loop (σ := BitVec 64 × World) (fun s => (∀ i, s.1.getLsbD i = true → 64 * k + i < rs.length ∧ i < 64 ∧ B (64 * k + i) = true) ∧ Ext wb s.2 ∧ Own 1 encB 4 wb.heap.size s.2 (some ⟨g0, 0, none⟩) rs.length (tab rs.length (stF B (64 * k) s.1)))
        (fun s => [(0, .slice ra n.length cap), (1, .slice rb outs.length cb), (3, .slice rt rs.length ct), (6, .pointer (some ⟨g6, 0, none⟩)), (9, .slice (some ⟨g0, 0, none⟩) rs.length rs.length), (10, .int .i64 ((64 * k : Nat) : Int)), (12, u64 s.1)]) (fun s => s.2) (fun s => s.1.toNat) (wordC n outs v p o (ckOf rs (64 * k)), _) ⟨honly, hx'.trans (by (exact extA)), hO'.ext (by (exact extA))⟩ (by repeat' first | exact trivial | (refine And.intro ?_ ?_) | exact rfl) rfl ?_
      clear hO'
      rintro ⟨wd, w5⟩ ⟨hbits, hx5, hO5⟩
      dsimp only at hbits hx5 hO5 ⊢
      by_cases hz : wd = 0#64
      · subst hz
        repeat' (first
          | (apply W.condKF; exact rfl; (focus (first | exact dec_false (by simp); done)))
          | (show WL _ _ _ _ _ _ _; first | apply WL.nil | (refine WL.au (k := ?_)))
          | (show Z _ _ _ _ _; first | apply Z.then_normal | apply Z.block_normal | apply Z.then_exit | apply Z.block_exit)
          | (show W _ _ _ _ _ _; first | apply W.seq | apply W.region | apply W.exit)
          | fail)
        rw [stF_end] at hO5
        exact Z.againW ⟨by omega, hx5, hO5⟩ ⟨rfl, rfl, rfl, rfl, rfl, rfl, trivial⟩
      · have hz' : ((wd.toNat : Nat) : Int) ≠ 0 := fun e => hz (BitVec.eq_of_toNat_eq (by simpa using e))
        obtain ⟨q, hq⟩ := exists_low hz
        obtain ⟨hq1, hq2, hq3⟩ := hbits q hq.2.1
        have hl5 : (tab rs.length (stF B (64 * k) wd)).length = rs.length := tab_len _ _
        have hi5 : (tab rs.length (stF B (64 * k) wd))[(((64 * k : Nat) : Int) + (q : Int)).toNat]? = some (stF B (64 * k) wd (64 * k + q)) := by
          rw [show (((64 * k : Nat) : Int) + (q : Int)).toNat = 64 * k + q by omega]; exact tab_get _ hq1
        repeat' (first
          | (apply W.condKT; exact rfl; (focus (first | exact dec_true hz'; done)))
          | ((show WL _ _ _ (⟨_, .call ⟨.value (.func 37), _, _⟩, _, _, _, _⟩ :: _) _ _ _); apply WL.callS; exact rfl; exact rfl; exact rfl; exact rfl; exact bits_Trail wd q hq _ ((hT.ext hXb).ext (hx5.trans (by (exact extA)))))
          | (apply WL.usub; exact rfl; exact rfl; exact rfl; exact rfl; (first | exact rfl | exact u64_lit _ (by omega)); (first | exact rfl | exact u64_lit _ (by omega)))
          | (apply WL.uand; exact rfl; exact rfl; exact rfl; exact rfl; (first | exact rfl | exact u64_lit _ (by omega)); (first | exact rfl | exact u64_lit _ (by omega)))
          | (apply WL.indexO tOk; exact rfl; exact rfl; exact rfl; exact rfl; exact rfl; exact rfl; exact rfl; exact rfl; assumption; (exact extA); exact encB_ok; (first | exact rfl | (focus (simp only [List.length_set]; done)) | (focus (simp; done)) | (focus (simp [*]; done)) | omega | (focus (simp only [List.length_set]; omega))); omega; assumption; intro gb ha hc; cases ha; have hcc := hc; first | (obtain ⟨h1, h2, h3, _⟩ := hc) | (obtain ⟨h1, h2, _⟩ := hc) | (obtain ⟨h1, _⟩ := hc))
          | (apply WL.storeO tOk; exact rfl; exact rfl; exact rfl; exact rfl; assumption; (exact extA); exact rfl; exact rfl; exact rfl; exact encB_ok; assumption; exact rfl; (exact extA); intro w' hO hX' hU)
          | (show WL _ _ _ _ _ _ _; first | apply WL.nil | (refine WL.au (k := ?_)))
          | (show Z _ _ _ _ _; first | apply Z.then_normal | apply Z.block_normal)
          | (show W _ _ _ _ _ _; first | apply W.seq | apply W.region | apply W.block | apply W.skip)
          | fail)
        rw [show (((64 * k : Nat) : Int) + (q : Int)).toNat = 64 * k + q by omega, stF_set hq hq3] at hO
        exact Z.again (wd &&& (wd - 1#64), _) ⟨fun i hi => hbits i (by rw [clear_low hq, Bool.and_eq_true] at hi; exact hi.1), (by (exact extA)), hO⟩ (clear_less hz) ⟨rfl, rfl, rfl, rfl, rfl, rfl, rfl, trivial⟩ rfl
  · repeat' (first
      | (apply W.condKF; exact rfl; (focus (first | exact dec_false (by omega); done)))
      | (show WL _ _ _ _ _ _ _; first | apply WL.nil | (refine WL.au (k := ?_)))
      | (show Z _ _ _ _ _; first | apply Z.then_normal | apply Z.then_exit | apply Z.block_exit)
      | (show W _ _ _ _ _ _; first | apply W.seq | apply W.region | apply W.ret | apply W.exit)
      | fail)
    rw [all_done B (by omega), hB, tab_map (dB n outs v p o) rs (none, 0, [])] at hO'
    exact Z.body1 Tryd.results29 rfl fun m => ⟨Ext.at (by (exact extA)) m, _, rs.length, by rw [List.length_map], hO'.base hXb.size⟩
end Go.Proofs.YtlcenenkloicjaaDoor
namespace Go.Proofs.YtlcenenkloicjaaDoor
open Go Go.Lt Go.RowKit
set_option linter.unusedVariables false
set_option linter.unusedSimpArgs false
set_option maxRecDepth 20000

abbrev live45 : List (Int × Int) := [(-1, 0), (-1, 0), (2, 4)]
theorem good45 : GoodNet live45 := by
  intro i x h
  match i, h with
  | 0, h => cases h; unfold badNode; decide
  | 1, h => cases h; unfold badNode; decide
  | 2, h => cases h; unfold badNode; decide
theorem d45a : detP live45 [6] 3 0 false [true, true] := ⟨by unfold goodF; decide, by decide⟩
theorem d45b : ¬ detP live45 [6] 3 0 false [false, true] := fun h => h.2 (by decide)
theorem d45c : detP live45 [6] 1 0 true [false, true] := ⟨by unfold goodF; decide, by decide⟩
theorem k45 : ∀ l ∈ [(6 : Int)], 0 ≤ l ∧ l ≤ 2 * ((live45.length : Nat) : Int) + 1 := fun l h => by simp at h; subst h; decide
set_option maxHeartbeats 4000000 in
theorem lives45 (w : World) : Pure Tryd.prog 14 [] w (.bool true) := by
  refine Spec.of _ Tryd.func14 rfl Tryd.ntmps14 (by kernel_rfl) rfl ?_
  repeat' (first
    | (apply WL.build tOk; exact rfl; exact rfl; exact rfl; exact rfl; exact rfl; exact rfl; exact rfl; kernel_rfl)
    | (apply WL.lit tOk; exact rfl; exact rfl; exact rfl; exact rfl; exact rfl; exact rfl; (first | exact rfl | kernel_rfl | (simp [Instr.fill, catCells]; done)); exact rfl; intro gb w' hb hge hc hx; have hO := Own.of_block (live45) encN_ok hb hge rfl)
    | (show WL _ _ _ _ _ _ _; first | apply WL.nil | (refine WL.au (k := ?_)))
    | (show Z _ _ _ _ _; apply Z.then_normal)
    | (show W _ _ _ _ _ _; first | apply W.seq | apply W.region)
    | fail)
  have Rn := Own.row encN_ok hO
  have hx1 := hx
  obtain ⟨g1, rfl⟩ : ∃ x, x = gb := ⟨_, rfl⟩; obtain ⟨w1, rfl⟩ : ∃ x, x = w' := ⟨_, rfl⟩
  repeat' (first
    | (apply WL.lit tOk; exact rfl; exact rfl; exact rfl; exact rfl; exact rfl; exact rfl; (first | exact rfl | kernel_rfl | (simp [Instr.fill, catCells]; done)); exact rfl; intro gb w' hb hge hc hx; have hO := Own.of_block ([(6 : Int)]) encI_ok hb hge rfl)
    | (show WL _ _ _ _ _ _ _; first | apply WL.nil | (refine WL.au (k := ?_)))
    | (show Z _ _ _ _ _; apply Z.then_normal)
    | (show W _ _ _ _ _ _; first | apply W.seq | apply W.region)
    | fail)
  have Ro := Own.row encI_ok hO
  have hx2 : Ext w1 w' := (by (exact extA))
  have Rn2 := Rn.ext hx2
  have hxw : Ext w w' := hx1.trans hx2
  obtain ⟨g2, rfl⟩ : ∃ x, x = gb := ⟨_, rfl⟩; obtain ⟨w2, rfl⟩ : ∃ x, x = w' := ⟨_, rfl⟩
  repeat' (first
    | (apply WL.build tOk; exact rfl; exact rfl; exact rfl; exact rfl; exact rfl; exact rfl; exact rfl; kernel_rfl)
    | (apply WL.lit tOk; exact rfl; exact rfl; exact rfl; exact rfl; exact rfl; exact rfl; (first | exact rfl | kernel_rfl | (simp [Instr.fill, catCells]; done)); exact rfl; intro gb w' hb hge hc hx; have hO := Own.of_block ([true, true]) encB_ok hb hge rfl)
    | (apply WL.lit tOk; exact rfl; exact rfl; exact rfl; exact rfl; exact rfl; exact rfl; (first | exact rfl | kernel_rfl | (simp [Instr.fill, catCells]; done)); exact rfl; intro gb w' hb hge hc hx; have hO := Own.of_block ([false, true]) encB_ok hb hge rfl)
    | ((show WL _ _ _ (⟨_, .call ⟨.value (.func 27), _, _⟩, _, _, _, _⟩ :: _) _ _ _); apply WL.callP; exact rfl; exact rfl; exact rfl; exact rfl; exact fsim_Detects _ _ _ _ _ _ live45 [6] 3 0 false [true, true] _ (Rn2.ext (by (exact extA))) (Ro.ext (by (exact extA))) (Own.row encB_ok (by assumption)) (fun h => by cases h) (fun h => by cases h) (Nat.le_refl _) (by decide) good45 (by decide) (by decide) ⟨by decide, by decide⟩ k45; intro w' hx)
    | ((show WL _ _ _ (⟨_, .call ⟨.value (.func 27), _, _⟩, _, _, _, _⟩ :: _) _ _ _); apply WL.callP; exact rfl; exact rfl; exact rfl; exact rfl; exact fsim_Detects _ _ _ _ _ _ live45 [6] 3 0 false [false, true] _ (Rn2.ext (by (exact extA))) (Ro.ext (by (exact extA))) (Own.row encB_ok (by assumption)) (fun h => by cases h) (fun h => by cases h) (Nat.le_refl _) (by decide) good45 (by decide) (by decide) ⟨by decide, by decide⟩ k45; intro w' hx)
    | ((show WL _ _ _ (⟨_, .call ⟨.value (.func 27), _, _⟩, _, _, _, _⟩ :: _) _ _ _); apply WL.callP; exact rfl; exact rfl; exact rfl; exact rfl; exact fsim_Detects _ _ _ _ _ _ live45 [6] 1 0 true [false, true] _ (Rn2.ext (by (exact extA))) (Ro.ext (by (exact extA))) (Own.row encB_ok (by assumption)) (fun h => by cases h) (fun h => by cases h) (Nat.le_refl _) (by decide) good45 (by decide) (by decide) ⟨by decide, by decide⟩ k45; intro w' hx)
    | (apply WL.gT; exact rfl; exact rfl; (focus (first | exact dec_true d45a | (rw [dec_false d45b]; rfl) | exact dec_true d45c; done)))
    | (show WL _ _ _ _ _ _ _; first | apply WL.nil | (refine WL.au (k := ?_)))
    | (show Z _ _ _ _ _; apply Z.then_normal)
    | (show W _ _ _ _ _ _; apply W.ret)
    | fail)
  all_goals exact Z.body1 Tryd.results14 rfl fun m => ⟨congrArg Value.bool (by first | rfl | exact dec_true d45c), Ext.at (by (exact extA)) m⟩

end Go.Proofs.YtlcenenkloicjaaDoor
namespace Go.Proofs.YtlcenenkloicjaaDoor
open Go Go.Lt Go.RowKit
set_option linter.unusedVariables false
set_option linter.unusedSimpArgs false
set_option maxRecDepth 20000

/-- The place of the first that is so, counted from k on; -1 if there is none. -/
def fstF : List Bool → Nat → Int
  | [], _ => -1
  | b :: r, k => if b = true then (k : Int) else fstF r (k + 1)
theorem fstF_drop {l : List Bool} : ∀ {k : Nat}, k ≤ l.length → (∀ i, i < k → l[i]? = some false) → fstF l 0 = fstF (l.drop k) k
  | 0, _, _ => rfl
  | k + 1, hk, h => by
    rw [fstF_drop (k := k) (by omega) (fun i hi => h i (by omega)), List.drop_eq_getElem_cons (by omega)]
    have := h k (by omega)
    rw [List.getElem?_eq_getElem (by omega)] at this
    rw [Option.some.inj this, fstF, if_neg (by simp)]
theorem fstF_at {l : List Bool} {k : Nat} (h : ∀ i, i < k → l[i]? = some false) (hk : l[k]? = some true) : fstF l 0 = k := by
  have hl := (List.getElem?_eq_some_iff.1 hk).1
  rw [fstF_drop (k := k) (by omega) h, List.drop_eq_getElem_cons hl, (List.getElem?_eq_some_iff.1 hk).2, fstF, if_pos rfl]
theorem fstF_no {l : List Bool} (h : ∀ i, i < l.length → l[i]? = some false) : fstF l 0 = -1 := by
  rw [fstF_drop (k := l.length) (Nat.le_refl _) h, List.drop_length]; rfl
abbrev F3 := Int × Int × Bool
abbrev encF3 : F3 → List Value := fun x => [.int .i64 x.1, .int .i64 x.2.1, .bool x.2.2]
/-- Which tests show a fault; the first that does. -/
noncomputable def shF (n : List (Int × Int)) (outs : List Int) (rs : List BRow) (f : F3) : List Bool := rs.map (dB n outs f.1 f.2.1 f.2.2)
noncomputable def fiF (n : List (Int × Int)) (outs : List Int) (rs : List BRow) (f : F3) : Int := fstF (shF n outs rs f) 0
/-- The first so far: behind the k-th. -/
def atF (l : List Bool) : Nat → Int
  | 0 => -1
  | k + 1 => if l[k]? = some true then (k : Int) else -1
set_option maxHeartbeats 4000000 in
theorem ref45_First (ra rb rf rt : Option Addr) (cap cb cf ct : Nat) (n : List (Int × Int)) (outs : List Int) (fs : List F3) (rs : List BRow) (w : World) (R : Row 2 encN w ra n) (Rb : Row 1 encI w rb outs) (Rf : Row 3 encF3 w rf fs) (Rt : Row 1 encR w rt rs) (hRs : RowsIn w rs) (hnf : fs.length ≤ 1048576) (hg : GoodNet n) (hn : n.length ≤ 1048576) (ho : outs.length ≤ 1048576) (hv : ∀ f ∈ fs, inI64 f.1) (hk : ∀ l ∈ outs, 0 ≤ l ∧ l ≤ 2 * (n.length : Int) + 1) :
    Lt.Spec Tryd.prog 16 [.slice ra n.length cap, .slice rb outs.length cb, .slice rf fs.length cf, .slice rt rs.length ct] w (IsFresh 1 encI 3 w (fs.map (fiF n outs rs))) := by
  have hlt0 := Rt.len
  refine Spec.of _ Tryd.func16 rfl Tryd.ntmps16 (by kernel_rfl) rfl ?_
  repeat' (first
    | (apply WL.lit (len := 0) tOk; exact rfl; exact rfl; exact rfl; exact rfl; exact rfl; exact rfl; (first | exact rfl | kernel_rfl | (simp [Instr.fill, catCells]; done)); exact rfl; intro gb w' hb hge hc hx; have hO0 := Own.of_block0 (enc := encI) (s := 1) hb hge)
    | (show WL _ _ _ _ _ _ _; first | apply WL.nil | (refine WL.au (k := ?_)))
    | (show Z _ _ _ _ _; apply Z.then_normal)
    | (show W _ _ _ _ _ _; first | apply W.seq | apply W.region | apply W.block)
    | fail)
  refine W.loopO fs.length (fun k a' cp w' => k ≤ fs.length ∧ Ext w w' ∧ Own 1 encI 3 w.heap.size w' a' cp ((fs.take k).map (fiF n outs rs)))
    (fun k a' cp => [(0, .slice ra n.length cap), (1, .slice rb outs.length cb), (2, .slice rf fs.length cf), (3, .slice rt rs.length ct), (9, .slice a' ((fs.take k).map (fiF n outs rs)).length cp), (10, .int .i64 k)]) (some ⟨gb, 0, none⟩) 0 ⟨by omega, hx, hO0⟩ (fun k a' cp w' h => h.1) (by repeat' first | exact trivial | (refine And.intro ?_ ?_) | exact rfl) ?_
  clear hO0
  rintro k a' cp w' ⟨hkb, hx', hO'⟩
  by_cases hlt : k < fs.length
  · obtain ⟨f, hf⟩ := getI fs hlt
    have hvf := hv f (List.mem_of_getElem? hf)
    have hll : ((fs.take k).map (fiF n outs rs)).length ≤ 1048576 := by rw [List.length_map, List.length_take]; omega
    obtain ⟨wk, rfl⟩ : ∃ x, x = w' := ⟨_, rfl⟩
    repeat' (first
      | (apply W.condKT; exact rfl; (focus (first | exact dec_true (by omega); done)))
      | (show WL _ _ _ _ _ _ _; first | apply WL.nil | (refine WL.au (k := ?_)))
      | (show Z _ _ _ _ _; apply Z.then_normal)
      | (show W _ _ _ _ _ _; first | apply W.seq | apply W.region | apply W.block | apply W.skip)
      | fail)
    refine W.loopW rs.length (fun i w' => i ≤ rs.length ∧ (∀ q, q + 1 < i → (shF n outs rs f)[q]? = some false) ∧ Ext wk w')
      (fun i => [(0, .slice ra n.length cap), (1, .slice rb outs.length cb), (2, .slice rf fs.length cf), (3, .slice rt rs.length ct), (9, .slice a' ((fs.take k).map (fiF n outs rs)).length cp), (10, .int .i64 k), (11, .int .i64 (atF (shF n outs rs f) i)), (12, .int .i64 i)]) ⟨by omega, fun q h => by omega, Ext.refl _⟩ (fun k w' h => h.1) (by repeat' first | exact trivial | (refine And.intro ?_ ?_) | exact rfl) ?_
    rintro i w' ⟨hib, hpre, hxi⟩
    have hsl : (shF n outs rs f).length = rs.length := by unfold shF; rw [List.length_map]
    have hnext : i < rs.length → ∃ r, rs[i]? = some r ∧ (shF n outs rs f)[i]? = some (dec (detP n outs f.1 f.2.1 f.2.2 r.2.2)) := fun h => by
      obtain ⟨r, hr⟩ := getI rs h
      exact ⟨r, hr, by unfold shF; rw [List.getElem?_map, hr]; rfl⟩
    have hcases : (∀ q, q < i → (shF n outs rs f)[q]? = some false) ∧ atF (shF n outs rs f) i = -1 ∨ ∃ q, i = q + 1 ∧ (shF n outs rs f)[q]? = some true ∧ atF (shF n outs rs f) i = q ∧ fiF n outs rs f = q := by
      cases i with
      | zero => exact .inl ⟨fun q h => by omega, rfl⟩
      | succ q =>
        obtain ⟨r, hr, hs⟩ := getI (shF n outs rs f) (show q < (shF n outs rs f).length by omega) |>.imp fun b hb => (⟨hb, hb⟩ : _ ∧ _)
        cases r with
        | true => exact .inr ⟨q, rfl, hs, by show (if (shF n outs rs f)[q]? = some true then (q : Int) else -1) = _; rw [if_pos hs], fstF_at (fun j hj => hpre j (by omega)) hs⟩
        | false => exact .inl ⟨fun j hj => (by
            by_cases h : j < q
            · exact hpre j (by omega)
            · obtain rfl : j = q := by omega
              exact hs), by show (if (shF n outs rs f)[q]? = some true then (q : Int) else -1) = _; rw [if_neg (by rw [hs]; simp)]⟩
    have ek : (fs.take k).map (fiF n outs rs) ++ [fiF n outs rs f] = (fs.take (k + 1)).map (fiF n outs rs) := by rw [List.take_add_one, hf]; simp
    have hOk := hO'.ext hxi
    have hXw : Ext w w' := hx'.trans hxi
    rcases hcases with ⟨hall, hat⟩ | ⟨q, hq, hst, hat, hfi⟩
    · rw [hat]
      by_cases hil : i < rs.length
      · obtain ⟨r, hr, hs⟩ := hnext hil
        have hr2 := hRs r (List.mem_of_getElem? hr)
        have hw1 : ∀ w9, Ext w' w9 → Pure Tryd.prog 30 [.slice ra n.length cap, .slice rb outs.length cb, fv f.1 f.2.1 f.2.2, .slice r.1 r.2.2.length r.2.1] w9 (.bool (dec (detP n outs f.1 f.2.1 f.2.2 r.2.2))) := fun w9 h9 => ref45_Detects _ _ _ _ _ _ n outs f.1 f.2.1 f.2.2 r.2.2 _ (R.ext (hXw.trans h9)) (Rb.ext (hXw.trans h9)) (hr2.1.ext (hXw.trans h9)) hg hn ho hvf hk
        have R1 := R.ext hXw
        have Rf1 := Rf.ext hXw
        have Rt1 := Rt.ext hXw
        by_cases hd : detP n outs f.1 f.2.1 f.2.2 r.2.2
        · rw [dec_true hd] at hs
          repeat' (first
            | (apply WL.gT; exact rfl; exact rfl; (focus (first | exact dec_true (by omega) | exact dec_true hd; done)))
            | (apply W.condKT; exact rfl; (focus (first | exact dec_true (by omega) | exact dec_true hd; done)))
            | (apply QL.callP; exact rfl; exact rfl; exact rfl; exact rfl; exact hw1)
            | (show WL _ _ _ _ _ _ _; first | apply WL.nil | (refine WL.au (k := ?_)))
            | (show QL _ _ _ _ _ _ _; first | (apply QL.nilX; intro w' hx) | (refine QL.au (k := ?_)) | (apply QL.index tOk; exact rfl; exact rfl; exact rfl; exact rfl; exact rfl; exact rfl; exact rfl; exact rfl; assumption; (exact extA); exact rfl; omega; assumption; intro b off h; have hcc := h; first | (obtain ⟨h1, h2, h3, h4, h5, h6, _⟩ := h) | (obtain ⟨h1, h2, h3, _⟩ := h) | (obtain ⟨h1, h2, _⟩ := h) | (obtain ⟨h1, _⟩ := h)))
            | (show Z _ _ _ _ _; first | apply Z.then_normal | apply Z.block_normal)
            | (show W _ _ _ _ _ _; first | apply W.seq | apply W.region | apply W.block | apply W.skip | (apply W.regionX tMix; kernel_rfl))
            | fail)
          exact Z.againW ⟨by omega, fun q hq => hall q (by omega), hxi.trans (by (exact extA))⟩ ⟨rfl, rfl, rfl, rfl, rfl, rfl, by rw [show atF (shF n outs rs f) (i + 1) = (i : Int) from if_pos hs]; exact ⟨rfl, rfl, trivial⟩⟩
        · rw [dec_false hd] at hs
          repeat' (first
            | (apply WL.gT; exact rfl; exact rfl; (focus (first | exact dec_true (by omega) | exact dec_false hd; done)))
            | (apply W.condKT; exact rfl; (focus (first | exact dec_true (by omega) | exact dec_false hd; done)))
            | (apply W.condKF; exact rfl; (focus (first | exact dec_true (by omega) | exact dec_false hd; done)))
            | (apply QL.callP; exact rfl; exact rfl; exact rfl; exact rfl; exact hw1)
            | (show WL _ _ _ _ _ _ _; first | apply WL.nil | (refine WL.au (k := ?_)))
            | (show QL _ _ _ _ _ _ _; first | (apply QL.nilX; intro w' hx) | (refine QL.au (k := ?_)) | (apply QL.index tOk; exact rfl; exact rfl; exact rfl; exact rfl; exact rfl; exact rfl; exact rfl; exact rfl; assumption; (exact extA); exact rfl; omega; assumption; intro b off h; have hcc := h; first | (obtain ⟨h1, h2, h3, h4, h5, h6, _⟩ := h) | (obtain ⟨h1, h2, h3, _⟩ := h) | (obtain ⟨h1, h2, _⟩ := h) | (obtain ⟨h1, _⟩ := h)))
            | (show Z _ _ _ _ _; first | apply Z.then_normal | apply Z.block_normal)
            | (show W _ _ _ _ _ _; first | apply W.seq | apply W.region | apply W.block | apply W.skip | (apply W.regionX tMix; kernel_rfl))
            | fail)
          exact Z.againW ⟨by omega, fun q hq => hall q (by omega), hxi.trans (by (exact extA))⟩ ⟨rfl, rfl, rfl, rfl, rfl, rfl, by rw [show atF (shF n outs rs f) (i + 1) = -1 from if_neg (by rw [hs]; simp)]; exact ⟨rfl, rfl, trivial⟩⟩
      · have hfi : fiF n outs rs f = -1 := fstF_no (fun j hj => hall j (by omega))
        repeat' (first
          | (apply WL.gF; exact rfl; exact rfl; (focus (first | exact dec_false (by omega); done)))
          | (apply WL.lit tOk; exact rfl; exact rfl; exact rfl; exact rfl; exact rfl; exact rfl; (first | exact rfl | kernel_rfl | (simp [Instr.fill, catCells]; done)); exact rfl; intro gb w' hb hge hc hx)
          | (apply WL.append1 tOk encI_ok; exact rfl; exact rfl; exact rfl; exact rfl; exact rfl; exact rfl; exact rfl; exact rfl; exact rfl; exact rfl; assumption; (exact extA); (first | exact rfl | (focus (simp only [List.length_set]; done)) | (focus (simp; done)) | (focus (simp [*]; done)) | omega | (focus (simp only [List.length_set]; omega))); assumption; (first | exact rfl | exact (rfl : encI (_, _) = _)); exact rfl; (exact extA); (first | omega | (simp; omega) | (simp at *; omega)); intro a' cap' w' hO hX' hU hF)
          | (show WL _ _ _ _ _ _ _; first | apply WL.nil | (refine WL.au (k := ?_)) | (apply WL.guardF; exact rfl; exact rfl))
          | (show Z _ _ _ _ _; first | apply Z.then_normal | apply Z.block_normal | apply Z.then_exit | apply Z.block_exit)
          | (show W _ _ _ _ _ _; first | apply W.seq | apply W.region | apply W.exit | (apply W.condF; exact rfl))
          | fail)
        rw [← hfi, ek] at hO ⊢
        exact Z.againO _ _ ⟨by omega, (by (exact extA)), hO⟩ ⟨rfl, rfl, rfl, rfl, rfl, rfl, trivial⟩
    · rw [hat]
      repeat' (first
        | (apply W.condKF; exact rfl; (focus (first | exact dec_false (by omega); done)))
        | (apply WL.lit tOk; exact rfl; exact rfl; exact rfl; exact rfl; exact rfl; exact rfl; (first | exact rfl | kernel_rfl | (simp [Instr.fill, catCells]; done)); exact rfl; intro gb w' hb hge hc hx)
        | (apply WL.append1 tOk encI_ok; exact rfl; exact rfl; exact rfl; exact rfl; exact rfl; exact rfl; exact rfl; exact rfl; exact rfl; exact rfl; assumption; (exact extA); (first | exact rfl | (focus (simp only [List.length_set]; done)) | (focus (simp; done)) | (focus (simp [*]; done)) | omega | (focus (simp only [List.length_set]; omega))); assumption; (first | exact rfl | exact (rfl : encI (_, _) = _)); exact rfl; (exact extA); (first | omega | (simp; omega) | (simp at *; omega)); intro a' cap' w' hO hX' hU hF)
        | (show WL _ _ _ _ _ _ _; first | apply WL.nil | (refine WL.au (k := ?_)) | (apply WL.guardF; exact rfl; exact rfl) | (apply WL.gD; exact rfl; exact rfl; all_goals intro _))
        | (show Z _ _ _ _ _; first | apply Z.then_normal | apply Z.block_normal | apply Z.then_exit | apply Z.block_exit)
        | (show W _ _ _ _ _ _; first | apply W.seq | apply W.region | apply W.exit | (apply W.condF; exact rfl))
        | fail)
      all_goals rw [← hfi, ek] at hO ⊢
      all_goals exact Z.againO _ _ ⟨by omega, (by (exact extA)), hO⟩ ⟨rfl, rfl, rfl, rfl, rfl, rfl, trivial⟩
  · obtain rfl : k = fs.length := by omega
    rw [List.take_length] at hO'
    repeat' (first
      | (apply W.condKF; exact rfl; (focus (first | exact dec_false (by omega); done)))
      | (show WL _ _ _ _ _ _ _; first | apply WL.nil | (refine WL.au (k := ?_)))
      | (show Z _ _ _ _ _; first | apply Z.then_normal | apply Z.then_exit | apply Z.block_exit)
      | (show W _ _ _ _ _ _; first | apply W.seq | apply W.region | apply W.ret | apply W.exit)
      | fail)
    exact Z.body1 Tryd.results16 rfl fun m => ⟨Ext.at (by (exact extA)) m, a', cp, by rw [List.take_length], hO'⟩
end Go.Proofs.YtlcenenkloicjaaDoor
namespace Go.Proofs.YtlcenenkloicjaaDoor
open Go Go.Lt Go.RowKit
set_option linter.unusedVariables false
set_option linter.unusedSimpArgs false
set_option maxRecDepth 20000

section
variable (D : Nat → Nat → Bool)
/-- How many of the first n tests show fault u. -/
def cntD (u n : Nat) : Nat := (List.range n).countP (D u)
/-- Which of the first m faults test v shows. -/
def byN (v m : Nat) : List Nat := (List.range m).filter fun u => D u v
def byF (v m : Nat) : List Int := (byN D v m).map fun u => ((u : Nat) : Int)
def manyT (nf nt i k : Nat) : List Int := tab nf (fun u => if u < i then (cntD D u nt : Int) else if u = i then (cntD D u k : Int) else 0)
def byC (i k v : Nat) : List Int := byF D v (if v < k then i + 1 else i)
end
variable {D : Nat → Nat → Bool}
theorem cntD_succ (u n : Nat) : cntD D u (n + 1) = cntD D u n + (if D u n = true then 1 else 0) := by
  unfold cntD; rw [List.range_succ, List.countP_append, List.countP_singleton]
theorem cntD_le (u n : Nat) : cntD D u n ≤ n := by
  have := List.countP_le_length (p := D u) (l := List.range n)
  rw [List.length_range] at this; exact this
theorem byF_yes {v m : Nat} (h : D m v = true) : byF D v (m + 1) = byF D v m ++ [(m : Int)] := by
  unfold byF byN; rw [List.range_succ, List.filter_append, List.map_append]
  congr 1
  simp [h]
theorem byF_no {v m : Nat} (h : D m v = false) : byF D v (m + 1) = byF D v m := by
  unfold byF byN; rw [List.range_succ, List.filter_append]
  simp [h]
theorem byN_len (v m : Nat) : (byN D v m).length ≤ m := by
  have := List.length_filter_le (fun u => D u v) (List.range m)
  rw [List.length_range] at this; exact this
theorem byF_len (v m : Nat) : (byF D v m).length ≤ m := by unfold byF; rw [List.length_map]; exact byN_len v m
theorem byN_mem {v m u : Nat} : u ∈ byN D v m ↔ u < m ∧ D u v = true := by unfold byN; rw [List.mem_filter, List.mem_range]
theorem byN_nodup (v m : Nat) : (byN D v m).Nodup := List.Pairwise.filter _ List.nodup_range
theorem manyT_len (nf nt i k : Nat) : (manyT D nf nt i k).length = nf := tab_len _ _
theorem manyT_start (nf nt : Nat) : List.replicate nf (0 : Int) = manyT D nf nt 0 0 := by
  rw [tab_rep]; exact tab_congr fun u hu => by
    rw [if_neg (by omega)]; split
    · unfold cntD; simp
    · rfl
theorem manyT_get {nf nt i k : Nat} (h : i < nf) : (manyT D nf nt i k)[i]? = some (cntD D i k : Int) := by
  unfold manyT; rw [tab_get _ h, if_neg (by omega), if_pos rfl]
theorem manyT_yes {nf nt i k : Nat} (h : D i k = true) : (manyT D nf nt i k).set i ((cntD D i k : Int) + 1) = manyT D nf nt i (k + 1) := by
  refine tab_set fun u hu => ?_
  by_cases hu : u = i
  · subst hu; rw [if_pos rfl, if_neg (by omega), if_pos rfl, cntD_succ, if_pos h]; omega
  · rw [if_neg hu, if_neg hu, if_neg hu]
theorem manyT_no {nf nt i k : Nat} (h : D i k = false) : manyT D nf nt i k = manyT D nf nt i (k + 1) := by
  refine tab_congr fun u hu => ?_
  by_cases h1 : u = i
  · subst h1
    have e : ¬ u < u := by omega
    rw [if_neg e, if_pos rfl, if_neg e, if_pos rfl, cntD_succ, h]; simp
  · rw [if_neg h1, if_neg h1]
theorem manyT_next (nf nt i : Nat) : manyT D nf nt i nt = manyT D nf nt (i + 1) 0 := by
  refine tab_congr fun u hu => ?_
  by_cases h1 : u < i
  · rw [if_pos h1, if_pos (by omega)]
  · rw [if_neg h1]
    by_cases h2 : u = i
    · rw [if_pos h2, if_pos (by omega)]
    · rw [if_neg h2, if_neg (by omega)]
      split
      · unfold cntD; simp
      · rfl
theorem byC_yes {i k : Nat} (h : D i k = true) : byC D i (k + 1) k = byC D i k k ++ [(i : Int)] := by
  unfold byC; rw [if_pos (by omega), if_neg (by omega)]; exact byF_yes h
theorem byC_other {i k v : Nat} (h : v ≠ k) : byC D i (k + 1) v = byC D i k v := by
  unfold byC
  by_cases h1 : v < k
  · rw [if_pos h1, if_pos (by omega)]
  · rw [if_neg h1, if_neg (by omega)]
theorem byC_no {i k : Nat} (h : D i k = false) (v : Nat) : byC D i (k + 1) v = byC D i k v := by
  by_cases h1 : v = k
  · subst h1; unfold byC; rw [if_pos (by omega), if_neg (by omega)]; exact byF_no h
  · exact byC_other h1
theorem byC_next {i nt v : Nat} (h : v < nt) : byC D i nt v = byC D (i + 1) 0 v := by unfold byC; rw [if_pos h, if_neg (by omega)]
theorem byC_len (i k v : Nat) : (byC D i k v).length ≤ i + 1 := by
  unfold byC; split
  · exact byF_len v (i + 1)
  · exact Nat.le_succ_of_le (byF_len v i)
noncomputable def stT (nf nt : Nat) (D : Nat → Nat → Bool) (m : Nat) : List Bool := tab nt (fun j => if nt - m ≤ j then stayK nf nt D m j else false)
noncomputable def mnT (nf nt : Nat) (D : Nat → Nat → Bool) (m : Nat) : List Int := tab nf (fun u => (cntS D (stayK nf nt D m) u nt : Int))
theorem mnT_len (nf nt m : Nat) : (mnT nf nt D m).length = nf := tab_len _ _
theorem stT_len (nf nt m : Nat) : (stT nf nt D m).length = nt := tab_len _ _
theorem mnT_start (nf nt : Nat) : manyT D nf nt nf 0 = mnT nf nt D 0 := by
  refine tab_congr fun u hu => ?_
  rw [if_pos hu]; unfold cntD cntS; congr 1
theorem stT_start (nf nt : Nat) : List.replicate nt false = stT nf nt D 0 := by
  rw [tab_rep]; exact tab_congr fun u hu => (if_neg (by omega)).symm
theorem stT_set {nf nt m : Nat} (h : m < nt) : (stT nf nt D m).set (nt - 1 - m) (dec (needS nf nt D (stayK nf nt D m) (nt - 1 - m))) = stT nf nt D (m + 1) := by
  refine tab_set fun u hu => ?_
  rw [stayK_succ]
  by_cases h1 : u = nt - 1 - m
  · rw [if_pos h1, if_pos (by omega), if_pos h1]
  · rw [if_neg h1, if_neg h1]
    by_cases h2 : nt - m ≤ u
    · rw [if_pos h2, if_pos (by omega)]
    · rw [if_neg h2, if_neg (by omega)]
theorem stT_get {nf nt m : Nat} (h : m < nt) : (stT nf nt D m)[nt - 1 - m]? = some false := by
  unfold stT; rw [tab_get _ (by omega), if_neg (by omega)]
theorem stT_all (nf nt : Nat) : stT nf nt D nt = tab nt (stayK nf nt D nt) := tab_congr fun u hu => if_pos (by omega)
theorem need_iff {nf nt m k : Nat} (hk : k < nt) (hs : stayK nf nt D m k = true) : ((byF D k nf).any fun x => dec ((mnT nf nt D m).getD x.toNat 0 = 1)) = dec (needS nf nt D (stayK nf nt D m) k) := by
  have hg : ∀ u, u < nf → (mnT nf nt D m).getD ((u : Nat) : Int).toNat 0 = (cntS D (stayK nf nt D m) u nt : Int) := fun u hu => by
    rw [Int.toNat_natCast]; exact getD_of (tab_get _ hu)
  have key : ((byF D k nf).any fun x => dec ((mnT nf nt D m).getD x.toNat 0 = 1)) = true ↔ needS nf nt D (stayK nf nt D m) k := by
    rw [List.any_eq_true]
    constructor
    · rintro ⟨x, hx, h1⟩
      obtain ⟨u, hu, rfl⟩ := List.mem_map.1 hx
      obtain ⟨hu1, hu2⟩ := byN_mem.1 hu
      have h2 := of_dec h1
      rw [hg u hu1] at h2
      exact ⟨u, hu1, hu2, (cnt_one hk hs hu2).1 (by omega)⟩
    · rintro ⟨u, hu1, hu2, hall⟩
      refine ⟨(u : Int), List.mem_map.2 ⟨u, byN_mem.2 ⟨hu1, hu2⟩, rfl⟩, dec_true ?_⟩
      rw [hg u hu1, (cnt_one hk hs hu2).2 hall]; rfl
  cases h : (byF D k nf).any fun x => dec ((mnT nf nt D m).getD x.toNat 0 = 1) with
  | true => exact (dec_true (key.1 h)).symm
  | false => exact (dec_false (fun hn => by rw [key.2 hn] at h; cases h)).symm
/-- The counts, when the first q of a test's faults are taken out. -/
noncomputable def mnQ (nf nt : Nat) (D : Nat → Nat → Bool) (m q : Nat) : List Int := tab nf (fun u => (cntS D (stayK nf nt D m) u nt : Int) - (if u ∈ (byN D (nt - 1 - m) nf).take q then 1 else 0))
theorem mnQ_len (nf nt m q : Nat) : (mnQ nf nt D m q).length = nf := tab_len _ _
theorem mnQ_zero (nf nt m : Nat) : mnT nf nt D m = mnQ nf nt D m 0 := tab_congr fun u hu => by simp
theorem mnQ_get {nf nt m q u : Nat} (h : (byN D (nt - 1 - m) nf)[q]? = some u) : (mnQ nf nt D m q)[u]? = some (cntS D (stayK nf nt D m) u nt : Int) ∧ u < nf := by
  have hm := byN_mem.1 (List.mem_of_getElem? h)
  refine ⟨?_, hm.1⟩
  unfold mnQ; rw [tab_get _ hm.1, if_neg ?_]
  · simp
  · intro hmem
    obtain ⟨j, hj⟩ := List.mem_iff_getElem?.1 hmem
    rw [List.getElem?_take] at hj
    split at hj
    · rename_i hjq
      have hnd := byN_nodup (D := D) (nt - 1 - m) nf
      have h1 := (List.getElem?_eq_some_iff.1 hj).1
      have h2 := (List.getElem?_eq_some_iff.1 h).1
      have := (List.getElem_inj (h₀ := h1) (h₁ := h2) hnd).1 (by rw [(List.getElem?_eq_some_iff.1 hj).2, (List.getElem?_eq_some_iff.1 h).2])
      omega
    · cases hj
theorem mnQ_set {nf nt m q u : Nat} (h : (byN D (nt - 1 - m) nf)[q]? = some u) : (mnQ nf nt D m q).set u ((cntS D (stayK nf nt D m) u nt : Int) - 1) = mnQ nf nt D m (q + 1) := by
  refine tab_set fun v hv => ?_
  have et : (byN D (nt - 1 - m) nf).take (q + 1) = (byN D (nt - 1 - m) nf).take q ++ [u] := by rw [List.take_add_one, h]; rfl
  rw [et]
  by_cases h1 : v = u
  · subst h1; rw [if_pos rfl, if_pos (by simp)]
  · rw [if_neg h1]
    congr 1
    by_cases h2 : v ∈ (byN D (nt - 1 - m) nf).take q
    · rw [if_pos h2, if_pos (List.mem_append_left _ h2)]
    · rw [if_neg h2, if_neg]
      intro h3
      rcases List.mem_append.1 h3 with h3 | h3
      · exact h2 h3
      · exact h1 (List.mem_singleton.1 h3)
theorem mnQ_all {nf nt m : Nat} (hm : m < nt) (hn : ¬ needS nf nt D (stayK nf nt D m) (nt - 1 - m)) : mnQ nf nt D m (byN D (nt - 1 - m) nf).length = mnT nf nt D (m + 1) := by
  refine tab_congr fun u hu => ?_
  rw [List.take_length]
  have hs : stayK nf nt D m (nt - 1 - m) = true := stayK_low (by omega)
  have hsucc : stayK nf nt D (m + 1) = fun j => if j = nt - 1 - m then false else stayK nf nt D m j := by
    funext j; rw [stayK_succ, dec_false hn]
  rw [hsucc]
  cases hd : D u (nt - 1 - m) with
  | true =>
    rw [if_pos (byN_mem.2 ⟨hu, hd⟩), cnt_out (by omega) hs hd]; omega
  | false =>
    rw [if_neg (fun h => by rw [(byN_mem.1 h).2] at hd; cases hd), ← cnt_same hd]; omega
theorem mnT_stay {nf nt m : Nat} (hm : m < nt) (hn : needS nf nt D (stayK nf nt D m) (nt - 1 - m)) : mnT nf nt D m = mnT nf nt D (m + 1) := by
  have hsucc : stayK nf nt D (m + 1) = stayK nf nt D m := by
    funext j; rw [stayK_succ, dec_true hn]
    split
    · rename_i h; rw [h, stayK_low (by omega)]
    · rfl
  unfold mnT; rw [hsucc]
theorem cntS_le (S : Nat → Bool) (u n : Nat) : cntS D S u n ≤ n := by
  have := List.countP_le_length (p := fun j => S j && D u j) (l := List.range n)
  rw [List.length_range] at this; exact this
theorem fstF_any {α : Type} (p : α → Bool) (l : List α) : dec (0 ≤ fstF (l.map p) 0) = l.any p := by
  have all : ∀ (l : List α) (k : Nat), (0 ≤ fstF (l.map p) k ↔ l.any p = true) := by
    intro l
    induction l with
    | nil => intro k; simp [fstF]
    | cons x r ih =>
      intro k
      simp only [List.map_cons, fstF, List.any_cons, Bool.or_eq_true]
      cases hp : p x with
      | true => simp
      | false => simp [ih (k + 1)]
  cases h : l.any p with
  | true => exact dec_true ((all l 0).2 h)
  | false => exact dec_false (fun hh => by rw [(all l 0).1 hh] at h; cases h)
/-- Those that stay, of the first k. -/
def keptR {α : Type} (S : Nat → Bool) (z : α) (rs : List α) (k : Nat) : List α := ((List.range k).filter S).map fun j => rs.getD j z
theorem keptR_yes {α : Type} {S : Nat → Bool} {z : α} {rs : List α} {k : Nat} {r : α} (hr : rs[k]? = some r) (h : S k = true) : keptR S z rs (k + 1) = keptR S z rs k ++ [r] := by
  unfold keptR; rw [List.range_succ, List.filter_append, List.map_append]
  congr 1
  simp only [List.filter_cons, h, if_true, List.filter_nil, List.map_cons, List.map_nil]
  rw [getD_of hr]
theorem keptR_no {α : Type} {S : Nat → Bool} {z : α} {rs : List α} {k : Nat} (h : S k = false) : keptR S z rs (k + 1) = keptR S z rs k := by
  unfold keptR; rw [List.range_succ, List.filter_append]
  simp [h]
theorem keptR_len {α : Type} (S : Nat → Bool) (z : α) (rs : List α) (k : Nat) : (keptR S z rs k).length ≤ k := by
  unfold keptR; rw [List.length_map]
  have := List.length_filter_le S (List.range k)
  rw [List.length_range] at this; exact this
end Go.Proofs.YtlcenenkloicjaaDoor
namespace Go.Proofs.YtlcenenkloicjaaDoor
open Go Go.Lt Go.RowKit
set_option linter.unusedVariables false
set_option linter.unusedSimpArgs false
set_option maxRecDepth 20000

theorem fsim_Keep1 (x : Int) (gc cm : Nat) (am : Option Addr) (L : List Int) (w : World) (hc : w.cell? ⟨gc, 0, none⟩ = some (.slice am L.length cm)) (R : Row 1 encI w am L) (hx : 0 ≤ x ∧ x < L.length) :
    Still Tryd.prog 32 [.int .i64 x, .pointer (some ⟨gc, 0, none⟩)] w (.bool (dec (L.getD x.toNat 0 = 1))) := by
  obtain ⟨y, hy⟩ := getI L (show x.toNat < L.length by omega)
  rw [getD_of hy]
  refine Spec.of _ Tryd.func32 rfl Tryd.ntmps32 (by kernel_rfl) rfl ?_
  repeat' (first
    | (show WL _ _ _ _ _ _ _; first | apply WL.nil | (refine WL.au (k := ?_)) | (apply WL.index tOk; exact rfl; exact rfl; exact rfl; exact rfl; exact rfl; exact rfl; exact rfl; exact rfl; assumption; (exact extA); exact rfl; omega; assumption; intro b off h; have hcc := h; first | (obtain ⟨h1, h2, h3, h4, h5, h6, _⟩ := h) | (obtain ⟨h1, h2, h3, _⟩ := h) | (obtain ⟨h1, h2, _⟩ := h) | (obtain ⟨h1, _⟩ := h)))
    | (show Z _ _ _ _ _; apply Z.then_normal)
    | (show W _ _ _ _ _ _; first | apply W.seq | apply W.region | apply W.ret)
    | fail)
  all_goals exact Z.body1 Tryd.results32 rfl fun m => ⟨rfl, m, rfl⟩
theorem slices_IndexFunc (a : Option Addr) (cap : Nat) (l : List Int) (w : World) (R : Row 1 encI w a l) (f : FuncId) (us : List Value) (p : Int → Bool) (hp : ∀ x ∈ l, Still Tryd.prog f ([.int .i64 x] ++ us) w (.bool (p x))) :
    Still Tryd.prog 42 [.slice a l.length cap, .func (.func f) #[] us.toArray] w (.int .i64 (fstF (l.map p) 0)) := by
  have hl := R.len
  refine Spec.of _ Tryd.func42 rfl Tryd.ntmps42 (by kernel_rfl) rfl ?_
  repeat' (first
    | (show WL _ _ _ _ _ _ _; first | apply WL.nil | (refine WL.au (k := ?_)))
    | (show Z _ _ _ _ _; apply Z.then_normal)
    | (show W _ _ _ _ _ _; first | apply W.seq | apply W.region | apply W.block)
    | fail)
  refine W.loop1 l.length (fun k => k ≤ l.length ∧ ∀ i, i < k → (l.map p)[i]? = some false) (fun k => [(0, .slice a l.length cap), (1, .func (.func f) #[] us.toArray), (7, .int .i64 (l.length : Nat)), (8, .int .i64 k)]) ⟨by omega, fun i h => by omega⟩ (fun k h => h.1) ⟨rfl, rfl, rfl, rfl, trivial⟩ ?_
  rintro k ⟨hk, hf⟩
  by_cases hlt : k < l.length
  · obtain ⟨x, hx⟩ := getI l hlt
    have hpx := hp x (List.mem_of_getElem? hx)
    have hmx : (l.map p)[k]? = some (p x) := by rw [List.getElem?_map, hx]; rfl
    repeat' (first
      | (show WL _ _ _ _ _ _ _; first | apply WL.nil | (refine WL.au (k := ?_)))
      | (show Z _ _ _ _ _; apply Z.then_normal)
      | (show W _ _ _ _ _ _; first | apply W.seq | apply W.region)
      | fail)
    refine W.condKT rfl (dec_true (by omega)) ?_
    repeat' (first
      | ((show WL _ _ _ (⟨_, .call ⟨.value (.tmp _), _, _⟩, _, _, _, _⟩ :: _) _ _ _; apply WL.callS; exact rfl; exact rfl; exact rfl; exact rfl; exact hpx))
      | (show WL _ _ _ _ _ _ _; first | apply WL.nil | (refine WL.au (k := ?_)) | (apply WL.index tOk; exact rfl; exact rfl; exact rfl; exact rfl; exact rfl; exact rfl; exact rfl; exact rfl; assumption; (exact extA); exact rfl; omega; assumption; intro b off h; have hcc := h; first | (obtain ⟨h1, h2, h3, h4, h5, h6, _⟩ := h) | (obtain ⟨h1, h2, h3, _⟩ := h) | (obtain ⟨h1, h2, _⟩ := h) | (obtain ⟨h1, _⟩ := h)))
      | (show Z _ _ _ _ _; apply Z.then_normal)
      | (show W _ _ _ _ _ _; first | apply W.seq | apply W.region | apply W.block | apply W.skip)
      | fail)
    refine W.condB rfl (fun hv => ?_) (fun hv => ?_)
    · rw [hv] at hmx
      repeat' (first
        | (show WL _ _ _ _ _ _ _; first | apply WL.nil | (refine WL.au (k := ?_)))
        | (show Z _ _ _ _ _; first | apply Z.then_normal | apply Z.then_ret | apply Z.block_ret)
        | (show W _ _ _ _ _ _; first | apply W.seq | apply W.region | apply W.ret)
        | fail)
      exact Z.body1 Tryd.results42 rfl fun m => ⟨by rw [fstF_at hf hmx], m, rfl⟩
    · rw [hv] at hmx
      repeat' (first
        | (show WL _ _ _ _ _ _ _; first | apply WL.nil | (refine WL.au (k := ?_)))
        | (show Z _ _ _ _ _; first | apply Z.then_normal | apply Z.block_normal)
        | (show W _ _ _ _ _ _; first | apply W.region | apply W.skip)
        | fail)
      exact Z.again1 ⟨by omega, fun i hi => (by
        by_cases h : i < k
        · exact hf i h
        · obtain rfl : i = k := by omega
          exact hmx)⟩ ⟨rfl, rfl, rfl, rfl, trivial⟩
  · obtain rfl : k = l.length := by omega
    repeat' (first
      | (show WL _ _ _ _ _ _ _; first | apply WL.nil | (refine WL.au (k := ?_)))
      | (show Z _ _ _ _ _; apply Z.then_normal)
      | (show W _ _ _ _ _ _; first | apply W.seq | apply W.region)
      | fail)
    refine W.condKF rfl (dec_false (by omega)) ?_
    repeat' (first
      | (show WL _ _ _ _ _ _ _; first | apply WL.nil | (refine WL.au (k := ?_)))
      | (show Z _ _ _ _ _; first | apply Z.then_normal | apply Z.then_exit | apply Z.block_exit)
      | (show W _ _ _ _ _ _; first | apply W.seq | apply W.region | apply W.ret | apply W.exit)
      | fail)
    exact Z.body1 Tryd.results42 rfl fun m => ⟨by rw [fstF_no (fun i hi => hf i (by rw [List.length_map] at hi; exact hi))], m, rfl⟩
theorem slices_ContainsFunc (a : Option Addr) (cap : Nat) (l : List Int) (w : World) (R : Row 1 encI w a l) (f : FuncId) (us : List Value) (p : Int → Bool) (hp : ∀ x ∈ l, Still Tryd.prog f ([.int .i64 x] ++ us) w (.bool (p x))) :
    Still Tryd.prog 31 [.slice a l.length cap, .func (.func f) #[] us.toArray] w (.bool (l.any p)) := by
  refine Spec.of _ Tryd.func31 rfl Tryd.ntmps31 (by kernel_rfl) rfl ?_
  repeat' (first
    | ((show WL _ _ _ (⟨_, .call ⟨.value (.func 42), _, _⟩, _, _, _, _⟩ :: _) _ _ _); apply WL.callS; exact rfl; exact rfl; exact rfl; exact rfl; exact slices_IndexFunc a cap l _ R f us p hp)
    | (show WL _ _ _ _ _ _ _; first | apply WL.nil | (refine WL.au (k := ?_)))
    | (show Z _ _ _ _ _; apply Z.then_normal)
    | (show W _ _ _ _ _ _; first | apply W.seq | apply W.region | apply W.ret)
    | fail)
  exact Z.body1 Tryd.results31 rfl fun m => ⟨congrArg Value.bool (fstF_any p l), m, rfl⟩
end Go.Proofs.YtlcenenkloicjaaDoor
namespace Go.Lt
open Go.RowKit
set_option linter.unusedVariables false

theorem OwnRR.nil {α : Type} {s : Nat} {enc : α → List Value} {el elO B : Nat} {w : World} {a : Option Addr} {cap : Nat} (h : Own 1 encRow elO B w a cap ([] : List (RowV α))) : OwnRR s enc el elO B w a cap [] :=
  ⟨h, fun i r hr => by simp at hr, fun i r hr => by simp at hr, fun i j r q hr => by simp at hr⟩
/-- Rows told, and one more that is not put behind yet. -/
structure RR1 {α : Type} (s : Nat) (enc : α → List Value) (el elO B : Nat) (w : World) (a : Option Addr) (cap : Nat) (rs : List (RowV α)) (b : Option Addr) (dp : Nat) (S : List α) : Prop where
  rr : OwnRR s enc el elO B w a cap rs
  own : Own s enc el B w b dp S
  apartO : blk b = none ∨ blk b ≠ blk a
  apart : ∀ (i : Nat) (q : RowV α), rs[i]? = some q → blk q.1 = none ∨ blk q.1 ≠ blk b
section
variable {α : Type} {s : Nat} {enc : α → List Value} {el elO B : Nat} {w w1 w2 w3 : World} {a a' b : Option Addr} {cap cap' dp : Nat} {rs : List (RowV α)} {S : List α}
theorem RR1.ext (h : RR1 s enc el elO B w a cap rs b dp S) (hx : Ext w w1) : RR1 s enc el elO B w1 a cap rs b dp S := ⟨h.rr.ext hx, h.own.ext hx, h.apartO, h.apart⟩
theorem RR1.new (h : OwnRR s enc el elO B w1 a cap rs) (hx : Ext w1 w2) (hO : Own s enc el w1.heap.size w2 b dp S) (hB : B ≤ w1.heap.size) : RR1 s enc el elO B w2 a cap rs b dp S := by
  refine ⟨h.ext hx, hO.base hB, ?_, fun i q hq => ?_⟩
  · cases hb : blk b with
    | none => exact .inl rfl
    | some k =>
      refine .inr fun he => ?_
      have h1 := (hO.blk_lt k hb).1
      have h2 := (h.outer.blk_lt k he.symm).2
      omega
  · cases hb : blk q.1 with
    | none => exact .inl rfl
    | some k =>
      refine .inr fun he => ?_
      have h1 := ((h.inner i q hq).blk_lt k hb).2
      have h2 := (hO.blk_lt k he.symm).1
      omega
theorem RR1.first {g c0 : Nat} (hO : Own s enc el B w b dp S) (h : Own 1 encRow elO B w (some ⟨g, 0, none⟩) c0 ([] : List (RowV α))) (hg : ∀ k, blk b = some k → k ≠ g) : RR1 s enc el elO B w (some ⟨g, 0, none⟩) c0 [] b dp S := by
  refine ⟨OwnRR.nil h, hO, ?_, fun i q hq => by simp at hq⟩
  cases hb : blk b with
  | none => exact .inl rfl
  | some k =>
    refine .inr fun he => hg k hb ?_
    simp only [blk, Option.map_some, Option.some.injEq] at he; exact he
theorem RR1.push (h : RR1 s enc el elO B w2 a cap rs b dp S) (hU : Upd B a w2 w3) (hO : Own 1 encRow elO B w3 a' cap' (rs ++ [(b, dp, S)])) (hF : blk a' = blk a ∨ ∃ k, blk a' = some k ∧ w2.heap.size ≤ k) : OwnRR s enc el elO B w3 a' cap' (rs ++ [(b, dp, S)]) := by
  obtain ⟨hr, ho, hA, hI⟩ := h
  have get : ∀ (i : Nat) (q : RowV α), (rs ++ [(b, dp, S)])[i]? = some q → (i < rs.length ∧ rs[i]? = some q) ∨ (i = rs.length ∧ q = (b, dp, S)) := fun i q hq => by
    by_cases hi : i < rs.length
    · rw [List.getElem?_append_left hi] at hq; exact .inl ⟨hi, hq⟩
    · rw [List.getElem?_append_right (by omega)] at hq
      have h0 := lt_of_get hq
      simp at h0
      have h1 : i - rs.length = 0 := by omega
      rw [h1] at hq
      simp at hq
      exact .inr ⟨by omega, hq.symm⟩
  have lt2 : ∀ (i : Nat) (q : RowV α) (k : Nat), (rs ++ [(b, dp, S)])[i]? = some q → blk q.1 = some k → k < w2.heap.size := fun i q k hq hk => by
    rcases get i q hq with ⟨_, hq⟩ | ⟨_, rfl⟩
    · exact ((hr.inner i q hq).blk_lt k hk).2
    · exact (ho.blk_lt k hk).2
  have apA : ∀ (i : Nat) (q : RowV α), (rs ++ [(b, dp, S)])[i]? = some q → blk q.1 = none ∨ blk q.1 ≠ blk a := fun i q hq => by
    rcases get i q hq with ⟨_, hq⟩ | ⟨_, rfl⟩
    · exact hr.apartO i q hq
    · exact hA
  refine ⟨hO, fun i q hq => ?_, fun i q hq => ?_, fun i j q p h1 h2 hne => ?_⟩
  · rcases get i q hq with ⟨_, hq'⟩ | ⟨_, rfl⟩
    · exact hU.own (hr.inner i q hq') (hr.apartO i q hq')
    · exact hU.own ho hA
  · rcases hF with hF | ⟨k, hk, hle⟩
    · rw [hF]; exact apA i q hq
    · cases hb : blk q.1 with
      | none => exact .inl rfl
      | some b =>
        refine .inr fun he => ?_
        have := lt2 i q b hq hb
        rw [hk] at he
        have := Option.some.inj he
        omega
  · rcases get i q h1 with ⟨_, h1'⟩ | ⟨rfl, rfl⟩
    · rcases get j p h2 with ⟨_, h2'⟩ | ⟨rfl, rfl⟩
      · exact hr.apart i j q p h1' h2' hne
      · exact hI i q h1'
    · rcases get j p h2 with ⟨_, h2'⟩ | ⟨rfl, rfl⟩
      · show blk b = none ∨ blk b ≠ blk p.1
        cases hb : blk b with
        | none => exact .inl rfl
        | some k =>
          refine .inr fun he => ?_
          rcases hI j p h2' with h3 | h3
          · rw [h3] at he; cases he
          · exact h3 (by rw [hb]; exact he.symm)
      · exact absurd rfl hne
end
theorem OwnRR.base {α : Type} {s : Nat} {enc : α → List Value} {el elO B C : Nat} {w : World} {a : Option Addr} {cap : Nat} {rs : List (RowV α)} (h : OwnRR s enc el elO C w a cap rs) (hB : B ≤ C) : OwnRR s enc el elO B w a cap rs := ⟨h.outer.base hB, fun i r hr => (h.inner i r hr).base hB, h.apartO, h.apart⟩
theorem OwnRR.row {α : Type} {s : Nat} {enc : α → List Value} {el elO B : Nat} {w : World} {a : Option Addr} {cap : Nat} {rs : List (RowV α)} (h : OwnRR s enc el elO B w a cap rs) (hE : Enc s enc) {i : Nat} {r : RowV α} (hr : rs[i]? = some r) : Row s enc w r.1 r.2.2 := (h.inner i r hr).row hE
theorem OwnRR.at {α : Type} {s : Nat} {enc : α → List Value} {el elO B : Nat} {w : World} {a : Option Addr} {cap : Nat} {rs : List (RowV α)} (h : OwnRR s enc el elO B w a cap rs) (m : Nat) : OwnRR s enc el elO B (at' w m) a cap rs := h.ext ((Ext.refl w).at m)
end Go.Lt
namespace Go.Lt
open Go.RowKit
set_option linter.unusedVariables false

theorem Row.keep {α : Type} {s : Nat} {enc : α → List Value} {w w' : World} {a : Option Addr} {l : List α} (h : Row s enc w a l) (hb : ∀ k, blk a = some k → w'.heap[k]? = w.heap[k]?) : Row s enc w' a l := by
  refine ⟨h.len, fun i x hx => ?_⟩
  obtain ⟨b, off, h1, h2⟩ := h.elem i x hx
  refine ⟨b, off, h1, ?_⟩
  have e := hb b (by rw [h1]; rfl)
  have key : ∀ (L : List Value) (o : Nat), Cells w b o L → Cells w' b o L := by
    intro L
    induction L with
    | nil => intro o _; trivial
    | cons u r ih =>
      intro o hc
      refine ⟨?_, ih _ hc.2⟩
      have h3 := hc.1
      simp only [World.cell?] at h3 ⊢
      rw [e]; exact h3
  exact key _ _ h2
theorem OwnRR.keep {α : Type} {s : Nat} {enc : α → List Value} {el elO B : Nat} {w w' : World} {a : Option Addr} {cap : Nat} {rs : List (RowV α)} (h : OwnRR s enc el elO B w a cap rs) (hb : ∀ k, B ≤ k → k < w.heap.size → w'.heap[k]? = w.heap[k]?) : OwnRR s enc el elO B w' a cap rs :=
  ⟨h.outer.keep fun k hk => hb k (h.outer.blk_lt k hk).1 (h.outer.blk_lt k hk).2, fun i r hr => (h.inner i r hr).keep fun k hk => hb k ((h.inner i r hr).blk_lt k hk).1 ((h.inner i r hr).blk_lt k hk).2, h.apartO, h.apart⟩
end Go.Lt
namespace Go.Proofs.YtlcenenkloicjaaDoor
open Go Go.Lt Go.RowKit
set_option linter.unusedVariables false
set_option linter.unusedSimpArgs false
set_option maxRecDepth 20000

/-- What lies in memory: the counts (in their cell), and the lists of faults. -/
structure KAt (w0 w : World) (gm gc gB : Nat) (M : List Int) (rs : List (RowV Int)) : Prop where
  many : Own 1 encI 3 w0.heap.size w (some ⟨gm, 0, none⟩) M.length M
  cell : w.heap[gc]? = some (.cells #[.slice (some ⟨gm, 0, none⟩) M.length M.length] 22 (0, 0))
  rr : OwnRR 1 encI 3 22 w0.heap.size w (some ⟨gB, 0, none⟩) rs.length rs
  lc : w0.heap.size ≤ gc
  ne : gm ≠ gc
  neO : gB ≠ gm ∧ gB ≠ gc
  neI : ∀ (i : Nat) (r : RowV Int) (k : Nat), rs[i]? = some r → blk r.1 = some k → k ≠ gm ∧ k ≠ gc
theorem KAt.ext {w0 w w1 : World} {gm gc gB : Nat} {M : List Int} {rs : List (RowV Int)} (h : KAt w0 w gm gc gB M rs) (hx : Ext w w1) : KAt w0 w1 gm gc gB M rs :=
  ⟨h.many.ext hx, by rw [hx.block gc (heap_lt h.cell)]; exact h.cell, h.rr.ext hx, h.lc, h.ne, h.neO, h.neI⟩
theorem KAt.rrM {w0 w w1 : World} {gm gc gB B : Nat} {M : List Int} {rs : List (RowV Int)} (h : KAt w0 w gm gc gB M rs) (hU : Upd B (some ⟨gm, 0, none⟩) w w1) : OwnRR 1 encI 3 22 w0.heap.size w1 (some ⟨gB, 0, none⟩) rs.length rs := by
  refine h.rr.kept hU (.inr fun he => h.neO.1 (Option.some.inj he)) (fun i r hr => ?_)
  cases hb : blk r.1 with
  | none => exact .inl rfl
  | some k => exact .inr fun he => (h.neI i r k hr hb).1 (Option.some.inj he)
theorem KAt.putM {w0 w w1 : World} {gm gc gB B : Nat} {M M' : List Int} {rs : List (RowV Int)} (h : KAt w0 w gm gc gB M rs) (hU : Upd B (some ⟨gm, 0, none⟩) w w1) (hO : Own 1 encI 3 w0.heap.size w1 (some ⟨gm, 0, none⟩) M.length M') (hl : M'.length = M.length) : KAt w0 w1 gm gc gB M' rs :=
  ⟨by rw [hl]; exact hO, by rw [hl, hU.grown.block gc (heap_lt h.cell) (fun he => by have := Option.some.inj he; have h1 := h.ne; simp only at this; omega)]; exact h.cell, h.rrM hU, h.lc, h.ne, h.neO, h.neI⟩
theorem KAt.putB {w0 w w1 w2 : World} {gm gc gB k cap' : Nat} {M l' : List Int} {rs : List (RowV Int)} {r : RowV Int} {a' : Option Addr} (h : KAt w0 w gm gc gB M rs) (hr : rs[k]? = some r) (hU : Upd w0.heap.size r.1 w w1) (hF : blk a' = blk r.1 ∨ ∃ q, blk a' = some q ∧ w.heap.size ≤ q)
    (hO1 : Own 1 encI 3 w0.heap.size w1 a' cap' l') (hU2 : Upd w0.heap.size (some ⟨gB, 0, none⟩) w1 w2) (hO2 : Own 1 encRow 22 w0.heap.size w2 (some ⟨gB, 0, none⟩) rs.length (rs.set k (a', cap', l'))) : KAt w0 w2 gm gc gB M (rs.set k (a', cap', l')) := by
  have hmb := (h.many.blk_lt gm rfl).2
  have hcb := heap_lt h.cell
  have hm1 := hU.own h.many (by
    cases hb : blk r.1 with
    | none => exact .inr fun he => by cases he
    | some q => exact .inr fun he => (h.neI k r q hr hb).1 (Option.some.inj he).symm)
  have hm2 := hU2.own hm1 (.inr fun he => h.neO.1 (Option.some.inj he).symm)
  have hc1 : w1.heap[gc]? = some (.cells #[.slice (some ⟨gm, 0, none⟩) M.length M.length] 22 (0, 0)) := by
    rw [hU.grown.block gc hcb (fun he => (h.neI k r gc hr (by first | exact he | exact he.symm)).2 rfl)]; exact h.cell
  have hc2 : w2.heap[gc]? = some (.cells #[.slice (some ⟨gm, 0, none⟩) M.length M.length] 22 (0, 0)) := by
    rw [hU2.grown.block gc (heap_lt hc1) (fun he => by have h1 := Option.some.inj he; have h2 := h.neO.2; simp only at h1; omega)]; exact hc1
  have el : (rs.set k (a', cap', l')).length = rs.length := List.length_set
  refine ⟨hm2, hc2, ?_, h.lc, h.ne, h.neO, fun j q z hq hz => ?_⟩
  · rw [el]
    exact h.rr.step hr hU hF hO1 hU2 hO2
  · rw [List.getElem?_set] at hq
    by_cases hj : k = j
    · subst hj
      rw [if_pos rfl, if_pos (lt_of_get hr)] at hq
      rw [← Option.some.inj hq] at hz
      rcases hF with hF | ⟨y, hy, hle⟩
      · exact h.neI k r z hr (by rw [← hF]; exact hz)
      · have hzz : blk a' = some z := hz
        rw [hy] at hzz
        have := Option.some.inj hzz
        omega
    · rw [if_neg hj] at hq
      exact h.neI j q z hq hz
theorem KAt.new {w0 wA w w1 : World} {gm gc gB g B : Nat} {M M0 : List Int} {rs : List (RowV Int)} (hA : KAt w0 wA gm gc gB M0 rs) (h : KAt w0 w gm gc gB M rs) (hU : Upd B (some ⟨g, 0, none⟩) w w1) (hg : wA.heap.size ≤ g) : KAt w0 w1 gm gc gB M rs := by
  have h1 := (hA.many.blk_lt gm rfl).2
  have h2 := heap_lt hA.cell
  have h3 := (hA.rr.outer.blk_lt gB rfl).2
  refine ⟨hU.own h.many (.inr fun he => by have h4 := Option.some.inj he; simp only at h4; omega), ?_, h.rr.kept hU (.inr fun he => by have h4 := Option.some.inj he; simp only at h4; omega) (fun i r hr => ?_), h.lc, h.ne, h.neO, h.neI⟩
  · rw [hU.grown.block gc (heap_lt h.cell) (fun he => by have h4 := Option.some.inj he; simp only at h4; omega)]; exact h.cell
  · cases hb : blk r.1 with
    | none => exact .inl rfl
    | some k =>
      refine .inr fun he => ?_
      have h4 := ((hA.rr.inner i r hr).blk_lt k hb).2
      have h5 := Option.some.inj he
      simp only at h5; omega
theorem row_set {rs : List (RowV Int)} {i : Nat} {f g : Nat → List Int} {q : RowV Int} (hc : ∀ v r, rs[v]? = some r → r.2.2 = f v) (hi : i < rs.length) (hq : q.2.2 = g i) (ho : ∀ v, v ≠ i → g v = f v) : ∀ v r, (rs.set i q)[v]? = some r → r.2.2 = g v := by
  intro v r hr
  rw [List.getElem?_set] at hr
  by_cases h : i = v
  · subst h
    rw [if_pos rfl, if_pos hi] at hr
    rw [← Option.some.inj hr]; exact hq
  · rw [if_neg h] at hr
    rw [ho v (fun hh => h hh.symm)]; exact hc v r hr
theorem ap_set {rs : List (RowV Int)} {i : Nat} {q r : RowV Int} {S : Option Nat} {m : Nat} (h : ∀ (v : Nat) (r : RowV Int), rs[v]? = some r → blk r.1 = none ∨ blk r.1 ≠ S) (hr : rs[i]? = some r) (hF : blk q.1 = blk r.1 ∨ ∃ k, blk q.1 = some k ∧ m ≤ k) (hS : ∀ k, S = some k → k < m) : ∀ (v : Nat) (p : RowV Int), (rs.set i q)[v]? = some p → blk p.1 = none ∨ blk p.1 ≠ S := by
  intro v p hp
  rw [List.getElem?_set] at hp
  by_cases hv : i = v
  · subst hv
    rw [if_pos rfl, if_pos (lt_of_get hr)] at hp
    obtain rfl := Option.some.inj hp
    rcases hF with hF | ⟨k, hk, hle⟩
    · rw [hF]; exact h i r hr
    · refine .inr fun he => ?_
      rw [hk] at he
      have := hS k he.symm
      omega
  · rw [if_neg hv] at hp; exact h v p hp
theorem ap_symm {a b : Option Nat} (h : a = none ∨ a ≠ b) (hb : b ≠ none) : b = none ∨ b ≠ a := by
  rcases h with h | h
  · exact .inr fun he => hb (by rw [he, h])
  · exact .inr fun he => h he.symm
theorem slices_CloneB (a : Option Addr) (cap : Nat) (l : List Bool) (w : World) (R : Row 1 encB w a l) (hna : a = none → cap = 0) (hl : l.length ≤ 1048576) :
    Lt.Spec Tryd.prog 33 [.slice a l.length cap] w (IsFresh 1 encB 4 w l) := by
  by_cases ha : a = none
  · subst ha
    have hl0 : l = [] := by
      cases l with
      | nil => rfl
      | cons x r => obtain ⟨b, off, h1, _⟩ := R.elem 0 x rfl; cases h1
    subst hl0
    refine Spec.of _ Tryd.func33 rfl Tryd.ntmps33 (by kernel_rfl) rfl ?_
    repeat' (first
      | (apply WL.eqSl tOk; exact rfl; exact rfl; exact rfl; exact rfl; exact rfl; exact rfl)
      | (apply W.condKT; exact rfl; (focus (exact dec_true rfl; done)))
      | (show WL _ _ _ _ _ _ _; first | apply WL.nil | (refine WL.au (k := ?_)))
      | (show Z _ _ _ _ _; first | apply Z.then_normal | apply Z.then_ret)
      | (show W _ _ _ _ _ _; first | apply W.seq | apply W.region | apply W.ret)
      | fail)
    exact Z.body1 Tryd.results33 rfl fun m => ⟨(Ext.refl _).at m, none, 0, rfl, Own.nil⟩
  · refine Spec.of _ Tryd.func33 rfl Tryd.ntmps33 (by kernel_rfl) rfl ?_
    repeat' (first
      | (apply WL.eqSl tOk; exact rfl; exact rfl; exact rfl; exact rfl; exact rfl; exact rfl)
      | (apply W.condKF; exact rfl; (focus (exact dec_false ha; done)))
      | (apply WL.lit (len := 0) tOk; exact rfl; exact rfl; exact rfl; exact rfl; exact rfl; exact rfl; (first | exact rfl | kernel_rfl | (simp [Instr.fill, catCells]; done)); exact rfl; intro gb w' hb hge hc hx; have hO0 := Own.of_block0 (enc := encB) (s := 1) hb hge)
      | (apply WL.appendS tOk encB_ok; exact rfl; exact rfl; exact rfl; exact rfl; exact rfl; exact rfl; exact rfl; exact rfl; exact rfl; exact rfl; assumption; (exact extA); (first | exact rfl | (focus (simp only [List.length_set]; done)) | (focus (simp; done)) | (focus (simp [*]; done)) | omega | (focus (simp only [List.length_set]; omega))); assumption; (exact extA); (first | exact rfl | (focus (simp only [List.length_set]; done)) | (focus (simp; done)) | (focus (simp [*]; done)) | omega | (focus (simp only [List.length_set]; omega))); (first | assumption | (intro h; cases h) | exact Own.noneCap (by assumption)); exact rfl; (exact extA); (first | omega | (simp; omega) | (simp at *; omega)); intro a' cap' w' hO hX' hU hF)
      | (show WL _ _ _ _ _ _ _; first | apply WL.nil | (refine WL.au (k := ?_)))
      | (show Z _ _ _ _ _; apply Z.then_normal)
      | (show W _ _ _ _ _ _; first | apply W.seq | apply W.region | apply W.skip | apply W.ret)
      | fail)
    exact Z.body1 Tryd.results33 rfl fun m => ⟨Ext.at (by (exact extA)) m, a', cap', by rw [List.nil_append], by rw [List.nil_append] at hO; exact hO⟩
abbrev zI : RowV Int := (none, 0, [])
set_option maxHeartbeats 8000000 in
theorem fsim_Keep (ra rb rf rt : Option Addr) (cap cb cf ct : Nat) (n : List (Int × Int)) (outs : List Int) (fs : List F3) (rs : List BRow) (w : World) (R : Row 2 encN w ra n) (Rb : Row 1 encI w rb outs) (Rf : Row 3 encF3 w rf fs) (Rt : Row 1 encR w rt rs) (hna : ra = none → cap = 0) (hnb : rb = none → cb = 0) (hct : rs.length ≤ ct) (hRs : RowsIn w rs) (hnr : ∀ r ∈ rs, r.1 = none → r.2.1 = 0) (hbs : ∀ r ∈ rs, r.2.2.length ≤ 1048576) (hnt : rs.length ≤ 1048576) (hnf : fs.length ≤ 1048576) (hg : GoodNet n) (hn : n.length ≤ 1048576) (ho : outs.length ≤ 1048576) (hv : ∀ f ∈ fs, inI64 f.1) (hk : ∀ l ∈ outs, 0 ≤ l ∧ l ≤ 2 * (n.length : Int) + 1) (hT : Cells w 1 0 tzW)
    (D : Nat → Nat → Bool) (hD : ∀ i k, D i k = dB n outs (fs.getD i (0, 0, false)).1 (fs.getD i (0, 0, false)).2.1 (fs.getD i (0, 0, false)).2.2 (rs.getD k (none, 0, []))) :
    Lt.Spec Tryd.prog 17 [.slice ra n.length cap, .slice rb outs.length cb, .slice rf fs.length cf, .slice rt rs.length ct] w (fun v w' => Ext w w' ∧ ∃ a cp ks, v = .slice a ks.length cp ∧ Row 1 encR w' a ks ∧ ks.length ≤ cp ∧ (a = none → cp = 0) ∧ RowsIn w' ks ∧ ks.map (·.2.2) = (keptR (stayK fs.length rs.length D rs.length) (none, 0, []) rs rs.length).map (·.2.2)) := by
  have hbR : ∀ w9, Ext w w9 → RowsIn w9 rs := fun w9 h9 r hr => ⟨(hRs r hr).1.ext h9, (hRs r hr).2⟩
  refine Spec.of _ Tryd.func17 rfl Tryd.ntmps17 (by kernel_rfl) rfl ?_
  repeat' (first
    | (apply WL.make (w0 := w) tOk; exact rfl; exact rfl; exact rfl; exact rfl; exact rfl; exact rfl; exact rfl; exact rfl; exact rfl; exact encI_ok; exact rfl; exact rfl; (exact extA); (first | omega | (simp; omega) | (simp at *; omega)); intro gb w' hO hge hx; (obtain ⟨gm, rfl⟩ : ∃ x, x = gb := ⟨_, rfl⟩; obtain ⟨w1, rfl⟩ : ∃ x, x = w' := ⟨_, rfl⟩; obtain ⟨hx1, rfl⟩ : ∃ x, x = hx := ⟨_, rfl⟩; obtain ⟨hOm, rfl⟩ : ∃ x, x = hO := ⟨_, rfl⟩; obtain ⟨hgem, rfl⟩ : ∃ x, x = hge := ⟨_, rfl⟩))
    | (apply WL.alloc tOk; exact rfl; exact rfl; exact rfl; intro gb w' hb hge hx; (obtain ⟨gc, rfl⟩ : ∃ x, x = gb := ⟨_, rfl⟩; obtain ⟨w2, rfl⟩ : ∃ x, x = w' := ⟨_, rfl⟩; obtain ⟨hx2, rfl⟩ : ∃ x, x = hx := ⟨_, rfl⟩; obtain ⟨hgec, rfl⟩ : ∃ x, x = hge := ⟨_, rfl⟩; obtain ⟨hbc, rfl⟩ : ∃ x, x = hb := ⟨_, rfl⟩))
    | (apply WL.storeB (w0 := w1) tOk; exact rfl; exact rfl; exact rfl; exact rfl; assumption; (exact extA); exact rfl; exact rfl; exact rfl; (exact extA); (first | assumption | omega | (focus (apply Nat.le_trans; rotate_left; assumption; exact Below.size (by (exact extA)); done))); intro w' hb hc hX' hU; have hcc := hc; obtain ⟨h1, h2, _⟩ := hc; (obtain ⟨w3, rfl⟩ : ∃ x, x = w' := ⟨_, rfl⟩; obtain ⟨hb3, rfl⟩ : ∃ x, x = hb := ⟨_, rfl⟩; obtain ⟨hX3, rfl⟩ : ∃ x, x = hX' := ⟨_, rfl⟩; obtain ⟨hU3, rfl⟩ : ∃ x, x = hU := ⟨_, rfl⟩))
    | ((apply WL.make (w0 := w3) (z := zI) tOk; exact rfl; exact rfl; exact rfl; exact rfl; exact rfl; exact rfl; exact rfl; exact rfl; exact rfl; exact encRow_ok; exact rfl; exact rfl; exact (by (exact extA)); omega; intro gB w4 hOB hgeB hx4))
    | (show WL _ _ _ _ _ _ _; first | apply WL.nil | (refine WL.au (k := ?_)))
    | (show Z _ _ _ _ _; apply Z.then_normal)
    | (show W _ _ _ _ _ _; first | apply W.seq | apply W.region | apply W.block)
    | fail)
  have ef : ((fs.length : Nat) : Int).toNat = fs.length := Int.toNat_natCast _
  have et : ((rs.length : Nat) : Int).toNat = rs.length := Int.toNat_natCast _
  rw [ef] at hOm h1 hb3
  rw [et] at hOB ⊢
  have eB : (List.replicate rs.length zI).length = rs.length := List.length_replicate
  have hX34 : Ext w3 w4 := hx4
  have hXw4 : Ext w w4 := (by (exact extA))
  have hK0 : KAt w w4 gm gc gB (manyT D fs.length rs.length 0 0) (List.replicate rs.length zI) := by
    have hgm := (hOm.blk_lt gm rfl).2
    have hs1 := Below.size hX3
    have h31 : Ext w1 w4 := hX3.trans hx4
    have hcl := heap_lt hb3
    have hs0 := Below.size hx1
    refine ⟨?_, ?_, ?_, by omega, by omega, by omega, fun i r k hr hb => ?_⟩
    · rw [manyT_len, ← manyT_start]; exact hOm.ext h31
    · rw [manyT_len, hx4.block gc (heap_lt hb3), hb3, List.length_replicate]; rfl
    · rw [eB]; exact (OwnRR.start hOB).base (by omega)
    · rw [List.getElem?_replicate] at hr
      split at hr
      · rw [← Option.some.inj hr] at hb; cases hb
      · cases hr
  clear hOm hOB hbc hb3 h1 hcc hU3
  refine W.loopW fs.length (fun i w' => i ≤ fs.length ∧ Ext w w' ∧ ∃ bs : List (RowV Int), KAt w w' gm gc gB (manyT D fs.length rs.length i 0) bs ∧ bs.length = rs.length ∧ ∀ v r, bs[v]? = some r → r.2.2 = byC D i 0 v)
    (fun i => [(0, .slice ra n.length cap), (1, .slice rb outs.length cb), (3, .slice rt rs.length ct), (9, .pointer (some ⟨gc, 0, none⟩)), (10, .slice (some ⟨gB, 0, none⟩) rs.length rs.length), (28, .slice rf fs.length cf), (29, .int .i64 (fs.length : Nat)), (30, .int .i64 i)]) ⟨by omega, hXw4, _, hK0, eB, fun v r hr => ?_⟩ (fun k w' h => h.1) (by repeat' first | exact trivial | (refine And.intro ?_ ?_) | exact rfl | (rw [eB]; exact rfl)) ?_
  · rw [List.getElem?_replicate] at hr
    split at hr
    · rw [← Option.some.inj hr]; unfold byC byF byN; simp
    · cases hr
  clear hK0
  rintro i w' ⟨hi, hx', bs, hK, hbl, hbc⟩
  by_cases hlt : i < fs.length
  · obtain ⟨f, hf⟩ := getI fs hlt
    have hvf := hv f (List.mem_of_getElem? hf)
    have hDi : ∀ k, D i k = dB n outs f.1 f.2.1 f.2.2 (rs.getD k (none, 0, [])) := fun k => by rw [hD, getD_of hf]
    obtain ⟨wk, rfl⟩ : ∃ x, x = w' := ⟨_, rfl⟩
    have hXk : Ext w wk := hx'
    have Rf1 := Rf.ext hx'
    repeat' (first
      | (apply W.condKT; exact rfl; (focus (first | exact dec_true (by omega); done)))
      | (apply WL.alloc tOk; exact rfl; exact rfl; exact rfl; intro gb w' hb hge hx)
      | (apply WL.storeB (w0 := wk) tOk; exact rfl; exact rfl; exact rfl; exact rfl; assumption; (exact extA); exact rfl; exact rfl; exact rfl; (exact extA); (first | assumption | omega | (focus (apply Nat.le_trans; rotate_left; assumption; exact Below.size (by (exact extA)); done))); intro w' hb hc hX' hU; have hcc := hc; obtain ⟨h1, h2, _⟩ := hc; (obtain ⟨w5, rfl⟩ : ∃ x, x = w' := ⟨_, rfl⟩; obtain ⟨hX5, rfl⟩ : ∃ x, x = hX' := ⟨_, rfl⟩; obtain ⟨hb5, rfl⟩ : ∃ x, x = hb := ⟨_, rfl⟩; obtain ⟨hU5, rfl⟩ : ∃ x, x = hU := ⟨_, rfl⟩))
      | ((show WL _ _ _ (⟨_, .call ⟨.value (.func 29), _, _⟩, _, _, _, _⟩ :: _) _ _ _); apply WL.call; exact rfl; exact rfl; exact rfl; exact rfl; exact fsim_shows _ _ _ _ _ _ n outs f.1 f.2.1 f.2.2 rs _ (R.ext (hXk.trans (by (exact extA)))) (Rb.ext (hXk.trans (by (exact extA)))) (Rt.ext (hXk.trans (by (exact extA)))) hna hnb hct (hbR _ (hXk.trans (by (exact extA)))) hbs hnt hg hn ho hvf hk (hT.ext (hXk.trans (by (exact extA)))); rintro v' w' ⟨hx, a', cap', rfl, hO⟩)
      | (show WL _ _ _ _ _ _ _; first | apply WL.nil | (refine WL.au (k := ?_)) | (apply WL.index tOk; exact rfl; exact rfl; exact rfl; exact rfl; exact rfl; exact rfl; exact rfl; exact rfl; assumption; (exact extA); exact rfl; omega; assumption; intro b off h; have hcc := h; first | (obtain ⟨h1, h2, h3, h4, h5, h6, _⟩ := h) | (obtain ⟨h1, h2, h3, _⟩ := h) | (obtain ⟨h1, h2, _⟩ := h) | (obtain ⟨h1, _⟩ := h)))
      | (show Z _ _ _ _ _; apply Z.then_normal)
      | (show W _ _ _ _ _ _; first | apply W.seq | apply W.region | apply W.block | apply W.skip)
      | fail)
    have hX6 : Ext wk w' := (by (exact extA))
    obtain ⟨w6, rfl⟩ : ∃ x, x = w' := ⟨_, rfl⟩; obtain ⟨aS, rfl⟩ : ∃ x, x = a' := ⟨_, rfl⟩; obtain ⟨cS, rfl⟩ : ∃ x, x = cap' := ⟨_, rfl⟩; obtain ⟨hOs, rfl⟩ : ∃ x, x = hO := ⟨_, rfl⟩
    have hSb : ∀ q, blk aS = some q → wk.heap.size ≤ q := fun q hq => Nat.le_trans (Below.size hX5) (hOs.blk_lt q hq).1
    have hOs0 := hOs.base (Below.size hX5)
    obtain ⟨sh, hsh⟩ : ∃ sh, sh = rs.map (dB n outs f.1 f.2.1 f.2.2) := ⟨_, rfl⟩
    rw [← hsh] at hOs0 ⊢
    have hshl : sh.length = rs.length := by rw [hsh, List.length_map]
    have hshk : ∀ k, k < rs.length → sh[k]? = some (D i k) := fun k hk => by
      obtain ⟨r, hr⟩ := getI rs hk
      rw [hsh, List.getElem?_map, hr, hDi, getD_of hr]; rfl
    have hgmS : blk aS ≠ some gm := fun he => by have h3 := hSb gm he; have h4 := (hK.many.blk_lt gm rfl).2; omega
    have hgBS : blk aS ≠ some gB := fun he => by have h3 := hSb gB he; have h4 := (hK.rr.outer.blk_lt gB rfl).2; omega
    clear hOs
    refine W.loopW rs.length (fun k w' => k ≤ rs.length ∧ Ext w w' ∧ ∃ bs : List (RowV Int), KAt w w' gm gc gB (manyT D fs.length rs.length i k) bs ∧ bs.length = rs.length ∧ (∀ v r, bs[v]? = some r → r.2.2 = byC D i k v) ∧ Own 1 encB 4 wk.heap.size w' aS cS sh ∧ ∀ (v : Nat) (r : RowV Int), bs[v]? = some r → blk r.1 = none ∨ blk r.1 ≠ blk aS)
      (fun k => [(0, .slice ra n.length cap), (1, .slice rb outs.length cb), (3, .slice rt rs.length ct), (9, .pointer (some ⟨gc, 0, none⟩)), (10, .slice (some ⟨gB, 0, none⟩) rs.length rs.length), (28, .slice rf fs.length cf), (29, .int .i64 (fs.length : Nat)), (30, .int .i64 i), (11, .int .i64 i), (39, .slice aS sh.length cS), (40, .int .i64 (sh.length : Nat)), (41, .int .i64 k)]) ⟨by omega, hXk.trans hX6, bs, hK.ext hX6, hbl, hbc, hOs0, fun v r hr => ?_⟩ (fun k w' h => h.1) (by repeat' first | exact trivial | (refine And.intro ?_ ?_) | exact rfl) ?_
    · cases hb : blk r.1 with
      | none => exact .inl rfl
      | some q =>
        refine .inr fun he => ?_
        have h3 := hSb q he.symm
        have h4 := ((hK.rr.inner v r hr).blk_lt q hb).2
        omega
    clear hK hbc hOs0 hbl
    clear bs
    rintro k w7 ⟨hkl, hX7, bs, hK, hbl, hbc, hOs, hap⟩
    by_cases hlk : k < rs.length
    · have hshx := hshk k hlk
      have hM := hK.many
      have hMl := manyT_len (D := D) fs.length rs.length i k
      have hMg := manyT_get (D := D) (nt := rs.length) (k := k) hlt
      have hcM := cells_heap hK.cell
      obtain ⟨c1, _⟩ := hcM
      have hcnt := cntD_le (D := D) i k
      obtain ⟨r, hr⟩ := getI bs (show k < bs.length by omega)
      have hrl : r.2.2.length ≤ i + 1 := by rw [hbc k r hr]; exact byC_len i k k
      cases hd : D i k with
      | false =>
        rw [hd] at hshx
        repeat' (first
          | (apply W.condKT; exact rfl; (focus (first | exact dec_true (by omega); done)))
          | (apply WL.indexO tOk; exact rfl; exact rfl; exact rfl; exact rfl; exact rfl; exact rfl; exact rfl; exact rfl; assumption; (exact extA); exact encB_ok; (first | exact rfl | (focus (simp only [List.length_set]; done)) | (focus (simp; done)) | (focus (simp [*]; done)) | omega | (focus (simp only [List.length_set]; omega))); omega; assumption; intro gb ha hc; cases ha; have hcc := hc; first | (obtain ⟨h1, h2, h3, _⟩ := hc) | (obtain ⟨h1, h2, _⟩ := hc) | (obtain ⟨h1, _⟩ := hc))
          | (show WL _ _ _ _ _ _ _; first | apply WL.nil | (refine WL.au (k := ?_)))
          | (show Z _ _ _ _ _; first | apply Z.then_normal | apply Z.block_normal)
          | (show W _ _ _ _ _ _; first | apply W.seq | apply W.region | apply W.block | apply W.skip | (apply W.condF; exact rfl))
          | fail)
        exact Z.againW ⟨by omega, hX7, bs, by rw [← manyT_no hd]; exact hK, hbl, fun v q hq => by rw [byC_no hd]; exact hbc v q hq, hOs, hap⟩ ⟨rfl, rfl, rfl, rfl, rfl, rfl, rfl, rfl, rfl, rfl, rfl, rfl, trivial⟩
      | true =>
        rw [hd] at hshx
        repeat' (first
          | (apply W.condKT; exact rfl; (focus (first | exact dec_true (by omega); done)))
          | (apply WL.indexO tOk; exact rfl; exact rfl; exact rfl; exact rfl; exact rfl; exact rfl; exact rfl; exact rfl; assumption; (exact extA); exact encB_ok; (first | exact rfl | (focus (simp only [List.length_set]; done)) | (focus (simp; done)) | (focus (simp [*]; done)) | omega | (focus (simp only [List.length_set]; omega))); omega; assumption; intro gb ha hc; cases ha; have hcc := hc; first | (obtain ⟨h1, h2, h3, _⟩ := hc) | (obtain ⟨h1, h2, _⟩ := hc) | (obtain ⟨h1, _⟩ := hc))
          | (apply WL.indexO tOk; exact rfl; exact rfl; exact rfl; exact rfl; exact rfl; exact rfl; exact rfl; exact rfl; assumption; (exact extA); exact encI_ok; (first | exact rfl | (focus (simp only [List.length_set]; done)) | (focus (simp; done)) | (focus (simp [*]; done)) | omega | (focus (simp only [List.length_set]; omega))); omega; assumption; intro gb ha hc; cases ha; have hcc := hc; first | (obtain ⟨h1, h2, h3, _⟩ := hc) | (obtain ⟨h1, h2, _⟩ := hc) | (obtain ⟨h1, _⟩ := hc))
          | (apply WL.storeO tOk; exact rfl; exact rfl; exact rfl; exact rfl; assumption; (exact extA); exact rfl; exact rfl; exact rfl; exact encI_ok; assumption; exact rfl; (exact extA); intro w' hO hX' hU)
          | (show WL _ _ _ _ _ _ _; first | apply WL.nil | (refine WL.au (k := ?_)))
          | (show Z _ _ _ _ _; apply Z.then_normal)
          | (show W _ _ _ _ _ _; first | apply W.seq | apply W.region | apply W.block | apply W.skip | (apply W.condT; exact rfl))
          | fail)
        obtain ⟨w8, rfl⟩ : ∃ x, x = w' := ⟨_, rfl⟩; obtain ⟨hO8, rfl⟩ : ∃ x, x = hO := ⟨_, rfl⟩; obtain ⟨hX8, rfl⟩ : ∃ x, x = hX' := ⟨_, rfl⟩; obtain ⟨hU8, rfl⟩ : ∃ x, x = hU := ⟨_, rfl⟩
        rw [Int.toNat_natCast, manyT_yes hd] at hO8
        have hK8 := hK.putM hU8 hO8 (by rw [manyT_len, manyT_len])
        have hOs8 := hU8.own hOs (.inr hgmS)
        have hOut8 : Own 1 encRow 22 w.heap.size w8 (some ⟨gB, 0, none⟩) rs.length bs := by have := hK8.rr.outer; rwa [hbl] at this
        have hIn8 := hK8.rr.inner k r hr
        clear hM hO8
        repeat' (first
          | (apply WL.indexO tOk; exact rfl; exact rfl; exact rfl; exact rfl; exact rfl; exact rfl; exact rfl; exact rfl; assumption; (exact extA); exact encRow_ok; (first | exact rfl | (focus (simp only [List.length_set]; done)) | (focus (simp; done)) | (focus (simp [*]; done)) | omega | (focus (simp only [List.length_set]; omega))); omega; assumption; intro gb ha hc; cases ha; have hcc := hc; first | (obtain ⟨h1, h2, h3, _⟩ := hc) | (obtain ⟨h1, h2, _⟩ := hc) | (obtain ⟨h1, _⟩ := hc))
          | (apply WL.lit tOk; exact rfl; exact rfl; exact rfl; exact rfl; exact rfl; exact rfl; (first | exact rfl | kernel_rfl | (simp [Instr.fill, catCells]; done)); exact rfl; intro gb w' hb hge hc hx)
          | ((apply WL.append1 (z := ((i : Nat) : Int)) tOk encI_ok; exact rfl; exact rfl; exact rfl; exact rfl; exact rfl; exact rfl; exact rfl; exact rfl; exact rfl; exact rfl; exact hIn8; exact (by (exact extA)); exact rfl; assumption; exact rfl; exact rfl; exact (by (exact extA)); omega; intro a4 cap4 w4 hO4 hX4 hU4 hF4))
          | (show WL _ _ _ _ _ _ _; (refine WL.au (k := ?_)))
          | fail)
        have hX9 : Ext w8 w' := hx
        obtain ⟨w9, rfl⟩ : ∃ x, x = w' := ⟨_, rfl⟩
        have hOut9 := hU4.own (hOut8.ext hX9) (hK8.rr.outNe hr)
        repeat' (first
          | (apply WL.indexO tOk; exact rfl; exact rfl; exact rfl; exact rfl; exact rfl; exact rfl; exact rfl; exact rfl; assumption; (exact extA); exact encRow_ok; (first | exact rfl | (focus (simp only [List.length_set]; done)) | (focus (simp; done)) | (focus (simp [*]; done)) | omega | (focus (simp only [List.length_set]; omega))); omega; assumption; intro gb ha hc; cases ha; have hcc := hc; first | (obtain ⟨h1, h2, h3, _⟩ := hc) | (obtain ⟨h1, h2, _⟩ := hc) | (obtain ⟨h1, _⟩ := hc))
          | ((apply WL.storeO (z' := ((a4, cap4, r.2.2 ++ [((i : Nat) : Int)]) : RowV Int)) tOk; exact rfl; exact rfl; exact rfl; exact rfl; exact hOut9; exact (by (exact extA)); exact rfl; exact rfl; exact rfl; exact encRow_ok; assumption; exact rfl; exact (by (exact extA)); intro w5 hO5 hX5 hU5))
          | (show WL _ _ _ _ _ _ _; first | apply WL.nil | (refine WL.au (k := ?_)))
          | (show Z _ _ _ _ _; first | apply Z.then_normal | apply Z.block_normal)
          | (show W _ _ _ _ _ _; apply W.region)
          | fail)
        have hrI : bs[((k : Nat) : Int).toNat]? = some r := hr
        have hOs9 := hU5.own (hU4.own (hOs8.ext hX9) (ap_symm (hap k r hr) (by simp [blk]))) (.inr hgBS)
        rw [Int.toNat_natCast] at hO5
        have hKf := (hK8.ext hX9).putB hr hU4 hF4 hO4 hU5 (by rw [hbl]; exact hO5)
        refine Z.againW ⟨by omega, hX5, _, hKf, by rw [List.length_set]; exact hbl, row_set (g := byC D i (k + 1)) hbc (by omega) ?_ (fun v hv => byC_other hv), hOs9, ap_set hap hr hF4 (fun q hq => by have h5 := (hOs8.blk_lt q hq).2; have h6 := Below.size hX9; omega)⟩ ⟨rfl, rfl, rfl, rfl, rfl, rfl, rfl, rfl, rfl, rfl, rfl, rfl, trivial⟩
        show r.2.2 ++ _ = _
        rw [hbc k r hr, byC_yes hd]
    · obtain rfl : k = rs.length := by omega
      repeat' (first
        | (apply W.condKF; exact rfl; (focus (first | exact dec_false (by omega); done)))
        | (show WL _ _ _ _ _ _ _; first | apply WL.nil | (refine WL.au (k := ?_)))
        | (show Z _ _ _ _ _; first | apply Z.then_normal | apply Z.block_normal | apply Z.then_exit | apply Z.block_exit)
        | (show W _ _ _ _ _ _; first | apply W.seq | apply W.region | apply W.exit)
        | fail)
      exact Z.againW ⟨by omega, hX7, bs, by rw [← manyT_next]; exact hK, hbl, fun v q hq => by rw [← byC_next (nt := rs.length) (by have := lt_of_get hq; omega)]; exact hbc v q hq⟩ ⟨rfl, rfl, rfl, rfl, rfl, rfl, rfl, rfl, trivial⟩
  obtain rfl : i = fs.length := by omega
  obtain ⟨wA, rfl⟩ : ∃ x, x = w' := ⟨_, rfl⟩
  have hXA : Ext w wA := hx'
  rw [mnT_start] at hK
  have hbv : ∀ v r, bs[v]? = some r → r.2.2 = byF D v fs.length := fun v r hr => by rw [hbc v r hr]; unfold byC; rw [if_neg (by omega)]
  clear hbc
  have hsz0 := Below.size hXA
  repeat' (first
    | (apply W.condKF; exact rfl; (focus (first | exact dec_false (by omega); done)))
    | (apply WL.make (w0 := wA) tOk; exact rfl; exact rfl; exact rfl; exact rfl; exact rfl; exact rfl; exact rfl; exact rfl; exact rfl; exact encB_ok; exact rfl; exact rfl; (exact extA); (first | omega | (simp; omega) | (simp at *; omega)); intro gb w' hO hge hx)
    | (show WL _ _ _ _ _ _ _; first | apply WL.nil | (refine WL.au (k := ?_)))
    | (show Z _ _ _ _ _; first | apply Z.then_normal | apply Z.then_exit | apply Z.block_exit)
    | (show W _ _ _ _ _ _; first | apply W.seq | apply W.region | apply W.block | apply W.exit)
    | fail)
  rw [et] at hO ⊢
  rw [stT_start] at hO
  obtain ⟨gS, rfl⟩ : ∃ x, x = gb := ⟨_, rfl⟩; obtain ⟨wB, rfl⟩ : ∃ x, x = w' := ⟨_, rfl⟩
  have hgmA := (hK.many.blk_lt gm rfl).2
  have hneS : gS ≠ gm := by omega
  have hXAB : Ext wA wB := hx
  have hKA := hK
  have esl : (List.replicate rs.length false).length = rs.length := List.length_replicate
  have e00 : (rs.length : Int) - 1 - ((0 : Nat) : Int) = (rs.length : Int) - 1 := by omega
  refine W.loopW rs.length (fun m w' => m ≤ rs.length ∧ Ext w w' ∧ KAt w w' gm gc gB (mnT fs.length rs.length D m) bs ∧ Own 1 encB 4 w.heap.size w' (some ⟨gS, 0, none⟩) rs.length (stT fs.length rs.length D m))
    (fun m => [(3, .slice rt rs.length ct), (9, .pointer (some ⟨gc, 0, none⟩)), (10, .slice (some ⟨gB, 0, none⟩) rs.length rs.length), (15, .slice (some ⟨gS, 0, none⟩) rs.length rs.length), (16, .int .i64 ((rs.length : Int) - 1 - (m : Int)))]) ⟨by omega, hXA.trans hXAB, hK.ext hXAB, hO.base hsz0⟩ (fun k w' h => h.1) (by repeat' first | exact trivial | (refine And.intro ?_ ?_) | exact rfl | (rw [esl]; exact rfl) | (rw [e00]; exact rfl)) ?_
  clear hK hO
  rintro m w5 ⟨hml, hX5, hKm, hOs⟩
  have hsl2 : (stT fs.length rs.length D m).length = rs.length := stT_len _ _ _
  by_cases hlt2 : m < rs.length
  · have ek : ((rs.length : Int) - 1 - (m : Int)).toNat = rs.length - 1 - m := by omega
    have ek1 : (rs.length : Int) - 1 - ((m + 1 : Nat) : Int) = (rs.length : Int) - 1 - (m : Int) - 1 := by omega
    obtain ⟨r, hr⟩ := getI bs (show rs.length - 1 - m < bs.length by omega)
    have hrv := hbv _ r hr
    have hr' : bs[((rs.length : Int) - 1 - (m : Int)).toNat]? = some r := by rw [ek]; exact hr
    have hOut : Own 1 encRow 22 w.heap.size w5 (some ⟨gB, 0, none⟩) rs.length bs := by have := hKm.rr.outer; rwa [hbl] at this
    have hg5 : (stT fs.length rs.length D m)[((rs.length : Int) - 1 - (m : Int)).toNat]? = some false := by rw [ek]; exact stT_get hlt2
    have hg6 : (stT fs.length rs.length D (m + 1))[((rs.length : Int) - 1 - (m : Int)).toNat]? = some (dec (needS fs.length rs.length D (stayK fs.length rs.length D m) (rs.length - 1 - m))) := by
      rw [ek, ← stT_set hlt2, List.getElem?_set, if_pos rfl, if_pos (by omega)]
    have hsl3 : (stT fs.length rs.length D (m + 1)).length = rs.length := stT_len _ _ _
    have hlow : stayK fs.length rs.length D m (rs.length - 1 - m) = true := stayK_low (by omega)
    have hmem : ∀ x ∈ r.2.2, 0 ≤ x ∧ x < fs.length := fun x hx => by
      rw [hrv] at hx
      obtain ⟨u, hu, rfl⟩ := List.mem_map.1 hx
      have := (byN_mem.1 hu).1
      omega
    have hcall : Still Tryd.prog 31 [.slice r.1 r.2.2.length r.2.1, .func (.func 32) #[] #[.pointer (some ⟨gc, 0, none⟩)]] w5 (.bool (dec (needS fs.length rs.length D (stayK fs.length rs.length D m) (rs.length - 1 - m)))) := by
      have h := slices_ContainsFunc r.1 r.2.1 r.2.2 w5 ((hKm.rr.inner _ r hr).row encI_ok) 32 [.pointer (some ⟨gc, 0, none⟩)] (fun x => dec ((mnT fs.length rs.length D m).getD x.toNat 0 = 1)) (fun x hx =>
        fsim_Keep1 x gc _ _ _ w5 (cells_heap hKm.cell).1 (hKm.many.row encI_ok) (by rw [mnT_len]; exact hmem x hx))
      have e := need_iff (D := D) (nf := fs.length) (nt := rs.length) (m := m) (k := rs.length - 1 - m) (by omega) hlow
      rw [← hrv] at e
      rw [e] at h; exact h
    by_cases hn : needS fs.length rs.length D (stayK fs.length rs.length D m) (rs.length - 1 - m)
    · repeat' (first
        | (apply W.condKT; exact rfl; (focus (first | exact dec_true (by omega) | exact dec_true hn; done)))
        | (apply WL.indexO tOk; exact rfl; exact rfl; exact rfl; exact rfl; exact rfl; exact rfl; exact rfl; exact rfl; assumption; (exact extA); exact encRow_ok; (first | exact rfl | (focus (simp only [List.length_set]; done)) | (focus (simp; done)) | (focus (simp [*]; done)) | omega | (focus (simp only [List.length_set]; omega))); omega; assumption; intro gb ha hc; cases ha; have hcc := hc; first | (obtain ⟨h1, h2, h3, _⟩ := hc) | (obtain ⟨h1, h2, _⟩ := hc) | (obtain ⟨h1, _⟩ := hc))
        | (apply WL.callS; exact rfl; exact rfl; exact rfl; exact rfl; exact hcall)
        | (apply WL.storeO tOk; exact rfl; exact rfl; exact rfl; exact rfl; assumption; (exact extA); exact rfl; exact rfl; exact rfl; exact encB_ok; assumption; exact rfl; (exact extA); intro w' hO hX' hU; (rw [ek, stT_set hlt2] at hO))
        | (apply WL.indexO tOk; exact rfl; exact rfl; exact rfl; exact rfl; exact rfl; exact rfl; exact rfl; exact rfl; assumption; (exact extA); exact encB_ok; (first | exact rfl | (focus (simp only [List.length_set]; done)) | (focus (simp; done)) | (focus (simp [*]; done)) | omega | (focus (simp only [List.length_set]; omega))); omega; assumption; intro gb ha hc; cases ha; have hcc := hc; first | (obtain ⟨h1, h2, h3, _⟩ := hc) | (obtain ⟨h1, h2, _⟩ := hc) | (obtain ⟨h1, _⟩ := hc))
        | (show WL _ _ _ _ _ _ _; first | apply WL.nil | (refine WL.au (k := ?_)))
        | (show Z _ _ _ _ _; first | apply Z.then_normal | apply Z.then_exit | apply Z.block_exit)
        | (show W _ _ _ _ _ _; first | apply W.seq | apply W.region | apply W.block | apply W.skip | apply W.exit)
        | fail)
      have hKn := KAt.new hKA hKm hU hge
      rw [mnT_stay hlt2 hn] at hKn
      exact Z.againW ⟨by omega, hX', hKn, hO⟩ (by repeat' first | exact trivial | (refine And.intro ?_ ?_) | exact rfl | (rw [ek1]; exact rfl))
    · repeat' (first
        | (apply W.condKT; exact rfl; (focus (first | exact dec_true (by omega) | exact dec_false hn; done)))
        | (apply W.condKF; exact rfl; (focus (first | exact dec_true (by omega) | exact dec_false hn; done)))
        | (apply WL.indexO tOk; exact rfl; exact rfl; exact rfl; exact rfl; exact rfl; exact rfl; exact rfl; exact rfl; assumption; (exact extA); exact encRow_ok; (first | exact rfl | (focus (simp only [List.length_set]; done)) | (focus (simp; done)) | (focus (simp [*]; done)) | omega | (focus (simp only [List.length_set]; omega))); omega; assumption; intro gb ha hc; cases ha; have hcc := hc; first | (obtain ⟨h1, h2, h3, _⟩ := hc) | (obtain ⟨h1, h2, _⟩ := hc) | (obtain ⟨h1, _⟩ := hc))
        | (apply WL.callS; exact rfl; exact rfl; exact rfl; exact rfl; exact hcall)
        | (apply WL.storeO tOk; exact rfl; exact rfl; exact rfl; exact rfl; assumption; (exact extA); exact rfl; exact rfl; exact rfl; exact encB_ok; assumption; exact rfl; (exact extA); intro w' hO hX' hU; (rw [ek, stT_set hlt2] at hO; have hKn := KAt.new hKA hKm hU hge; have hOut2 := hKn.rr.outer; rw [hbl] at hOut2))
        | (apply WL.indexO tOk; exact rfl; exact rfl; exact rfl; exact rfl; exact rfl; exact rfl; exact rfl; exact rfl; assumption; (exact extA); exact encB_ok; (first | exact rfl | (focus (simp only [List.length_set]; done)) | (focus (simp; done)) | (focus (simp [*]; done)) | omega | (focus (simp only [List.length_set]; omega))); omega; assumption; intro gb ha hc; cases ha; have hcc := hc; first | (obtain ⟨h1, h2, h3, _⟩ := hc) | (obtain ⟨h1, h2, _⟩ := hc) | (obtain ⟨h1, _⟩ := hc))
        | (show WL _ _ _ _ _ _ _; first | apply WL.nil | (refine WL.au (k := ?_)))
        | (show Z _ _ _ _ _; apply Z.then_normal)
        | (show W _ _ _ _ _ _; first | apply W.seq | apply W.region | apply W.block | apply W.skip)
        | fail)
      obtain ⟨w6, rfl⟩ : ∃ x, x = w' := ⟨_, rfl⟩; obtain ⟨hO6, rfl⟩ : ∃ x, x = hO := ⟨_, rfl⟩; obtain ⟨hU6, rfl⟩ : ∃ x, x = hU := ⟨_, rfl⟩
      have hK6 := hKn
      rw [mnQ_zero] at hK6
      have hX6 : Ext w w6 := hX'
      have hrl : r.2.2.length = (byN D (rs.length - 1 - m) fs.length).length := by rw [hrv]; unfold byF; rw [List.length_map]
      have hneS' : blk (some ⟨gS, 0, none⟩ : Option Addr) ≠ blk (some ⟨gm, 0, none⟩ : Option Addr) := fun he => hneS (Option.some.inj he)
      clear hcall hOs hKm hU6 hX' hOut hKn hOut2
      refine W.loopW r.2.2.length (fun q w' => q ≤ r.2.2.length ∧ Ext w w' ∧ KAt w w' gm gc gB (mnQ fs.length rs.length D m q) bs ∧ Own 1 encB 4 w.heap.size w' (some ⟨gS, 0, none⟩) rs.length (stT fs.length rs.length D (m + 1)))
        (fun q => [(3, .slice rt rs.length ct), (9, .pointer (some ⟨gc, 0, none⟩)), (10, .slice (some ⟨gB, 0, none⟩) rs.length rs.length), (15, .slice (some ⟨gS, 0, none⟩) rs.length rs.length), (16, .int .i64 ((rs.length : Int) - 1 - (m : Int))), (91, .slice r.1 r.2.2.length r.2.1), (92, .int .i64 (r.2.2.length : Nat)), (93, .int .i64 q)]) ⟨by omega, hX6, hK6, hO6⟩ (fun k w' h => h.1) (by repeat' first | exact trivial | (refine And.intro ?_ ?_) | exact rfl) ?_
      clear hO6 hK6
      rintro q w7 ⟨hq, hX7, hK7, hO7⟩
      by_cases hlq : q < r.2.2.length
      · obtain ⟨u, hu⟩ := getI (byN D (rs.length - 1 - m) fs.length) (show q < _ by omega)
        have hxq : r.2.2[q]? = some ((u : Nat) : Int) := by rw [hrv]; unfold byF; rw [List.getElem?_map, hu]; rfl
        obtain ⟨hgu, hul⟩ := mnQ_get hu
        have RI : Row 1 encI w7 r.1 r.2.2 := (hK7.rr.inner _ r hr).row encI_ok
        have hrl9 := RI.len
        have hcM := cells_heap hK7.cell
        obtain ⟨c1, _⟩ := hcM
        have hM := hK7.many
        have hMl := mnQ_len (D := D) fs.length rs.length m q
        have hcnt := cntS_le (D := D) (stayK fs.length rs.length D m) u rs.length
        repeat' (first
          | (apply W.condKT; exact rfl; (focus (exact dec_true (by omega); done)))
          | (apply WL.indexO tOk; exact rfl; exact rfl; exact rfl; exact rfl; exact rfl; exact rfl; exact rfl; exact rfl; assumption; (exact extA); exact encI_ok; (first | exact rfl | (focus (simp only [List.length_set]; done)) | (focus (simp; done)) | (focus (simp [*]; done)) | omega | (focus (simp only [List.length_set]; omega))); omega; assumption; intro gb ha hc; cases ha; have hcc := hc; first | (obtain ⟨h1, h2, h3, _⟩ := hc) | (obtain ⟨h1, h2, _⟩ := hc) | (obtain ⟨h1, _⟩ := hc))
          | (apply WL.storeO tOk; exact rfl; exact rfl; exact rfl; exact rfl; assumption; (exact extA); exact rfl; exact rfl; exact rfl; exact encI_ok; assumption; exact rfl; (exact extA); intro w' hO hX' hU)
          | (show WL _ _ _ _ _ _ _; first | apply WL.nil | (refine WL.au (k := ?_)) | (apply WL.index tOk; exact rfl; exact rfl; exact rfl; exact rfl; exact rfl; exact rfl; exact rfl; exact rfl; assumption; (exact extA); exact rfl; omega; assumption; intro b off h; have hcc := h; first | (obtain ⟨h1, h2, h3, h4, h5, h6, _⟩ := h) | (obtain ⟨h1, h2, h3, _⟩ := h) | (obtain ⟨h1, h2, _⟩ := h) | (obtain ⟨h1, _⟩ := h)))
          | (show Z _ _ _ _ _; first | apply Z.then_normal | apply Z.block_normal)
          | (show W _ _ _ _ _ _; first | apply W.seq | apply W.region | apply W.block | apply W.skip)
          | fail)
        rw [Int.toNat_natCast, mnQ_set hu] at hO
        exact Z.againW ⟨by omega, hX', hK7.putM hU hO (by rw [mnQ_len, mnQ_len]), hU.own hO7 (.inr hneS')⟩ (by repeat' first | exact trivial | (refine And.intro ?_ ?_) | exact rfl)
      · obtain rfl : q = r.2.2.length := by omega
        rw [hrl, mnQ_all hlt2 hn] at hK7
        repeat' (first
          | (apply W.condKF; exact rfl; (focus (exact dec_false (by omega); done)))
          | (show WL _ _ _ _ _ _ _; first | apply WL.nil | (refine WL.au (k := ?_)))
          | (show Z _ _ _ _ _; first | apply Z.then_normal | apply Z.block_normal | apply Z.then_exit | apply Z.block_exit)
          | (show W _ _ _ _ _ _; first | apply W.seq | apply W.region | apply W.exit)
          | fail)
        exact Z.againW ⟨by omega, hX7, hK7, hO7⟩ (by repeat' first | exact trivial | (refine And.intro ?_ ?_) | exact rfl | (rw [ek1]; exact rfl))
  · obtain rfl : m = rs.length := by omega
    rw [stT_all] at hOs
    have hsl4 : (tab rs.length (stayK fs.length rs.length D rs.length)).length = rs.length := tab_len _ _
    repeat' (first
      | (apply W.condKF; exact rfl; (focus (exact dec_false (by omega); done)))
      | (show WL _ _ _ _ _ _ _; first | apply WL.nil | (refine WL.au (k := ?_)))
      | (show Z _ _ _ _ _; first | apply Z.then_normal | apply Z.then_exit | apply Z.block_exit)
      | (show W _ _ _ _ _ _; first | apply W.seq | apply W.region | apply W.block | apply W.exit)
      | fail)
    have hOs5 := hOs
    have hbR5 := hbR w5 hX5
    refine W.loopO rs.length (fun k a cp w' => k ≤ rs.length ∧ Ext w5 w' ∧ ∃ os : List (RowV Bool), OwnRR 1 encB 4 41 w5.heap.size w' a cp os ∧ os.map (·.2.2) = (keptR (stayK fs.length rs.length D rs.length) (none, 0, []) rs k).map (·.2.2))
      (fun k a cp => [(3, .slice rt rs.length ct), (19, .slice a (keptR (stayK fs.length rs.length D rs.length) (none, 0, []) rs k).length cp), (104, .slice (some ⟨gS, 0, none⟩) rs.length rs.length), (105, .int .i64 (rs.length : Nat)), (106, .int .i64 k)]) none 0 ⟨by omega, Ext.refl _, [], OwnRR.nil Own.nil, rfl⟩ (fun k a cp w' h => h.1) (by repeat' first | exact trivial | (refine And.intro ?_ ?_) | exact rfl) ?_
    rintro k a cp w6 ⟨hk6, hX6, os, hRR, hos⟩
    have hkl := keptR_len (stayK fs.length rs.length D rs.length) (none, 0, []) rs k
    have hol : os.length = (keptR (stayK fs.length rs.length D rs.length) (none, 0, []) rs k).length := by have := congrArg List.length hos; rwa [List.length_map, List.length_map] at this
    have hXw6 := hX5.trans hX6
    by_cases hlt : k < rs.length
    · obtain ⟨r, hr⟩ := getI rs hlt
      have Rt5 := Rt.ext hXw6
      have hOs6 := hOs5.ext hX6
      have hzk : (tab rs.length (stayK fs.length rs.length D rs.length))[k]? = some (stayK fs.length rs.length D rs.length k) := tab_get _ hlt
      cases hS : stayK fs.length rs.length D rs.length k with
      | false =>
        rw [hS] at hzk
        have e1 := keptR_no (z := ((none, 0, []) : BRow)) (rs := rs) hS
        repeat' (first
          | (apply W.condKT; exact rfl; (focus (first | exact dec_true (by omega); done)))
          | (apply WL.indexO tOk; exact rfl; exact rfl; exact rfl; exact rfl; exact rfl; exact rfl; exact rfl; exact rfl; assumption; (exact extA); exact encB_ok; (first | exact rfl | (focus (simp only [List.length_set]; done)) | (focus (simp; done)) | (focus (simp [*]; done)) | omega | (focus (simp only [List.length_set]; omega))); omega; assumption; intro gb ha hc; cases ha; have hcc := hc; first | (obtain ⟨h1, h2, h3, _⟩ := hc) | (obtain ⟨h1, h2, _⟩ := hc) | (obtain ⟨h1, _⟩ := hc))
          | (show WL _ _ _ _ _ _ _; first | apply WL.nil | (refine WL.au (k := ?_)))
          | (show Z _ _ _ _ _; first | apply Z.then_normal | apply Z.block_normal)
          | (show W _ _ _ _ _ _; first | apply W.seq | apply W.region | apply W.block | apply W.skip | (apply W.condF; exact rfl))
          | fail)
        exact Z.againO a cp ⟨by omega, hX6, os, hRR, by rw [e1]; exact hos⟩ (by repeat' first | exact trivial | (refine And.intro ?_ ?_) | exact rfl | (rw [e1]; exact rfl))
      | true =>
        rw [hS] at hzk
        have e1 := keptR_yes (z := ((none, 0, []) : BRow)) hr hS
        have hrm := List.mem_of_getElem? hr
        have hr1 := hRs r hrm
        repeat' (first
          | (apply W.condKT; exact rfl; (focus (first | exact dec_true (by omega); done)))
          | (apply WL.indexO tOk; exact rfl; exact rfl; exact rfl; exact rfl; exact rfl; exact rfl; exact rfl; exact rfl; assumption; (exact extA); exact encB_ok; (first | exact rfl | (focus (simp only [List.length_set]; done)) | (focus (simp; done)) | (focus (simp [*]; done)) | omega | (focus (simp only [List.length_set]; omega))); omega; assumption; intro gb ha hc; cases ha; have hcc := hc; first | (obtain ⟨h1, h2, h3, _⟩ := hc) | (obtain ⟨h1, h2, _⟩ := hc) | (obtain ⟨h1, _⟩ := hc))
          | ((show WL _ _ _ (⟨_, .call ⟨.value (.func 33), _, _⟩, _, _, _, _⟩ :: _) _ _ _); apply WL.call; exact rfl; exact rfl; exact rfl; exact rfl; exact slices_CloneB r.1 r.2.1 r.2.2 _ (hr1.1.ext (by (exact extA))) (hnr r hrm) (hbs r hrm); rintro v' w' ⟨hx, a', cap', rfl, hO⟩)
          | (show WL _ _ _ _ _ _ _; first | apply WL.nil | (refine WL.au (k := ?_)) | (apply WL.index tOk; exact rfl; exact rfl; exact rfl; exact rfl; exact rfl; exact rfl; exact rfl; exact rfl; assumption; (exact extA); exact rfl; omega; assumption; intro b off h; have hcc := h; first | (obtain ⟨h1, h2, h3, h4, h5, h6, _⟩ := h) | (obtain ⟨h1, h2, h3, _⟩ := h) | (obtain ⟨h1, h2, _⟩ := h) | (obtain ⟨h1, _⟩ := h)))
          | (show Z _ _ _ _ _; apply Z.then_normal)
          | (show W _ _ _ _ _ _; first | apply W.seq | apply W.region | apply W.block | apply W.skip | (apply W.condT; exact rfl))
          | fail)
        obtain ⟨b3, rfl⟩ : ∃ x, x = a' := ⟨_, rfl⟩; obtain ⟨d3, rfl⟩ : ∃ x, x = cap' := ⟨_, rfl⟩; obtain ⟨hOc, rfl⟩ : ∃ x, x = hO := ⟨_, rfl⟩; obtain ⟨w8, rfl⟩ : ∃ x, x = w' := ⟨_, rfl⟩; obtain ⟨hx8, rfl⟩ : ∃ x, x = hx := ⟨_, rfl⟩
        have hR1 := RR1.new hRR hx8 hOc (Below.size hX6)
        have hRo := hR1.rr.outer
        repeat' (first
          | (apply WL.lit tOk; exact rfl; exact rfl; exact rfl; exact rfl; exact rfl; exact rfl; (first | exact rfl | kernel_rfl | (simp [Instr.fill, catCells]; done)); exact rfl; intro gb w' hb hge hc hx; (obtain ⟨w9, rfl⟩ : ∃ x, x = w' := ⟨_, rfl⟩; obtain ⟨hx9, rfl⟩ : ∃ x, x = hx := ⟨_, rfl⟩))
          | (apply WL.append1 (z := (((b3, d3, r.2.2) : RowV Bool))) tOk encRow_ok; exact rfl; exact rfl; exact rfl; exact rfl; exact rfl; exact rfl; exact rfl; exact rfl; exact rfl; exact rfl; assumption; (exact extA); (first | exact rfl | (focus (simp only [List.length_set]; done)) | (focus (simp; done)) | (focus (simp [*]; done)) | omega | (focus (simp only [List.length_set]; omega))); (first | assumption | (refine Cells.ext ?_ (by assumption); exact extA)); exact rfl; exact rfl; (exact extA); (first | omega | (simp; omega) | (simp at *; omega)); intro a' cap' w' hO hX' hU hF)
          | (show WL _ _ _ _ _ _ _; first | apply WL.nil | (refine WL.au (k := ?_)))
          | (show Z _ _ _ _ _; first | apply Z.then_normal | apply Z.block_normal)
          | (show W _ _ _ _ _ _; apply W.region)
          | fail)
        have hR2 := (hR1.ext hx9).push hU hO hF
        refine Z.againO a' cap' ⟨by omega, hX', _, hR2, by rw [e1, List.map_append, hos, List.map_append]; rfl⟩ ?_
        have e2 : (os ++ [((b3, d3, r.2.2) : RowV Bool)]).length = (keptR (stayK fs.length rs.length D rs.length) (none, 0, []) rs (k + 1)).length := by rw [e1, List.length_append, hol, List.length_append]; rfl
        exact (by repeat' first | exact trivial | (refine And.intro ?_ ?_) | exact rfl | (rw [e2]; exact rfl))
    · obtain rfl : k = rs.length := by omega
      repeat' (first
        | (apply W.condKF; exact rfl; (focus (exact dec_false (by omega); done)))
        | (show WL _ _ _ _ _ _ _; first | apply WL.nil | (refine WL.au (k := ?_)))
        | (show Z _ _ _ _ _; first | apply Z.then_normal | apply Z.then_exit | apply Z.block_exit)
        | (show W _ _ _ _ _ _; first | apply W.seq | apply W.region | apply W.ret | apply W.exit)
        | fail)
      refine Z.body1 Tryd.results17 rfl fun m => ⟨Ext.at hXw6 m, a, cp, os, by rw [hol], (hRR.at m).outer.row encRow_ok, (hRR.at m).outer.capLe, (hRR.at m).outer.noneCap, fun r hr => ?_, hos⟩
      obtain ⟨i, hi⟩ := List.mem_iff_getElem?.1 hr
      exact ⟨(hRR.at m).row encB_ok hi, ((hRR.at m).inner i r hi).capLe⟩
end Go.Proofs.YtlcenenkloicjaaDoor
namespace Go.Proofs.YtlcenenkloicjaaDoor
open Go Go.Lt Go.RowKit
set_option linter.unusedVariables false
set_option linter.unusedSimpArgs false
set_option maxRecDepth 20000

theorem ne_newK {a a' : Option Addr} {g m : Nat} (h : blk a ≠ some g) (hF : blk a' = blk a ∨ ∃ k, blk a' = some k ∧ m ≤ k) (hg : g < m) : blk a' ≠ some g := by
  rcases hF with hF | ⟨k, hF, hk⟩
  · rw [hF]; exact h
  · rw [hF]; intro he; cases he; omega
theorem fi_iff {n : List (Int × Int)} {outs : List Int} {rs : List BRow} {f : F3} : 0 ≤ fiF n outs rs f ↔ ∃ b ∈ rs.map (·.2.2), detP n outs f.1 f.2.1 f.2.2 b := by
  have h := fstF_any (dB n outs f.1 f.2.1 f.2.2) rs
  have e : (0 ≤ fiF n outs rs f) ↔ rs.any (dB n outs f.1 f.2.1 f.2.2) = true := by rw [← h]; exact dec_iff.symm
  rw [e, List.any_eq_true]
  constructor
  · rintro ⟨r, hr, hd⟩; exact ⟨_, List.mem_map.2 ⟨r, hr, rfl⟩, of_dec hd⟩
  · rintro ⟨b, hb, hd⟩
    obtain ⟨r, hr, rfl⟩ := List.mem_map.1 hb
    exact ⟨r, hr, dec_true hd⟩
theorem fi_neg {n : List (Int × Int)} {outs : List Int} {rs : List BRow} {f : F3} (h : ¬ 0 ≤ fiF n outs rs f) : fiF n outs rs f < 0 := by omega
theorem keptR_vals (S : Nat → Bool) (z : BRow) (rs : List BRow) (m : Nat) : (keptR S z rs m).map (·.2.2) = ((List.range m).filter S).map fun j => (rs.getD j z).2.2 := by
  unfold keptR; rw [List.map_map]; rfl
abbrev zB : BRow := (none, 0, [])
noncomputable def DK (n : List (Int × Int)) (outs : List Int) (fs : List F3) (rs : List BRow) (i k : Nat) : Bool := dB n outs (fs.getD i (0, 0, false)).1 (fs.getD i (0, 0, false)).2.1 (fs.getD i (0, 0, false)).2.2 (rs.getD k zB)
noncomputable def stK (n : List (Int × Int)) (outs : List Int) (fs : List F3) (rs : List BRow) : List Nat := (List.range rs.length).filter (stayK fs.length rs.length (DK n outs fs rs) rs.length)
section
variable {n : List (Int × Int)} {outs : List Int} {fs : List F3} {rs ks : List BRow}
theorem DK_iff {i k : Nat} {f : F3} (hf : fs[i]? = some f) : DK n outs fs rs i k = true ↔ detP n outs f.1 f.2.1 f.2.2 (rs.getD k zB).2.2 := by
  unfold DK; rw [getD_of hf]; exact dec_iff
theorem kept_shows (hks : ks.map (·.2.2) = (stK n outs fs rs).map fun j => (rs.getD j zB).2.2) {i : Nat} {f : F3} (hf : fs[i]? = some f) : 0 ≤ fiF n outs rs f ↔ 0 ≤ fiF n outs ks f := by
  rw [fi_iff, fi_iff, hks]
  constructor
  · rintro ⟨b, hb, hd⟩
    obtain ⟨r, hr, rfl⟩ := List.mem_map.1 hb
    obtain ⟨k, hk⟩ := List.mem_iff_getElem?.1 hr
    obtain ⟨q, hq, hs, hD⟩ := stayK_shows (m := rs.length) (lt_of_get hf) (Nat.le_refl _) ⟨k, lt_of_get hk, (DK_iff (n := n) (outs := outs) (rs := rs) hf).2 (by rw [getD_of hk]; exact hd)⟩
    exact ⟨_, List.mem_map.2 ⟨q, List.mem_filter.2 ⟨List.mem_range.2 hq, hs⟩, rfl⟩, (DK_iff hf).1 hD⟩
  · rintro ⟨b, hb, hd⟩
    obtain ⟨j, hj, rfl⟩ := List.mem_map.1 hb
    have hlt := List.mem_range.1 (List.mem_filter.1 hj).1
    obtain ⟨r, hr⟩ := getI rs hlt
    rw [getD_of hr] at hd
    exact ⟨_, List.mem_map.2 ⟨r, List.mem_of_getElem? hr, rfl⟩, hd⟩
theorem kept_needed (hks : ks.map (·.2.2) = (stK n outs fs rs).map fun j => (rs.getD j zB).2.2) {k : Nat} (hk : k < ks.length) : ∃ (i : Nat) (f : F3), fs[i]? = some f ∧ 0 ≤ fiF n outs ks f ∧ fiF n outs (ks.take k ++ ks.drop (k + 1)) f < 0 := by
  have hl : ks.length = (stK n outs fs rs).length := by have := congrArg List.length hks; rwa [List.length_map, List.length_map] at this
  obtain ⟨j, hj⟩ := getI (stK n outs fs rs) (by omega : k < _)
  have hjm := List.mem_filter.1 (List.mem_of_getElem? hj)
  have hjl := List.mem_range.1 hjm.1
  obtain ⟨i, hi, hd, hall⟩ := stayK_needed hjl hjm.2
  obtain ⟨f, hf⟩ := getI fs hi
  have val : ∀ q, q < ks.length → ∃ (r : BRow) (u : Nat), ks[q]? = some r ∧ (stK n outs fs rs)[q]? = some u ∧ r.2.2 = (rs.getD u zB).2.2 := fun q hq => by
    obtain ⟨r, hr⟩ := getI ks hq
    obtain ⟨u, hu⟩ := getI (stK n outs fs rs) (by omega : q < _)
    have := congrArg (fun l => l[q]?) hks
    simp only [List.getElem?_map, hr, hu, Option.map_some, Option.some.injEq] at this
    exact ⟨r, u, hr, hu, this⟩
  have hnd : (stK n outs fs rs).Nodup := List.Pairwise.filter _ List.nodup_range
  have other : ∀ (q : Nat) (r : BRow), q ≠ k → ks[q]? = some r → ¬ detP n outs f.1 f.2.1 f.2.2 r.2.2 := fun q r hq hr hdt => by
    obtain ⟨r', u, hr', hu, he⟩ := val q (lt_of_get hr)
    rw [hr] at hr'; obtain rfl := Option.some.inj hr'
    have hum := List.mem_filter.1 (List.mem_of_getElem? hu)
    have hne : u ≠ j := fun e => by
      subst e
      have h1 := (List.getElem?_eq_some_iff.1 hu); have h2 := (List.getElem?_eq_some_iff.1 hj)
      exact hq ((List.getElem_inj (h₀ := h1.1) (h₁ := h2.1) hnd).1 (by rw [h1.2, h2.2]))
    have := hall u (List.mem_range.1 hum.1) hne hum.2
    rw [he] at hdt
    rw [(DK_iff hf).2 hdt] at this; cases this
  refine ⟨i, f, hf, ?_, fi_neg fun h => ?_⟩
  · rw [fi_iff]
    obtain ⟨r, u, hr, hu, he⟩ := val k hk
    rw [hj] at hu; obtain rfl := Option.some.inj hu
    exact ⟨_, List.mem_map.2 ⟨r, List.mem_of_getElem? hr, rfl⟩, by rw [he]; exact (DK_iff hf).1 hd⟩
  · rw [fi_iff] at h
    obtain ⟨b, hb, hdt⟩ := h
    obtain ⟨r, hr, rfl⟩ := List.mem_map.1 hb
    rcases List.mem_append.1 hr with hr | hr
    · obtain ⟨q, hq⟩ := List.mem_iff_getElem?.1 hr
      have hqk : q < k := by have := lt_of_get hq; rw [List.length_take] at this; omega
      rw [List.getElem?_take, if_pos hqk] at hq
      exact other q r (by omega) hq hdt
    · obtain ⟨q, hq⟩ := List.mem_iff_getElem?.1 hr
      rw [List.getElem?_drop] at hq
      exact other _ r (by omega) hq hdt
end
end Go.Proofs.YtlcenenkloicjaaDoor
namespace Go.Proofs.YtlcenenkloicjaaDoor
open Go Go.Lt Go.RowKit
set_option linter.unusedVariables false
set_option linter.unusedSimpArgs false
set_option maxRecDepth 20000

section
variable (nf nt : Nat) (D : Nat → Nat → Bool)
noncomputable def stR (m : Nat) : List Bool := tab nt (stayK nf nt D m)
/-- Of the first j tests none other than k that S has shows fault i. -/
def okS (S : Nat → Bool) (k i j : Nat) : Prop := D i k = true ∧ ∀ q, q < j → q = k ∨ S q = false ∨ D i q = false
def exS (S : Nat → Bool) (k i : Nat) : Prop := ∃ u, u < i ∧ okS D S k u nt
end
section
variable {nf nt : Nat} {D : Nat → Nat → Bool} {S : Nat → Bool} {k i j : Nat}
theorem stR_len (m : Nat) : (stR nf nt D m).length = nt := tab_len _ _
theorem stR_get {m u : Nat} (h : u < nt) : (stR nf nt D m)[u]? = some (stayK nf nt D m u) := by unfold stR; rw [tab_get _ h]
theorem stR_set {m : Nat} (h : m < nt) : (stR nf nt D m).set (nt - 1 - m) (dec (exS nt D (stayK nf nt D m) (nt - 1 - m) nf)) = stR nf nt D (m + 1) := by
  refine tab_set fun u hu => ?_
  rw [stayK_succ]
  by_cases h1 : u = nt - 1 - m
  · rw [if_pos h1, if_pos h1]; rfl
  · rw [if_neg h1, if_neg h1]
theorem okS_zero : dec (okS D S k i 0) = D i k := by
  cases h : D i k with
  | true => exact dec_true ⟨h, fun q hq => by omega⟩
  | false => exact dec_false fun hh => by rw [hh.1] at h; cases h
theorem okS_succ (h : okS D S k i j) : okS D S k i (j + 1) ↔ (j = k ∨ S j = false ∨ D i j = false) :=
  ⟨fun hh => hh.2 j (by omega), fun hh => ⟨h.1, fun q hq => by
    by_cases e : q = j
    · subst e; exact hh
    · exact h.2 q (by omega)⟩⟩
theorem okS_no (h : ¬ okS D S k i j) (hj : j ≤ nt) : ¬ okS D S k i nt := fun hh => h ⟨hh.1, fun q hq => hh.2 q (by omega)⟩
theorem exS_zero : ¬ exS nt D S k 0 := fun ⟨u, hu, _⟩ => by omega
theorem exS_succ (h : ¬ exS nt D S k i) : exS nt D S k (i + 1) ↔ okS D S k i nt :=
  ⟨fun ⟨u, hu, ho⟩ => by
    by_cases e : u = i
    · subst e; exact ho
    · exact absurd ⟨u, by omega, ho⟩ h, fun ho => ⟨i, by omega, ho⟩⟩
theorem exS_mono (h : exS nt D S k i) (hij : i ≤ j) : exS nt D S k j := by obtain ⟨u, hu, ho⟩ := h; exact ⟨u, by omega, ho⟩
theorem all_true : List.replicate nt false = tab nt (fun u => decide (u < 0)) := by rw [tab_rep]; exact tab_congr fun u hu => by simp
theorem fill_set {m : Nat} (h : m < nt) : (tab nt (fun u => decide (u < m))).set m true = tab nt (fun u => decide (u < m + 1)) := by
  refine tab_set fun u hu => ?_
  by_cases e : u = m
  · rw [if_pos e]; simp [e]
  · rw [if_neg e]
    by_cases h1 : u < m
    · simp [h1]; omega
    · simp [h1]; omega
theorem fill_all : tab nt (fun u => decide (u < nt)) = stR nf nt D 0 := tab_congr fun u hu => by simp [hu, stayK]
end
set_option maxHeartbeats 8000000 in
theorem ref45_Keep (ra rb rf rt : Option Addr) (cap cb cf ct : Nat) (n : List (Int × Int)) (outs : List Int) (fs : List F3) (rs : List BRow) (w : World) (R : Row 2 encN w ra n) (Rb : Row 1 encI w rb outs) (Rf : Row 3 encF3 w rf fs) (Rt : Row 1 encR w rt rs) (hRs : RowsIn w rs) (hnt : rs.length ≤ 1048576) (hnf : fs.length ≤ 1048576) (hg : GoodNet n) (hn : n.length ≤ 1048576) (ho : outs.length ≤ 1048576) (hv : ∀ f ∈ fs, inI64 f.1) (hk : ∀ l ∈ outs, 0 ≤ l ∧ l ≤ 2 * (n.length : Int) + 1)
    (D : Nat → Nat → Bool) (hD : D = DK n outs fs rs) :
    Lt.Spec Tryd.prog 18 [.slice ra n.length cap, .slice rb outs.length cb, .slice rf fs.length cf, .slice rt rs.length ct] w (IsFresh 1 encR 41 w (keptR (stayK fs.length rs.length D rs.length) zB rs rs.length)) := by
  have hbR : ∀ w9, Ext w w9 → RowsIn w9 rs := fun w9 h9 r hr => ⟨(hRs r hr).1.ext h9, (hRs r hr).2⟩
  have det : ∀ (w9 : World), Ext w w9 → ∀ (i k : Nat) (f : F3) (r : BRow), fs[i]? = some f → rs[k]? = some r → Pure Tryd.prog 30 [.slice ra n.length cap, .slice rb outs.length cb, fv f.1 f.2.1 f.2.2, .slice r.1 r.2.2.length r.2.1] w9 (.bool (D i k)) := fun w9 h9 i k f r hf hr => by
    have e : D i k = dec (detP n outs f.1 f.2.1 f.2.2 r.2.2) := by rw [hD]; unfold DK; rw [getD_of hf, getD_of hr]; rfl
    rw [e]
    exact ref45_Detects _ _ _ _ _ _ n outs f.1 f.2.1 f.2.2 r.2.2 _ (R.ext h9) (Rb.ext h9) ((hRs r (List.mem_of_getElem? hr)).1.ext h9) hg hn ho (hv f (List.mem_of_getElem? hf)) hk
  have et : ((rs.length : Nat) : Int).toNat = rs.length := Int.toNat_natCast _
  have esl : (List.replicate rs.length false).length = rs.length := List.length_replicate
  have e00 : (rs.length : Int) - 1 - ((0 : Nat) : Int) = (rs.length : Int) - 1 := by omega
  refine Spec.of _ Tryd.func18 rfl Tryd.ntmps18 (by kernel_rfl) rfl ?_
  repeat' (first
    | (apply WL.make (w0 := w) tOk; exact rfl; exact rfl; exact rfl; exact rfl; exact rfl; exact rfl; exact rfl; exact rfl; exact rfl; exact encB_ok; exact rfl; exact rfl; (exact extA); (first | omega | (simp; omega) | (simp at *; omega)); intro gb w' hO hge hx)
    | (show WL _ _ _ _ _ _ _; first | apply WL.nil | (refine WL.au (k := ?_)))
    | (show Z _ _ _ _ _; apply Z.then_normal)
    | (show W _ _ _ _ _ _; first | apply W.seq | apply W.region | apply W.block)
    | fail)
  rw [et] at hO ⊢
  rw [all_true] at hO
  obtain ⟨g9, rfl⟩ : ∃ x, x = gb := ⟨_, rfl⟩
  refine W.loopW rs.length (fun m w' => m ≤ rs.length ∧ Ext w w' ∧ Own 1 encB 4 w.heap.size w' (some ⟨g9, 0, none⟩) rs.length (tab rs.length (fun u => decide (u < m))))
    (fun m => [(0, .slice ra n.length cap), (1, .slice rb outs.length cb), (2, .slice rf fs.length cf), (3, .slice rt rs.length ct), (9, .slice (some ⟨g9, 0, none⟩) rs.length rs.length), (10, .int .i64 m)]) ⟨by omega, hx, hO⟩ (fun k w' h => h.1) (by repeat' first | exact trivial | (refine And.intro ?_ ?_) | exact rfl | (rw [esl]; exact rfl)) ?_
  clear hO hx
  rintro m w1 ⟨hm, hX1, hO1⟩
  have htl : (tab rs.length (fun u => decide (u < m))).length = rs.length := tab_len _ _
  by_cases hlt : m < rs.length
  · have hz : (tab rs.length (fun u => decide (u < m)))[m]? = some false := by rw [tab_get _ hlt]; simp
    repeat' (first
      | (apply W.condKT; exact rfl; (focus (first | exact dec_true (by omega); done)))
      | (apply WL.indexO tOk; exact rfl; exact rfl; exact rfl; exact rfl; exact rfl; exact rfl; exact rfl; exact rfl; assumption; (exact extA); exact encB_ok; (first | exact rfl | (focus (simp only [List.length_set]; done)) | (focus (simp; done)) | (focus (simp [*]; done)) | omega | (focus (simp only [List.length_set]; omega))); omega; assumption; intro gb ha hc; cases ha; have hcc := hc; first | (obtain ⟨h1, h2, h3, _⟩ := hc) | (obtain ⟨h1, h2, _⟩ := hc) | (obtain ⟨h1, _⟩ := hc))
      | (apply WL.storeO tOk; exact rfl; exact rfl; exact rfl; exact rfl; assumption; (exact extA); exact rfl; exact rfl; exact rfl; exact encB_ok; assumption; exact rfl; (exact extA); intro w' hO hX' hU)
      | (show WL _ _ _ _ _ _ _; first | apply WL.nil | (refine WL.au (k := ?_)))
      | (show Z _ _ _ _ _; first | apply Z.then_normal | apply Z.block_normal)
      | (show W _ _ _ _ _ _; first | apply W.seq | apply W.region | apply W.block | apply W.skip)
      | fail)
    rw [Int.toNat_natCast, fill_set hlt] at hO
    exact Z.againW ⟨by omega, hX', hO⟩ ⟨rfl, rfl, rfl, rfl, rfl, rfl, trivial⟩
  obtain rfl : m = rs.length := by omega
  rw [fill_all (nf := fs.length) (D := D)] at hO1
  repeat' (first
    | (apply W.condKF; exact rfl; (focus (first | exact dec_false (by omega); done)))
    | (show WL _ _ _ _ _ _ _; first | apply WL.nil | (refine WL.au (k := ?_)))
    | (show Z _ _ _ _ _; first | apply Z.then_normal | apply Z.then_exit | apply Z.block_exit)
    | (show W _ _ _ _ _ _; first | apply W.seq | apply W.region | apply W.block | apply W.exit)
    | fail)
  refine W.loopW rs.length (fun m w' => m ≤ rs.length ∧ Ext w w' ∧ Own 1 encB 4 w.heap.size w' (some ⟨g9, 0, none⟩) rs.length (stR fs.length rs.length D m))
    (fun m => [(0, .slice ra n.length cap), (1, .slice rb outs.length cb), (2, .slice rf fs.length cf), (3, .slice rt rs.length ct), (9, .slice (some ⟨g9, 0, none⟩) rs.length rs.length), (11, .int .i64 ((rs.length : Int) - 1 - (m : Int)))]) ⟨by omega, hX1, hO1⟩ (fun k w' h => h.1) (by repeat' first | exact trivial | (refine And.intro ?_ ?_) | exact rfl | (rw [e00]; exact rfl)) ?_
  clear hO1 htl hlt
  rintro m w2 ⟨hm, hX2, hO2⟩
  have htl := stR_len (nf := fs.length) (nt := rs.length) (D := D) m
  by_cases hlt : m < rs.length
  · obtain ⟨k, hk0⟩ : ∃ k, k = rs.length - 1 - m := ⟨_, rfl⟩
    have hkl : k < rs.length := by omega
    have ek0 : ((rs.length : Int) - 1 - (m : Int)) = (k : Int) := by omega
    have ek1 : (rs.length : Int) - 1 - ((m + 1 : Nat) : Int) = (rs.length : Int) - 1 - (m : Int) - 1 := by omega
    obtain ⟨rk, hrk⟩ := getI rs hkl
    have hrk' : rs[((rs.length : Int) - 1 - (m : Int)).toNat]? = some rk := by rw [ek0]; exact hrk
    obtain ⟨S, hS0⟩ : ∃ S, S = stayK fs.length rs.length D m := ⟨_, rfl⟩
    repeat' (first
      | (apply W.condKT; exact rfl; (focus (first | exact dec_true (by omega); done)))
      | (show WL _ _ _ _ _ _ _; first | apply WL.nil | (refine WL.au (k := ?_)))
      | (show Z _ _ _ _ _; apply Z.then_normal)
      | (show W _ _ _ _ _ _; first | apply W.seq | apply W.region | apply W.block | apply W.skip)
      | fail)
    have ez : dec (exS rs.length D S k 0) = false := dec_false exS_zero
    have hsv : ∀ (b : Bool), b = dec (exS rs.length D S k fs.length) → (stR fs.length rs.length D m).set ((rs.length : Int) - 1 - (m : Int)).toNat b = stR fs.length rs.length D (m + 1) := fun b hb => by rw [hb, ek0, Int.toNat_natCast, hk0, hS0]; exact stR_set hlt
    have hz9 : (stR fs.length rs.length D m)[((rs.length : Int) - 1 - (m : Int)).toNat]? = some (S k) := by rw [ek0, Int.toNat_natCast, hS0]; exact stR_get hkl
    refine W.loopW fs.length (fun i w' => i ≤ fs.length ∧ Ext w w' ∧ Own 1 encB 4 w.heap.size w' (some ⟨g9, 0, none⟩) rs.length (stR fs.length rs.length D m))
      (fun i => [(0, .slice ra n.length cap), (1, .slice rb outs.length cb), (2, .slice rf fs.length cf), (3, .slice rt rs.length ct), (9, .slice (some ⟨g9, 0, none⟩) rs.length rs.length), (11, .int .i64 ((rs.length : Int) - 1 - (m : Int))), (12, .bool (dec (exS rs.length D S k i))), (13, .int .i64 i)]) ⟨by omega, hX2, hO2⟩ (fun k w' h => h.1) (by repeat' first | exact trivial | (refine And.intro ?_ ?_) | exact rfl | (rw [ez]; exact rfl)) ?_
    clear hO2
    rintro i w3 ⟨hi, hX3, hO3⟩
    by_cases hex : exS rs.length D S k i
    · rw [dec_true hex]
      have h9 := hsv true (dec_true (exS_mono hex hi)).symm
      repeat' (first
        | (apply WL.indexO tOk; exact rfl; exact rfl; exact rfl; exact rfl; exact rfl; exact rfl; exact rfl; exact rfl; assumption; (exact extA); exact encB_ok; (first | exact rfl | (focus (simp only [List.length_set]; done)) | (focus (simp; done)) | (focus (simp [*]; done)) | omega | (focus (simp only [List.length_set]; omega))); omega; assumption; intro gb ha hc; cases ha; have hcc := hc; first | (obtain ⟨h1, h2, h3, _⟩ := hc) | (obtain ⟨h1, h2, _⟩ := hc) | (obtain ⟨h1, _⟩ := hc))
        | (apply WL.storeO tOk; exact rfl; exact rfl; exact rfl; exact rfl; assumption; (exact extA); exact rfl; exact rfl; exact rfl; exact encB_ok; assumption; exact rfl; (exact extA); intro w' hO hX' hU)
        | (show WL _ _ _ _ _ _ _; first | apply WL.nil | (refine WL.au (k := ?_)) | (apply WL.guardF; exact rfl; exact rfl) | (apply WL.gD; exact rfl; exact rfl; all_goals intro _))
        | (show Z _ _ _ _ _; first | apply Z.then_normal | apply Z.block_normal | apply Z.then_exit | apply Z.block_exit)
        | (show W _ _ _ _ _ _; first | apply W.seq | apply W.region | apply W.exit | (apply W.condF; exact rfl))
        | fail)
      all_goals
        rw [h9] at hO
        exact Z.againW ⟨by omega, hX', hO⟩ (by repeat' first | exact trivial | (refine And.intro ?_ ?_) | exact rfl | (rw [ek1]; exact rfl))
    rw [dec_false hex]
    by_cases hil : i < fs.length
    rotate_left
    · obtain rfl : i = fs.length := by omega
      have h9 := hsv false (dec_false hex).symm
      repeat' (first
        | (apply WL.gF; exact rfl; exact rfl; (focus (exact dec_false (by omega); done)))
        | (apply WL.indexO tOk; exact rfl; exact rfl; exact rfl; exact rfl; exact rfl; exact rfl; exact rfl; exact rfl; assumption; (exact extA); exact encB_ok; (first | exact rfl | (focus (simp only [List.length_set]; done)) | (focus (simp; done)) | (focus (simp [*]; done)) | omega | (focus (simp only [List.length_set]; omega))); omega; assumption; intro gb ha hc; cases ha; have hcc := hc; first | (obtain ⟨h1, h2, h3, _⟩ := hc) | (obtain ⟨h1, h2, _⟩ := hc) | (obtain ⟨h1, _⟩ := hc))
        | (apply WL.storeO tOk; exact rfl; exact rfl; exact rfl; exact rfl; assumption; (exact extA); exact rfl; exact rfl; exact rfl; exact encB_ok; assumption; exact rfl; (exact extA); intro w' hO hX' hU)
        | (show WL _ _ _ _ _ _ _; first | apply WL.nil | (refine WL.au (k := ?_)) | (apply WL.guardF; exact rfl; exact rfl))
        | (show Z _ _ _ _ _; first | apply Z.then_normal | apply Z.block_normal | apply Z.then_exit | apply Z.block_exit)
        | (show W _ _ _ _ _ _; first | apply W.seq | apply W.region | apply W.exit | (apply W.condF; exact rfl))
        | fail)
      rw [h9] at hO
      exact Z.againW ⟨by omega, hX', hO⟩ (by repeat' first | exact trivial | (refine And.intro ?_ ?_) | exact rfl | (rw [ek1]; exact rfl))
    obtain ⟨f, hf⟩ := getI fs hil
    have Rf3 := Rf.ext hX3
    have Rt3 := Rt.ext hX3
    have hd1 : ∀ w9, Ext w3 w9 → Pure Tryd.prog 30 [.slice ra n.length cap, .slice rb outs.length cb, fv f.1 f.2.1 f.2.2, .slice rk.1 rk.2.2.length rk.2.1] w9 (.bool (D i k)) := fun w9 h9 => det w9 (hX3.trans h9) i k f rk hf hrk
    repeat' (first
      | (apply WL.gT; exact rfl; exact rfl; (focus (first | exact dec_true (by omega); done)))
      | (apply QL.callP; exact rfl; exact rfl; exact rfl; exact rfl; exact hd1)
      | (show WL _ _ _ _ _ _ _; first | apply WL.nil | (refine WL.au (k := ?_)))
      | (show QL _ _ _ _ _ _ _; first | (apply QL.nilX; intro w' hx) | (refine QL.au (k := ?_)) | (apply QL.index tOk; exact rfl; exact rfl; exact rfl; exact rfl; exact rfl; exact rfl; exact rfl; exact rfl; assumption; (exact extA); exact rfl; omega; assumption; intro b off h; have hcc := h; first | (obtain ⟨h1, h2, h3, h4, h5, h6, _⟩ := h) | (obtain ⟨h1, h2, h3, _⟩ := h) | (obtain ⟨h1, h2, _⟩ := h) | (obtain ⟨h1, _⟩ := h)))
      | (show Z _ _ _ _ _; apply Z.then_normal)
      | (show W _ _ _ _ _ _; first | apply W.seq | apply W.region | apply W.block | apply W.skip | (apply W.condT; exact rfl) | (apply W.regionX tMix; kernel_rfl))
      | fail)
    have hX4 : Ext w w' := hX3.trans (by (exact extA))
    have hO4 : Own 1 encB 4 w.heap.size w' (some ⟨g9, 0, none⟩) rs.length (stR fs.length rs.length D m) := hO3.ext (by (exact extA))
    have ez2 : dec (okS D S k i 0) = D i k := okS_zero
    refine W.loopW rs.length (fun j w' => j ≤ rs.length ∧ Ext w w' ∧ Own 1 encB 4 w.heap.size w' (some ⟨g9, 0, none⟩) rs.length (stR fs.length rs.length D m))
      (fun j => [(0, .slice ra n.length cap), (1, .slice rb outs.length cb), (2, .slice rf fs.length cf), (3, .slice rt rs.length ct), (9, .slice (some ⟨g9, 0, none⟩) rs.length rs.length), (11, .int .i64 ((rs.length : Int) - 1 - (m : Int))), (12, .bool (dec (okS D S k i j))), (13, .int .i64 i), (14, .int .i64 j)]) ⟨by omega, hX4, hO4⟩ (fun k w' h => h.1) (by repeat' first | exact trivial | (refine And.intro ?_ ?_) | exact rfl | (rw [ez2]; exact rfl)) ?_
    clear hO3 hO4 hd1 Rf3 Rt3
    rintro j w5 ⟨hj, hX5, hO5⟩
    by_cases hok : okS D S k i j
    rotate_left
    · rw [dec_false hok]
      have e9 : dec (exS rs.length D S k (i + 1)) = false := dec_false fun h => okS_no hok hj ((exS_succ hex).1 h)
      repeat' (first
        | (show WL _ _ _ _ _ _ _; first | apply WL.nil | (refine WL.au (k := ?_)) | (apply WL.guardF; exact rfl; exact rfl) | (apply WL.gD; exact rfl; exact rfl; all_goals intro _))
        | (show Z _ _ _ _ _; first | apply Z.then_normal | apply Z.block_normal | apply Z.then_exit | apply Z.block_exit)
        | (show W _ _ _ _ _ _; first | apply W.seq | apply W.region | apply W.exit | (apply W.condF; exact rfl))
        | fail)
      all_goals exact Z.againW ⟨by omega, hX5, hO5⟩ (by repeat' first | exact trivial | (refine And.intro ?_ ?_) | exact rfl | (rw [e9]; exact rfl))
    rw [dec_true hok]
    by_cases hjl : j < rs.length
    rotate_left
    · obtain rfl : j = rs.length := by omega
      have e9 : dec (exS rs.length D S k (i + 1)) = true := dec_true ((exS_succ hex).2 hok)
      repeat' (first
        | (apply WL.gF; exact rfl; exact rfl; (focus (exact dec_false (by omega); done)))
        | (show WL _ _ _ _ _ _ _; first | apply WL.nil | (refine WL.au (k := ?_)) | (apply WL.guardF; exact rfl; exact rfl))
        | (show Z _ _ _ _ _; first | apply Z.then_normal | apply Z.block_normal | apply Z.then_exit | apply Z.block_exit)
        | (show W _ _ _ _ _ _; first | apply W.seq | apply W.region | apply W.exit | (apply W.condF; exact rfl))
        | fail)
      exact Z.againW ⟨by omega, hX5, hO5⟩ (by repeat' first | exact trivial | (refine And.intro ?_ ?_) | exact rfl | (rw [e9]; exact rfl))
    obtain ⟨rj, hrj⟩ := getI rs hjl
    have Rf3 := Rf.ext hX5
    have Rt3 := Rt.ext hX5
    have hd1 : ∀ w9, Ext w5 w9 → Pure Tryd.prog 30 [.slice ra n.length cap, .slice rb outs.length cb, fv f.1 f.2.1 f.2.2, .slice rj.1 rj.2.2.length rj.2.1] w9 (.bool (D i j)) := fun w9 h9 => det w9 (hX5.trans h9) i j f rj hf hrj
    have hzj : (stR fs.length rs.length D m)[j]? = some (S j) := by rw [hS0]; exact stR_get hjl
    have hos := okS_succ hok
    by_cases hjk : j = k
    · have e9 : dec (okS D S k i (j + 1)) = true := dec_true (hos.2 (.inl hjk))
      repeat' (first
        | (apply WL.gT; exact rfl; exact rfl; (focus (first | exact dec_true (by omega); done)))
        | (apply QL.gT; exact rfl; exact rfl; (focus (first | exact dec_true (by omega); done)))
        | (show WL _ _ _ _ _ _ _; first | apply WL.nil | (refine WL.au (k := ?_)))
        | (show QL _ _ _ _ _ _ _; first | (apply QL.nilX; intro w' hx) | (refine QL.au (k := ?_)) | (apply QL.guardF; exact rfl; exact rfl))
        | (show Z _ _ _ _ _; first | apply Z.then_normal | apply Z.block_normal)
        | (show W _ _ _ _ _ _; first | apply W.seq | apply W.region | apply W.block | apply W.skip | (apply W.condT; exact rfl) | (apply W.regionX tMix; kernel_rfl))
        | fail)
      exact Z.againW ⟨by omega, hX5.trans (by (exact extA)), hO5.ext (by (exact extA))⟩ (by repeat' first | exact trivial | (refine And.intro ?_ ?_) | exact rfl | (rw [e9]; exact rfl))
    cases hSj : S j with
    | false =>
      rw [hSj] at hzj
      have e9 : dec (okS D S k i (j + 1)) = true := dec_true (hos.2 (.inr (.inl hSj)))
      repeat' (first
        | (apply WL.gT; exact rfl; exact rfl; (focus (first | exact dec_true (by omega) | exact dec_false (by omega); done)))
        | (apply QL.gF; exact rfl; exact rfl; (focus (first | exact dec_true (by omega) | exact dec_false (by omega); done)))
        | (apply QL.indexO tOk; exact rfl; exact rfl; exact rfl; exact rfl; exact rfl; exact rfl; exact rfl; exact rfl; assumption; (exact extA); exact encB_ok; (first | exact rfl | (focus (simp only [List.length_set]; done)) | (focus (simp; done)) | (focus (simp [*]; done)) | omega | (focus (simp only [List.length_set]; omega))); omega; assumption; intro gb ha hc; cases ha; have hcc := hc; first | (obtain ⟨h1, h2, h3, _⟩ := hc) | (obtain ⟨h1, h2, _⟩ := hc) | (obtain ⟨h1, _⟩ := hc))
        | (show WL _ _ _ _ _ _ _; first | apply WL.nil | (refine WL.au (k := ?_)))
        | (show QL _ _ _ _ _ _ _; first | (apply QL.nilX; intro w' hx) | (refine QL.au (k := ?_)) | (apply QL.guardF; exact rfl; exact rfl))
        | (show Z _ _ _ _ _; first | apply Z.then_normal | apply Z.block_normal)
        | (show W _ _ _ _ _ _; first | apply W.seq | apply W.region | apply W.block | apply W.skip | (apply W.condT; exact rfl) | (apply W.regionX tMix; kernel_rfl))
        | fail)
      exact Z.againW ⟨by omega, hX5.trans (by (exact extA)), hO5.ext (by (exact extA))⟩ (by repeat' first | exact trivial | (refine And.intro ?_ ?_) | exact rfl | (rw [e9]; exact rfl))
    | true =>
      rw [hSj] at hzj
      have e9 : dec (okS D S k i (j + 1)) = !D i j := by
        cases hd : D i j with
        | false => exact dec_true (hos.2 (.inr (.inr hd)))
        | true =>
          exact dec_false fun h => by
            rcases hos.1 h with q | q | q
            · exact hjk q
            · rw [hSj] at q; cases q
            · rw [hd] at q; cases q
      repeat' (first
        | (apply WL.gT; exact rfl; exact rfl; (focus (first | exact dec_true (by omega) | exact dec_false (by omega); done)))
        | (apply QL.gF; exact rfl; exact rfl; (focus (first | exact dec_true (by omega) | exact dec_false (by omega); done)))
        | (apply QL.indexO tOk; exact rfl; exact rfl; exact rfl; exact rfl; exact rfl; exact rfl; exact rfl; exact rfl; assumption; (exact extA); exact encB_ok; (first | exact rfl | (focus (simp only [List.length_set]; done)) | (focus (simp; done)) | (focus (simp [*]; done)) | omega | (focus (simp only [List.length_set]; omega))); omega; assumption; intro gb ha hc; cases ha; have hcc := hc; first | (obtain ⟨h1, h2, h3, _⟩ := hc) | (obtain ⟨h1, h2, _⟩ := hc) | (obtain ⟨h1, _⟩ := hc))
        | (apply QL.callP; exact rfl; exact rfl; exact rfl; exact rfl; exact hd1)
        | (show WL _ _ _ _ _ _ _; first | apply WL.nil | (refine WL.au (k := ?_)))
        | (show QL _ _ _ _ _ _ _; first | (apply QL.nilX; intro w' hx) | (refine QL.au (k := ?_)) | (apply QL.index tOk; exact rfl; exact rfl; exact rfl; exact rfl; exact rfl; exact rfl; exact rfl; exact rfl; assumption; (exact extA); exact rfl; omega; assumption; intro b off h; have hcc := h; first | (obtain ⟨h1, h2, h3, h4, h5, h6, _⟩ := h) | (obtain ⟨h1, h2, h3, _⟩ := h) | (obtain ⟨h1, h2, _⟩ := h) | (obtain ⟨h1, _⟩ := h)))
        | (show Z _ _ _ _ _; first | apply Z.then_normal | apply Z.block_normal)
        | (show W _ _ _ _ _ _; first | apply W.seq | apply W.region | apply W.block | apply W.skip | (apply W.condT; exact rfl) | (apply W.regionX tMix; kernel_rfl))
        | fail)
      exact Z.againW ⟨by omega, hX5.trans (by (exact extA)), hO5.ext (by (exact extA))⟩ (by repeat' first | exact trivial | (refine And.intro ?_ ?_) | exact rfl | (rw [e9]; exact rfl))
  obtain rfl : m = rs.length := by omega
  repeat' (first
    | (apply W.condKF; exact rfl; (focus (exact dec_false (by omega); done)))
    | (apply WL.lit (len := 0) tOk; exact rfl; exact rfl; exact rfl; exact rfl; exact rfl; exact rfl; (first | exact rfl | kernel_rfl | (simp [Instr.fill, catCells]; done)); exact rfl; intro gb w' hb hge hc hx; have hO0 := Own.of_block0 (enc := encR) (s := 1) hb hge)
    | (show WL _ _ _ _ _ _ _; first | apply WL.nil | (refine WL.au (k := ?_)))
    | (show Z _ _ _ _ _; first | apply Z.then_normal | apply Z.then_exit | apply Z.block_exit)
    | (show W _ _ _ _ _ _; first | apply W.seq | apply W.region | apply W.block | apply W.exit)
    | fail)
  have h9b := (hO2.blk_lt g9 rfl).2
  refine W.loopO rs.length (fun k a cp w' => k ≤ rs.length ∧ Ext w w' ∧ Own 1 encB 4 w.heap.size w' (some ⟨g9, 0, none⟩) rs.length (stR fs.length rs.length D rs.length) ∧ Own 1 encR 41 w.heap.size w' a cp (keptR (stayK fs.length rs.length D rs.length) zB rs k) ∧ blk a ≠ some g9)
    (fun k a cp => [(3, .slice rt rs.length ct), (9, .slice (some ⟨g9, 0, none⟩) rs.length rs.length), (15, .slice a (keptR (stayK fs.length rs.length D rs.length) zB rs k).length cp), (16, .int .i64 k)]) (some ⟨gb, 0, none⟩) 0 ⟨by omega, hX2.trans hx, hO2.ext hx, hO0.base (Below.size hX2), fun he => by have h8 := Option.some.inj he; simp only at h8; omega⟩ (fun k a cp w' h => h.1) (by repeat' first | exact trivial | (refine And.intro ?_ ?_) | exact rfl) ?_
  clear hO2 hO0
  rintro k a cp w5 ⟨hk5, hX5, hO5, hO6, hne⟩
  have hkl := keptR_len (stayK fs.length rs.length D rs.length) zB rs k
  by_cases hlt : k < rs.length
  · obtain ⟨r, hr⟩ := getI rs hlt
    have Rt5 := Rt.ext hX5
    have hzk : (stR fs.length rs.length D rs.length)[k]? = some (stayK fs.length rs.length D rs.length k) := stR_get hlt
    cases hS : stayK fs.length rs.length D rs.length k with
    | false =>
      rw [hS] at hzk
      have e1 := keptR_no (z := zB) (rs := rs) hS
      repeat' (first
        | (apply W.condKT; exact rfl; (focus (first | exact dec_true (by omega); done)))
        | (apply WL.indexO tOk; exact rfl; exact rfl; exact rfl; exact rfl; exact rfl; exact rfl; exact rfl; exact rfl; assumption; (exact extA); exact encB_ok; (first | exact rfl | (focus (simp only [List.length_set]; done)) | (focus (simp; done)) | (focus (simp [*]; done)) | omega | (focus (simp only [List.length_set]; omega))); omega; assumption; intro gb ha hc; cases ha; have hcc := hc; first | (obtain ⟨h1, h2, h3, _⟩ := hc) | (obtain ⟨h1, h2, _⟩ := hc) | (obtain ⟨h1, _⟩ := hc))
        | (show WL _ _ _ _ _ _ _; first | apply WL.nil | (refine WL.au (k := ?_)))
        | (show Z _ _ _ _ _; first | apply Z.then_normal | apply Z.block_normal)
        | (show W _ _ _ _ _ _; first | apply W.seq | apply W.region | apply W.block | apply W.skip | (apply W.condF; exact rfl))
        | fail)
      exact Z.againO a cp ⟨by omega, hX5, hO5, by rw [e1]; exact hO6, hne⟩ (by repeat' first | exact trivial | (refine And.intro ?_ ?_) | exact rfl | (rw [e1]; exact rfl))
    | true =>
      rw [hS] at hzk
      have e1 := keptR_yes (z := zB) hr hS
      repeat' (first
        | (apply W.condKT; exact rfl; (focus (first | exact dec_true (by omega); done)))
        | (apply WL.indexO tOk; exact rfl; exact rfl; exact rfl; exact rfl; exact rfl; exact rfl; exact rfl; exact rfl; assumption; (exact extA); exact encB_ok; (first | exact rfl | (focus (simp only [List.length_set]; done)) | (focus (simp; done)) | (focus (simp [*]; done)) | omega | (focus (simp only [List.length_set]; omega))); omega; assumption; intro gb ha hc; cases ha; have hcc := hc; first | (obtain ⟨h1, h2, h3, _⟩ := hc) | (obtain ⟨h1, h2, _⟩ := hc) | (obtain ⟨h1, _⟩ := hc))
        | (apply WL.lit tOk; exact rfl; exact rfl; exact rfl; exact rfl; exact rfl; exact rfl; (first | exact rfl | kernel_rfl | (simp [Instr.fill, catCells]; done)); exact rfl; intro gb w' hb hge hc hx; (obtain ⟨w6, rfl⟩ : ∃ x, x = w' := ⟨_, rfl⟩; obtain ⟨hx6, rfl⟩ : ∃ x, x = hx := ⟨_, rfl⟩))
        | (apply WL.append1 tOk encR_ok; exact rfl; exact rfl; exact rfl; exact rfl; exact rfl; exact rfl; exact rfl; exact rfl; exact rfl; exact rfl; assumption; (exact extA); (first | exact rfl | (focus (simp only [List.length_set]; done)) | (focus (simp; done)) | (focus (simp [*]; done)) | omega | (focus (simp only [List.length_set]; omega))); assumption; (first | exact rfl | exact (rfl : encR (_, _) = _)); exact rfl; (exact extA); (first | omega | (simp; omega) | (simp at *; omega)); intro a' cap' w' hO hX' hU hF)
        | (show WL _ _ _ _ _ _ _; first | apply WL.nil | (refine WL.au (k := ?_)) | (apply WL.index tOk; exact rfl; exact rfl; exact rfl; exact rfl; exact rfl; exact rfl; exact rfl; exact rfl; assumption; (exact extA); exact rfl; omega; assumption; intro b off h; have hcc := h; first | (obtain ⟨h1, h2, h3, h4, h5, h6, _⟩ := h) | (obtain ⟨h1, h2, h3, _⟩ := h) | (obtain ⟨h1, h2, _⟩ := h) | (obtain ⟨h1, _⟩ := h)))
        | (show Z _ _ _ _ _; first | apply Z.then_normal | apply Z.block_normal)
        | (show W _ _ _ _ _ _; first | apply W.seq | apply W.region | apply W.block | apply W.skip | (apply W.condT; exact rfl))
        | fail)
      have h5b := (hO5.blk_lt g9 rfl).2
      have hs6 := Below.size hx6
      exact Z.againO a' cap' ⟨by omega, hX', hU.own (hO5.ext hx6) (.inr fun h => hne h.symm), by rw [e1]; exact hO, ne_newK hne hF (by omega)⟩ (by repeat' first | exact trivial | (refine And.intro ?_ ?_) | exact rfl | (rw [e1]; exact rfl))
  · obtain rfl : k = rs.length := by omega
    repeat' (first
      | (apply W.condKF; exact rfl; (focus (exact dec_false (by omega); done)))
      | (show WL _ _ _ _ _ _ _; first | apply WL.nil | (refine WL.au (k := ?_)))
      | (show Z _ _ _ _ _; first | apply Z.then_normal | apply Z.then_exit | apply Z.block_exit)
      | (show W _ _ _ _ _ _; first | apply W.seq | apply W.region | apply W.ret | apply W.exit)
      | fail)
    exact Z.body1 Tryd.results18 rfl fun m => ⟨Ext.at hX5 m, a, cp, rfl, hO6⟩
end Go.Proofs.YtlcenenkloicjaaDoor
namespace Go.Proofs.YtlcenenkloicjaaDoor
open Go Go.Lt Go.RowKit
set_option linter.unusedVariables false
set_option linter.unusedSimpArgs false
set_option maxRecDepth 20000

theorem law45_few (a : Option Addr) (cap : Nat) (rs : List BRow) (most : Int) (w : World) (R : Row 1 encR w a rs) : Still Tryd.prog 13 [.slice a rs.length cap, .int .i64 most] w (.bool (dec ((∀ r ∈ rs, r.2.2.length ≤ 40) ∧ (rs.length : Int) ≤ most))) := by
  have hl := R.len
  refine Spec.of _ Tryd.func13 rfl Tryd.ntmps13 (by kernel_rfl) rfl ?_
  repeat' (first
    | (show WL _ _ _ _ _ _ _; first | apply WL.nil | (refine WL.au (k := ?_)))
    | (show Z _ _ _ _ _; apply Z.then_normal)
    | (show W _ _ _ _ _ _; first | apply W.seq | apply W.region | apply W.block)
    | fail)
  refine W.loop1 rs.length (fun k => k ≤ rs.length ∧ ∀ i r, i < k → rs[i]? = some r → r.2.2.length ≤ 40) (fun k => [(0, .slice a rs.length cap), (1, .int .i64 most), (5, .int .i64 k)]) ⟨by omega, fun i r h => by omega⟩ (fun k h => h.1) ⟨rfl, rfl, rfl, trivial⟩ ?_
  rintro k ⟨hk, hf⟩
  by_cases hlt : k < rs.length
  · obtain ⟨r, hr⟩ := getI rs hlt
    by_cases h40 : r.2.2.length ≤ 40
    · repeat' (first
        | (apply W.condKT; exact rfl; (focus (first | exact dec_true (by omega) | exact dec_false (by omega); done)))
        | (apply W.condKF; exact rfl; (focus (first | exact dec_true (by omega) | exact dec_false (by omega); done)))
        | (show WL _ _ _ _ _ _ _; first | apply WL.nil | (refine WL.au (k := ?_)) | (apply WL.index tOk; exact rfl; exact rfl; exact rfl; exact rfl; exact rfl; exact rfl; exact rfl; exact rfl; assumption; (exact extA); exact rfl; omega; assumption; intro b off h; have hcc := h; first | (obtain ⟨h1, h2, h3, h4, h5, h6, _⟩ := h) | (obtain ⟨h1, h2, h3, _⟩ := h) | (obtain ⟨h1, h2, _⟩ := h) | (obtain ⟨h1, _⟩ := h)))
        | (show Z _ _ _ _ _; first | apply Z.then_normal | apply Z.block_normal)
        | (show W _ _ _ _ _ _; first | apply W.seq | apply W.region | apply W.block | apply W.skip)
        | fail)
      exact Z.again1 ⟨by omega, fun i r' hi hr' => (by
        by_cases h : i < k
        · exact hf i r' h hr'
        · obtain rfl : i = k := by omega
          rw [hr] at hr'; obtain rfl := Option.some.inj hr'; exact h40)⟩ ⟨rfl, rfl, rfl, trivial⟩
    · repeat' (first
        | (apply W.condKT; exact rfl; (focus (first | exact dec_true (by omega); done)))
        | (show WL _ _ _ _ _ _ _; first | apply WL.nil | (refine WL.au (k := ?_)) | (apply WL.index tOk; exact rfl; exact rfl; exact rfl; exact rfl; exact rfl; exact rfl; exact rfl; exact rfl; assumption; (exact extA); exact rfl; omega; assumption; intro b off h; have hcc := h; first | (obtain ⟨h1, h2, h3, h4, h5, h6, _⟩ := h) | (obtain ⟨h1, h2, h3, _⟩ := h) | (obtain ⟨h1, h2, _⟩ := h) | (obtain ⟨h1, _⟩ := h)))
        | (show Z _ _ _ _ _; first | apply Z.then_normal | apply Z.then_ret | apply Z.block_ret)
        | (show W _ _ _ _ _ _; first | apply W.seq | apply W.region | apply W.block | apply W.skip | apply W.ret)
        | fail)
      exact Z.body1 Tryd.results13 rfl fun m => ⟨congrArg Value.bool (dec_false (fun h => h40 (h.1 r (List.mem_of_getElem? hr)))).symm, m, rfl⟩
  · obtain rfl : k = rs.length := by omega
    have hall : ∀ r ∈ rs, r.2.2.length ≤ 40 := fun r hr => by
      obtain ⟨i, hi⟩ := List.mem_iff_getElem?.1 hr
      exact hf i r (lt_of_get hi) hi
    repeat' (first
      | (apply W.condKF; exact rfl; (focus (first | exact dec_false (by omega); done)))
      | (show WL _ _ _ _ _ _ _; first | apply WL.nil | (refine WL.au (k := ?_)))
      | (show Z _ _ _ _ _; first | apply Z.then_normal | apply Z.then_exit | apply Z.block_exit)
      | (show W _ _ _ _ _ _; first | apply W.seq | apply W.region | apply W.ret | apply W.exit)
      | fail)
    exact Z.body1 Tryd.results13 rfl fun m => ⟨congrArg Value.bool (dec_congr ⟨fun h => ⟨hall, h⟩, fun h => h.2⟩), m, rfl⟩
end Go.Proofs.YtlcenenkloicjaaDoor
namespace Go.Proofs.YtlcenenkloicjaaDoor
open Go Go.Lt Go.RowKit
set_option linter.unusedVariables false
set_option linter.unusedSimpArgs false
set_option maxRecDepth 20000

theorem keptR_mem {S : Nat → Bool} {z : BRow} {rs : List BRow} {m : Nat} (hm : m ≤ rs.length) {r : BRow} (h : r ∈ keptR S z rs m) : r ∈ rs := by
  unfold keptR at h
  obtain ⟨j, hj, rfl⟩ := List.mem_map.1 h
  have := List.mem_range.1 (List.mem_filter.1 hj).1
  obtain ⟨x, hx⟩ := getI rs (show j < rs.length by omega)
  rw [getD_of hx]; exact List.mem_of_getElem? hx
def lostP (n : List (Int × Int)) (outs : List Int) (fs : List F3) (ks ls : List BRow) (i : Nat) : Prop := ∃ u f, u < i ∧ fs[u]? = some f ∧ 0 ≤ fiF n outs ks f ∧ fiF n outs ls f < 0
section
variable {n : List (Int × Int)} {outs : List Int} {fs : List F3} {ks ls : List BRow} {i : Nat} {f : F3}
theorem lost_zero : ¬ lostP n outs fs ks ls 0 := fun ⟨u, f, h, _⟩ => by omega
theorem lost_mono (h : lostP n outs fs ks ls i) : lostP n outs fs ks ls (i + 1) := by obtain ⟨u, f, h1, h2⟩ := h; exact ⟨u, f, by omega, h2⟩
theorem lost_yes (hf : fs[i]? = some f) (h1 : 0 ≤ fiF n outs ks f) (h2 : fiF n outs ls f < 0) : lostP n outs fs ks ls (i + 1) := ⟨i, f, by omega, hf, h1, h2⟩
theorem lost_no (h : ¬ lostP n outs fs ks ls i) (hf : fs[i]? = some f) (h1 : ¬ (0 ≤ fiF n outs ks f ∧ fiF n outs ls f < 0)) : ¬ lostP n outs fs ks ls (i + 1) := by
  rintro ⟨u, f', hu, hf', h2⟩
  by_cases e : u = i
  · subst e; rw [hf] at hf'; obtain rfl := Option.some.inj hf'; exact h1 h2
  · exact h ⟨u, f', by omega, hf', h2⟩
end
set_option maxHeartbeats 8000000 in
theorem law_FsimKeeps (ra rb rf rt : Option Addr) (cap cb cf ct : Nat) (n : List (Int × Int)) (outs : List Int) (fs : List F3) (rs : List BRow) (w : World) (R : Row 2 encN w ra n) (Rb : Row 1 encI w rb outs) (Rf : Row 3 encF3 w rf fs) (Rt : Row 1 encR w rt rs) (hna : ra = none → cap = 0) (hnb : rb = none → cb = 0) (hct : rs.length ≤ ct) (hRs : RowsIn w rs) (hnr : ∀ r ∈ rs, r.1 = none → r.2.1 = 0) (hv : ∀ f ∈ fs, inI64 f.1) (hT : Cells w 1 0 tzW) :
    Pure Tryd.prog 5 [.slice ra n.length cap, .slice rb outs.length cb, .slice rf fs.length cf, .slice rt rs.length ct] w (.bool true) := by
  have hlf := Rf.len
  by_cases hsm : ((((n.length : Int) ≤ 14 ∧ GoodNet n) ∧ outs.length ≤ 20 ∧ KnownP n outs) ∧ fs.length ≤ 50) ∧ ((∀ r ∈ rs, r.2.2.length ≤ 40) ∧ (rs.length : Int) ≤ 12)
  · obtain ⟨⟨hs, hf⟩, ht⟩ := hsm
    have hg := hs.1.2
    have hn := hs.1.1
    have ho := hs.2.1
    have ht1 := ht.1
    have ht2 := ht.2
    have hk : ∀ l ∈ outs, 0 ≤ l ∧ l ≤ 2 * (n.length : Int) + 1 := hs.2.2
    have hbs : ∀ r ∈ rs, r.2.2.length ≤ 1048576 := fun r hr => by have := ht1 r hr; omega
    have hbR : ∀ w9, Ext w w9 → RowsIn w9 rs := fun w9 h9 r hr => ⟨(hRs r hr).1.ext h9, (hRs r hr).2⟩
    obtain ⟨kl, hkl⟩ : ∃ kl, kl = keptR (stayK fs.length rs.length (DK n outs fs rs) rs.length) zB rs rs.length := ⟨_, rfl⟩
    have hklm : ∀ r ∈ kl, r ∈ rs := fun r hr => by rw [hkl] at hr; exact keptR_mem (Nat.le_refl _) hr
    refine Spec.of _ Tryd.func5 rfl Tryd.ntmps5 (by kernel_rfl) rfl ?_
    repeat' (first
      | ((show WL _ _ _ (⟨_, .call ⟨.value (.func 12), _, _⟩, _, _, _, _⟩ :: _) _ _ _); apply WL.callS; exact rfl; exact rfl; exact rfl; exact rfl; exact law44_Small _ _ _ _ n outs 14 _ (R.ext (by (exact extA))) (Rb.ext (by (exact extA))) (by decide))
      | ((show WL _ _ _ (⟨_, .call ⟨.value (.func 13), _, _⟩, _, _, _, _⟩ :: _) _ _ _); apply WL.callS; exact rfl; exact rfl; exact rfl; exact rfl; exact law45_few _ _ rs 12 _ (Rt.ext (by (exact extA))))
      | (apply WL.gF; exact rfl; exact rfl; (focus (first | (rw [dec_true hs]; rfl) | (rw [dec_true ht]; rfl) | exact dec_false (by omega) | exact dec_true rfl; done)))
      | (apply W.condKF; exact rfl; (focus (first | (rw [dec_true hs]; rfl) | (rw [dec_true ht]; rfl) | exact dec_false (by omega) | exact dec_true rfl; done)))
      | (((show WL _ _ _ (⟨_, .call ⟨.value (.func 17), _, _⟩, _, _, _, _⟩ :: _) _ _ _); apply WL.call; exact rfl; exact rfl; exact rfl; exact rfl; exact fsim_Keep _ _ _ _ _ _ _ _ n outs fs rs _ (R.ext (by (exact extA))) (Rb.ext (by (exact extA))) (Rf.ext (by (exact extA))) (Rt.ext (by (exact extA))) hna hnb hct (hbR _ (by (exact extA))) hnr hbs (by omega) (by omega) hg (by omega) (by omega) hv hk (hT.ext (by (exact extA))) (DK n outs fs rs) (fun _ _ => rfl); rintro v' w' ⟨hxK, a1, c1, ks, rfl, hRk, hck, hnk, hRIk, hvk⟩; rw [← hkl] at hvk; have hlk := congrArg List.length hvk; simp only [List.length_map] at hlk))
      | ((show WL _ _ _ (⟨_, .call ⟨.value (.func 18), _, _⟩, _, _, _, _⟩ :: _) _ _ _); apply WL.call; exact rfl; exact rfl; exact rfl; exact rfl; exact ref45_Keep _ _ _ _ _ _ _ _ n outs fs rs _ (R.ext (by (exact extA))) (Rb.ext (by (exact extA))) (Rf.ext (by (exact extA))) (Rt.ext (by (exact extA))) (hbR _ (by (exact extA))) (by omega) (by omega) hg (by omega) (by omega) hv hk _ rfl; rintro v' w' ⟨hx, a', cap', rfl, hO⟩; (rw [← hkl] at hO ⊢))
      | (show WL _ _ _ _ _ _ _; first | apply WL.nil | (refine WL.au (k := ?_)))
      | (show Z _ _ _ _ _; apply Z.then_normal)
      | (show W _ _ _ _ _ _; first | apply W.seq | apply W.region | apply W.block | apply W.skip)
      | fail)
    obtain ⟨a2, rfl⟩ : ∃ x, x = a' := ⟨_, rfl⟩; obtain ⟨c2, rfl⟩ : ∃ x, x = cap' := ⟨_, rfl⟩; obtain ⟨wK, rfl⟩ : ∃ x, x = w' := ⟨_, rfl⟩; obtain ⟨hOK, rfl⟩ : ∃ x, x = hO := ⟨_, rfl⟩
    have hXK : Ext w wK := (by (exact extA))
    have RK1 : Row 1 encR wK a1 ks := hRk.ext (by (exact extA))
    have RI1 : RowsIn wK ks := fun r hr => ⟨(hRIk r hr).1.ext (by (exact extA)), (hRIk r hr).2⟩
    have RK2 : Row 1 encR wK a2 kl := hOK.row encR_ok
    have hkll : ks.length ≤ 12 := by
      have h1 := keptR_len (stayK fs.length rs.length (DK n outs fs rs) rs.length) zB rs rs.length
      rw [← hkl] at h1; omega
    clear hOK hRk hRIk
    have hRI9 : ∀ w9, Ext wK w9 → RowsIn w9 ks := fun w9 h9 r hr => ⟨(RI1 r hr).1.ext h9, (RI1 r hr).2⟩
    refine W.loop1 ks.length (fun i => i ≤ ks.length) (fun i => [(0, .slice ra n.length cap), (1, .slice rb outs.length cb), (2, .slice rf fs.length cf), (3, .slice rt rs.length ct), (9, .slice a1 ks.length c1), (10, .slice a2 kl.length c2), (11, .int .i64 i)]) (Nat.zero_le _) (fun k h => h) (by repeat' first | exact trivial | (refine And.intro ?_ ?_) | exact rfl) ?_
    rintro i hi
    by_cases hlt : i < ks.length
    · obtain ⟨r1, hr1⟩ := getI ks hlt
      obtain ⟨r2, hr2⟩ := getI kl (show i < kl.length by omega)
      have he : r1.2.2 = r2.2.2 := by
        have h1 := congrArg (fun l => l[i]?) hvk
        simp only [List.getElem?_map, hr1, hr2, Option.map_some, Option.some.injEq] at h1
        exact h1
      have hB1 := (RI1 r1 (List.mem_of_getElem? hr1)).1
      have hB2 := (hRs r2 (hklm r2 (List.mem_of_getElem? hr2))).1.ext hXK
      have hS : Still Tryd.prog 19 [.slice r1.1 r1.2.2.length r1.2.1, .slice r2.1 r2.2.2.length r2.2.1] wK (.bool true) := by
        have h1 := ref_SameB r1.1 r2.1 r1.2.1 r2.2.1 r1.2.2 r2.2.2 wK hB1 hB2
        rw [dec_true he] at h1; exact h1
      repeat' (first
        | (apply W.condKT; exact rfl; (focus (exact dec_true (by omega); done)))
        | (apply QL.callS; exact rfl; exact rfl; exact rfl; exact rfl; exact hS)
        | (show WL _ _ _ _ _ _ _; first | apply WL.nil | (refine WL.au (k := ?_)))
        | (show QL _ _ _ _ _ _ _; first | apply QL.nil | (refine QL.au (k := ?_)) | (apply QL.index tOk; exact rfl; exact rfl; exact rfl; exact rfl; exact rfl; exact rfl; exact rfl; exact rfl; assumption; (exact extA); exact rfl; omega; assumption; intro b off h; have hcc := h; first | (obtain ⟨h1, h2, h3, h4, h5, h6, _⟩ := h) | (obtain ⟨h1, h2, h3, _⟩ := h) | (obtain ⟨h1, h2, _⟩ := h) | (obtain ⟨h1, _⟩ := h)))
        | (show Z _ _ _ _ _; first | apply Z.then_normal | apply Z.block_normal)
        | (show W _ _ _ _ _ _; first | apply W.seq | apply W.region | apply W.block | apply W.skip | (apply W.condF; exact rfl) | (apply W.regionD tMix; kernel_rfl))
        | fail)
      exact Z.again1 (by omega) (by repeat' first | exact trivial | (refine And.intro ?_ ?_) | exact rfl)
    obtain rfl : i = ks.length := by omega
    repeat' (first
      | (apply W.condKF; exact rfl; (focus (exact dec_false (by omega); done)))
      | ((show WL _ _ _ (⟨_, .call ⟨.value (.func 16), _, _⟩, _, _, _, _⟩ :: _) _ _ _); apply WL.call; exact rfl; exact rfl; exact rfl; exact rfl; exact ref45_First _ _ _ _ _ _ _ _ n outs fs rs _ (R.ext (hXK.trans (by (exact extA)))) (Rb.ext (hXK.trans (by (exact extA)))) (Rf.ext (hXK.trans (by (exact extA)))) (Rt.ext (hXK.trans (by (exact extA)))) (hbR _ (hXK.trans (by (exact extA)))) (by omega) hg (by omega) (by omega) hv hk; rintro v' w' ⟨hx, a', cap', rfl, hO⟩; (obtain ⟨a3, rfl⟩ : ∃ x, x = a' := ⟨_, rfl⟩; obtain ⟨c3, rfl⟩ : ∃ x, x = cap' := ⟨_, rfl⟩; obtain ⟨w3, rfl⟩ : ∃ x, x = w' := ⟨_, rfl⟩; obtain ⟨hO3, rfl⟩ : ∃ x, x = hO := ⟨_, rfl⟩; obtain ⟨hx3, rfl⟩ : ∃ x, x = hx := ⟨_, rfl⟩; have K1 := Own.row encI_ok hO3; clear hO3))
      | ((show WL _ _ _ (⟨_, .call ⟨.value (.func 16), _, _⟩, _, _, _, _⟩ :: _) _ _ _); apply WL.call; exact rfl; exact rfl; exact rfl; exact rfl; exact ref45_First _ _ _ _ _ _ _ _ n outs fs ks _ (R.ext (hXK.trans (by (exact extA)))) (Rb.ext (hXK.trans (by (exact extA)))) (Rf.ext (hXK.trans (by (exact extA)))) (RK1.ext (by (exact extA))) (hRI9 _ (by (exact extA))) (by omega) hg (by omega) (by omega) hv hk; rintro v' w' ⟨hx, a', cap', rfl, hO⟩; (obtain ⟨a4, rfl⟩ : ∃ x, x = a' := ⟨_, rfl⟩; obtain ⟨c4, rfl⟩ : ∃ x, x = cap' := ⟨_, rfl⟩; obtain ⟨w4, rfl⟩ : ∃ x, x = w' := ⟨_, rfl⟩; obtain ⟨hO4, rfl⟩ : ∃ x, x = hO := ⟨_, rfl⟩; obtain ⟨hx4, rfl⟩ : ∃ x, x = hx := ⟨_, rfl⟩; have K2 := Own.row encI_ok hO4; clear hO4))
      | (show WL _ _ _ _ _ _ _; first | apply WL.nil | (refine WL.au (k := ?_)))
      | (show Z _ _ _ _ _; first | apply Z.then_normal | apply Z.then_exit | apply Z.block_exit)
      | (show W _ _ _ _ _ _; first | apply W.seq | apply W.region | apply W.block | apply W.exit)
      | fail)
    replace K1 := K1.ext hx4
    have hX4 : Ext wK w4 := hx3.trans hx4
    have hXw4 := hXK.trans hX4
    have l1 : (fs.map (fiF n outs rs)).length = fs.length := List.length_map _
    have l2 : (fs.map (fiF n outs ks)).length = fs.length := List.length_map _
    have hks : ks.map (·.2.2) = (stK n outs fs rs).map fun j => (rs.getD j zB).2.2 := by rw [hvk, hkl, keptR_vals]; rfl
    refine W.loop1 fs.length (fun i => i ≤ fs.length) (fun i => [(0, .slice ra n.length cap), (1, .slice rb outs.length cb), (2, .slice rf fs.length cf), (9, .slice a1 ks.length c1), (12, .slice a3 (fs.map (fiF n outs rs)).length c3), (13, .slice a4 (fs.map (fiF n outs ks)).length c4), (14, .int .i64 i)]) (Nat.zero_le _) (fun k h => h) (by repeat' first | exact trivial | (refine And.intro ?_ ?_) | exact rfl) ?_
    rintro i hi
    by_cases hlt : i < fs.length
    · obtain ⟨f, hf⟩ := getI fs hlt
      have g1 : (fs.map (fiF n outs rs))[i]? = some (fiF n outs rs f) := by rw [List.getElem?_map, hf]; rfl
      have g2 : (fs.map (fiF n outs ks))[i]? = some (fiF n outs ks f) := by rw [List.getElem?_map, hf]; rfl
      have hiff := kept_shows hks hf
      repeat' (first
        | (apply W.condKT; exact rfl; (focus (first | exact dec_true (by omega) | exact dec_false (fun h => h (dec_congr hiff)); done)))
        | (apply W.condKF; exact rfl; (focus (first | exact dec_true (by omega) | exact dec_false (fun h => h (dec_congr hiff)); done)))
        | (show WL _ _ _ _ _ _ _; first | apply WL.nil | (refine WL.au (k := ?_)))
        | (show QL _ _ _ _ _ _ _; first | apply QL.nil | (refine QL.au (k := ?_)) | (apply QL.index tOk; exact rfl; exact rfl; exact rfl; exact rfl; exact rfl; exact rfl; exact rfl; exact rfl; assumption; (exact extA); exact rfl; omega; assumption; intro b off h; have hcc := h; first | (obtain ⟨h1, h2, h3, h4, h5, h6, _⟩ := h) | (obtain ⟨h1, h2, h3, _⟩ := h) | (obtain ⟨h1, h2, _⟩ := h) | (obtain ⟨h1, _⟩ := h)))
        | (show Z _ _ _ _ _; first | apply Z.then_normal | apply Z.block_normal)
        | (show W _ _ _ _ _ _; first | apply W.seq | apply W.region | apply W.block | apply W.skip | (apply W.regionD tMix; kernel_rfl))
        | fail)
      exact Z.again1 (by omega) (by repeat' first | exact trivial | (refine And.intro ?_ ?_) | exact rfl)
    obtain rfl : i = fs.length := by omega
    repeat' (first
      | (apply W.condKF; exact rfl; (focus (exact dec_false (by omega); done)))
      | (show WL _ _ _ _ _ _ _; first | apply WL.nil | (refine WL.au (k := ?_)))
      | (show Z _ _ _ _ _; first | apply Z.then_normal | apply Z.then_exit | apply Z.block_exit)
      | (show W _ _ _ _ _ _; first | apply W.seq | apply W.region | apply W.block | apply W.exit)
      | fail)
    refine W.loopW ks.length (fun k w' => k ≤ ks.length ∧ Ext w4 w') (fun k => [(0, .slice ra n.length cap), (1, .slice rb outs.length cb), (2, .slice rf fs.length cf), (9, .slice a1 ks.length c1), (13, .slice a4 (fs.map (fiF n outs ks)).length c4), (15, .int .i64 k)]) ⟨Nat.zero_le _, Ext.refl _⟩ (fun k w' h => h.1) (by repeat' first | exact trivial | (refine And.intro ?_ ?_) | exact rfl) ?_
    rintro k w5 ⟨hk5, hX5⟩
    have hXK5 := hX4.trans hX5
    by_cases hlt : k < ks.length
    · have RK5 := RK1.ext hXK5
      have t1 := RK5.take ((k : Nat) : Int).toNat
      have t2 : Row 1 encR w5 (subA a1 c1 (((k : Nat) : Int) + 1).toNat 1) (ks.drop (((k : Nat) : Int) + 1).toNat) := RK5.dropAt _ _ hck
      have lt1 : (ks.take ((k : Nat) : Int).toNat).length = ((k : Nat) : Int).toNat := by rw [List.length_take]; omega
      have lt2 : (ks.drop (((k : Nat) : Int) + 1).toNat).length = ks.length - (((k : Nat) : Int) + 1).toNat := List.length_drop ..
      have lt3 : ([] ++ ks.take ((k : Nat) : Int).toNat).length = ((k : Nat) : Int).toNat := by rw [List.nil_append]; exact lt1
      have hn2 : subA a1 c1 (((k : Nat) : Int) + 1).toNat 1 = none → c1 - (((k : Nat) : Int) + 1).toNat = 0 := by
        intro h
        have : a1 = none := by
          unfold subA at h
          split at h
          · exact h
          · cases a1 with
            | none => rfl
            | some x => cases h
        rw [hnk this]; omega
      repeat' (first
        | (apply W.condKT; exact rfl; (focus (exact dec_true (by omega); done)))
        | (show W _ _ (.region 20 _ _) _ _ _; apply W.regionGX (.fl true 1 (.fl true 2 (.fl true 3 (.fl true 5 (.fl true 6 (.fl true 7 (.fl true 8 (.br 0 (.br 4 (.br 9 (.fl true 10 .done) .stop) .stop) .stop)))))))) [] tMix; kernel_rfl)
        | (apply FL.sliceH0 tOk; exact rfl; exact rfl; exact rfl; exact rfl; exact rfl; exact rfl; exact rfl; omega)
        | (apply FL.sliceL0 tOk; exact rfl; exact rfl; exact rfl; exact rfl; exact rfl; exact rfl; exact rfl; exact rfl; omega)
        | (apply WL.lit (len := 0) tOk; exact rfl; exact rfl; exact rfl; exact rfl; exact rfl; exact rfl; (first | exact rfl | kernel_rfl | (simp [Instr.fill, catCells]; done)); exact rfl; intro gb w' hb hge hc hx; have hO0 := Own.of_block0 (enc := encR) (s := 1) hb hge)
        | (apply WL.appendS tOk encR_ok; exact rfl; exact rfl; exact rfl; exact rfl; exact rfl; exact rfl; exact rfl; exact rfl; exact rfl; exact rfl; assumption; (exact extA); (first | exact rfl | (focus (simp only [List.length_set]; done)) | (focus (simp; done)) | (focus (simp [*]; done)) | omega | (focus (simp only [List.length_set]; omega))); assumption; (exact extA); (first | exact rfl | (focus (simp only [List.length_set]; done)) | (focus (simp; done)) | (focus (simp [*]; done)) | omega | (focus (simp only [List.length_set]; omega))); (first | assumption | (intro h; cases h) | exact Own.noneCap (by assumption)); exact rfl; (exact extA); (first | omega | (simp; omega) | (simp at *; omega)); intro a' cap' w' hO hX' hU hF)
        | (show SX _ _ _ _ _ _ _ _ _; first | (apply SX.done; intro w' hx) | (apply SX.fl0; exact rfl) | (apply SX.br1; exact rfl; intro w' hx))
        | (show FL _ _ _ _ _ _ _ _; apply FL.nilX)
        | (show FL _ _ _ _ _ _ _ _; (refine FL.au (k := ?_)))
        | (show Z _ _ _ _ _; (apply Z.sxL; exact rfl))
        | (show WL _ _ _ _ _ _ _; first | apply WL.nil | (refine WL.au (k := ?_)))
        | (show Z _ _ _ _ _; apply Z.then_normal)
        | (show W _ _ _ _ _ _; first | apply W.seq | apply W.region | apply W.block | apply W.skip)
        | fail)
      obtain ⟨ls, hls⟩ : ∃ ls, ls = [] ++ ks.take ((k : Nat) : Int).toNat ++ ks.drop (((k : Nat) : Int) + 1).toNat := ⟨_, rfl⟩
      rw [← hls] at hO ⊢
      have hlsm : ∀ r ∈ ls, r ∈ ks := fun r hr => by
        rw [hls, List.nil_append] at hr
        rcases List.mem_append.1 hr with hr | hr
        · exact List.mem_of_mem_take hr
        · exact List.mem_of_mem_drop hr
      have hlse : ls = ks.take k ++ ks.drop (k + 1) := by rw [hls, List.nil_append]; rfl
      have RL := hO.row encR_ok
      have hX6 : Ext w5 w' := (by (exact extA))
      have RIL : ∀ w9, Ext w' w9 → RowsIn w9 ls := fun w9 h9 r hr => hRI9 w9 (hXK5.trans (hX6.trans h9)) r (hlsm r hr)
      have hX7 := hXK.trans (hXK5.trans hX6)
      obtain ⟨w6, rfl⟩ : ∃ x, x = w' := ⟨_, rfl⟩
      clear hO hU hF t1 t2 RK5
      repeat' (first
        | ((show WL _ _ _ (⟨_, .call ⟨.value (.func 16), _, _⟩, _, _, _, _⟩ :: _) _ _ _); apply WL.call; exact rfl; exact rfl; exact rfl; exact rfl; exact ref45_First _ _ _ _ _ _ _ _ n outs fs ls _ (R.ext (hX7.trans (by (exact extA)))) (Rb.ext (hX7.trans (by (exact extA)))) (Rf.ext (hX7.trans (by (exact extA)))) (RL.ext (by (exact extA))) (RIL _ (by (exact extA))) (by omega) hg (by omega) (by omega) hv hk; rintro v' w' ⟨hx, a', cap', rfl, hO⟩; (obtain ⟨a5, rfl⟩ : ∃ x, x = a' := ⟨_, rfl⟩; obtain ⟨c5, rfl⟩ : ∃ x, x = cap' := ⟨_, rfl⟩; obtain ⟨w7, rfl⟩ : ∃ x, x = w' := ⟨_, rfl⟩; obtain ⟨hO5, rfl⟩ : ∃ x, x = hO := ⟨_, rfl⟩; obtain ⟨hx7, rfl⟩ : ∃ x, x = hx := ⟨_, rfl⟩; have K3 := Own.row encI_ok hO5; clear hO5))
        | (show WL _ _ _ _ _ _ _; first | apply WL.nil | (refine WL.au (k := ?_)))
        | (show Z _ _ _ _ _; apply Z.then_normal)
        | (show W _ _ _ _ _ _; first | apply W.seq | apply W.region | apply W.block)
        | fail)
      have l3 : (fs.map (fiF n outs ls)).length = fs.length := List.length_map _
      have K2' := K2.ext (hX5.trans (hX6.trans hx7))
      have ez : dec (lostP n outs fs ks ls 0) = false := dec_false lost_zero
      refine W.loop1 fs.length (fun i => i ≤ fs.length) (fun i => [(0, .slice ra n.length cap), (1, .slice rb outs.length cb), (2, .slice rf fs.length cf), (9, .slice a1 ks.length c1), (13, .slice a4 (fs.map (fiF n outs ks)).length c4), (15, .int .i64 k), (17, .slice a5 (fs.map (fiF n outs ls)).length c5), (18, .bool (dec (lostP n outs fs ks ls i))), (19, .int .i64 i)]) (Nat.zero_le _) (fun k h => h) (by repeat' first | exact trivial | (refine And.intro ?_ ?_) | exact rfl | (rw [ez]; exact rfl)) ?_
      rintro i hi
      by_cases hil : i < fs.length
      · obtain ⟨f, hf⟩ := getI fs hil
        have g1 : (fs.map (fiF n outs ks))[i]? = some (fiF n outs ks f) := by rw [List.getElem?_map, hf]; rfl
        have g2 : (fs.map (fiF n outs ls))[i]? = some (fiF n outs ls f) := by rw [List.getElem?_map, hf]; rfl
        by_cases hlo : lostP n outs fs ks ls i
        · have e9 : dec (lostP n outs fs ks ls (i + 1)) = true := dec_true (lost_mono hlo)
          rw [dec_true hlo]
          repeat' (first
            | (apply W.condKT; exact rfl; (focus (exact dec_true (by omega); done)))
            | (show WL _ _ _ _ _ _ _; first | apply WL.nil | (refine WL.au (k := ?_)) | (apply WL.guardF; exact rfl; exact rfl))
            | (show Z _ _ _ _ _; first | apply Z.then_normal | apply Z.block_normal)
            | (show W _ _ _ _ _ _; first | apply W.seq | apply W.region | apply W.block | apply W.skip)
            | fail)
          exact Z.again1 (by omega) (by repeat' first | exact trivial | (refine And.intro ?_ ?_) | exact rfl | (rw [e9]; exact rfl))
        rw [dec_false hlo]
        by_cases q1 : 0 ≤ fiF n outs ks f
        · by_cases q2 : fiF n outs ls f < 0
          · have e9 : dec (lostP n outs fs ks ls (i + 1)) = true := dec_true (lost_yes hf q1 q2)
            have e8 : dec (fiF n outs ls f < 0) = true := dec_true q2
            repeat' (first
              | (apply WL.gT; exact rfl; exact rfl; (focus (first | exact dec_true (by omega) | exact dec_true q1; done)))
              | (apply W.condKT; exact rfl; (focus (first | exact dec_true (by omega) | exact dec_true q1; done)))
              | (show WL _ _ _ _ _ _ _; first | apply WL.nil | (refine WL.au (k := ?_)) | (apply WL.index tOk; exact rfl; exact rfl; exact rfl; exact rfl; exact rfl; exact rfl; exact rfl; exact rfl; assumption; (exact extA); exact rfl; omega; assumption; intro b off h; have hcc := h; first | (obtain ⟨h1, h2, h3, h4, h5, h6, _⟩ := h) | (obtain ⟨h1, h2, h3, _⟩ := h) | (obtain ⟨h1, h2, _⟩ := h) | (obtain ⟨h1, _⟩ := h)))
              | (show Z _ _ _ _ _; first | apply Z.then_normal | apply Z.block_normal)
              | (show W _ _ _ _ _ _; first | apply W.seq | apply W.region | apply W.block | apply W.skip)
              | fail)
            rw [e8]
            exact Z.again1 (by omega) (by repeat' first | exact trivial | (refine And.intro ?_ ?_) | exact rfl | (rw [e9]; exact rfl))
          · have e9 : dec (lostP n outs fs ks ls (i + 1)) = false := dec_false (lost_no hlo hf fun h => q2 h.2)
            have e8 : dec (fiF n outs ls f < 0) = false := dec_false q2
            repeat' (first
              | (apply WL.gT; exact rfl; exact rfl; (focus (first | exact dec_true (by omega) | exact dec_true q1; done)))
              | (apply W.condKT; exact rfl; (focus (first | exact dec_true (by omega) | exact dec_true q1; done)))
              | (show WL _ _ _ _ _ _ _; first | apply WL.nil | (refine WL.au (k := ?_)) | (apply WL.index tOk; exact rfl; exact rfl; exact rfl; exact rfl; exact rfl; exact rfl; exact rfl; exact rfl; assumption; (exact extA); exact rfl; omega; assumption; intro b off h; have hcc := h; first | (obtain ⟨h1, h2, h3, h4, h5, h6, _⟩ := h) | (obtain ⟨h1, h2, h3, _⟩ := h) | (obtain ⟨h1, h2, _⟩ := h) | (obtain ⟨h1, _⟩ := h)))
              | (show Z _ _ _ _ _; first | apply Z.then_normal | apply Z.block_normal)
              | (show W _ _ _ _ _ _; first | apply W.seq | apply W.region | apply W.block | apply W.skip)
              | fail)
            rw [e8]
            exact Z.again1 (by omega) (by repeat' first | exact trivial | (refine And.intro ?_ ?_) | exact rfl | (rw [e9]; exact rfl))
        · have e9 : dec (lostP n outs fs ks ls (i + 1)) = false := dec_false (lost_no hlo hf fun h => q1 h.1)
          repeat' (first
            | (apply WL.gF; exact rfl; exact rfl; (focus (first | exact dec_true (by omega) | exact dec_false q1; done)))
            | (apply W.condKT; exact rfl; (focus (first | exact dec_true (by omega) | exact dec_false q1; done)))
            | (show WL _ _ _ _ _ _ _; first | apply WL.nil | (refine WL.au (k := ?_)) | (apply WL.index tOk; exact rfl; exact rfl; exact rfl; exact rfl; exact rfl; exact rfl; exact rfl; exact rfl; assumption; (exact extA); exact rfl; omega; assumption; intro b off h; have hcc := h; first | (obtain ⟨h1, h2, h3, h4, h5, h6, _⟩ := h) | (obtain ⟨h1, h2, h3, _⟩ := h) | (obtain ⟨h1, h2, _⟩ := h) | (obtain ⟨h1, _⟩ := h)) | (apply WL.guardF; exact rfl; exact rfl))
            | (show Z _ _ _ _ _; first | apply Z.then_normal | apply Z.block_normal)
            | (show W _ _ _ _ _ _; first | apply W.seq | apply W.region | apply W.block | apply W.skip)
            | fail)
          exact Z.again1 (by omega) (by repeat' first | exact trivial | (refine And.intro ?_ ?_) | exact rfl | (rw [e9]; exact rfl))
      obtain rfl : i = fs.length := by omega
      have hlost : dec (lostP n outs fs ks ls fs.length) = true := by
        obtain ⟨i, f, hf, h1, h2⟩ := kept_needed hks hlt
        rw [← hlse] at h2
        exact dec_true ⟨i, f, lt_of_get hf, hf, h1, h2⟩
      rw [hlost]
      repeat' (first
        | (apply W.condKF; exact rfl; (focus (first | exact dec_false (by omega); done)))
        | (show WL _ _ _ _ _ _ _; first | apply WL.nil | (refine WL.au (k := ?_)))
        | (show Z _ _ _ _ _; first | apply Z.then_normal | apply Z.block_normal | apply Z.then_exit | apply Z.block_exit)
        | (show W _ _ _ _ _ _; first | apply W.seq | apply W.region | apply W.skip | apply W.exit | (apply W.condF; exact rfl))
        | fail)
      exact Z.againW ⟨by omega, hX5.trans (hX6.trans hx7)⟩ (by repeat' first | exact trivial | (refine And.intro ?_ ?_) | exact rfl)
    obtain rfl : k = ks.length := by omega
    repeat' (first
      | (apply W.condKF; exact rfl; (focus (exact dec_false (by omega); done)))
      | ((show WL _ _ _ (⟨_, .call ⟨.value (.func 14), _, _⟩, _, _, _, _⟩ :: _) _ _ _); apply WL.callP; exact rfl; exact rfl; exact rfl; exact rfl; exact lives45 _; intro w' hx)
      | (show WL _ _ _ _ _ _ _; first | apply WL.nil | (refine WL.au (k := ?_)))
      | (show Z _ _ _ _ _; first | apply Z.then_normal | apply Z.then_exit | apply Z.block_exit)
      | (show W _ _ _ _ _ _; first | apply W.seq | apply W.region | apply W.ret | apply W.exit)
      | fail)
    exact Z.body1 Tryd.results5 rfl fun m => ⟨rfl, Ext.at (hXw4.trans (hX5.trans (by (exact extA)))) m⟩
  · refine Spec.of _ Tryd.func5 rfl Tryd.ntmps5 (by kernel_rfl) rfl ?_
    repeat' (first
      | ((show WL _ _ _ (⟨_, .call ⟨.value (.func 12), _, _⟩, _, _, _, _⟩ :: _) _ _ _); apply WL.callS; exact rfl; exact rfl; exact rfl; exact rfl; exact law44_Small _ _ _ _ n outs 14 _ (R.ext (by (exact extA))) (Rb.ext (by (exact extA))) (by decide))
      | ((show WL _ _ _ (⟨_, .call ⟨.value (.func 13), _, _⟩, _, _, _, _⟩ :: _) _ _ _); apply WL.callS; exact rfl; exact rfl; exact rfl; exact rfl; exact law45_few _ _ rs 12 _ (Rt.ext (by (exact extA))))
      | ((show WL _ _ _ (⟨_, .call ⟨.value (.func 14), _, _⟩, _, _, _, _⟩ :: _) _ _ _); apply WL.callP; exact rfl; exact rfl; exact rfl; exact rfl; exact lives45 _; intro w' hx)
      | (show WL _ _ _ _ _ _ _; first | apply WL.nil | (refine WL.au (k := ?_)) | (apply WL.guardF; exact rfl; exact rfl) | (apply WL.gD; exact rfl; exact rfl; all_goals intro _) | (apply WL.gN; exact rfl; exact rfl; all_goals intro _))
      | (show Z _ _ _ _ _; first | apply Z.then_normal | apply Z.then_ret)
      | (show W _ _ _ _ _ _; first | apply W.seq | apply W.region | apply W.skip | apply W.ret | (apply W.condT; exact rfl) | (apply W.condN; exact rfl; all_goals intro _))
      | fail)
    all_goals first
      | (exfalso; apply hsm; refine ⟨⟨?_, ?_⟩, ?_⟩ <;> first | omega | assumption; done)
      | exact Z.body1 Tryd.results5 rfl fun m => ⟨rfl, Ext.at (by (exact extA)) m⟩
      | skip
end Go.Proofs.YtlcenenkloicjaaDoor
namespace Go.Proofs.YtlcenenkloicjaaDoor
open Go Go.Lt Go.ChangeShapes Go.WideShapes Go.ChangeAt Go.RowKit
set_option linter.unusedVariables false
set_option linter.unusedSimpArgs false
set_option maxRecDepth 20000
open Go.ChangeMaps (open_string shut_string)
namespace fsimKeeps
theorem own : ownKnob Tryd.prog.godebug = none := by kernel_rfl
theorem laidOut : laidOutB Tryd.prog = true := factLaid
theorem gN : Tryd.prog.globalNamed "math/bits.deBruijn64tab" = some 1 := by kernel_rfl
theorem gT : (Tryd.prog.globals[1]?).map (·.type) = some 76 := by kernel_rfl
theorem door_met (os : Os) (args : Array Value) : laidMetH Tryd.prog [("math/bits.deBruijn64tab", Rows.laid_math_bits_deBruijn64tab)] ((World.doorLaid Tryd.prog 19 os).forCall (fun _ _ => 0) ⟨#[], args, []⟩).memory :=
  laidMetH_of_parts3 (fuel := 8) (laidMet_of_run' 8 (by kernel_rfl) (by kernel_rfl)) (by kernel_rfl) (by kernel_rfl)
theorem of_laid {W : World} (h : laidMetH Tryd.prog [("math/bits.deBruijn64tab", Rows.laid_math_bits_deBruijn64tab)] W) : Cells W 1 0 (([0, 1, 56, 2, 57, 49, 28, 3, 61, 58, 42, 50, 38, 29, 17, 4, 62, 47, 59, 36, 45, 43, 51, 22, 53, 39, 33, 30, 24, 18, 12, 5, 63, 55, 48, 27, 60, 41, 37, 16, 46, 35, 44, 21, 52, 32, 23, 11, 54, 26, 40, 15, 34, 20, 31, 10, 25, 14, 19, 9, 13, 8, 7, 6] : List Int).map (Value.int .u8)) := by
  rw [MakeChecks.laidMetH_plain _ _ _ (by kernel_rfl)] at h
  have hT := Lib.tabIs_of_head (k := .u8) (zs := [0, 1, 56, 2, 57, 49, 28, 3, 61, 58, 42, 50, 38, 29, 17, 4, 62, 47, 59, 36, 45, 43, 51, 22, 53, 39, 33, 30, 24, 18, 12, 5, 63, 55, 48, 27, 60, 41, 37, 16, 46, 35, 44, 21, 52, 32, 23, 11, 54, 26, 40, 15, 34, 20, 31, 10, 25, 14, 19, 9, 13, 8, 7, 6]) gN gT Tryd.underlying76 Tryd.underlying5 (by kernel_rfl) (by kernel_rfl) h
  exact cells_tab (fun i hi => hT.cell gN i hi)
set_option maxRecDepth 100000 in
theorem lifted (os : Os) (started : os.Started) (H : Type) (enc : TypeId × Value → H) :
    ReturnsInHanded {} Tryd.checked os 5 .any (fun w args => (Rows.fsimKeepsSpec.pre enc Tryd.prog Tryd.f5 [] false w args ∧ laidMetH Tryd.prog [("math/bits.deBruijn64tab", Rows.laid_math_bits_deBruijn64tab)] w) ∧ sizedMet enc Tryd.prog Tryd.f5 (OpenSpec.ofChange Rows.fsimKeepsSpec) false w args) (Rows.fsimKeepsSpec.post enc Tryd.prog Tryd.f5 false true false false) := by
  refine returnsInHanded_of_change_and (C := Tryd.checked) (X := fun w _ => laidMetH Tryd.prog [("math/bits.deBruijn64tab", Rows.laid_math_bits_deBruijn64tab)] w) (fun _ _ _ hh h => h.of_heap hh) own started (by kernel_rfl) Tryd.func5
    (ChangeSpec.witness_shaped (enc := enc) (C := Tryd.checked) (os := os) (X := fun w _ => laidMetH Tryd.prog [("math/bits.deBruijn64tab", Rows.laid_math_bits_deBruijn64tab)] w) false (World.doorLaid Tryd.prog 19 os) #[.slice none 0 0, .slice none 0 0, .slice none 0 0, .slice none 0 0] 8 rfl (World.shaped_of_RefB (by kernel_rfl) (by kernel_rfl)) (by kernel_rfl) (by kernel_rfl) (by kernel_rfl) (door_met os _)) ?_
  intro W base args ds gs before hval0 hW hcnd hsz hL _
  have hG := of_laid hL
  have hval : ∀ (j : Nat) t v, Tryd.f5.params[j]? = some t → args[j]? = some v → Value.okWide Tryd.prog W .any base t v := hval0
  have hW' := hW
  obtain ⟨p, q, hA0, hV, rfl, hfz, hnd⟩ := hW
  have hA : DataW.TrodAll enc Tryd.prog W 0 (fun _ => true) true Tryd.f5.params.toList args.toList ds p := hA0
  rw [Tryd.params5] at hA hval
  obtain ⟨v0, vs0, d0, ds0, p0, q0, hargs, rfl, rfl, h0, r0⟩ := trodAll_cons hA
  obtain ⟨v1, vs1, d1, ds1, p1, q1, rfl, rfl, rfl, h1, r1⟩ := trodAll_cons r0
  obtain ⟨v2, vs2, d2, ds2, p2, q2, rfl, rfl, rfl, h2, r2⟩ := trodAll_cons r1
  obtain ⟨v3, vs3, d3, ds3, p3, q3, rfl, rfl, rfl, h3, r3⟩ := trodAll_cons r2
  obtain ⟨rfl, rfl, rfl⟩ := trodAll_nil r3
  obtain rfl : args = #[v0, v1, v2, v3] := by cases args; simp_all
  obtain ⟨rfl, rfl⟩ := trodVars_none hV
  have k0 := h0
  have lt0 : ∀ x ∈ p0, x.block < W.heap.size := by obtain ⟨m, hm⟩ := k0; exact DataW.trod_lt m _ _ _ hm
  have k1 := h1
  have lt1 : ∀ x ∈ p1, x.block < W.heap.size := by obtain ⟨m, hm⟩ := k1; exact DataW.trod_lt m _ _ _ hm
  have k2 := h2
  have lt2 : ∀ x ∈ p2, x.block < W.heap.size := by obtain ⟨m, hm⟩ := k2; exact DataW.trod_lt m _ _ _ hm
  have k3 := h3
  have lt3 : ∀ x ∈ p3, x.block < W.heap.size := by obtain ⟨m, hm⟩ := k3; exact DataW.trod_lt m _ _ _ hm
  obtain ⟨a0, l0, cap0, rfl, hl0, hm0, hna0, R0, w0⟩ := row_of (s := 2) (reads_pair' (s0 := 1) (s1 := 1) Tryd.underlying52 (reads_int Tryd.underlying3) (reads_int Tryd.underlying3) (by kernel_rfl) rfl rfl (by kernel_rfl) (by kernel_rfl)) (by kernel_rfl) Tryd.underlying32 (fun _ => rfl) (by decide) (hval 0 32 v0 rfl rfl) h0
  obtain ⟨a1, l1, cap1, rfl, hl1, hm1, hna1, R1, w1⟩ := row_of (s := 1) (reads_int Tryd.underlying3) (by kernel_rfl) Tryd.underlying22 (fun _ => rfl) (by decide) (hval 1 22 v1 rfl rfl) h1
  obtain ⟨a2, l2, cap2, rfl, hl2, hm2, hna2, R2, w2⟩ := row_of (s := 3) (reads_triple' (s0 := 1) (s1 := 1) (s2 := 1) Tryd.underlying55 (reads_int Tryd.underlying3) (reads_int Tryd.underlying3) (reads_bool Tryd.underlying4) (by kernel_rfl) rfl rfl rfl (by kernel_rfl) (by kernel_rfl) (by kernel_rfl)) (by kernel_rfl) Tryd.underlying33 (fun _ => rfl) (by decide) (hval 2 33 v2 rfl rfl) h2
  obtain ⟨a3, l3, cap3, rfl, hl3, hm3, hna3, R3, w3⟩ := row_of (s := 1) (reads_row (s := 1) (reads_bool Tryd.underlying4) (by kernel_rfl) Tryd.underlying41 (fun _ => rfl) (by decide)) (by kernel_rfl) Tryd.underlying34 (fun _ => rfl) (by decide) (hval 3 34 v3 rfl rfl) h3
  clear hA0 hval0
  refine (Spec.law (law_FsimKeeps a0 a1 a2 a3 cap0 cap1 cap2 cap3 l0 l1 l2 l3 W R0 R1 R2 R3 hna0 hna1 hl3 (fun r hr => ⟨(w3 r hr).1, (w3 r hr).2.1⟩) (fun r hr => (w3 r hr).2.2.2.1) (fun f hf => wf_i64 (w2 f hf).1) hG)).mono fun e W' ⟨he, bel⟩ => ?_
  subst he
  exact ⟨_, rfl, _, _, _, [], _, [], hW', trodAll_mk1 (shut_bool Tryd.underlying4 _), (trodAll_cons_mk (Below.trod laidOut (by kernel_rfl) (of_decide_eq_true (by kernel_rfl)) k0 bel lt0) (trodAll_cons_mk (Below.trod laidOut (by kernel_rfl) (of_decide_eq_true (by kernel_rfl)) k1 bel lt1) (trodAll_cons_mk (Below.trod laidOut (by kernel_rfl) (of_decide_eq_true (by kernel_rfl)) k2 bel lt2) (trodAll_cons_mk (Below.trod laidOut (by kernel_rfl) (of_decide_eq_true (by kernel_rfl)) k3 bel lt3) trodAll_mk0)))), rfl, bel.frame _, fun h => by cases h⟩
theorem j0 : (Rows.fsimKeepsRow.wf (OpenSpec.ofChange Rows.fsimKeepsSpec)) = true := by kernel_rfl
theorem j3 : (Tryd.f5.params.all (Tryd.prog.readableRec ·)) = true := by kernel_rfl
theorem j4 : (namedTie Tryd.prog Rows.fsimKeepsRow.named Rows.fsimKeepsSpec.vars) = true := by kernel_rfl
theorem j5 : ((Rows.fsimKeepsRow.stops == [])) = true := by kernel_rfl
theorem j7 : ((Rows.fsimKeepsRow.knobs == [])) = true := by kernel_rfl
theorem j9 : ((Rows.fsimKeepsRow.inPlace == Tryd.prog.inPlace 5)) = true := by kernel_rfl
theorem j10 : ((Rows.fsimKeepsRow.unfollowed == Tryd.prog.unfollowed 5)) = true := by kernel_rfl
theorem j11 : ((Rows.fsimKeepsRow.recurses == Tryd.prog.recurses 5)) = true := by kernel_rfl
theorem j12 : ((Rows.fsimKeepsRow.named == Tryd.prog.varsNamed 5)) = true := by kernel_rfl
theorem j13 : ((Rows.fsimKeepsRow.maps == (Tryd.f5.params.toList ++ Rows.fsimKeepsSpec.plain.varTypes Tryd.prog).any (Tryd.prog.mapsRec ·))) = true := by kernel_rfl
theorem j14 : ((Rows.fsimKeepsRow.ifaces == (Tryd.f5.params.toList ++ Rows.fsimKeepsSpec.plain.varTypes Tryd.prog).any (Tryd.prog.ifacesRec ·))) = true := by kernel_rfl
theorem j15 : ((Rows.fsimKeepsRow.mapsOut == Tryd.prog.mapsAmong Tryd.f5.resultTypes.toList)) = true := by kernel_rfl
theorem j16 : ((Rows.fsimKeepsRow.loops == (Tryd.f5.params.toList ++ Rows.fsimKeepsSpec.plain.varTypes Tryd.prog).any (Tryd.prog.loopsFrom ·))) = true := by kernel_rfl
theorem j17 : ((Rows.fsimKeepsRow.wideKeys == (Tryd.f5.params.toList ++ Rows.fsimKeepsSpec.plain.varTypes Tryd.prog ++ Tryd.f5.resultTypes.toList).any (Tryd.prog.wideKeysFrom ·))) = true := by kernel_rfl
theorem j18 : (Rows.fsimKeepsSpec.vars.all (Tryd.prog.varReadable ·)) = true := by kernel_rfl
theorem j19 : (Tryd.f5.resultTypes.all (fun t => Tryd.prog.readableRec t && decide (t < Tryd.prog.types.size))) = true := by kernel_rfl
theorem j20 : ((Rows.fsimKeepsRow.ifacesOut == Tryd.f5.resultTypes.toList.any (Tryd.prog.ifacesRec ·))) = true := by kernel_rfl
theorem j21 : ((Rows.fsimKeepsRow.loopsOut == Tryd.f5.resultTypes.toList.any (Tryd.prog.loopsFrom ·))) = true := by kernel_rfl
theorem j22 : ((Rows.fsimKeepsRow.plainKeys == Tryd.prog.plainKeys)) = true := by rw [show Rows.fsimKeepsRow.plainKeys = Rows.triTextsRow.plainKeys by kernel_rfl]; exact factKeys
theorem j23 : (Rows.fsimKeepsRow.shortTexts.isNone) = true := by kernel_rfl
theorem j26 : ((Rows.fsimKeepsRow.lifted == Tryd.prog.liftsFinal)) = true := by rw [show Rows.fsimKeepsRow.lifted = Rows.triTextsRow.lifted by kernel_rfl]; exact factLifts
theorem j27 : ((Tryd.prog.make == some Rows.fsimKeepsRow.make)) = true := by rw [show Rows.fsimKeepsRow.make = Rows.triTextsRow.make by kernel_rfl]; exact factMake
theorem j28 : ((Rows.fsimKeepsRow.kinds == (if Rows.fsimKeepsRow.domain.isEmpty then [] else Tryd.f5.params.toList.map fun t => match Tryd.prog.underlying t with | some (.int k) => some k | _ => none))) = true := by kernel_rfl
theorem j29 : ((Rows.fsimKeepsRow.pinned == Rows.fsimKeepsRow.pinnedBy)) = true := by kernel_rfl
theorem j30 : ((Rows.fsimKeepsRow.veiled == (Tryd.f5.params.toList ++ Rows.fsimKeepsSpec.plain.varTypes Tryd.prog ++ Tryd.f5.resultTypes.toList).any (Tryd.prog.veiledRec ·))) = true := by kernel_rfl
theorem j31 : (Rows.fsimKeepsRow.veiledFits Tryd.prog Tryd.f5.params.toList (Tryd.f5.params.toList ++ Rows.fsimKeepsSpec.plain.varTypes Tryd.prog ++ Tryd.f5.resultTypes.toList)) = true := by kernel_rfl
set_option maxRecDepth 100000 in
theorem closed : joinedFacts Tryd.checked.prog 5 Tryd.f5 Rows.fsimKeepsSpec Rows.fsimKeepsRow = true := by unfold joinedFacts; exact (band (band (band (band (band (band (band (band (band (band (band (band (band (band (band (band (band (band (band (band (band (band (band (band (band (band (band (band (band (band (band j0 factLaid) factMaps) j3) j4) j5) factStops) j7) factKnobs) j9) j10) j11) j12) j13) j14) j15) j16) j17) j18) j19) j20) j21) j22) j23) factHeard) factEnter) j26) j27) j28) j29) j30) j31)
theorem named : Tryd.checked.prog.funcNamed Rows.fsimKeepsRow.func = some 5 := by kernel_rfl
theorem over : Rows.fsimKeepsRow.holds Tryd.pinned (OpenSpec.ofChange Rows.fsimKeepsSpec) :=
  OpenClaim.holds_of_wide 5 Tryd.f5 rfl rfl rfl rfl rfl rfl rfl ⟨rfl, rfl, rfl, rfl, rfl⟩ rfl rfl rfl rfl rfl named Tryd.func5 closed
    (of_decide_eq_true (by kernel_rfl)) (by unfold Func.isWrapper; first | (rw [if_pos (by decide +kernel)]; kernel_rfl) | (rw [if_neg (by decide +kernel)]; exact ⟨rfl, rfl⟩))
    (fun os started H enc _ => lifted os started H enc)
/-- The statement. -/
theorem proved : Rows.FsimKeepsCardSaid :=
  Claim7.holds_tied_plain_at .later [] [.data] true (true, "48c0deb9cac288eb0dd9f0fad882ac34a9a6e4b33cd5699ebdd31122410cfa4c") false
    over (fun _ h => by cases h) (by kernel_rfl) (fun _ h => by cases h) fsimKeeps_row_tie rfl ⟨rfl, rfl⟩ (by kernel_rfl) rfl
    (fun f fn hf hfn => by
      obtain rfl : f = 5 := Option.some.inj (named.symm.trans hf) |>.symm
      obtain rfl : fn = Tryd.f5 := (Option.some.inj (Tryd.func5.symm.trans hfn)).symm
      exact ⟨by kernel_rfl, fun j t ht => by
        rw [Tryd.params5] at ht
        have hm : t ∈ [32, 22, 33, 34] := by simpa using Array.mem_of_getElem? ht
        have hall : ([32, 22, 33, 34].all fun u => !Tryd.prog.wantsStandIn u) = true := by kernel_rfl
        exact (show Tryd.prog.wantsStandIn t = false by simpa using List.all_eq_true.1 hall t hm)⟩)
    (by kernel_rfl)
end fsimKeeps
end Go.Proofs.YtlcenenkloicjaaDoor
