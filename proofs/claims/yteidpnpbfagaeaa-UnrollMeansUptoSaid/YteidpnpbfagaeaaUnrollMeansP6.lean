/- UnrollMeans, where what it reads is of bulk at most 1048576: states, bads and constraints of frames are those of the circuit's steps; that states are unlike, is said. No other conditions. -/
import Derived.Test.YteidpnpbfagaeaaRows
import Derived.Lib.SmallJoins
import Derived.KernelRfl
import Derived.WalkKit
import Derived.ProofKit
import Derived.Deep.Quiet
import Derived.Deep.LoopGhost
import Derived.StillTail
import Derived.Test.YteidpnpbfagaeaaProg
import Derived.OpenShut
import Derived.ShutString
import Derived.ChangeOld
import Derived.Deep.Slices
import Derived.SizedLaws
import Derived.Laws.StructEq
import Derived.Laws.Externs
import Derived.MapKept
import Derived.JoinedCond
import Derived.Test.YteidpnpbfagaeaaUnrollMeansP5
namespace Go.Proofs.Yteidpnpbfagaeaa
open Go Go.Lt Go.RowKit
set_option linter.unusedVariables false
set_option linter.unusedSimpArgs false
set_option maxRecDepth 20000

abbrev BRow := Option Addr × Nat × List Bool
abbrev encR : BRow → List Value := fun r => [.slice r.1 r.2.2.length r.2.1]
theorem encR_ok : Enc 1 encR := ⟨fun _ => rfl, fun x u hu => by simp at hu; subst hu; rfl, by decide⟩
def RowsIn (w : World) (rs : List BRow) : Prop := ∀ r ∈ rs, Row 1 encB w r.1 r.2.2 ∧ r.2.2.length ≤ r.2.1

def growW (v : List (BitVec 64)) (m : Nat) : List (BitVec 64) := v ++ List.replicate (m - v.length) 0#64
def rowTo (v : List (BitVec 64)) (i : Nat) (row : List Bool) : Nat → List (BitVec 64)
 | 0 => v
 | k + 1 => if row.getD k false then (rowTo v i row k).set k ((rowTo v i row k).getD k 0#64 ||| (1#64 <<< i)) else rowTo v i row k
def packTo (rs : List BRow) : Nat → List (BitVec 64)
 | 0 => []
 | i + 1 => rowTo (growW (packTo rs i) (rs.getD i (none, 0, [])).2.2.length) i (rs.getD i (none, 0, [])).2.2 (rs.getD i (none, 0, [])).2.2.length
def pack (rs : List BRow) : List (BitVec 64) := packTo rs (min rs.length 64)
theorem rowTo_len (v : List (BitVec 64)) (i : Nat) (row : List Bool) (k : Nat) : (rowTo v i row k).length = v.length := by
 induction k with
 | zero => rfl
 | succ k ih => unfold rowTo; split <;> simp [ih]
theorem growW_len (v : List (BitVec 64)) (m : Nat) : (growW v m).length = max v.length m := by simp [growW]; omega

theorem sim_Pack (a : Option Addr) (cap : Nat) (rs : List BRow) (w : World) (R : Row 1 encR w a rs) (hc : rs.length ≤ cap) (hRs : RowsIn w rs) (hb : ∀ r ∈ rs, r.2.2.length ≤ 1048576) :
  Lt.Spec Try.prog 147 [.slice a rs.length cap] w (IsFresh 1 encV 179 w (pack rs)) := by
 have hlen := R.len
 have hmm : (min (rs.length : Int) 64).toNat = min rs.length 64 := by omega
 refine Spec.of _ Try.func147 rfl Try.ntmps147 (by kernel_rfl) rfl ?_
 repeat' (first
  | (apply WL.sliceH tOk; (iterate 7 exact rfl); assumption; (first | exact rfl | (focus (simp only [List.length_set]; done)) | (focus (simp; done)) | (focus (simp [*]; done)) | omega | (focus (simp only [List.length_set]; omega))); (first | assumption | omega); (first | omega | (simp; omega) | (simp at *; omega)); intro hR hc)
  | (apply WL.min; (iterate 4 exact rfl))
  | (show WL _ _ _ _ _ _ _; first | apply WL.nil | (refine WL.au (k := ?_)))
  | (show Z _ _ _ _ _; apply Z.then_normal)
  | (show W _ _ _ _ _ _; first | apply W.seq | apply W.region | apply W.block)
  | fail)
 rw [hmm] at hR hc
 have hm : (rs.take (min rs.length 64)).length = min rs.length 64 := by rw [List.length_take]; omega
 refine W.loopO (min rs.length 64) (fun i c cp w' => i ≤ min rs.length 64 ∧ Ext w w' ∧ Own 1 encV 179 w.heap.size w' c cp (packTo rs i))
  (fun i c cp => [(3, .slice c (packTo rs i).length cp), (12, .slice a (rs.take (min rs.length 64)).length cap), (13, .int .i64 (rs.take (min rs.length 64)).length), (14, .int .i64 i)]) none 0 ⟨by omega, Ext.refl w, Own.nil⟩ (fun k c cp w' h => h.1) ⟨rfl, by rw [hmm]; rfl, by rw [hmm]; rfl, rfl, trivial⟩ ?_
 rintro i c cp w' ⟨hi, hx', hO'⟩
 by_cases hlt : i < min rs.length 64
 ·obtain ⟨r, hr⟩ := getI rs (show i < rs.length by omega)
  have hrt : (rs.take (min rs.length 64))[i]? = some r := by rw [List.getElem?_take, if_pos hlt]; exact hr
  have hrr := hRs r (List.mem_of_getElem? hr)
  have hrl := hb r (List.mem_of_getElem? hr)
  have Rr := hrr.1
  have hrd : rs.getD i (none, 0, []) = r := getD_of hr
  have hnext : packTo rs (i + 1) = rowTo (growW (packTo rs i) r.2.2.length) i r.2.2 r.2.2.length := by rw [packTo, hrd]
  generalize packTo rs i = v at *
  repeat' (first
   | (apply W.condKT; exact rfl; (focus (first | exact dec_true (by omega) | exact dec_false (by omega); done)))
   | (show WL _ _ _ _ _ _ _; first | apply WL.nil | (refine WL.au (k := ?_)) | (apply WL.index tOk; (iterate 8 exact rfl); assumption; (exact extA); exact rfl; omega; assumption; intro b off h; have hcc := h; first | (obtain ⟨h1, h2, h3, h4, h5, h6, _⟩ := h) | (obtain ⟨h1, h2, h3, _⟩ := h) | (obtain ⟨h1, h2, _⟩ := h) | (obtain ⟨h1, _⟩ := h)))
   | (show Z _ _ _ _ _; apply Z.then_normal)
   | (show W _ _ _ _ _ _; first | apply W.seq | apply W.region | apply W.block | apply W.skip)
   | fail)
  refine W.loopO (r.2.2.length - v.length) (fun j c cp w' => j ≤ r.2.2.length - v.length ∧ Ext w w' ∧ Own 1 encV 179 w.heap.size w' c cp (v ++ List.replicate j 0#64))
   (fun j c cp => [(3, .slice c (v ++ List.replicate j 0#64).length cp), (4, .int .i64 i), (5, .slice r.1 r.2.2.length r.2.1), (12, .slice a (rs.take (min rs.length 64)).length cap), (13, .int .i64 (rs.take (min rs.length 64)).length), (14, .int .i64 i)]) c cp ⟨by omega, hx', by simpa using hO'⟩ (fun k c cp w' h => h.1) ⟨by rw [List.replicate_zero, List.append_nil]; rfl, rfl, rfl, rfl, rfl, rfl, trivial⟩ ?_
  rintro j c cp w' ⟨hj, hx', hO'⟩
  have hjl : (v ++ List.replicate j 0#64).length = v.length + j := by simp
  by_cases hjt : j < r.2.2.length - v.length
  ·have e1 : v ++ List.replicate (j + 1) 0#64 = (v ++ List.replicate j 0#64) ++ [0#64] := by rw [List.append_assoc, List.replicate_succ']
   repeat' (first
    | (apply W.condKT; exact rfl; (focus (first | exact dec_true (by omega) | exact dec_false (by omega); done)))
    | (apply WL.lit tOk; (iterate 6 exact rfl); (first | exact rfl | kernel_rfl | (simp [Instr.fill, catCells]; done)); exact rfl; intro gb w' hb hge hc hx)
    | ((apply WL.append1 (z := 0#64) tOk encV_ok; (iterate 10 exact rfl); assumption; (first | exact Ext.refl _ | assumption | exact Ext.trans (by assumption) (by assumption)); (first | exact rfl | omega); assumption; exact rfl; exact rfl; (first | exact Ext.refl _ | assumption | exact Ext.trans (by assumption) (by assumption)); omega; intro a' cap' w' hO hX' hU hF))
    | (show WL _ _ _ _ _ _ _; first | apply WL.nil | (refine WL.au (k := ?_)))
    | (show Z _ _ _ _ _; first | apply Z.then_normal | apply Z.block_normal)
    | (show W _ _ _ _ _ _; first | apply W.seq | apply W.region | apply W.block | apply W.skip)
    | fail)
   exact Z.againO a' cap' ⟨by omega, hX', by rw [e1]; exact hO⟩ (by repeat' first | exact trivial | (refine And.intro ?_ ?_) | exact rfl | (rw [e1]; exact rfl))
  ·repeat' (first
    | (apply W.condKF; exact rfl; (focus (first | exact dec_true (by omega) | exact dec_false (by omega); done)))
    | (show WL _ _ _ _ _ _ _; first | apply WL.nil | (refine WL.au (k := ?_)))
    | (show Z _ _ _ _ _; first | apply Z.then_normal | apply Z.then_exit | apply Z.block_exit)
    | (show W _ _ _ _ _ _; first | apply W.seq | apply W.region | apply W.block | apply W.exit)
    | fail)
   obtain rfl : j = r.2.2.length - v.length := by omega
   have hgw : v ++ List.replicate (r.2.2.length - v.length) 0#64 = growW v r.2.2.length := rfl
   rw [hgw] at hO' hjl ⊢
   have hgl := growW_len v r.2.2.length
   refine W.loopW r.2.2.length (fun k w' => k ≤ r.2.2.length ∧ Ext w w' ∧ Own 1 encV 179 w.heap.size w' c cp (rowTo (growW v r.2.2.length) i r.2.2 k))
    (fun k => [(3, .slice c (rowTo (growW v r.2.2.length) i r.2.2 k).length cp), (4, .int .i64 i), (27, .slice r.1 r.2.2.length r.2.1), (28, .int .i64 r.2.2.length), (29, .int .i64 k), (12, .slice a (rs.take (min rs.length 64)).length cap), (13, .int .i64 (rs.take (min rs.length 64)).length), (14, .int .i64 i)]) ⟨by omega, hx', hO'⟩ (fun k w' h => h.1) ⟨rfl, rfl, rfl, rfl, rfl, rfl, rfl, rfl, trivial⟩ ?_
   rintro k w' ⟨hk, hx', hO'⟩
   have hrlen := rowTo_len (growW v r.2.2.length) i r.2.2 k
   by_cases hkt : k < r.2.2.length
   ·obtain ⟨z, hz⟩ := getI r.2.2 hkt
    obtain ⟨u, hu⟩ := getI (rowTo (growW v r.2.2.length) i r.2.2 k) (show k < _ by omega)
    have e0 : rowTo (growW v r.2.2.length) i r.2.2 (k + 1) = if z then (rowTo (growW v r.2.2.length) i r.2.2 k).set k (u ||| (1#64 <<< i)) else rowTo (growW v r.2.2.length) i r.2.2 k := by rw [rowTo, getD_of hz, getD_of hu]
    have e5 : (rowTo (growW v r.2.2.length) i r.2.2 (k + 1)).length = (rowTo (growW v r.2.2.length) i r.2.2 k).length := by rw [rowTo_len, rowTo_len]
    repeat' (first
     | (apply W.condKT; exact rfl; (focus (first | exact dec_true (by omega) | exact dec_false (by omega); done)))
     | (apply QL.uor; (iterate 4 exact rfl); (first | exact rfl | exact u64_lit _ (by omega)); (first | exact rfl | exact u64_lit _ (by omega)))
     | (apply QL.ushl; (iterate 4 exact rfl); (first | exact rfl | exact u64_lit _ (by omega)); omega)
     | (apply W.regionQS 8 tMix; kernel_rfl; exact rfl; kernel_rfl; kernel_rfl)
     | (apply QL.indexO tOk; (iterate 8 exact rfl); assumption; (exact extA); exact encV_ok; (first | exact rfl | (focus (simp only [List.length_set]; done)) | (focus (simp; done)) | (focus (simp [*]; done)) | omega | (focus (simp only [List.length_set]; omega))); omega; assumption; intro gb ha hc; cases ha; have hcc := hc; first | (obtain ⟨h1, h2, h3, _⟩ := hc) | (obtain ⟨h1, h2, _⟩ := hc) | (obtain ⟨h1, _⟩ := hc))
     | (apply WL.storeO tOk; (iterate 4 exact rfl); assumption; (exact extA); (iterate 3 exact rfl); exact encV_ok; assumption; exact rfl; (exact extA); intro w' hO hX' hU)
     | (show WL _ _ _ _ _ _ _; first | apply WL.nil | (refine WL.au (k := ?_)) | (apply WL.index tOk; (iterate 8 exact rfl); assumption; (exact extA); exact rfl; omega; assumption; intro b off h; have hcc := h; first | (obtain ⟨h1, h2, h3, h4, h5, h6, _⟩ := h) | (obtain ⟨h1, h2, h3, _⟩ := h) | (obtain ⟨h1, h2, _⟩ := h) | (obtain ⟨h1, _⟩ := h)))
     | (show QL _ _ _ _ _ _ _; first | apply QL.nil | (refine QL.au (k := ?_)))
     | (show Z _ _ _ _ _; first | apply Z.tail | apply Z.then_normal | apply Z.block_normal)
     | (show W _ _ _ _ _ _; first | apply W.seq | apply W.region | apply W.block | apply W.skip | (apply W.condB; exact rfl; all_goals intro _))
     | fail)
    ·have hz1 : z = true := by assumption
     rw [hz1, if_pos rfl] at e0
     simp only [Int.toNat_natCast, show BitVec.ofInt 64 1 = 1#64 from rfl] at hO
     rw [← e0] at hO
     exact Z.againW ⟨by omega, hX', hO⟩ (by repeat' first | exact trivial | (refine And.intro ?_ ?_) | exact rfl | (rw [e5]; exact rfl))
    ·have hz1 : z = false := by assumption
     rw [hz1, if_neg (by decide)] at e0
     exact Z.againW ⟨by omega, hx', by rw [e0]; exact hO'⟩ (by repeat' first | exact trivial | (refine And.intro ?_ ?_) | exact rfl | (rw [e5]; exact rfl))
   ·repeat' (first
     | (apply W.condKF; exact rfl; (focus (first | exact dec_true (by omega) | exact dec_false (by omega); done)))
     | (show WL _ _ _ _ _ _ _; first | apply WL.nil | (refine WL.au (k := ?_)))
     | (show Z _ _ _ _ _; first | apply Z.then_normal | apply Z.block_normal | apply Z.then_exit | apply Z.block_exit)
     | (show W _ _ _ _ _ _; first | apply W.seq | apply W.region | apply W.exit)
     | fail)
    obtain rfl : k = r.2.2.length := by omega
    exact Z.againO c cp ⟨by omega, hx', by rw [hnext]; exact hO'⟩ (by repeat' first | exact trivial | (refine And.intro ?_ ?_) | exact rfl | (rw [hnext]; exact rfl))
 ·repeat' (first
   | (apply W.condKF; exact rfl; (focus (first | exact dec_true (by omega) | exact dec_false (by omega); done)))
   | (show WL _ _ _ _ _ _ _; first | apply WL.nil | (refine WL.au (k := ?_)))
   | (show Z _ _ _ _ _; first | apply Z.then_normal | apply Z.then_exit | apply Z.block_exit)
   | (show W _ _ _ _ _ _; first | apply W.seq | apply W.region | apply W.ret | apply W.exit)
   | fail)
  obtain rfl : i = min rs.length 64 := by omega
  exact Z.body1 Try.results147 rfl fun m => ⟨hx'.at m, c, cp, rfl, hO'⟩
end Go.Proofs.Yteidpnpbfagaeaa
namespace Go.Proofs.Yteidpnpbfagaeaa
open Go Go.Lt Go.RowKit
set_option linter.unusedVariables false
set_option linter.unusedSimpArgs false
set_option maxRecDepth 20000

abbrev bitsOf (v : List (BitVec 64)) (i : Nat) : List Bool := v.map (fun u => u.getLsbD i)
theorem getD_bits (v : List (BitVec 64)) (i k : Nat) : (bitsOf v i).getD k false = (v.getD k 0#64).getLsbD i := by
 simp only [List.getD, bitsOf, List.getElem?_map]
 cases v[k]? <;> simp
theorem bit_wordOf {v : List (BitVec 64)} {l : Int} {i : Nat} (hv : v.getD 0 0#64 = 0#64) (h0 : 0 ≤ l) (h1 : l / 2 < v.length) (hi : i < 64) : (wordOf v l).getLsbD i = ofL (bitsOf v i) l := by
 rw [wordOf, if_neg (by omega), ofL, getD_bits]
 have hw : (if 0 < l / 2 then v.getD (l / 2).toNat 0#64 else 0#64) = v.getD (l / 2).toNat 0#64 := by
  split
  ·rfl
  ·rw [show (l / 2).toNat = 0 by omega, hv]
 rw [hw]
 split
 ·simp [*]
 ·simp [*]
theorem wto_head (n : List (Int × Int)) (W : List (BitVec 64)) : ∀ k, k ≤ n.length → (wto n W k).1.getD 0 0#64 = 0#64
 | 0, _ => by simp [wto]
 | k + 1, h => by
  obtain ⟨x, hx⟩ := getI n (show k < n.length by omega)
  have ih := wto_head n W k (by omega)
  have hl := wto_len n W k (by omega)
  rw [wto_succ W hx]; unfold wstep
  have happ : ∀ y : BitVec 64, ((wto n W k).1 ++ [y]).getD 0 0#64 = (wto n W k).1.getD 0 0#64 := fun y => by
   simp only [List.getD]
   rw [List.getElem?_append_left (by omega)]
  split <;> simp only [happ, ih]
theorem bits_to {n : List (Int × Int)} (hg : GoodNet n) (W : List (BitVec 64)) {i : Nat} (hi : i < 64) : ∀ k, k ≤ n.length → bitsOf (wto n W k).1 i = (vto n (bitsOf W i) k).1 ∧ (wto n W k).2 = (vto n (bitsOf W i) k).2
 | 0, _ => by simp [wto, vto, bitsOf]
 | k + 1, h => by
  obtain ⟨x, hx⟩ := getI n (show k < n.length by omega)
  obtain ⟨ih1, ih2⟩ := bits_to hg W hi k (by omega)
  have hl := wto_len n W k (by omega)
  have hh := wto_head n W k (by omega)
  rw [wto_succ W hx, vto_succ (bitsOf W i) hx]; unfold wstep vstep
  by_cases h0 : 0 ≤ x.1
  ·have hgt := hg.gate hx h0
   rw [if_pos h0, if_neg (by omega)]
   refine ⟨?_, ih2⟩
   show bitsOf ((wto n W k).1 ++ [_]) i = _
   rw [bitsOf, List.map_append, List.map_cons, List.map_nil, ← bitsOf, ih1, BitVec.getLsbD_and, bit_wordOf hh h0 (by omega) hi, bit_wordOf hh (by omega) (by omega) hi, ih1]
  ·rw [if_neg h0, if_pos (by omega)]
   refine ⟨?_, by show _ + 1 = _ + 1; rw [ih2]⟩
   show bitsOf ((wto n W k).1 ++ [_]) i = _
   rw [bitsOf, List.map_append, List.map_cons, List.map_nil, ← bitsOf, ih1, ← ih2, ← getD_bits]
theorem bits_wvalues {n : List (Int × Int)} (hg : GoodNet n) (W : List (BitVec 64)) {i : Nat} (hi : i < 64) : bitsOf (wvalues n W) i = values n (bitsOf W i) := (bits_to hg W hi n.length (Nat.le_refl _)).1

theorem getD_set {α : Type} (l : List α) (k q : Nat) (y d : α) : (l.set k y).getD q d = if q = k ∧ q < l.length then y else l.getD q d := by
 simp only [List.getD, List.getElem?_set]
 by_cases h : k = q
 ·subst h
  by_cases h2 : k < l.length
  ·simp [h2]
  ·simp [h2]
 ·rw [if_neg h, if_neg (fun hh => h hh.1.symm)]
theorem bit_pow (u : BitVec 64) (i t : Nat) (hi : i < 64) : (u ||| (1#64 <<< i)).getLsbD t = (u.getLsbD t || decide (t = i)) := by
 have h : (1#64 <<< i).getLsbD t = decide (t = i) := by
  show (BitVec.twoPow 64 i).getLsbD t = _
  rw [BitVec.getLsbD_twoPow]
  simp [hi, eq_comm]
 rw [BitVec.getLsbD_or, h]
theorem rowTo_bit (v : List (BitVec 64)) (i : Nat) (row : List Bool) (q t : Nat) (hi : i < 64) (ht : t < 64) : ∀ k, ((rowTo v i row k).getD q 0#64).getLsbD t = ((v.getD q 0#64).getLsbD t || (decide (t = i ∧ q < k ∧ q < v.length) && row.getD q false))
 | 0 => by simp [rowTo]
 | k + 1 => by
  have ih := rowTo_bit v i row q t hi ht k
  have hl := rowTo_len v i row k
  unfold rowTo
  by_cases hr : row.getD k false = true
  ·rw [if_pos hr, getD_set]
   by_cases hqk : q = k ∧ q < (rowTo v i row k).length
   ·obtain ⟨rfl, hq⟩ := hqk
    rw [if_pos ⟨rfl, hq⟩, bit_pow _ _ _ hi, ih, hr]
    rw [hl] at hq
    simp [hq]
   ·rw [if_neg hqk, ih]
    congr 2
    rw [decide_eq_decide]
    rw [hl] at hqk
    omega
  ·rw [if_neg hr, ih]
   by_cases hqk : q = k
   ·subst hqk
    have : row.getD q false = false := by simpa using hr
    rw [this]; simp
   ·congr 2
    rw [decide_eq_decide]
    omega
theorem grow_get (v : List (BitVec 64)) (m q : Nat) : (growW v m).getD q 0#64 = v.getD q 0#64 := by
 simp only [growW, List.getD, List.getElem?_append]
 split
 ·rfl
 ·rename_i h
  rw [List.getElem?_eq_none (l := v) (by omega), List.getElem?_replicate]
  split <;> rfl
theorem pack_bit (rs : List BRow) (q t : Nat) (ht : t < 64) : ∀ i, i ≤ 64 → ((packTo rs i).getD q 0#64).getLsbD t = (decide (t < i) && (rs.getD t (none, 0, [])).2.2.getD q false)
 | 0, _ => by simp [packTo]
 | i + 1, h => by
  rw [packTo, rowTo_bit _ _ _ _ _ (by omega) ht, grow_get, pack_bit rs q t ht i (by omega), growW_len]
  by_cases hti : t = i
  ·subst hti
   by_cases hq : q < (rs.getD t (none, 0, [])).2.2.length
   ·have : q < max (packTo rs t).length (rs.getD t (none, 0, [])).2.2.length := by omega
    rw [decide_eq_true (show t = t ∧ q < _ ∧ q < _ from ⟨rfl, hq, this⟩), decide_eq_true (Nat.lt_succ_self t)]
    simp
   ·have : (rs.getD t (none, 0, [])).2.2.getD q false = false := by rw [List.getD, List.getElem?_eq_none (by omega)]; rfl
    rw [this]; simp
  ·have h1 : decide (t < i + 1) = decide (t < i) := by rw [decide_eq_decide]; omega
   rw [h1]; simp [hti]

theorem sim_Eval (a b : Option Addr) (cap cb : Nat) (n : List (Int × Int)) (ins : List Bool) (w : World) (R : Row 2 encN w a n) (Rb : Row 1 encB w b ins) (hcb : ins.length ≤ cb) (hg : GoodNet n) (hn : n.length ≤ 1000000) (hi : ins.length ≤ 1048576) :
  Lt.Spec Try.prog 95 [.slice a n.length cap, .slice b ins.length cb] w (IsFresh 1 encB 4 w (values n ins)) := by
 have hpk : (pack [(b, cb, ins)]).length = ins.length := by
  show (rowTo (growW [] ins.length) 0 ins ins.length).length = _
  rw [rowTo_len, growW_len]; simp
 have hpb : bitsOf (pack [(b, cb, ins)]) 0 = ins := by
  apply List.ext_getElem?
  intro q
  by_cases hq : q < ins.length
  ·have h1 := pack_bit [(b, cb, ins)] q 0 (by omega) 1 (by omega)
   have h2 : ((pack [(b, cb, ins)]).getD q 0#64).getLsbD 0 = ins.getD q false := by
    show ((packTo [(b, cb, ins)] 1).getD q 0#64).getLsbD 0 = _
    rw [h1]; rfl
   rw [← getD_bits] at h2
   have hbl : (bitsOf (pack [(b, cb, ins)]) 0).length = ins.length := by rw [bitsOf, List.length_map, hpk]
   obtain ⟨x, hx⟩ := getI (bitsOf (pack [(b, cb, ins)]) 0) (show q < _ by omega)
   obtain ⟨y, hy⟩ := getI ins hq
   rw [getD_of hx, getD_of hy] at h2
   rw [hx, hy, h2]
  ·rw [List.getElem?_eq_none (by rw [bitsOf, List.length_map, hpk]; omega), List.getElem?_eq_none (by omega)]
 have hwl : (wvalues n (pack [(b, cb, ins)])).length = n.length + 1 := (wto_len n _ n.length (Nat.le_refl _)).1
 refine Spec.of _ Try.func95 rfl Try.ntmps95 (by kernel_rfl) rfl ?_
 repeat' (first
  | (apply WL.lit tOk; (iterate 6 exact rfl); (first | exact rfl | kernel_rfl | (simp [Instr.fill, catCells]; done)); exact rfl; intro gb w' hb hge hc hx; have hO := Own.of_block ([(b, cb, ins)]) encR_ok hb hge rfl)
  | (show WL _ _ _ _ _ _ _; first | apply WL.nil | (refine WL.au (k := ?_)))
  | (show Z _ _ _ _ _; apply Z.then_normal)
  | (show W _ _ _ _ _ _; first | apply W.seq | apply W.region)
  | fail)
 have hrs : RowsIn w' [(b, cb, ins)] := fun r hr => by
  have : r = (b, cb, ins) := by simpa using hr
  subst this; exact ⟨Rb.ext hx, hcb⟩
 have hbs : ∀ r ∈ [((b, cb, ins) : BRow)], r.2.2.length ≤ 1048576 := fun r hr => by
  have : r = (b, cb, ins) := by simpa using hr
  subst this; exact hi
 have R1 := R.ext hx
 have hx2 := hx
 repeat' (first
  | ((show WL _ _ _ (⟨_, .call ⟨.value (.func 147), _, _⟩, _, _, _, _⟩ :: _) _ _ _); apply WL.call; (iterate 4 exact rfl); exact sim_Pack _ _ [(b, cb, ins)] _ (Own.row encR_ok (by assumption)) (Nat.le_refl _) hrs hbs; rintro v' w' ⟨hx, a', cap', rfl, hO⟩)
  | fail)
 have hO1 := hO
 have hx1 := hx
 repeat' (first
  | ((show WL _ _ _ (⟨_, .call ⟨.value (.func 146), _, _⟩, _, _, _, _⟩ :: _) _ _ _); apply WL.call; (iterate 4 exact rfl); exact sim_Words _ _ _ _ _ (pack [(b, cb, ins)]) _ (R1.ext hx1) (Own.row encV_ok hO1) hO1.capLe hg (by omega); rintro v' w' ⟨hx, a', cap', rfl, hO⟩)
  | fail)
 have hx3 := hx
 repeat' (first
  | ((show WL _ _ _ (⟨_, .call ⟨.value (.func 145), _, _⟩, _, _, _, _⟩ :: _) _ _ _); apply WL.call; (iterate 4 exact rfl); exact sim_Lane _ _ (wvalues n (pack [(b, cb, ins)])) _ _ (Own.row encV_ok (by assumption)) (by omega); rintro v' w' ⟨hx, a', cap', rfl, hO⟩)
  | (show WL _ _ _ _ _ _ _; first | apply WL.nil | (refine WL.au (k := ?_)))
  | (show Z _ _ _ _ _; apply Z.then_normal)
  | (show W _ _ _ _ _ _; apply W.ret)
  | fail)
 have hl : laneOf (wvalues n (pack [(b, cb, ins)])) 0 = values n ins := by
  rw [laneOf, if_neg (by omega)]
  show bitsOf _ 0 = _
  rw [bits_wvalues hg _ (by omega), hpb]
 rw [hl] at hO
 refine Z.body1 Try.results95 rfl fun m => ⟨(hx2.trans (hx1.trans (hx3.trans hx))).at m, a', cap', by rw [hl], hO.base (Nat.le_trans hx2.size (Nat.le_trans hx1.size hx3.size))⟩
end Go.Proofs.Yteidpnpbfagaeaa
namespace Go.Proofs.Yteidpnpbfagaeaa
open Go Go.Lt Go.RowKit
set_option linter.unusedVariables false
set_option linter.unusedSimpArgs false
set_option maxRecDepth 20000

structure MAt (w : World) (gm : Nat) (c : Circ) (rn : RowV (Int × Int)) (ra : RowV Int) : Prop where
 cells : Cells w gm 0 (c.vals ++ [rowVal rn, rowVal ra])
 cat : CAt w c
 net : Row 2 encN w rn.1 rn.2.2
 at_ : Row 1 encI w ra.1 ra.2.2
 en : rn.2.2 = (cNet c.t).1
 ea : ra.2.2 = (cNet c.t).2
 good : GoodC' c.t
 size : SzC c.t 100000
theorem MAt.ext {w w' : World} {gm : Nat} {c : Circ} {rn : RowV (Int × Int)} {ra : RowV Int} (h : MAt w gm c rn ra) (hx : Ext w w') : MAt w' gm c rn ra :=
 ⟨h.cells.ext hx, h.cat.ext hx, h.net.ext hx, h.at_.ext hx, h.en, h.ea, h.good, h.size⟩

theorem ref17_Brought (a : Option Addr) (cap : Nat) (l : List Bool) (m : Nat) (w : World) (R : Row 1 encB w a l) (hm : m ≤ 1048576) :
  Lt.Spec Try.prog 16 [.slice a l.length cap, .int .i64 (m : Nat)] w (IsFresh 1 encB 4 w (brV l m)) := by
 have hlen := R.len
 refine Spec.of _ Try.func16 rfl Try.ntmps16 (by kernel_rfl) rfl ?_
 repeat' (first
  | (apply WL.lit (len := 0) tOk; (iterate 6 exact rfl); (first | exact rfl | kernel_rfl | (simp [Instr.fill, catCells]; done)); exact rfl; intro gb w' hb hge hc hx; have hO0 := Own.of_block0 (enc := encB) (s := 1) hb hge)
  | (show WL _ _ _ _ _ _ _; first | apply WL.nil | (refine WL.au (k := ?_)))
  | (show Z _ _ _ _ _; apply Z.then_normal)
  | (show W _ _ _ _ _ _; first | apply W.seq | apply W.region | apply W.block)
  | fail)
 refine W.loopO m (fun k d dp w' => k ≤ m ∧ Ext w w' ∧ Own 1 encB 4 w.heap.size w' d dp (brV l k)) (fun k d dp => [(0, .slice a l.length cap), (1, .int .i64 (m : Nat)), (5, .slice d (brV l k).length dp), (6, .int .i64 k)]) (some ⟨gb, 0, none⟩) 0 ⟨Nat.zero_le _, hx, hO0⟩ (fun k d dp w' h => h.1) ⟨rfl, rfl, rfl, rfl, trivial⟩ ?_
 rintro k d dp w' ⟨hk, hx', hO'⟩
 have hbl := brV_len l k
 have e1 := brV_succ l k
 by_cases hlt : k < m
 ·by_cases hkl : k < l.length
  ·obtain ⟨z, hz⟩ := getI l hkl
   rw [getD_of hz] at e1
   repeat' (first
    | (apply WL.gT; exact rfl; exact rfl; (focus (first | exact dec_true (by omega); done)))
    | (apply W.condKT; exact rfl; (focus (first | exact dec_true (by omega); done)))
    | (apply WL.lit tOk; (iterate 6 exact rfl); (first | exact rfl | kernel_rfl | (simp [Instr.fill, catCells]; done)); exact rfl; intro gb w' hb hge hc hx)
    | (apply WL.append1 (z := (z)) tOk encB_ok; (iterate 10 exact rfl); assumption; (exact extA); (first | exact rfl | (focus (simp only [List.length_set]; done)) | (focus (simp; done)) | (focus (simp [*]; done)) | omega | (focus (simp only [List.length_set]; omega))); (first | assumption | (refine Cells.ext ?_ (by assumption); exact extA)); exact rfl; exact rfl; (exact extA); (first | omega | (simp; omega) | (simp at *; omega)); intro a' cap' w' hO hX' hU hF)
    | (show WL _ _ _ _ _ _ _; first | apply WL.nil | (refine WL.au (k := ?_)) | (apply WL.index tOk; (iterate 8 exact rfl); assumption; (exact extA); exact rfl; omega; assumption; intro b off h; have hcc := h; first | (obtain ⟨h1, h2, h3, h4, h5, h6, _⟩ := h) | (obtain ⟨h1, h2, h3, _⟩ := h) | (obtain ⟨h1, h2, _⟩ := h) | (obtain ⟨h1, _⟩ := h)))
    | (show Z _ _ _ _ _; first | apply Z.then_normal | apply Z.block_normal)
    | (show W _ _ _ _ _ _; first | apply W.seq | apply W.region | apply W.block | apply W.skip)
    | fail)
   exact Z.againO a' cap' ⟨by omega, hX', by rw [e1]; exact hO⟩ (by repeat' first | exact trivial | (refine And.intro ?_ ?_) | exact rfl | (rw [e1]; exact rfl))
  ·rw [List.getD, List.getElem?_eq_none (by omega)] at e1
   have e1 : brV l (k + 1) = brV l k ++ [false] := e1
   repeat' (first
    | (apply WL.gF; exact rfl; exact rfl; (focus (first | exact dec_true (by omega) | exact dec_false (by omega); done)))
    | (apply W.condKT; exact rfl; (focus (first | exact dec_true (by omega) | exact dec_false (by omega); done)))
    | (apply WL.lit tOk; (iterate 6 exact rfl); (first | exact rfl | kernel_rfl | (simp [Instr.fill, catCells]; done)); exact rfl; intro gb w' hb hge hc hx)
    | (apply WL.append1 (z := (false)) tOk encB_ok; (iterate 10 exact rfl); assumption; (exact extA); (first | exact rfl | (focus (simp only [List.length_set]; done)) | (focus (simp; done)) | (focus (simp [*]; done)) | omega | (focus (simp only [List.length_set]; omega))); (first | assumption | (refine Cells.ext ?_ (by assumption); exact extA)); exact rfl; exact rfl; (exact extA); (first | omega | (simp; omega) | (simp at *; omega)); intro a' cap' w' hO hX' hU hF)
    | (show WL _ _ _ _ _ _ _; first | apply WL.nil | (refine WL.au (k := ?_)) | (apply WL.guardF; exact rfl; exact rfl))
    | (show Z _ _ _ _ _; first | apply Z.then_normal | apply Z.block_normal)
    | (show W _ _ _ _ _ _; first | apply W.seq | apply W.region | apply W.block | apply W.skip)
    | fail)
   exact Z.againO a' cap' ⟨by omega, hX', by rw [e1]; exact hO⟩ (by repeat' first | exact trivial | (refine And.intro ?_ ?_) | exact rfl | (rw [e1]; exact rfl))
 ·obtain rfl : k = m := by omega
  repeat' (first
   | (apply W.condKF; exact rfl; (focus (exact dec_false (by omega); done)))
   | (show WL _ _ _ _ _ _ _; first | apply WL.nil | (refine WL.au (k := ?_)))
   | (show Z _ _ _ _ _; first | apply Z.then_normal | apply Z.then_exit | apply Z.block_exit)
   | (show W _ _ _ _ _ _; first | apply W.seq | apply W.region | apply W.ret | apply W.exit)
   | fail)
  exact Z.body1 Try.results16 rfl fun m => ⟨hx'.at m, d, dp, rfl, hO'⟩

set_option maxHeartbeats 4000000 in
theorem ref17_Lit (gm : Nat) (c : Circ) (rn : RowV (Int × Int)) (ra : RowV Int) (a b : Option Addr) (ca cb : Nat) (s i : List Bool) (l : Int) (w : World) (hM : MAt w gm c rn ra) (Rs : Row 1 encB w a s) (Ri : Row 1 encB w b i) (hl : l ∈ c.t.used) :
  Pure Try.prog 71 [.pointer (some ⟨gm, 0, none⟩), .slice a s.length ca, .slice b i.length cb, .int .i64 l] w (.bool (litV c.t s i l)) := by
 obtain ⟨hcells, hC, Rn, Ra, en, ea, hg, hz⟩ := hM
 have hcells0 := hcells
 obtain ⟨y0, y1, y2, y3, y4, y5, y6, y7, y8, y9, y10, _⟩ := hcells
 have hnl := Nat.le_trans (net_len hg hz) (show 300000 ≤ 1048576 by omega)
 have hng := (cNet_ok hg).2
 rw [← en] at hnl hng
 obtain ⟨z, z1, z2, z3, z4⟩ := net_lit hg hl
 have hlu := hg.used l hl
 have hmx := hg.max
 rw [← ea] at z1
 rw [← en] at z4
 have k1 : c.ins.2.2.length ≤ 100000 := hz.1
 have k2 : c.lat.2.2.length ≤ 100000 := hz.2.1
 have b1 := brV_len i c.ins.2.2.length
 have b2 := brV_len s c.lat.2.2.length
 have hvl := values_len' rn.2.2 (brV i c.ins.2.2.length ++ brV s c.lat.2.2.length)
 have ez : litV c.t s i l = (ofL (values rn.2.2 (brV i c.ins.2.2.length ++ brV s c.lat.2.2.length)) z != decide (l % 2 = 1)) := by
  rw [litV_ref z1 z2, en, ea]; rfl
 refine Spec.of _ Try.func71 rfl Try.ntmps71 (by kernel_rfl) rfl ?_
 repeat' (first
  | (apply FL.nilc; (iterate 3 exact rfl))
  | (show W _ _ (.region 1 _ _) _ _ _; apply W.regionGX (.fl true 0 (.fl true 1 (.fl true 2 (.fl true 3 (.fl true 4 (.fl true 8 (.fl true 9 (.fl true 10 (.fl true 11 (.fl true 12 (.fl false 5 (.fl true 6 (.fl false 13 (.fl true 14 (.br 7 (.br 15 (.br 16 (.fl true 17 .done) .stop) .stop) .stop))))))))))))))) [7, 13, 14, 15, 16] tMix; kernel_rfl)
  | ((show WL _ _ _ (⟨_, .call ⟨.value (.func 16), _, _⟩, _, _, _, _⟩ :: _) _ _ _); apply WL.call; (iterate 4 exact rfl); exact ref17_Brought _ _ i c.ins.2.2.length _ (Ri.ext extA) (by omega); rintro v' w' ⟨hx, a', cap', rfl, hO⟩; (obtain ⟨hO1, rfl⟩ : ∃ x, x = hO := ⟨_, rfl⟩; obtain ⟨a1, rfl⟩ : ∃ x, x = a' := ⟨_, rfl⟩; obtain ⟨c1, rfl⟩ : ∃ x, x = cap' := ⟨_, rfl⟩; obtain ⟨w1, rfl⟩ : ∃ x, x = w' := ⟨_, rfl⟩))
  | ((show WL _ _ _ (⟨_, .call ⟨.value (.func 16), _, _⟩, _, _, _, _⟩ :: _) _ _ _); apply WL.call; (iterate 4 exact rfl); exact ref17_Brought _ _ s c.lat.2.2.length _ (Rs.ext extA) (by omega); rintro v' w' ⟨hx, a', cap', rfl, hO⟩; (obtain ⟨hO2, rfl⟩ : ∃ x, x = hO := ⟨_, rfl⟩; obtain ⟨a2, rfl⟩ : ∃ x, x = a' := ⟨_, rfl⟩; obtain ⟨c2, rfl⟩ : ∃ x, x = cap' := ⟨_, rfl⟩; have R2 := hO2.row encB_ok; have n2 := hO2.noneCap))
  | (apply WL.appendS tOk encB_ok; (iterate 10 exact rfl); assumption; (exact extA); (first | exact rfl | (focus (simp only [List.length_set]; done)) | (focus (simp; done)) | (focus (simp [*]; done)) | omega | (focus (simp only [List.length_set]; omega))); assumption; (exact extA); (first | exact rfl | (focus (simp only [List.length_set]; done)) | (focus (simp; done)) | (focus (simp [*]; done)) | omega | (focus (simp only [List.length_set]; omega))); (first | assumption | (intro h; cases h) | exact Own.noneCap (by assumption)); exact rfl; (exact extA); (first | omega | (simp; omega) | (simp at *; omega)); intro a' cap' w' hO hX' hU hF)
  | (show SX _ _ _ _ _ _ _ _ _; first | (apply SX.done; intro w' hx) | (apply SX.fl0; exact rfl) | (apply SX.fl1; exact rfl; (exact extA)) | (apply SX.br1; exact rfl; intro w' hx))
  | (show FL _ _ _ _ _ _ _ _; first | apply FL.nilX | (apply FL.loadE tOk; (iterate 5 exact rfl); (first | assumption | (focus (apply Ext.cell; rotate_left; assumption; exact extA; done)))))
  | (show FL _ _ _ _ _ _ _ _; (refine FL.au (k := ?_)))
  | (show Z _ _ _ _ _; (apply Z.sxE; (exact extA)))
  | (show WL _ _ _ _ _ _ _; first | apply WL.nil | (refine WL.au (k := ?_)))
  | (show Z _ _ _ _ _; apply Z.then_normal)
  | (show W _ _ _ _ _ _; first | apply W.seq | apply W.region)
  | fail)
 obtain ⟨w5, rfl⟩ : ∃ x, x = w' := ⟨_, rfl⟩; obtain ⟨a5, rfl⟩ : ∃ x, x = a' := ⟨_, rfl⟩; obtain ⟨c5, rfl⟩ : ∃ x, x = cap' := ⟨_, rfl⟩
 have hX5 : Ext w w5 := extA
 have Rv := hO.row encB_ok
 have Ra5 := Ra.ext hX5
 clear y0 y1 y2 y3 y4 y5 y6 y7 y8 y9 y10
 have hcells := hcells0.ext hX5
 obtain ⟨y0, y1, y2, y3, y4, y5, y6, y7, y8, y9, y10, _⟩ := hcells
 repeat' (first
  | (apply FL.nilc; (iterate 3 exact rfl))
  | (show W _ _ (.region 2 _ _) _ _ _; apply W.regionGX (.fl true 0 (.fl true 1 (.fl true 2 (.fl true 4 (.fl true 6 (.fl true 7 (.fl true 8 (.fl true 10 (.fl true 11 (.fl true 15 (.fl true 16 (.fl true 17 (.fl false 3 (.fl false 9 (.fl true 12 (.fl false 13 (.br 5 (.br 14 (.fl true 18 (.fl true 19 .done)) .stop) .stop))))))))))))))))) [5, 9, 12, 13, 14, 18] tMix; kernel_rfl)
  | ((show WL _ _ _ (⟨_, .call ⟨.value (.func 22), _, _⟩, _, _, _, _⟩ :: _) _ _ _); apply WL.call; (iterate 4 exact rfl); exact ref07_Values _ _ _ _ rn.2.2 _ _ (Rn.ext extA) (Rv.ext extA) hng hnl; rintro v' w' ⟨hx, a', cap', rfl, hO⟩; (obtain ⟨hOv, rfl⟩ : ∃ x, x = hO := ⟨_, rfl⟩; obtain ⟨av, rfl⟩ : ∃ x, x = a' := ⟨_, rfl⟩; obtain ⟨cv, rfl⟩ : ∃ x, x = cap' := ⟨_, rfl⟩; have RV := hOv.row encB_ok))
  | ((show WL _ _ _ (⟨_, .call ⟨.value (.func 40), _, _⟩, _, _, _, _⟩ :: _) _ _ _); apply WL.callS; (iterate 4 exact rfl); exact ref07_Of _ _ _ z _ (RV.ext extA) ⟨z2, by omega, by omega⟩)
  | (show SX _ _ _ _ _ _ _ _ _; first | (apply SX.done; intro w' hx) | (apply SX.fl0; exact rfl) | (apply SX.fl1; exact rfl; (exact extA)) | (apply SX.br1; exact rfl; intro w' hx))
  | (show FL _ _ _ _ _ _ _ _; first | apply FL.nilX | (apply FL.loadE tOk; (iterate 5 exact rfl); (first | assumption | (focus (apply Ext.cell; rotate_left; assumption; exact extA; done)))) | (apply FL.indexE tOk; (iterate 8 exact rfl); assumption; exact rfl; omega; assumption; intro b off h; have hcc := h; first | (obtain ⟨h1, h2, h3, h4, h5, h6, _⟩ := h) | (obtain ⟨h1, h2, h3, _⟩ := h) | (obtain ⟨h1, h2, _⟩ := h) | (obtain ⟨h1, _⟩ := h)))
  | (show FL _ _ _ _ _ _ _ _; (refine FL.au (k := ?_)))
  | (show Z _ _ _ _ _; (apply Z.sxE; (exact extA)))
  | (show WL _ _ _ _ _ _ _; apply WL.nil)
  | (show Z _ _ _ _ _; apply Z.then_normal)
  | (show W _ _ _ _ _ _; apply W.ret)
  | fail)
 exact Z.body1 Try.results71 rfl fun m => ⟨by rw [ez]; exact congrArg Value.bool (by rw [dec_ne_dec]), Ext.at extA m⟩

theorem ref17_Starts (gm : Nat) (c : Circ) (rn : RowV (Int × Int)) (ra : RowV Int) (a : Option Addr) (ca : Nat) (s : List Bool) (w : World) (hM : MAt w gm c rn ra) (Rs : Row 1 encB w a s) :
  Still Try.prog 30 [.pointer (some ⟨gm, 0, none⟩), .slice a s.length ca] w (.bool (dec (StartsP c.t s))) := by
 obtain ⟨hcells, hC, Rn, Ra, en, ea, hg, hz⟩ := hM
 obtain ⟨y0, y1, y2, _⟩ := hcells
 have k2 : c.lat.2.2.length ≤ 100000 := hz.2.1
 have Rl := hC.lat.row
 have hsl := Rs.len
 by_cases he : s.length = c.lat.2.2.length
 rotate_left
 ·have e : dec (StartsP c.t s) = false := dec_false fun h => he h.1
  refine Spec.of _ Try.func30 rfl Try.ntmps30 (by kernel_rfl) rfl ?_
  repeat' (first
   | (apply WL.nilc; (iterate 3 exact rfl))
   | (apply W.condKT; exact rfl; (focus (exact dec_true (by omega); done)))
   | (show WL _ _ _ _ _ _ _; first | apply WL.nil | (refine WL.au (k := ?_)))
   | (show Z _ _ _ _ _; first | apply Z.then_normal | apply Z.then_ret)
   | (show W _ _ _ _ _ _; first | apply W.seq | apply W.region | apply W.ret)
   | fail)
  exact Z.body1 Try.results30 rfl fun m => ⟨by rw [e], m, rfl⟩
 refine Spec.of _ Try.func30 rfl Try.ntmps30 (by kernel_rfl) rfl ?_
 repeat' (first
  | (apply WL.nilc; (iterate 3 exact rfl))
  | (apply W.condKF; exact rfl; (focus (exact dec_false (by omega); done)))
  | (show WL _ _ _ _ _ _ _; first | apply WL.nil | (refine WL.au (k := ?_)))
  | (show Z _ _ _ _ _; apply Z.then_normal)
  | (show W _ _ _ _ _ _; first | apply W.seq | apply W.region | apply W.block | apply W.skip)
  | fail)
 refine W.loop1 s.length (fun k => k ≤ s.length ∧ ∀ (j : Nat) x b, j < k → c.lat.2.2[j]? = some x → s[j]? = some b → ¬ (x.2.2 = 0 ∧ b = true) ∧ ¬ (x.2.2 = 1 ∧ b = false)) (fun k => [(0, .pointer (some ⟨gm, 0, none⟩)), (1, .slice a s.length ca), (5, .int .i64 k)]) ⟨Nat.zero_le _, fun j x b h => by omega⟩ (fun k h => h.1) ⟨rfl, rfl, rfl, trivial⟩ ?_
 rintro k ⟨hk, hall⟩
 by_cases hlt : k < s.length
 ·obtain ⟨b, hb⟩ := getI s hlt
  obtain ⟨x, hx⟩ := getI c.lat.2.2 (show k < c.lat.2.2.length by omega)
  have hstep : (¬ (x.2.2 = 0 ∧ b = true) ∧ ¬ (x.2.2 = 1 ∧ b = false)) → ∀ (j : Nat) x b, j < k + 1 → c.lat.2.2[j]? = some x → s[j]? = some b → ¬ (x.2.2 = 0 ∧ b = true) ∧ ¬ (x.2.2 = 1 ∧ b = false) := by
   intro h j y d hj h1 h2
   by_cases hjk : j = k
   ·subst hjk; rw [hx] at h1; rw [hb] at h2; cases h1; cases h2; exact h
   ·exact hall j y d (by omega) h1 h2
  by_cases h0 : x.2.2 = 0
  ·cases b
   ·repeat' (first
     | (apply WL.nilc; (iterate 3 exact rfl))
     | (apply WL.gT; exact rfl; exact rfl; (focus (first | exact dec_true (by omega) | exact dec_false (by omega); done)))
     | (apply WL.gF; exact rfl; exact rfl; (focus (first | exact dec_true (by omega) | exact dec_false (by omega); done)))
     | (apply W.condKT; exact rfl; (focus (first | exact dec_true (by omega) | exact dec_false (by omega); done)))
     | (show WL _ _ _ _ _ _ _; first | apply WL.nil | (refine WL.au (k := ?_)) | (apply WL.index tOk; (iterate 8 exact rfl); assumption; (exact extA); exact rfl; omega; assumption; intro b off h; have hcc := h; first | (obtain ⟨h1, h2, h3, h4, h5, h6, _⟩ := h) | (obtain ⟨h1, h2, h3, _⟩ := h) | (obtain ⟨h1, h2, _⟩ := h) | (obtain ⟨h1, _⟩ := h)) | (apply WL.guardF; exact rfl; exact rfl))
     | (show Z _ _ _ _ _; first | apply Z.then_normal | apply Z.block_normal)
     | (show W _ _ _ _ _ _; first | apply W.seq | apply W.region | apply W.block | apply W.skip | (apply W.condF; exact rfl))
     | fail)
    exact Z.again1 ⟨by omega, hstep ⟨by simp, by omega⟩⟩ ⟨rfl, rfl, rfl, trivial⟩
   ·have e : dec (StartsP c.t s) = false := dec_false fun h => (h.2 k x true hx hb).1 ⟨h0, rfl⟩
    repeat' (first
     | (apply WL.nilc; (iterate 3 exact rfl))
     | (apply WL.gT; exact rfl; exact rfl; (focus (first | exact dec_true (by omega) | exact dec_false (by omega); done)))
     | (apply W.condKT; exact rfl; (focus (first | exact dec_true (by omega) | exact dec_false (by omega); done)))
     | (show WL _ _ _ _ _ _ _; first | apply WL.nil | (refine WL.au (k := ?_)) | (apply WL.index tOk; (iterate 8 exact rfl); assumption; (exact extA); exact rfl; omega; assumption; intro b off h; have hcc := h; first | (obtain ⟨h1, h2, h3, h4, h5, h6, _⟩ := h) | (obtain ⟨h1, h2, h3, _⟩ := h) | (obtain ⟨h1, h2, _⟩ := h) | (obtain ⟨h1, _⟩ := h)) | (apply WL.guardF; exact rfl; exact rfl))
     | (show Z _ _ _ _ _; first | apply Z.then_normal | apply Z.then_ret | apply Z.block_ret)
     | (show W _ _ _ _ _ _; first | apply W.seq | apply W.region | apply W.block | apply W.skip | apply W.ret | (apply W.condT; exact rfl))
     | fail)
    exact Z.body1 Try.results30 rfl fun m => ⟨by rw [e], m, rfl⟩
  ·by_cases h1 : x.2.2 = 1
   ·cases b
    ·have e : dec (StartsP c.t s) = false := dec_false fun h => (h.2 k x false hx hb).2 ⟨h1, rfl⟩
     repeat' (first
      | (apply WL.nilc; (iterate 3 exact rfl))
      | (apply WL.gT; exact rfl; exact rfl; (focus (first | exact dec_true (by omega) | exact dec_false (by omega); done)))
      | (apply WL.gF; exact rfl; exact rfl; (focus (first | exact dec_true (by omega) | exact dec_false (by omega); done)))
      | (apply W.condKT; exact rfl; (focus (first | exact dec_true (by omega) | exact dec_false (by omega); done)))
      | (show WL _ _ _ _ _ _ _; first | apply WL.nil | (refine WL.au (k := ?_)) | (apply WL.index tOk; (iterate 8 exact rfl); assumption; (exact extA); exact rfl; omega; assumption; intro b off h; have hcc := h; first | (obtain ⟨h1, h2, h3, h4, h5, h6, _⟩ := h) | (obtain ⟨h1, h2, h3, _⟩ := h) | (obtain ⟨h1, h2, _⟩ := h) | (obtain ⟨h1, _⟩ := h)) | (apply WL.guardF; exact rfl; exact rfl))
      | (show Z _ _ _ _ _; first | apply Z.then_normal | apply Z.then_ret | apply Z.block_ret)
      | (show W _ _ _ _ _ _; first | apply W.seq | apply W.region | apply W.block | apply W.skip | apply W.ret | (apply W.condT; exact rfl))
      | fail)
     exact Z.body1 Try.results30 rfl fun m => ⟨by rw [e], m, rfl⟩
    ·repeat' (first
      | (apply WL.nilc; (iterate 3 exact rfl))
      | (apply WL.gT; exact rfl; exact rfl; (focus (first | exact dec_true (by omega) | exact dec_false (by omega); done)))
      | (apply WL.gF; exact rfl; exact rfl; (focus (first | exact dec_true (by omega) | exact dec_false (by omega); done)))
      | (apply W.condKT; exact rfl; (focus (first | exact dec_true (by omega) | exact dec_false (by omega); done)))
      | (show WL _ _ _ _ _ _ _; first | apply WL.nil | (refine WL.au (k := ?_)) | (apply WL.index tOk; (iterate 8 exact rfl); assumption; (exact extA); exact rfl; omega; assumption; intro b off h; have hcc := h; first | (obtain ⟨h1, h2, h3, h4, h5, h6, _⟩ := h) | (obtain ⟨h1, h2, h3, _⟩ := h) | (obtain ⟨h1, h2, _⟩ := h) | (obtain ⟨h1, _⟩ := h)) | (apply WL.guardF; exact rfl; exact rfl))
      | (show Z _ _ _ _ _; first | apply Z.then_normal | apply Z.block_normal)
      | (show W _ _ _ _ _ _; first | apply W.seq | apply W.region | apply W.block | apply W.skip | (apply W.condF; exact rfl))
      | fail)
     exact Z.again1 ⟨by omega, hstep ⟨by omega, by simp⟩⟩ ⟨rfl, rfl, rfl, trivial⟩
   ·repeat' (first
     | (apply WL.nilc; (iterate 3 exact rfl))
     | (apply WL.gF; exact rfl; exact rfl; (focus (first | exact dec_true (by omega) | exact dec_false (by omega); done)))
     | (apply W.condKT; exact rfl; (focus (first | exact dec_true (by omega) | exact dec_false (by omega); done)))
     | (show WL _ _ _ _ _ _ _; first | apply WL.nil | (refine WL.au (k := ?_)) | (apply WL.index tOk; (iterate 8 exact rfl); assumption; (exact extA); exact rfl; omega; assumption; intro b off h; have hcc := h; first | (obtain ⟨h1, h2, h3, h4, h5, h6, _⟩ := h) | (obtain ⟨h1, h2, h3, _⟩ := h) | (obtain ⟨h1, h2, _⟩ := h) | (obtain ⟨h1, _⟩ := h)) | (apply WL.guardF; exact rfl; exact rfl))
     | (show Z _ _ _ _ _; first | apply Z.then_normal | apply Z.block_normal)
     | (show W _ _ _ _ _ _; first | apply W.seq | apply W.region | apply W.block | apply W.skip | (apply W.condF; exact rfl))
     | fail)
    exact Z.again1 ⟨by omega, hstep ⟨by omega, by omega⟩⟩ ⟨rfl, rfl, rfl, trivial⟩
 ·obtain rfl : k = s.length := by omega
  have e : dec (StartsP c.t s) = true := dec_true ⟨he, fun j x b h1 h2 => hall j x b (lt_of_get h2) h1 h2⟩
  repeat' (first
   | (apply W.condKF; exact rfl; (focus (exact dec_false (by omega); done)))
   | (show WL _ _ _ _ _ _ _; first | apply WL.nil | (refine WL.au (k := ?_)))
   | (show Z _ _ _ _ _; first | apply Z.then_normal | apply Z.then_exit | apply Z.block_exit)
   | (show W _ _ _ _ _ _; first | apply W.seq | apply W.region | apply W.ret | apply W.exit)
   | fail)
  exact Z.body1 Try.results30 rfl fun m => ⟨by rw [e], m, rfl⟩

theorem nextT_succ {c : CirT} {s i : List Bool} {k : Nat} {x : T3} (h : c.lat[k]? = some x) : (c.lat.take (k + 1)).map (fun x => litV c s i x.2.1) = (c.lat.take k).map (fun x => litV c s i x.2.1) ++ [litV c s i x.2.1] := by
 rw [take_succ' h, List.map_append]; rfl
set_option maxHeartbeats 1000000 in
theorem ref17_Next (gm : Nat) (c : Circ) (rn : RowV (Int × Int)) (ra : RowV Int) (a b : Option Addr) (ca cb : Nat) (s i : List Bool) (w : World) (hM : MAt w gm c rn ra) (Rs : Row 1 encB w a s) (Ri : Row 1 encB w b i) :
  Lt.Spec Try.prog 18 [.pointer (some ⟨gm, 0, none⟩), .slice a s.length ca, .slice b i.length cb] w (IsFresh 1 encB 4 w (nextV c.t s i)) := by
 have hM' := hM
 obtain ⟨hcells, hC, Rn, Ra, en, ea, hg, hz⟩ := hM
 have k2 : c.lat.2.2.length ≤ 100000 := hz.2.1
 have Rl := hC.lat.row
 refine Spec.of _ Try.func18 rfl Try.ntmps18 (by kernel_rfl) rfl ?_
 repeat' (first
  | (apply WL.lit (len := 0) tOk; (iterate 6 exact rfl); (first | exact rfl | kernel_rfl | (simp [Instr.fill, catCells]; done)); exact rfl; intro gb w' hb hge hc hx; have hO0 := Own.of_block0 (enc := encB) (s := 1) hb hge)
  | (show WL _ _ _ _ _ _ _; first | apply WL.nil | (refine WL.au (k := ?_)))
  | (show Z _ _ _ _ _; apply Z.then_normal)
  | (show W _ _ _ _ _ _; first | apply W.seq | apply W.region | apply W.block)
  | fail)
 refine W.loopO c.lat.2.2.length (fun k d dp w' => k ≤ c.lat.2.2.length ∧ Ext w w' ∧ Own 1 encB 4 w.heap.size w' d dp ((c.t.lat.take k).map (fun x => litV c.t s i x.2.1)))
  (fun k d dp => [(0, .pointer (some ⟨gm, 0, none⟩)), (1, .slice a s.length ca), (2, .slice b i.length cb), (7, .slice d ((c.t.lat.take k).map (fun x => litV c.t s i x.2.1)).length dp), (8, .int .i64 k)]) (some ⟨gb, 0, none⟩) 0 ⟨Nat.zero_le _, hx, hO0⟩ (fun k d dp w' h => h.1) ⟨rfl, rfl, rfl, rfl, rfl, trivial⟩ ?_
 rintro k d dp w1 ⟨hk, hx1, hO'⟩
 have hl : ((c.t.lat.take k).map (fun x => litV c.t s i x.2.1)).length = k := by rw [List.length_map, List.length_take]; exact Nat.min_eq_left hk
 have hc1 := hcells.ext hx1
 obtain ⟨y0, y1, y2, _⟩ := hc1
 have Rl1 := Rl.ext hx1
 by_cases hlt : k < c.lat.2.2.length
 ·obtain ⟨x, hxx⟩ := getI c.lat.2.2 hlt
  have hu : x.2.1 ∈ c.t.used := used_next (List.mem_of_getElem? hxx)
  have e1 := nextT_succ (c := c.t) (s := s) (i := i) hxx
  repeat' (first
   | (apply WL.nilc; (iterate 3 exact rfl))
   | (apply W.condKT; exact rfl; (focus (exact dec_true (by omega); done)))
   | ((show WL _ _ _ (⟨_, .call ⟨.value (.func 71), _, _⟩, _, _, _, _⟩ :: _) _ _ _); apply WL.callP; (iterate 4 exact rfl); exact ref17_Lit gm c rn ra _ _ _ _ s i x.2.1 _ (hM'.ext extA) (Rs.ext extA) (Ri.ext extA) hu; intro w' hx)
   | (apply WL.lit tOk; (iterate 6 exact rfl); (first | exact rfl | kernel_rfl | (simp [Instr.fill, catCells]; done)); exact rfl; intro gb w' hb hge hc hx)
   | (apply WL.append1 (z := (litV c.t s i x.2.1)) tOk encB_ok; (iterate 10 exact rfl); assumption; (exact extA); (first | exact rfl | (focus (simp only [List.length_set]; done)) | (focus (simp; done)) | (focus (simp [*]; done)) | omega | (focus (simp only [List.length_set]; omega))); (first | assumption | (refine Cells.ext ?_ (by assumption); exact extA)); exact rfl; exact rfl; (exact extA); (first | omega | (simp; omega) | (simp at *; omega)); intro a' cap' w' hO hX' hU hF)
   | (show WL _ _ _ _ _ _ _; first | apply WL.nil | (refine WL.au (k := ?_)) | (apply WL.index tOk; (iterate 8 exact rfl); assumption; (exact extA); exact rfl; omega; assumption; intro b off h; have hcc := h; first | (obtain ⟨h1, h2, h3, h4, h5, h6, _⟩ := h) | (obtain ⟨h1, h2, h3, _⟩ := h) | (obtain ⟨h1, h2, _⟩ := h) | (obtain ⟨h1, _⟩ := h)))
   | (show Z _ _ _ _ _; first | apply Z.then_normal | apply Z.block_normal)
   | (show W _ _ _ _ _ _; first | apply W.seq | apply W.region | apply W.block | apply W.skip)
   | fail)
  exact Z.againO a' cap' ⟨by omega, hX', by rw [e1]; exact hO⟩ (by repeat' first | exact trivial | (refine And.intro ?_ ?_) | exact rfl | (rw [e1]; exact rfl))
 ·obtain rfl : k = c.lat.2.2.length := by omega
  have e9 : (c.t.lat.take c.lat.2.2.length).map (fun x => litV c.t s i x.2.1) = nextV c.t s i := by rw [List.take_of_length_le (Nat.le_refl _)]; rfl
  repeat' (first
   | (apply WL.nilc; (iterate 3 exact rfl))
   | (apply W.condKF; exact rfl; (focus (exact dec_false (by omega); done)))
   | (show WL _ _ _ _ _ _ _; first | apply WL.nil | (refine WL.au (k := ?_)))
   | (show Z _ _ _ _ _; first | apply Z.then_normal | apply Z.then_exit | apply Z.block_exit)
   | (show W _ _ _ _ _ _; first | apply W.seq | apply W.region | apply W.ret | apply W.exit)
   | fail)
  rw [e9] at hO'
  exact Z.body1 Try.results18 rfl fun m => ⟨hx1.at m, d, dp, by rw [e9], hO'⟩
end Go.Proofs.Yteidpnpbfagaeaa
namespace Go.Lt
open Go.RowKit
set_option linter.unusedVariables false

theorem OwnRR.nil {α : Type} {s : Nat} {enc : α → List Value} {el elO B : Nat} {w : World} {a : Option Addr} {cap : Nat} (h : Own 1 encRow elO B w a cap ([] : List (RowV α))) : OwnRR s enc el elO B w a cap [] :=
 ⟨h, fun i r hr => by simp at hr, fun i r hr => by simp at hr, fun i j r q hr => by simp at hr⟩
structure RR1 {α : Type} (s : Nat) (enc : α → List Value) (el elO B : Nat) (w : World) (a : Option Addr) (cap : Nat) (rs : List (RowV α)) (b : Option Addr) (dp : Nat) (S : List α) : Prop where
 rr : OwnRR s enc el elO B w a cap rs
 own : Own s enc el B w b dp S
 apartO : blk b = none ∨ blk b ≠ blk a
 apart : ∀ (i : Nat) (q : RowV α), rs[i]? = some q → blk q.1 = none ∨ blk q.1 ≠ blk b
section
variable {α : Type} {s : Nat} {enc : α → List Value} {el elO B : Nat} {w w1 w2 w3 : World} {a a' b : Option Addr} {cap cap' dp : Nat} {rs : List (RowV α)} {S : List α}
theorem RR1.ext (h : RR1 s enc el elO B w a cap rs b dp S) (hx : Ext w w1) : RR1 s enc el elO B w1 a cap rs b dp S := ⟨h.rr.ext hx, h.own.ext hx, h.apartO, h.apart⟩
theorem RR1.new (h : OwnRR s enc el elO B w1 a cap rs) (hx : Ext w1 w2) (hO : Own s enc el w1.heap.size w2 b dp S) (hB : B ≤ w1.heap.size) : RR1 s enc el elO B w2 a cap rs b dp S := by
 refine ⟨h.ext hx, hO.base hB, ?_, fun i q hq => ?_⟩
 ·cases hb : blk b with
  | none => exact .inl rfl
  | some k =>
   refine .inr fun he => ?_
   have h1 := (hO.blk_lt k hb).1
   have h2 := (h.outer.blk_lt k he.symm).2
   omega
 ·cases hb : blk q.1 with
  | none => exact .inl rfl
  | some k =>
   refine .inr fun he => ?_
   have h1 := ((h.inner i q hq).blk_lt k hb).2
   have h2 := (hO.blk_lt k he.symm).1
   omega
theorem RR1.first {g c0 : Nat} (hO : Own s enc el B w b dp S) (h : Own 1 encRow elO B w (some ⟨g, 0, none⟩) c0 ([] : List (RowV α))) (hg : ∀ k, blk b = some k → k ≠ g) : RR1 s enc el elO B w (some ⟨g, 0, none⟩) c0 [] b dp S := by
 refine ⟨OwnRR.nil h, hO, ?_, fun i q hq => by simp at hq⟩
 cases hb : blk b with
 | none => exact .inl rfl
 | some k =>
  refine .inr fun he => hg k hb ?_
  simp only [blk, Option.map_some, Option.some.injEq] at he; exact he
theorem RR1.push (h : RR1 s enc el elO B w2 a cap rs b dp S) (hU : Upd B a w2 w3) (hO : Own 1 encRow elO B w3 a' cap' (rs ++ [(b, dp, S)])) (hF : blk a' = blk a ∨ ∃ k, blk a' = some k ∧ w2.heap.size ≤ k) : OwnRR s enc el elO B w3 a' cap' (rs ++ [(b, dp, S)]) := by
 obtain ⟨hr, ho, hA, hI⟩ := h
 have get : ∀ (i : Nat) (q : RowV α), (rs ++ [(b, dp, S)])[i]? = some q → (i < rs.length ∧ rs[i]? = some q) ∨ (i = rs.length ∧ q = (b, dp, S)) := fun i q hq => by
  by_cases hi : i < rs.length
  ·rw [List.getElem?_append_left hi] at hq; exact .inl ⟨hi, hq⟩
  ·rw [List.getElem?_append_right (by omega)] at hq
   have h0 := lt_of_get hq
   simp at h0
   have h1 : i - rs.length = 0 := by omega
   rw [h1] at hq
   simp at hq
   exact .inr ⟨by omega, hq.symm⟩
 have lt2 : ∀ (i : Nat) (q : RowV α) (k : Nat), (rs ++ [(b, dp, S)])[i]? = some q → blk q.1 = some k → k < w2.heap.size := fun i q k hq hk => by
  rcases get i q hq with ⟨_, hq⟩ | ⟨_, rfl⟩
  ·exact ((hr.inner i q hq).blk_lt k hk).2
  ·exact (ho.blk_lt k hk).2
 have apA : ∀ (i : Nat) (q : RowV α), (rs ++ [(b, dp, S)])[i]? = some q → blk q.1 = none ∨ blk q.1 ≠ blk a := fun i q hq => by
  rcases get i q hq with ⟨_, hq⟩ | ⟨_, rfl⟩
  ·exact hr.apartO i q hq
  ·exact hA
 refine ⟨hO, fun i q hq => ?_, fun i q hq => ?_, fun i j q p h1 h2 hne => ?_⟩
 ·rcases get i q hq with ⟨_, hq'⟩ | ⟨_, rfl⟩
  ·exact hU.own (hr.inner i q hq') (hr.apartO i q hq')
  ·exact hU.own ho hA
 ·rcases hF with hF | ⟨k, hk, hle⟩
  ·rw [hF]; exact apA i q hq
  ·cases hb : blk q.1 with
   | none => exact .inl rfl
   | some b =>
    refine .inr fun he => ?_
    have := lt2 i q b hq hb
    rw [hk] at he
    have := Option.some.inj he
    omega
 ·rcases get i q h1 with ⟨_, h1'⟩ | ⟨rfl, rfl⟩
  ·rcases get j p h2 with ⟨_, h2'⟩ | ⟨rfl, rfl⟩
   ·exact hr.apart i j q p h1' h2' hne
   ·exact hI i q h1'
  ·rcases get j p h2 with ⟨_, h2'⟩ | ⟨rfl, rfl⟩
   ·show blk b = none ∨ blk b ≠ blk p.1
    cases hb : blk b with
    | none => exact .inl rfl
    | some k =>
     refine .inr fun he => ?_
     rcases hI j p h2' with h3 | h3
     ·rw [h3] at he; cases he
     ·exact h3 (by rw [hb]; exact he.symm)
   ·exact absurd rfl hne
end
theorem OwnRR.base {α : Type} {s : Nat} {enc : α → List Value} {el elO B C : Nat} {w : World} {a : Option Addr} {cap : Nat} {rs : List (RowV α)} (h : OwnRR s enc el elO C w a cap rs) (hB : B ≤ C) : OwnRR s enc el elO B w a cap rs := ⟨h.outer.base hB, fun i r hr => (h.inner i r hr).base hB, h.apartO, h.apart⟩
theorem OwnRR.row {α : Type} {s : Nat} {enc : α → List Value} {el elO B : Nat} {w : World} {a : Option Addr} {cap : Nat} {rs : List (RowV α)} (h : OwnRR s enc el elO B w a cap rs) (hE : Enc s enc) {i : Nat} {r : RowV α} (hr : rs[i]? = some r) : Row s enc w r.1 r.2.2 := (h.inner i r hr).row hE
theorem OwnRR.at {α : Type} {s : Nat} {enc : α → List Value} {el elO B : Nat} {w : World} {a : Option Addr} {cap : Nat} {rs : List (RowV α)} (h : OwnRR s enc el elO B w a cap rs) (m : Nat) : OwnRR s enc el elO B (at' w m) a cap rs := h.ext ((Ext.refl w).at m)
end Go.Lt
namespace Go.Proofs.Yteidpnpbfagaeaa
open Go Go.Lt Go.RowKit
set_option linter.unusedVariables false
set_option linter.unusedSimpArgs false
set_option maxRecDepth 20000

set_option maxHeartbeats 1000000 in
theorem ref17_Bad (gm : Nat) (c : Circ) (rn : RowV (Int × Int)) (ra : RowV Int) (a b : Option Addr) (ca cb : Nat) (s i : List Bool) (p : Int) (w : World) (hM : MAt w gm c rn ra) (Rs : Row 1 encB w a s) (Ri : Row 1 encB w b i) :
  Pure Try.prog 19 [.pointer (some ⟨gm, 0, none⟩), .slice a s.length ca, .slice b i.length cb, .int .i64 p] w (.bool (dec (BadP c.t s i p))) := by
 have hM' := hM
 obtain ⟨hcells, hC, Rn, Ra, en, ea, hg, hz⟩ := hM
 obtain ⟨y0, y1, y2, y3, y4, _⟩ := hcells
 have Rb := hC.bads.row
 have hbl := Rb.len
 by_cases q1 : 0 ≤ p
 ·by_cases q2 : p < c.bads.2.2.length
  ·obtain ⟨l, hl⟩ := getI c.bads.2.2 (show p.toNat < c.bads.2.2.length by omega)
   have e : dec (BadP c.t s i p) = litV c.t s i l := by
    cases hv : litV c.t s i l
    ·refine dec_false fun h => ?_
     obtain ⟨_, l', h1, h2⟩ := h
     have : c.bads.2.2[p.toNat]? = some l' := h1
     rw [hl] at this; cases this
     rw [hv] at h2; cases h2
    ·exact dec_true ⟨q1, l, hl, hv⟩
   refine Spec.of _ Try.func19 rfl Try.ntmps19 (by kernel_rfl) rfl ?_
   repeat' (first
    | (apply WL.nilc; (iterate 3 exact rfl))
    | (apply WL.gT; exact rfl; exact rfl; (focus (first | exact dec_true q1 | exact dec_true q2; done)))
    | ((show WL _ _ _ (⟨_, .call ⟨.value (.func 71), _, _⟩, _, _, _, _⟩ :: _) _ _ _); apply WL.callP; (iterate 4 exact rfl); exact ref17_Lit gm c rn ra _ _ _ _ s i l _ (hM'.ext extA) (Rs.ext extA) (Ri.ext extA) (used_bad (List.mem_of_getElem? hl)); intro w' hx)
    | (show WL _ _ _ _ _ _ _; first | apply WL.nil | (refine WL.au (k := ?_)) | (apply WL.index tOk; (iterate 8 exact rfl); assumption; (exact extA); exact rfl; omega; assumption; intro b off h; have hcc := h; first | (obtain ⟨h1, h2, h3, h4, h5, h6, _⟩ := h) | (obtain ⟨h1, h2, h3, _⟩ := h) | (obtain ⟨h1, h2, _⟩ := h) | (obtain ⟨h1, _⟩ := h)))
    | (show Z _ _ _ _ _; apply Z.then_normal)
    | (show W _ _ _ _ _ _; first | apply W.seq | apply W.region | apply W.ret)
    | fail)
   exact Z.body1 Try.results19 rfl fun m => ⟨by rw [e], Ext.at extA m⟩
  ·have e : dec (BadP c.t s i p) = false := dec_false fun h => by
    obtain ⟨_, l', h1, h2⟩ := h
    have := lt_of_get h1
    have : p.toNat < c.bads.2.2.length := this
    omega
   refine Spec.of _ Try.func19 rfl Try.ntmps19 (by kernel_rfl) rfl ?_
   repeat' (first
    | (apply WL.nilc; (iterate 3 exact rfl))
    | (apply WL.gT; exact rfl; exact rfl; (focus (first | exact dec_true q1 | exact dec_false q2; done)))
    | (apply WL.gF; exact rfl; exact rfl; (focus (first | exact dec_true q1 | exact dec_false q2; done)))
    | (show WL _ _ _ _ _ _ _; first | apply WL.nil | (refine WL.au (k := ?_)) | (apply WL.guardF; exact rfl; exact rfl))
    | (show Z _ _ _ _ _; apply Z.then_normal)
    | (show W _ _ _ _ _ _; first | apply W.seq | apply W.region | apply W.ret)
    | fail)
   exact Z.body1 Try.results19 rfl fun m => ⟨by rw [e], Ext.at extA m⟩
 ·have e : dec (BadP c.t s i p) = false := dec_false fun h => q1 h.1
  refine Spec.of _ Try.func19 rfl Try.ntmps19 (by kernel_rfl) rfl ?_
  repeat' (first
   | (apply WL.gF; exact rfl; exact rfl; (focus (exact dec_false q1; done)))
   | (show WL _ _ _ _ _ _ _; first | apply WL.nil | (refine WL.au (k := ?_)) | (apply WL.guardF; exact rfl; exact rfl))
   | (show Z _ _ _ _ _; apply Z.then_normal)
   | (show W _ _ _ _ _ _; first | apply W.seq | apply W.region | apply W.ret)
   | fail)
  exact Z.body1 Try.results19 rfl fun m => ⟨by rw [e], Ext.at extA m⟩

set_option maxHeartbeats 1000000 in
theorem ref17_Holds (gm : Nat) (c : Circ) (rn : RowV (Int × Int)) (ra : RowV Int) (a b : Option Addr) (ca cb : Nat) (s i : List Bool) (w : World) (hM : MAt w gm c rn ra) (Rs : Row 1 encB w a s) (Ri : Row 1 encB w b i) :
  Pure Try.prog 17 [.pointer (some ⟨gm, 0, none⟩), .slice a s.length ca, .slice b i.length cb] w (.bool (dec (HoldsP c.t s i))) := by
 have hM' := hM
 obtain ⟨hcells, hC, Rn, Ra, en, ea, hg, hz⟩ := hM
 have Rc := hC.cons.row
 have hbl := Rc.len
 refine Spec.of _ Try.func17 rfl Try.ntmps17 (by kernel_rfl) rfl ?_
 repeat' (first
  | (show WL _ _ _ _ _ _ _; first | apply WL.nil | (refine WL.au (k := ?_)))
  | (show Z _ _ _ _ _; apply Z.then_normal)
  | (show W _ _ _ _ _ _; first | apply W.seq | apply W.region | apply W.block)
  | fail)
 refine W.loopW c.cons.2.2.length (fun k w' => k ≤ c.cons.2.2.length ∧ Ext w w' ∧ ∀ (j : Nat) l, j < k → c.cons.2.2[j]? = some l → litV c.t s i l = true) (fun k => [(0, .pointer (some ⟨gm, 0, none⟩)), (1, .slice a s.length ca), (2, .slice b i.length cb), (7, .int .i64 k)]) ⟨Nat.zero_le _, Ext.refl _, fun j l h => by omega⟩ (fun k w' h => h.1) ⟨rfl, rfl, rfl, rfl, trivial⟩ ?_
 rintro k w1 ⟨hk, hx1, hall⟩
 have hc1 := hcells.ext hx1
 obtain ⟨y0, y1, y2, y3, y4, y5, _⟩ := hc1
 have Rc1 := Rc.ext hx1
 by_cases hlt : k < c.cons.2.2.length
 ·obtain ⟨l, hl⟩ := getI c.cons.2.2 hlt
  have hu : l ∈ c.t.used := used_con (List.mem_of_getElem? hl)
  have hr := fun (w9 : World) (h9 : Ext w w9) => ref17_Lit gm c rn ra a b ca cb s i l w9 (hM'.ext h9) (Rs.ext h9) (Ri.ext h9) hu
  cases hv : litV c.t s i l <;> rw [hv] at hr
  ·have e : dec (HoldsP c.t s i) = false := dec_false fun h => by have := h l (List.mem_of_getElem? hl); rw [hv] at this; cases this
   repeat' (first
    | (apply WL.nilc; (iterate 3 exact rfl))
    | (apply W.condKT; exact rfl; (focus (first | exact dec_true (by omega); done)))
    | (((show WL _ _ _ (⟨_, .call ⟨.value (.func 71), _, _⟩, _, _, _, _⟩ :: _) _ _ _); apply WL.callP; (iterate 4 exact rfl); exact hr _ extA; intro w' hx))
    | (show WL _ _ _ _ _ _ _; first | apply WL.nil | (refine WL.au (k := ?_)) | (apply WL.index tOk; (iterate 8 exact rfl); assumption; (exact extA); exact rfl; omega; assumption; intro b off h; have hcc := h; first | (obtain ⟨h1, h2, h3, h4, h5, h6, _⟩ := h) | (obtain ⟨h1, h2, h3, _⟩ := h) | (obtain ⟨h1, h2, _⟩ := h) | (obtain ⟨h1, _⟩ := h)))
    | (show Z _ _ _ _ _; first | apply Z.then_normal | apply Z.then_ret | apply Z.block_ret)
    | (show W _ _ _ _ _ _; first | apply W.seq | apply W.region | apply W.block | apply W.skip | apply W.ret | (apply W.condT; exact rfl))
    | fail)
   exact Z.body1 Try.results17 rfl fun m => ⟨by rw [e], Ext.at extA m⟩
  ·repeat' (first
    | (apply WL.nilc; (iterate 3 exact rfl))
    | (apply W.condKT; exact rfl; (focus (first | exact dec_true (by omega); done)))
    | (((show WL _ _ _ (⟨_, .call ⟨.value (.func 71), _, _⟩, _, _, _, _⟩ :: _) _ _ _); apply WL.callP; (iterate 4 exact rfl); exact hr _ extA; intro w' hx))
    | (show WL _ _ _ _ _ _ _; first | apply WL.nil | (refine WL.au (k := ?_)) | (apply WL.index tOk; (iterate 8 exact rfl); assumption; (exact extA); exact rfl; omega; assumption; intro b off h; have hcc := h; first | (obtain ⟨h1, h2, h3, h4, h5, h6, _⟩ := h) | (obtain ⟨h1, h2, h3, _⟩ := h) | (obtain ⟨h1, h2, _⟩ := h) | (obtain ⟨h1, _⟩ := h)))
    | (show Z _ _ _ _ _; first | apply Z.then_normal | apply Z.block_normal)
    | (show W _ _ _ _ _ _; first | apply W.seq | apply W.region | apply W.block | apply W.skip | (apply W.condF; exact rfl))
    | fail)
   refine Z.againW ⟨by omega, extA, fun j l' hj h1 => ?_⟩ ⟨rfl, rfl, rfl, rfl, trivial⟩
   by_cases hjk : j = k
   ·subst hjk; rw [hl] at h1; cases h1; exact hv
   ·exact hall j l' (by omega) h1
 ·obtain rfl : k = c.cons.2.2.length := by omega
  have e : dec (HoldsP c.t s i) = true := dec_true fun l h => by
   obtain ⟨j, hj⟩ := List.mem_iff_getElem?.1 h
   exact hall j l (lt_of_get hj) hj
  repeat' (first
   | (apply WL.nilc; (iterate 3 exact rfl))
   | (apply W.condKF; exact rfl; (focus (exact dec_false (by omega); done)))
   | (show WL _ _ _ _ _ _ _; first | apply WL.nil | (refine WL.au (k := ?_)))
   | (show Z _ _ _ _ _; first | apply Z.then_normal | apply Z.then_exit | apply Z.block_exit)
   | (show W _ _ _ _ _ _; first | apply W.seq | apply W.region | apply W.ret | apply W.exit)
   | fail)
  exact Z.body1 Try.results17 rfl fun m => ⟨by rw [e], Ext.at extA m⟩

abbrev encRB : RowV Bool → List Value := encRow
theorem encRB_ok : Enc 1 encRB := encRow_ok
structure RunV where
 st : RowV Bool
 ins : RowV (RowV Bool)
abbrev RunV.val (r : RunV) : Value := .agg #[rowVal r.st, rowVal r.ins]
abbrev RunV.s (r : RunV) : List Bool := r.st.2.2
abbrev RunV.i (r : RunV) : List (List Bool) := r.ins.2.2.map (·.2.2)
structure RAt (w : World) (r : RunV) : Prop where
 st : Row 1 encB w r.st.1 r.st.2.2
 ins : Row 1 encRB w r.ins.1 r.ins.2.2
 each : ∀ x ∈ r.ins.2.2, Row 1 encB w x.1 x.2.2
theorem RAt.ext {w w' : World} {r : RunV} (h : RAt w r) (hx : Ext w w') : RAt w' r := ⟨h.st.ext hx, h.ins.ext hx, fun x h1 => (h.each x h1).ext hx⟩
end Go.Proofs.Yteidpnpbfagaeaa
namespace Go.Proofs.Yteidpnpbfagaeaa
open Go Go.Lt Go.RowKit
set_option linter.unusedVariables false
set_option linter.unusedSimpArgs false
set_option maxRecDepth 20000

theorem litB_ofU {v : List Bool} {l : Int} (h : 0 ≤ l) (hl : (l / 2).toNat < v.length) (h0 : v.getD 0 false = false) : litB v l = ofL v l := by
 unfold litB ofL
 by_cases h1 : l = 0 ∨ l = 1
 ·rw [if_pos h1]
  rcases h1 with rfl | rfl
  ·rw [show ((0 : Int) / 2).toNat = 0 from rfl, h0]; rfl
  ·rw [show ((1 : Int) / 2).toNat = 0 from rfl, h0]; rfl
 ·rw [if_neg h1, if_neg (by omega)]
theorem values_0 (N : List (Int × Int)) (ins : List Bool) : (values N ins).getD 0 false = false := by
 have h := vto_of N ins (k := 0) (l := 0) (by omega) (Nat.zero_le _)
 have h2 : ofL (values N ins) 0 = false := by rw [← h]; rfl
 unfold ofL at h2
 simpa using h2
def IsRunV (w : World) (q : List Bool × List (List Bool)) (v : Value) (w' : World) : Prop := Ext w w' ∧ ∃ r : RunV, v = r.val ∧ RAt w' r ∧ r.s = q.1 ∧ r.i = q.2
set_option maxHeartbeats 4000000 in
theorem un_Run1 (gv cv cl : Nat) (av al : Option Addr) (V : List Bool) (l : List Int) (w : World) (hc : w.cell? ⟨gv, 0, none⟩ = some (.slice av V.length cv)) (RV : Row 1 encB w av V) (RL : Row 1 encI w al l) (h0 : V.getD 0 false = false) (hl : ∀ x ∈ l, 0 ≤ x ∧ x ≤ 9223372036854775807 ∧ (x / 2).toNat < V.length) (hn : l.length ≤ 1048576) :
  Lt.Spec Try.prog 96 ([.slice al l.length cl] ++ [.pointer (some ⟨gv, 0, none⟩)]) w (IsFresh 1 encB 4 w (l.map (ofL V))) := by
 refine Spec.of _ Try.func96 rfl Try.ntmps96 (by kernel_rfl) rfl ?_
 repeat' (first
  | (apply WL.makeC (w0 := w) (z := false) tOk; (iterate 9 exact rfl); exact encB_ok; exact rfl; exact rfl; (exact extA); (first | omega | (simp; omega) | (simp at *; omega)); intro gb w' hO hge hx; (obtain ⟨go, rfl⟩ : ∃ x, x = gb := ⟨_, rfl⟩; obtain ⟨w1, rfl⟩ : ∃ x, x = w' := ⟨_, rfl⟩; obtain ⟨hO1, rfl⟩ : ∃ x, x = hO := ⟨_, rfl⟩; obtain ⟨hge1, rfl⟩ : ∃ x, x = hge := ⟨_, rfl⟩; obtain ⟨hx1, rfl⟩ : ∃ x, x = hx := ⟨_, rfl⟩))
  | (show WL _ _ _ _ _ _ _; first | apply WL.nil | (refine WL.au (k := ?_)))
  | (show Z _ _ _ _ _; apply Z.then_normal)
  | (show W _ _ _ _ _ _; first | apply W.seq | apply W.region | apply W.block)
  | fail)
 have hLt : (l.length : Int).toNat = l.length := Int.toNat_natCast _
 have hLt2 : (List.replicate (l.length : Int).toNat false).length = l.length := by rw [List.length_replicate, hLt]
 rw [hLt] at hO1
 refine W.loopW l.length (fun k w' => k ≤ l.length ∧ Ext w w' ∧ Own 1 encB 4 w.heap.size w' (some ⟨go, 0, none⟩) l.length ((l.take k).map (ofL V) ++ List.replicate (l.length - k) false))
  (fun k => [(1, .pointer (some ⟨gv, 0, none⟩)), (4, .slice (some ⟨go, 0, none⟩) l.length l.length), (10, .slice al l.length cl), (11, .int .i64 l.length), (12, .int .i64 k)]) ⟨Nat.zero_le _, hx1, hO1⟩ (fun k w' h => h.1) (by repeat' first | exact trivial | (refine And.intro ?_ ?_) | exact rfl | (rw [hLt2]; exact rfl)) ?_
 rintro k wk ⟨hk, hXk, hOk⟩
 have hvl : ((l.take k).map (ofL V)).length = k := by rw [List.length_map, List.length_take]; omega
 have RLk := RL.ext hXk
 by_cases hlt : k < l.length
 ·obtain ⟨x, hx⟩ := getI l hlt
  obtain ⟨x1, x2, x3⟩ := hl x (List.mem_of_getElem? hx)
  have hgy : ((l.take k).map (ofL V) ++ List.replicate (l.length - k) false)[(k : Int).toNat]? = some false := by
   rw [Int.toNat_natCast, show l.length - k = (l.length - (k + 1)) + 1 by omega, List.replicate_succ, List.getElem?_append_right (by omega), hvl, Nat.sub_self]; rfl
  have hlit := sim_Lit av cv V x wk (RV.ext hXk) (show inI64 x from ⟨by omega, x2⟩)
  rw [litB_ofU x1 x3 h0] at hlit
  have e1 : (l.take (k + 1)).map (ofL V) = (l.take k).map (ofL V) ++ [ofL V x] := by rw [take_succ' hx, List.map_append]; rfl
  repeat' (first
   | (apply W.condKT; exact rfl; (focus (exact dec_true (by omega); done)))
   | (((show WL _ _ _ (⟨_, .call ⟨.value (.func 97), _, _⟩, _, _, _, _⟩ :: _) _ _ _); apply WL.callS; (iterate 4 exact rfl); exact hlit))
   | ((apply WL.indexO tOk; (iterate 8 exact rfl); exact hOk; exact extA; exact encB_ok; (rw [List.length_append, hvl, List.length_replicate]; omega); omega; exact hgy; intro gb ha hc; cases ha))
   | ((apply WL.storeO (z' := ofL V x) tOk; (iterate 4 exact rfl); exact hOk; exact extA; (iterate 3 exact rfl); exact encB_ok; exact hgy; exact rfl; exact extA; intro wd hOd hXd hUd))
   | (show WL _ _ _ _ _ _ _; first | apply WL.nil | (refine WL.au (k := ?_)) | (apply WL.index tOk; (iterate 8 exact rfl); assumption; (exact extA); exact rfl; omega; assumption; intro b off h; have hcc := h; first | (obtain ⟨h1, h2, h3, h4, h5, h6, _⟩ := h) | (obtain ⟨h1, h2, h3, _⟩ := h) | (obtain ⟨h1, h2, _⟩ := h) | (obtain ⟨h1, _⟩ := h)))
   | (show Z _ _ _ _ _; first | apply Z.then_normal | apply Z.block_normal)
   | (show W _ _ _ _ _ _; first | apply W.seq | apply W.region | apply W.block | apply W.skip)
   | fail)
  rw [Int.toNat_natCast, fillG false hvl hlt, ← e1] at hOd
  exact Z.againW ⟨by omega, hXd, hOd⟩ (by repeat' first | exact trivial | (refine And.intro ?_ ?_) | exact rfl)
 ·obtain rfl : k = l.length := by omega
  have e9 : (l.take l.length).map (ofL V) ++ List.replicate (l.length - l.length) false = l.map (ofL V) := by rw [List.take_length, Nat.sub_self, List.replicate_zero, List.append_nil]
  rw [e9] at hOk
  repeat' (first
   | (apply W.condKF; exact rfl; (focus (exact dec_false (by omega); done)))
   | (show WL _ _ _ _ _ _ _; first | apply WL.nil | (refine WL.au (k := ?_)))
   | (show Z _ _ _ _ _; first | apply Z.then_normal | apply Z.then_exit | apply Z.block_exit)
   | (show W _ _ _ _ _ _; first | apply W.seq | apply W.region | apply W.ret | apply W.exit)
   | fail)
  exact Z.body1 Try.results96 rfl fun q => ⟨hXk.at q, some ⟨go, 0, none⟩, l.length, by rw [List.length_map], hOk.ext ((Ext.refl _).at q)⟩
end Go.Proofs.Yteidpnpbfagaeaa
namespace Go.Proofs.Yteidpnpbfagaeaa
open Go Go.Lt Go.RowKit
set_option linter.unusedVariables false
set_option linter.unusedSimpArgs false
set_option maxRecDepth 20000

theorem hasL_val {N : List (Int × Int)} (ins : List Bool) (hN : N.length ≤ 1000000) {l : List Int} (h : ∀ z ∈ l, hasL N z) : ∀ x ∈ l, 0 ≤ x ∧ x ≤ 9223372036854775807 ∧ (x / 2).toNat < (values N ins).length := fun x hx => by
 have h1 := h x hx
 have h2 := values_len' N ins
 unfold hasL at h1
 omega
theorem Sep.oldU {B B' g : Nat} {w w' : World} {ps : List Piece} (hS : Lt.Sep B w ps) (hU : Upd B' (some ⟨g, 0, none⟩) w w') (hg : g < B) : Lt.Sep B w' ps :=
 ⟨fun i p h => ⟨p.keep (hS.holds i p h).1 (fun k hk => hU.grown.block k ((hS.holds i p h).2 k hk).2 (fun he => by
  have h1 := ((hS.holds i p h).2 k hk).1
  simp only [blk, Option.map_some, Option.some.injEq] at he
  omega)), fun k hk => ⟨((hS.holds i p h).2 k hk).1, Nat.lt_of_lt_of_le ((hS.holds i p h).2 k hk).2 hU.grown.size⟩⟩, hS.apart⟩
set_option maxHeartbeats 16000000 in
theorem un_Run {w0 w : World} {m : UM} {u : UnV} {x : UX} {rest : List Piece} (h : UAt w0 w m u x rest) (hz : SzC m.d.t 100000) (hU : UOk m.d.t u) (hN : u.N.length ≤ 1000000) (hF : u.own.length ≤ 100000) (ab : Option Addr) (cb : Nat) (ins : List Bool) (k : Int) (Rb : Row 1 encB w ab ins) (hcb : ins.length ≤ cb) (hi : ins.length ≤ 1048576) (hk : 0 ≤ k ∧ k < (u.own.length : Int)) :
  Lt.Spec Try.prog 38 [.pointer (some ⟨m.gf, 0, none⟩), .slice ab ins.length cb, .int .i64 k] w (IsRunV w (runU u ins k)) := by
 have z1 : m.d.ins.2.2.length ≤ 100000 := hz.1
 have z2 : m.d.lat.2.2.length ≤ 100000 := hz.2.1
 obtain ⟨V, hV⟩ : ∃ V, V = values u.N ins := ⟨_, rfl⟩
 have hV0 : V.getD 0 false = false := by rw [hV]; exact values_0 _ _
 have e : runU u ins k = ((rowU u.st 0).map (ofL V), (u.ins.take (k.toNat + 1)).map (fun l => l.map (ofL V))) := by unfold runU; rw [if_pos hk, hV]
 rw [e]
 obtain ⟨c1, c2, c4, c5, c6, c9, c10, c11, c12, c13⟩ := UC.of h.cells
 obtain ⟨l1, l2, l3⟩ := h.lf
 have hls := hU.ls
 obtain ⟨s, hs, hse, RS0⟩ := h.state (show 0 < u.st.length by omega)
 have hst := hU.st _ (rowU_mem (show (0 : Int) ≤ ((0 : Nat) : Int) ∧ ((0 : Nat) : Int) < (u.st.length : Int) by omega)).2
 rw [← hse] at RS0 hst
 have hse' : s.2.2 = rowU u.st 0 := hse
 rw [← hse']
 have hs0 : x.st[(0 : Int).toNat]? = some s := hs
 have Rst := Own.row encRow_ok h.srow
 have Rfr := Own.row encUF_ok h.frow
 have hcf := Own.capLe h.frow
 have hnet : Lt.Spec Try.prog 62 [.pointer (some ⟨m.gs, 0, none⟩)] _ (IsFresh 2 encN 105 _ u.N) := aig_NetV m.gs m.r x.cap x.a u.N _ w w0 h.sep (by omega)
 have hsv := hasL_val ins hN hst.2
 rw [← hV] at hsv
 refine Spec.of _ Try.func38 rfl Try.ntmps38 (by kernel_rfl) rfl ?_
 repeat' (first
  | (apply WL.nilc; (iterate 3 exact rfl))
  | (apply WL.build tOk; (iterate 7 exact rfl); kernel_rfl)
  | (apply WL.gF; exact rfl; exact rfl; (focus (first | exact dec_true (by omega) | exact dec_false (by omega); done)))
  | (apply W.condKF; exact rfl; (focus (first | exact dec_true (by omega) | exact dec_false (by omega); done)))
  | ((show WL _ _ _ (⟨some 6, .alloc _, _, _, _, _⟩ :: _) _ _ _; apply WL.alloc tOk; (iterate 3 exact rfl); intro g6 w1 hb6 hge6 hx1; have hX1 : Ext w w1 := hx1))
  | ((show WL _ _ _ (⟨_, .call ⟨.value (.func 45), _, _⟩, _, _, _, _⟩ :: _) _ _ _); apply WL.callS; (iterate 4 exact rfl); exact un_Len (h.up extA))
  | (((show WL _ _ _ (⟨_, .call ⟨.value (.func 62), _, _⟩, _, _, _, _⟩ :: _) _ _ _); apply WL.call; (iterate 4 exact rfl); exact aig_NetV m.gs m.r x.cap x.a u.N _ w1 w0 (h.sep.ext hX1) (by omega); rintro v' w2 ⟨hx2, aN, cN, rfl, hON⟩; have hX2 : Ext w w2 := hX1.trans hx2))
  | (((show WL _ _ _ (⟨_, .call ⟨.value (.func 95), _, _⟩, _, _, _, _⟩ :: _) _ _ _); apply WL.call; (iterate 4 exact rfl); exact sim_Eval aN ab cN cb u.N ins w2 (hON.row encN_ok) (Rb.ext hX2) hcb hU.tidy.good hN hi; rintro v' w3 ⟨hx3, aV, cV, rfl, hOV⟩; rw [← hV] at hOV ⊢; have hX3 : Ext w w3 := hX2.trans hx3; have RV := hOV.row encB_ok))
  | ((show WL _ _ _ (⟨some 7, .alloc _, _, _, _, _⟩ :: _) _ _ _; apply WL.alloc tOk; (iterate 3 exact rfl); intro gv w4 hb4 hge4 hx4))
  | ((show WL _ _ _ (⟨none, .store _ (.tmp 7) _, _, _, _, _⟩ :: _) _ _ _; apply WL.storeB (w0 := w3) tOk; (iterate 4 exact rfl); exact hb4; exact Ext.refl _; kernel_rfl; kernel_rfl; kernel_rfl; exact hx4; exact hge4; intro w5 hb5 hc5 hX35 hU5; have hX5 : Ext w w5 := hX3.trans hX35; obtain ⟨v1, _⟩ := hc5))
  | ((show WL _ _ _ (⟨_, .call ⟨.value (.tmp 29), _, _⟩, _, _, _, _⟩ :: _) _ _ _; apply WL.call; (iterate 4 exact rfl); exact un_Run1 gv cV s.2.1 aV s.1 V s.2.2 w5 v1 (RV.ext hX35) (RS0.ext hX5) hV0 hsv (by omega); rintro v' w6 ⟨hx6, aS, cS, rfl, hOS⟩; have hX6 : Ext w w6 := hX5.trans hx6))
  | ((show WL _ _ _ (⟨some 9, .alloc _, _, _, _, _⟩ :: _) _ _ _; apply WL.alloc tOk; (iterate 3 exact rfl); intro g9 w7 hb7 hge7 hx7))
  | ((show WL _ _ _ (⟨none, .store _ (.tmp 9) _, _, _, _, _⟩ :: _) _ _ _; apply WL.storeB (w0 := w6) tOk; (iterate 4 exact rfl); exact hb7; exact Ext.refl _; kernel_rfl; kernel_rfl; kernel_rfl; exact hx7; exact hge7; intro w8 hb8 hc8 hX68 hU8; have hX8 : Ext w w8 := hX6.trans hX68))
  | ((apply WL.sliceH tOk; (iterate 7 exact rfl); exact Rfr; exact rfl; exact hcf; omega; intro hRt hct))
  | (show WL _ _ _ _ _ _ _; first | apply WL.nil | (refine WL.au (k := ?_)) | (apply WL.index tOk; (iterate 8 exact rfl); assumption; (exact extA); exact rfl; omega; assumption; intro b off h; have hcc := h; first | (obtain ⟨h1, h2, h3, h4, h5, h6, _⟩ := h) | (obtain ⟨h1, h2, h3, _⟩ := h) | (obtain ⟨h1, h2, _⟩ := h) | (obtain ⟨h1, _⟩ := h)))
  | (show Z _ _ _ _ _; apply Z.then_normal)
  | (show W _ _ _ _ _ _; first | apply W.seq | apply W.region | apply W.block | apply W.skip)
  | fail)
 obtain ⟨S, hSd⟩ : ∃ S, S = s.2.2.map (ofL V) := ⟨_, rfl⟩
 obtain ⟨K, hK⟩ : ∃ K, K = (k + 1).toNat := ⟨_, rfl⟩
 have hKk : k.toNat + 1 = K := by omega
 rw [← hSd] at hOS hb8
 rw [← hK] at hRt hct
 rw [hKk, ← hSd]
 have hKl : (x.fr.take K).length = K := by rw [List.length_take]; omega
 have hX15 : Ext w1 w5 := hx2.trans (hx3.trans hX35)
 have hg6 : g6 < w5.heap.size := Nat.lt_of_lt_of_le (heap_lt hb6) (Below.size hX15)
 have hX58 : Ext w5 w8 := hx6.trans hX68
 have hS6 := Sep.newRow (Sep.none' (B := w5.heap.size) (w := w5)) hx6 hOS (fun q hq => (hOS.blk_lt q hq).1) (Nat.le_refl _)
 have hS7 := Sep.newRow (s := 1) (enc := encRB) (el := 31) (a := none) (cap := 0) (l := []) hS6 (Ext.refl _) Own.nil (fun q hq => by cases hq) (Below.size hx6)
 have hS8 : Lt.Sep w5.heap.size w8 (pcell g9 #[.slice aS S.length cS, .slice none 0 0] 54 :: prow 1 encRB 31 w5.heap.size none 0 [] :: prow 1 encB 4 w5.heap.size aS cS S :: []) := Sep.newCell hS7 hX68 hb8 hge7 (Below.size hx6)
 have RV5 := RV.ext hX35
 clear hS6 hS7 hU5 hU8 hc8 hb7
 refine W.loopO K (fun j b cp w' => j ≤ K ∧ Ext w5 w' ∧ ∃ (rs : List (RowV Bool)) (R : List Piece), Lt.Sep w5.heap.size w' (pcell g9 #[.slice aS S.length cS, .slice b rs.length cp] 54 :: prow 1 encRB 31 w5.heap.size b cp rs :: prow 1 encB 4 w5.heap.size aS cS S :: R) ∧ rs.map (fun r => r.2.2) = (u.ins.take j).map (fun l => l.map (ofL V)) ∧ ∀ w9, (∀ p ∈ R, p.P w9) → ∀ r ∈ rs, Row 1 encB w9 r.1 r.2.2)
  (fun j b cp => [(6, .pointer (some ⟨g6, 0, none⟩)), (8, .func (.func 96) #[] #[.pointer (some ⟨gv, 0, none⟩)]), (9, .pointer (some ⟨g9, 0, none⟩)), (44, .slice x.af (x.fr.take K).length x.cf), (45, .int .i64 (x.fr.take K).length), (46, .int .i64 j)]) none 0 ⟨Nat.zero_le _, hX58, [], [], hS8, rfl, fun w9 _ r hr => by cases hr⟩ (fun k a cp w' h => h.1) (by repeat' first | exact trivial | (refine And.intro ?_ ?_) | exact rfl | (rw [hK]; exact rfl)) ?_
 clear hS8 hb8
 rintro j bo co w9 ⟨hj, hX9, rs, R, hS9, hrs, hRR⟩
 have hXw9 : Ext w w9 := hX5.trans hX9
 have Rt9 := hRt.ext hXw9
 have hOo : Own 1 encRB 31 w5.heap.size w9 bo co rs := hS9.row (i := 1) rfl
 obtain ⟨n0, n1, _⟩ := cells_heap (hS9.cell (i := 0) (gb := g9) rfl)
 have hg9 : w5.heap.size ≤ g9 := (hS9.lt (i := 0) rfl rfl).1
 by_cases hlt : j < K
 ·obtain ⟨f, hf, _, hfe, _, _⟩ := h.frame (show j < u.own.length by omega)
  have hfT : (x.fr.take K)[j]? = some f := by rw [List.getElem?_take, if_pos hlt]; exact hf
  have hfi := map_get' h.kn.hi hf
  have hfo := hU.ins _ (List.mem_of_getElem? hfi)
  have Ri := h.rows.ins f (List.mem_of_getElem? hf)
  have hiv := hasL_val ins hN hfo.2
  rw [← hV] at hiv
  have hfl : f.2.2.2.length ≤ 1048576 := by rw [hfo.1]; show m.d.ins.2.2.length ≤ _; omega
  have hrl : rs.length = j := by
   have := congrArg List.length hrs
   simp only [List.length_map, List.length_take] at this
   omega
  repeat' (first
   | (apply W.condKT; exact rfl; (focus (exact dec_true (by omega); done)))
   | ((show WL _ _ _ (⟨some 11, .alloc _, _, _, _, _⟩ :: _) _ _ _; apply WL.alloc tOk; (iterate 3 exact rfl); intro gk wa hba hgea hxa))
   | ((show WL _ _ _ (⟨none, .store _ (.tmp 11) _, _, _, _, _⟩ :: _) _ _ _; apply WL.storeB (w0 := w9) tOk; (iterate 4 exact rfl); exact hba; exact Ext.refl _; kernel_rfl; kernel_rfl; kernel_rfl; exact hxa; exact hgea; intro wb hbb hcb hXb hUb; obtain ⟨e1', e2', _⟩ := hcb; have hX5b : Ext w5 wb := hX9.trans hXb; have hXwb : Ext w wb := hXw9.trans hXb))
   | (show W _ _ (.region 9 _ _) _ _ _; apply W.regionGX (.fl true 0 (.fl true 2 (.fl true 3 (.fl false 1 (.br 4 (.br 5 (.br 6 (.br 7 (.fl true 8 (.br 9 .done .stop)) .stop) .stop) .stop) .stop))))) [4, 5, 6] tMix; kernel_rfl)
   | ((show WL _ _ _ (⟨_, .call ⟨.value (.tmp 52), _, _⟩, _, _, _, _⟩ :: _) _ _ _; apply WL.call; (iterate 4 exact rfl); exact un_Run1 gv cV f.2.2.1 aV f.2.1 V f.2.2.2 _ (Ext.cell (hX5b.trans extA) v1) (RV5.ext (hX5b.trans extA)) (Ri.ext (hXwb.trans extA)) hV0 hiv hfl; rintro v' wc ⟨hxc, aR, cR, rfl, hOR⟩; have hSn := Sep.newRow hS9 (hXb.trans extA) (hOR.base (Below.size (hX5b.trans extA))) (fun q hq => Nat.le_trans (Below.size (hXb.trans extA)) (hOR.blk_lt q hq).1) (Below.size hX9)))
   | (apply WL.lit tOk; (iterate 6 exact rfl); (first | exact rfl | kernel_rfl | (simp [Instr.fill, catCells]; done)); exact rfl; intro gb w' hb hge hc hx; (obtain ⟨gl, rfl⟩ : ∃ x, x = gb := ⟨_, rfl⟩; obtain ⟨wl, rfl⟩ : ∃ x, x = w' := ⟨_, rfl⟩; obtain ⟨hcl, rfl⟩ : ∃ x, x = hc := ⟨_, rfl⟩; obtain ⟨hxl, rfl⟩ : ∃ x, x = hx := ⟨_, rfl⟩))
   | ((apply WL.append1 (z := ((aR, cR, f.2.2.2.map (ofL V)) : RowV Bool)) tOk encRB_ok; (iterate 10 exact rfl); exact hOo; exact (hXb.trans extA); exact rfl; (refine Cells.ext ?_ hcl; exact extA); exact rfl; exact rfl; exact (hX5b.trans extA); omega; intro aP cP wP hOP hXP hUP hFP; have hSu := Sep.updRow (i := 2) rfl hUP hOP hFP hSn extA (Below.size (hX5b.trans extA)); have hbu := hSu.cell (i := 1) (gb := g9) rfl))
   | ((apply WL.storeF (w0 := w5) tOk; (iterate 4 exact rfl); exact hbu; exact extA; (iterate 4 exact rfl); exact (hXP.trans extA); exact hg9; intro w31 hb31 hX31 hU31; have hSf := Sep.updCell (i := 1) rfl hU31 hb31 hSu extA (Below.size (hXP.trans extA))))
   | (show SX _ _ _ _ _ _ _ _ _; first | (apply SX.done; intro w' hx) | (apply SX.fl0; exact rfl) | (apply SX.fl1; exact rfl; (exact extA)) | (apply SX.br1; exact rfl; intro w' hx))
   | (show FL _ _ _ _ _ _ _ _; first | apply FL.nilX | (apply FL.loadE tOk; (iterate 5 exact rfl); (first | assumption | (focus (apply Ext.cell; rotate_left; assumption; exact extA; done)))))
   | (show FL _ _ _ _ _ _ _ _; (refine FL.au (k := ?_)))
   | (show Z _ _ _ _ _; first | (apply Z.sxL; exact rfl) | (apply Z.sxE; (exact extA)))
   | (show WL _ _ _ _ _ _ _; first | apply WL.nil | (refine WL.au (k := ?_)) | (apply WL.index tOk; (iterate 8 exact rfl); assumption; (exact extA); exact rfl; omega; assumption; intro b off h; have hcc := h; first | (obtain ⟨h1, h2, h3, h4, h5, h6, _⟩ := h) | (obtain ⟨h1, h2, h3, _⟩ := h) | (obtain ⟨h1, h2, _⟩ := h) | (obtain ⟨h1, _⟩ := h)))
   | (show Z _ _ _ _ _; first | apply Z.then_normal | apply Z.block_normal)
   | (show W _ _ _ _ _ _; first | apply W.seq | apply W.region | apply W.block | apply W.skip)
   | fail)
  have hSg := Sep.pickL (pre := [_, _, _, _]) [1, 2, 3, 0] pnone hSf rfl
  refine Z.againO aP cP ⟨by omega, Ext.trans hX31 (by assumption), rs ++ [(aR, cR, f.2.2.2.map (ofL V))], prow 1 encB 4 w5.heap.size aR cR (f.2.2.2.map (ofL V)) :: R, hSg.ext (by assumption), ?_, fun w9' hR9 r hr => ?_⟩ (by repeat' first | exact trivial | (refine And.intro ?_ ?_) | exact rfl)
  ·rw [List.map_append, hrs, take_succ' hfi, List.map_append]; rfl
  ·rcases List.mem_append.1 hr with hr | hr
   ·exact hRR w9' (fun p hp => hR9 p (List.mem_cons_of_mem _ hp)) r hr
   ·rw [List.mem_singleton.1 hr]
    have p1 : Own 1 encB 4 w5.heap.size w9' aR cR (f.2.2.2.map (ofL V)) := hR9 (prow 1 encB 4 w5.heap.size aR cR (f.2.2.2.map (ofL V))) (List.mem_cons_self ..)
    exact Own.row encB_ok p1
 ·obtain rfl : j = K := by omega
  have hcg9 : Cells w9 g9 0 [.slice aS S.length cS, .slice bo rs.length co] := cells_heap (hS9.cell (i := 0) (gb := g9) rfl)
  repeat' (first
   | (apply W.condKF; exact rfl; (focus (exact dec_false (by omega); done)))
   | ((show WL _ _ _ (⟨none, .store _ (.tmp 6) _, _, _, _, _⟩ :: _) _ _ _; apply WL.storeB (w0 := w) tOk; (iterate 4 exact rfl); exact hb6; exact (hX15.trans hX9); kernel_rfl; kernel_rfl; kernel_rfl; exact hXw9; exact hge6; intro wE hbE hcE hXE hUE))
   | (show WL _ _ _ _ _ _ _; first | apply WL.nil | (refine WL.au (k := ?_)))
   | (show Z _ _ _ _ _; first | apply Z.then_normal | apply Z.then_exit | apply Z.block_exit)
   | (show W _ _ _ _ _ _; first | apply W.seq | apply W.region | apply W.ret | apply W.exit)
   | fail)
  have hSE := Sep.oldU hS9 hUE hg6
  have hRE := hRR wE fun p hp => (hSE.holds _ p (List.mem_iff_getElem?.1 (show p ∈ _ from List.mem_cons_of_mem _ (List.mem_cons_of_mem _ (List.mem_cons_of_mem _ hp)))).choose_spec).1
  have hO1 : Own 1 encRB 31 w5.heap.size wE bo co rs := hSE.row (i := 1) rfl
  have hO2 : Own 1 encB 4 w5.heap.size wE aS cS S := hSE.row (i := 2) rfl
  exact Z.bodyC tOk Try.results38 rfl rfl rfl rfl hcE fun q => ⟨hXE.at q, ⟨(aS, cS, S), (bo, co, rs)⟩, rfl, (RAt.mk (Own.row encB_ok hO2) (Own.row encRB_ok hO1) hRE : RAt wE ⟨(aS, cS, S), (bo, co, rs)⟩).ext ((Ext.refl _).at q), rfl, hrs⟩
end Go.Proofs.Yteidpnpbfagaeaa
namespace Go.Proofs.Yteidpnpbfagaeaa
open Go Go.Lt Go.RowKit
set_option linter.unusedVariables false
set_option linter.unusedSimpArgs false
set_option maxRecDepth 20000

theorem hasL_le {N : List (Int × Int)} {x : Int} (h : hasL N x) (hN : N.length ≤ 1048576) : 0 ≤ x ∧ x ≤ 9223372036854775806 := by unfold hasL at h; omega
set_option maxHeartbeats 16000000 in
theorem un_Unlike {w0 w : World} {m : UM} {u : UnV} {x : UX} {rest : List Piece} (h : UAt w0 w m u x rest) (hz : SzC m.d.t 100000) (hU : UOk m.d.t u) (hN : u.N.length ≤ 600000) (i k : Int) :
  Lt.Spec Try.prog 35 [.pointer (some ⟨m.gf, 0, none⟩), .int .i64 i, .int .i64 k] w (fun v w' => v = .int .i64 (unlikeU u i k).1 ∧ ∃ x', UAt w0 w' m (unlikeU u i k).2 x' rest) := by
 have z2 : m.d.lat.2.2.length ≤ 100000 := hz.2.1
 refine Spec.of _ Try.func35 rfl Try.ntmps35 (by kernel_rfl) rfl ?_
 by_cases hi : 0 ≤ i ∧ i < (u.st.length : Int)
 rotate_left
 ·have e : unlikeU u i k = (-1, u) := by unfold unlikeU; rw [if_neg (fun hh => hi hh.1)]
  rw [e]
  have hst := un_stateN h hi
  by_cases hk : 0 ≤ k ∧ k < (u.st.length : Int)
  ·obtain ⟨s, hs, _, _⟩ := h.state (show k.toNat < u.st.length by omega)
   have hst2 := un_state h hk.1 hs
   repeat' (first
    | (((show WL _ _ _ (⟨_, .call ⟨.value (.func 93), _, _⟩, _, _, _, _⟩ :: _) _ _ _); apply WL.callS; (iterate 4 exact rfl); first | exact hst | exact hst2))
    | (apply WL.gT; exact rfl; exact rfl; (focus (first | with_reducible exact Bool.not_true | with_reducible exact Bool.not_false; done)))
    | (show WL _ _ _ _ _ _ _; first | apply WL.nil | (refine WL.au (k := ?_)) | (apply WL.guardF; exact rfl; exact rfl))
    | (show Z _ _ _ _ _; first | apply Z.then_normal | apply Z.then_ret)
    | (show W _ _ _ _ _ _; first | apply W.seq | apply W.region | apply W.ret | (apply W.condT; exact rfl))
    | fail)
   exact Z.body1 Try.results35 rfl fun q => ⟨rfl, x, h.up ((Ext.refl _).at q)⟩
  ·have hst2 := un_stateN h hk
   repeat' (first
    | (((show WL _ _ _ (⟨_, .call ⟨.value (.func 93), _, _⟩, _, _, _, _⟩ :: _) _ _ _); apply WL.callS; (iterate 4 exact rfl); first | exact hst | exact hst2))
    | (apply WL.gT; exact rfl; exact rfl; (focus (first | with_reducible exact Bool.not_true | with_reducible exact Bool.not_false; done)))
    | (show WL _ _ _ _ _ _ _; first | apply WL.nil | (refine WL.au (k := ?_)) | (apply WL.guardF; exact rfl; exact rfl))
    | (show Z _ _ _ _ _; first | apply Z.then_normal | apply Z.then_ret)
    | (show W _ _ _ _ _ _; first | apply W.seq | apply W.region | apply W.ret | (apply W.condT; exact rfl))
    | fail)
   exact Z.body1 Try.results35 rfl fun q => ⟨rfl, x, h.up ((Ext.refl _).at q)⟩
 obtain ⟨s, hs, hse, _⟩ := h.state (show i.toNat < u.st.length by omega)
 have hst := un_state h hi.1 hs
 by_cases hk : 0 ≤ k ∧ k < (u.st.length : Int)
 rotate_left
 ·have e : unlikeU u i k = (-1, u) := by unfold unlikeU; rw [if_neg (fun hh => hk hh.2)]
  rw [e]
  have hst2 := un_stateN h hk
  repeat' (first
   | (((show WL _ _ _ (⟨_, .call ⟨.value (.func 93), _, _⟩, _, _, _, _⟩ :: _) _ _ _); apply WL.callS; (iterate 4 exact rfl); first | exact hst | exact hst2))
   | (apply WL.gF; exact rfl; exact rfl; (focus (first | with_reducible exact Bool.not_true | with_reducible exact Bool.not_false; done)))
   | (apply W.condKT; exact rfl; (focus (first | with_reducible exact Bool.not_true | with_reducible exact Bool.not_false; done)))
   | (show WL _ _ _ _ _ _ _; first | apply WL.nil | (refine WL.au (k := ?_)))
   | (show Z _ _ _ _ _; first | apply Z.then_normal | apply Z.then_ret)
   | (show W _ _ _ _ _ _; first | apply W.seq | apply W.region | apply W.ret)
   | fail)
  exact Z.body1 Try.results35 rfl fun q => ⟨rfl, x, h.up ((Ext.refl _).at q)⟩
 obtain ⟨s2, hs2, hse2, _⟩ := h.state (show k.toNat < u.st.length by omega)
 have hst2 := un_state h hk.1 hs2
 have eiN : ((i.toNat : Nat) : Int) = i := by omega
 have ekN : ((k.toNat : Nat) : Int) = k := by omega
 rw [eiN] at hse
 rw [ekN] at hse2
 obtain ⟨ha1, ha2⟩ := hU.st _ (rowU_mem hi).2
 obtain ⟨hb1, hb2⟩ := hU.st _ (rowU_mem hk).2
 rw [← hse] at ha1 ha2
 rw [← hse2] at hb1 hb2
 have e : unlikeU u i k = ((ulTo s.2.2 s2.2.2 u.N s.2.2.length).1, { u with N := (ulTo s.2.2 s2.2.2 u.N s.2.2.length).2 }) := by unfold unlikeU; rw [if_pos ⟨hi, hk⟩, hse, hse2]
 rw [e]
 have hla : s.2.2.length = m.d.lat.2.2.length := ha1
 have hlb : s2.2.2.length = m.d.lat.2.2.length := hb1
 have ms := List.mem_of_getElem? hs
 have ms2 := List.mem_of_getElem? hs2
 repeat' (first
  | (((show WL _ _ _ (⟨_, .call ⟨.value (.func 93), _, _⟩, _, _, _, _⟩ :: _) _ _ _); apply WL.callS; (iterate 4 exact rfl); first | exact hst | exact hst2))
  | (apply WL.gF; exact rfl; exact rfl; (focus (first | with_reducible exact Bool.not_true | with_reducible exact Bool.not_false; done)))
  | (apply W.condKF; exact rfl; (focus (first | with_reducible exact Bool.not_true | with_reducible exact Bool.not_false; done)))
  | (show WL _ _ _ _ _ _ _; first | apply WL.nil | (refine WL.au (k := ?_)))
  | (show Z _ _ _ _ _; apply Z.then_normal)
  | (show W _ _ _ _ _ _; first | apply W.seq | apply W.region | apply W.block | apply W.skip)
  | fail)
 have hS0 := h.sep
 refine W.loopO s.2.2.length (fun j b cp w' => j ≤ s.2.2.length ∧ Ext w0 w' ∧ Lt.Sep w0.heap.size w' (unP w0.heap.size m (ulTo s.2.2 s2.2.2 u.N j).2 b cp x.af x.cf x.fr x.as' x.cs x.st x.R ++ rest))
  (fun j b cp => [(0, .pointer (some ⟨m.gf, 0, none⟩)), (7, rowVal s), (9, rowVal s2), (11, .int .i64 (ulTo s.2.2 s2.2.2 u.N j).1), (33, .int .i64 s.2.2.length), (34, .int .i64 j)]) x.a x.cap ⟨Nat.zero_le _, h.ext, hS0⟩ (fun k a cp w' h => h.1) (by repeat' first | exact trivial | (refine And.intro ?_ ?_) | exact rfl) ?_
 rintro j bb cp w9 ⟨hj, hX9, hS9⟩
 have hR9 : URows m x.fr x.st w9 := h.kn.rows.sep hX9 hS9 fun p hp => List.mem_append_left _ (List.mem_append_right _ (List.mem_cons_of_mem _ (List.mem_cons_of_mem _ (List.mem_cons_of_mem _ hp))))
 obtain ⟨c1, c2, c4, c5, c6, c9, c10, c11, c12, c13⟩ := UC.of (m := m) (af := x.af) (nf := x.fr.length) (cf := x.cf) (as' := x.as') (ns := x.st.length) (cs := x.cs) (cells_heap (hS9.cell (i := 3) rfl))
 have Rs := hR9.st s ms
 have Rs2 := hR9.st s2 ms2
 obtain ⟨i1, i2, i3, i4⟩ := ulTo_inv ha2 hb2 (by rw [hla, hlb]) j hj
 by_cases hlt : j < s.2.2.length
 ·obtain ⟨y, hy⟩ := getI s.2.2 hlt
  obtain ⟨y2, hy2⟩ := getI s2.2.2 (show j < s2.2.2.length by omega)
  have hyh := hasL_mono (ha2 y (List.mem_of_getElem? hy)) i2
  have hyh2 := hasL_mono (hb2 y2 (List.mem_of_getElem? hy2)) i2
  have eS := ulTo_succ s.2.2 s2.2.2 u.N j
  obtain ⟨H, hH⟩ : ∃ H, H = ulTo s.2.2 s2.2.2 u.N j := ⟨_, rfl⟩
  rw [← hH] at hS9 i1 i2 i3 i4 eS hyh hyh2 ⊢
  have e1 : ulTo s.2.2 s2.2.2 u.N (j + 1) = orV (xorV H.2 y y2).2 H.1 (xorV H.2 y y2).1 := by rw [eS]; unfold ulStep; rw [getD_of hy, getD_of hy2]
  have l1 : H.2.length ≤ (xorV H.2 y y2).2.length ∧ (xorV H.2 y y2).2.length ≤ H.2.length + 3 := muxV_len _ _ _ _
  have h1 : hasL (xorV H.2 y y2).2 (xorV H.2 y y2).1 := muxV_has hyh (notL_has hyh2) hyh2
  have l2 := orV_len (xorV H.2 y y2).2 H.1 (xorV H.2 y y2).1
  have h2 : hasL (orV (xorV H.2 y y2).2 H.1 (xorV H.2 y y2).1).2 (orV (xorV H.2 y y2).2 H.1 (xorV H.2 y y2).1).1 := orV_has (hasL_mono i1 l1.1) h1
  have b1 := hasL_le hyh (by omega)
  have b2 := hasL_le hyh2 (by omega)
  have b3 := hasL_le i1 (by omega)
  have b4 := hasL_le h1 (by omega)
  have b5 := hasL_le h2 (by omega)
  repeat' (first
   | (apply W.regionQS 12 tMix; kernel_rfl; exact rfl; kernel_rfl; kernel_rfl)
   | (apply WL.nilc; (iterate 3 exact rfl))
   | (apply QL.nilc; (iterate 3 exact rfl))
   | (apply W.condKT; exact rfl; (focus (first | exact dec_true (by omega) | exact dec_false (by omega); done)))
   | (apply W.condKF; exact rfl; (focus (first | exact dec_true (by omega) | exact dec_false (by omega); done)))
   | (((show WL _ _ _ (⟨_, .call ⟨.value (.func 94), _, _⟩, _, _, _, _⟩ :: _) _ _ _); apply WL.call; (iterate 4 exact rfl); exact aig_XorV m.gs m.r _ _ H.2 y y2 _ _ w0 hX9 hS9 (by omega) (by omega) (by omega); rintro v' w8 ⟨hX8, a8, cap8, rfl, hS8⟩; have d11 := (UC.of (m := m) (af := x.af) (nf := x.fr.length) (cf := x.cf) (as' := x.as') (ns := x.st.length) (cs := x.cs) (cells_heap (hS8.cell (i := 3) rfl))).store))
   | (((show WL _ _ _ (⟨_, .call ⟨.value (.func 59), _, _⟩, _, _, _, _⟩ :: _) _ _ _); apply WL.call; (iterate 4 exact rfl); exact aig_OrV m.gs m.r _ _ (xorV H.2 y y2).2 H.1 (xorV H.2 y y2).1 _ _ w0 hX8 hS8 (by omega) (by omega) (by omega); rintro v' w7 ⟨hX7, a7, cap7, rfl, hS7⟩))
   | (show WL _ _ _ _ _ _ _; first | apply WL.nil | (refine WL.au (k := ?_)))
   | (show QL _ _ _ _ _ _ _; first | apply QL.nil | (refine QL.au (k := ?_)) | (apply QL.index tOk; (iterate 8 exact rfl); assumption; (exact extA); exact rfl; omega; assumption; intro b off h; have hcc := h; first | (obtain ⟨h1, h2, h3, h4, h5, h6, _⟩ := h) | (obtain ⟨h1, h2, h3, _⟩ := h) | (obtain ⟨h1, h2, _⟩ := h) | (obtain ⟨h1, _⟩ := h)))
   | (show Z _ _ _ _ _; first | apply Z.tail | apply Z.then_normal | apply Z.block_normal)
   | (show W _ _ _ _ _ _; first | apply W.seq | apply W.region | apply W.block | apply W.skip)
   | fail)
  exact Z.againO a7 cap7 ⟨by omega, hX7, by rw [e1]; exact hS7⟩ (by repeat' first | exact trivial | (refine And.intro ?_ ?_) | exact rfl | (rw [e1]; exact rfl))
 ·obtain rfl : j = s.2.2.length := by omega
  repeat' (first
   | (apply W.condKF; exact rfl; (focus (exact dec_false (by omega); done)))
   | (show WL _ _ _ _ _ _ _; first | apply WL.nil | (refine WL.au (k := ?_)))
   | (show Z _ _ _ _ _; first | apply Z.then_normal | apply Z.then_exit | apply Z.block_exit)
   | (show W _ _ _ _ _ _; first | apply W.seq | apply W.region | apply W.ret | apply W.exit)
   | fail)
  exact Z.body1 Try.results35 rfl fun q => ⟨rfl, ⟨bb, cp, x.af, x.cf, x.fr, x.as', x.cs, x.st, x.R⟩, hX9.at q, hS9.ext ((Ext.refl _).at q), ⟨h.kn.hv, h.kn.hi, h.kn.hs, h.kn.sn, h.kn.rows⟩⟩
end Go.Proofs.Yteidpnpbfagaeaa
namespace Go.Proofs.Yteidpnpbfagaeaa
open Go Go.Lt Go.RowKit
set_option linter.unusedVariables false
set_option linter.unusedSimpArgs false
set_option maxRecDepth 20000

abbrev exU : CirT := ⟨1, [], [(2, 3, 0)], [], [], [], [], [], ⟨#[]⟩⟩
theorem exU_good : GoodC' exU := by
 refine ⟨by decide, fun x hx => ?_, fun x hx => ?_, fun x hx => ?_, ?_, fun x hx h => ?_, ?_⟩
 ·have : x = 2 := by simpa using hx
  subst this; decide
 ·have : x = 3 := by simpa using hx
  subst this; decide
 ·have : x = (2, 3, 0) := by simpa using hx
  subst this; exact .inl rfl
 ·simp
 ·have : x = 3 := by simpa using hx
  subst this; simp
 ·show (ordL []).length = 0
  rw [ordL_nil]; rfl
theorem exU_net : cNet exU = ([(-1, 0)], [0, 2]) := by
 unfold cNet
 rw [show exU.gates = [] from rfl, ordL_nil]
 rfl
theorem exU_cp (a : Int) (h : a = 0 ∨ a = 1) (I O S : List (List Int)) : cpU exU ⟨[], I, O, S ++ [[a]]⟩ = ([0, a], []) := by
 have hl : UnV.last ⟨[], I, O, S ++ [[a]]⟩ = [a] := by
  unfold UnV.last
  dsimp only
  rw [show (S ++ [[a]]).length - 1 = S.length by simp]
  simp [List.getD]
 unfold cpU
 rw [hl, exU_net]
 show copyV [] [(-1, 0)] [a] = _
 rw [copyV_yes (fun z hz => by rw [List.mem_singleton.1 hz]; unfold hasL; rcases h with rfl | rfl <;> exact ⟨by decide, by decide⟩)]
 rfl
theorem exU_next0 : nextU exU [0, 0] = [1] := by unfold nextU uLit; rw [exU_net]; rfl
theorem exU_next1 : nextU exU [0, 1] = [0] := by unfold nextU uLit; rw [exU_net]; rfl
theorem exU_new : newU exU false = ⟨[], [], [], [[0]]⟩ := by
 have e : firstTo exU false 1 = ([0], []) := by
  show fstep false ([], []) (2, 3, 0) = _
  rw [fstep_no (by simp)]; rfl
 unfold newU
 rw [show exU.lat.length = 1 from rfl, e]
theorem exU_1 : growU exU (newU exU false) = ⟨[], [[]], [[0, 0]], [[0], [1]]⟩ := by
 unfold growU
 rw [exU_new, show (⟨[], [], [], [[0]]⟩ : UnV) = ⟨[], [], [], [] ++ [[0]]⟩ from rfl, exU_cp 0 (.inl rfl), exU_next0]; rfl
theorem exU_2 : growU exU (growU exU (newU exU false)) = ⟨[], [[], []], [[0, 0], [0, 1]], [[0], [1], [0]]⟩ := by
 rw [exU_1]
 unfold growU
 rw [show (⟨[], [[]], [[0, 0]], [[0], [1]]⟩ : UnV) = ⟨[], [[]], [[0, 0]], [[0]] ++ [[1]]⟩ from rfl, exU_cp 1 (.inr rfl), exU_next1]; rfl
set_option maxRecDepth 20000 in
set_option maxHeartbeats 16000000 in
theorem law19_lives (w : World) : Pure Try.prog 32 [] w (.bool true) := by
 refine Spec.of _ Try.func32 rfl Try.ntmps32 (by kernel_rfl) rfl ?_
 repeat' (first
  | ((show WL _ _ _ (⟨_, .build 27 _, _, _, _, _⟩ :: _) _ _ _; apply WL.build (cs := [.int .i64 1, .slice none 0 0, .slice (some ⟨g1, 0, none⟩) 1 1, .slice none 0 0, .slice none 0 0, .slice none 0 0, .slice none 0 0, .slice none 0 0, .string ⟨#[]⟩]) tOk; (iterate 6 exact rfl); (first | kernel_rfl | exact rfl); kernel_rfl))
  | (apply WL.build tOk; (iterate 7 exact rfl); kernel_rfl)
  | (apply WL.lit tOk; (iterate 6 exact rfl); (first | exact rfl | kernel_rfl | (simp [Instr.fill, catCells]; done)); exact rfl; intro gb w' hb hge hc hx; have hO := Own.of_block ([((2, 3, 0) : T3)]) enc3_ok hb hge rfl; (obtain ⟨g1, rfl⟩ : ∃ x, x = gb := ⟨_, rfl⟩; obtain ⟨w1, rfl⟩ : ∃ x, x = w' := ⟨_, rfl⟩; obtain ⟨hx1, rfl⟩ : ∃ x, x = hx := ⟨_, rfl⟩; obtain ⟨hO1, rfl⟩ : ∃ x, x = hO := ⟨_, rfl⟩))
  | (show WL _ _ _ _ _ _ _; first | apply WL.nil | (refine WL.au (k := ?_)))
  | (show Z _ _ _ _ _; apply Z.then_normal)
  | (show W _ _ _ _ _ _; first | apply W.seq | apply W.region)
  | fail)
 obtain ⟨c, hc⟩ : ∃ c : Circ, c = ⟨1, (none, 0, []), (some ⟨g1, 0, none⟩, 1, [(2, 3, 0)]), (none, 0, []), (none, 0, []), (none, 0, []), (none, 0, []), (none, 0, []), ⟨#[]⟩⟩ := ⟨_, rfl⟩
 have hct : c.t = exU := by rw [hc]
 have nilK : ∀ {α : Type} (s : Nat) (enc : α → List Value), RowK s enc w1 ((none, 0, []) : RowV α) := fun s enc => ⟨Row.nil _ _ _ _, Nat.le_refl _, fun _ => rfl⟩
 have hC : CAt w1 c := by
  rw [hc]
  exact ⟨nilK _ _, ⟨hO1.row enc3_ok, Nat.le_refl _, fun h => by cases h⟩, nilK _ _, nilK _ _, nilK _ _, nilK _ _, nilK _ _⟩
 have hg : GoodC' c.t := by rw [hct]; exact exU_good
 have hz : SzC c.t 100000 := by rw [hct]; unfold SzC; simp
 have hz2 : c.t.syms.length ≤ 100000 := by rw [hct]; simp
 have hnew := un_New c false w1 hC hg hz hz2
 have hv : c.val = .agg #[.int .i64 1, .slice none 0 0, .slice (some ⟨g1, 0, none⟩) 1 1, .slice none 0 0, .slice none 0 0, .slice none 0 0, .slice none 0 0, .slice none 0 0, .string ⟨#[]⟩] := by rw [hc]; rfl
 rw [hv, hct] at hnew
 have hO0 := (newU_ok exU_good false).1
 have hO1k := (growU_ok exU_good hO0).1
 have hN0 : (newU exU false).N.length ≤ 600000 := by rw [exU_new]; exact Nat.zero_le _
 have hF0 : (newU exU false).own.length ≤ 100000 := by rw [exU_new]; exact Nat.zero_le _
 have hN1 : (growU exU (newU exU false)).N.length ≤ 600000 := by rw [exU_1]; exact Nat.zero_le _
 have hF1 : (growU exU (newU exU false)).own.length ≤ 100000 := by rw [exU_1]; decide
 have hs1 : UnV.state ⟨[], [[], []], [[0, 0], [0, 1]], [[0], [1], [0]]⟩ 1 0 = 1 := by decide
 have hs2 : UnV.state ⟨[], [[], []], [[0, 0], [0, 1]], [[0], [1], [0]]⟩ 2 0 = 0 := by decide
 repeat' (first
  | (apply WL.neNilS tOk; (iterate 6 exact rfl))
  | (apply WL.gT; exact rfl; exact rfl; (focus (first | with_reducible exact dec_true rfl | exact dec_true (fun h => by cases h); done)))
  | (((show WL _ _ _ (⟨_, .call ⟨.value (.func 33), _, _⟩, _, _, _, _⟩ :: _) _ _ _); apply WL.call; (iterate 4 exact rfl); exact hnew; rintro v' w4 ⟨w0, m, x, hX0, rfl, hdt, hU⟩; have hgm : GoodC' m.d.t := (by rw [hdt]; exact exU_good); have hzm : SzC m.d.t 100000 := (by rw [hdt]; unfold SzC; simp); have hw4 : Ext w1 w4 := hX0.trans hU.ext))
  | (((show WL _ _ _ (⟨_, .call ⟨.value (.func 34), _, _⟩, _, _, _, _⟩ :: _) _ _ _); apply WL.call; (iterate 4 exact rfl); (first | (have h_0 := hU1; clear h_0; exact un_Grow hU1 hgm hzm (by rw [hdt]; exact hO1k) hN1 hF1) | exact un_Grow hU hgm hzm (by rw [hdt]; exact hO0) hN0 hF0); (first | (have h_0 := hU1; clear h_0; rintro v' w6 ⟨rfl, x2, hU2⟩; rw [hdt, exU_2] at hU2; have hst1 := un_State hU2 1 0; have hst2 := un_State hU2 2 0; rw [hs1] at hst1; rw [hs2] at hst2) | (rintro v' w5 ⟨rfl, x1, hU1⟩; rw [hdt] at hU1))))
  | (((show WL _ _ _ (⟨_, .call ⟨.value (.func 41), _, _⟩, _, _, _, _⟩ :: _) _ _ _); apply WL.callS; (iterate 4 exact rfl); first | exact hst1 | exact hst2))
  | (((show WL _ _ _ (⟨_, .call ⟨.value (.func 36), _, _⟩, _, _, _, _⟩ :: _) _ _ _); apply WL.call; (iterate 4 exact rfl); exact un_Net hU2 (Nat.zero_le _); rintro v' w7 ⟨hx7, aN, cN, rfl, _⟩))
  | (show WL _ _ _ _ _ _ _; first | apply WL.nil | (refine WL.au (k := ?_)))
  | (show Z _ _ _ _ _; apply Z.then_normal)
  | (show W _ _ _ _ _ _; first | apply W.seq | apply W.region | apply W.ret)
  | fail)
 exact Z.body1 Try.results32 rfl fun q => ⟨congrArg Value.bool (dec_true rfl), Ext.at ((hx1.trans (hX0.trans hU2.ext)).trans hx7) q⟩
end Go.Proofs.Yteidpnpbfagaeaa
namespace Go.Proofs.Yteidpnpbfagaeaa
open Go Go.Lt Go.RowKit
set_option linter.unusedVariables false
set_option linter.unusedSimpArgs false
set_option maxRecDepth 20000

theorem take_eqB {A B : List Bool} {k : Nat} {x y : Bool} (h : A.take k = B.take k) (hx : A[k]? = some x) (hy : B[k]? = some y) (he : x = y) : A.take (k + 1) = B.take (k + 1) := by
 rw [take_succ' hx, take_succ' hy, h, he]
set_option maxHeartbeats 4000000 in
theorem ref01_Same (a b : Option Addr) (ca cb : Nat) (A B : List Bool) (w : World) (RA : Row 1 encB w a A) (RB : Row 1 encB w b B) :
  Still Try.prog 44 [.slice a A.length ca, .slice b B.length cb] w (.bool (dec (A = B))) := by
 have hlA := RA.len
 have hlB := RB.len
 by_cases hl : A.length = B.length
 rotate_left
 ·rw [dec_false (fun h => hl (by rw [h]))]
  refine Spec.of _ Try.func44 rfl Try.ntmps44 (by kernel_rfl) rfl ?_
  repeat' (first
   | (apply W.condKT; exact rfl; (focus (exact dec_true (by omega); done)))
   | (show WL _ _ _ _ _ _ _; first | apply WL.nil | (refine WL.au (k := ?_)))
   | (show Z _ _ _ _ _; first | apply Z.then_normal | apply Z.then_ret)
   | (show W _ _ _ _ _ _; first | apply W.seq | apply W.region | apply W.ret)
   | fail)
  exact Z.body1 Try.results44 rfl fun m => ⟨rfl, m, rfl⟩
 refine Spec.of _ Try.func44 rfl Try.ntmps44 (by kernel_rfl) rfl ?_
 repeat' (first
  | (apply W.condKF; exact rfl; (focus (exact dec_false (by omega); done)))
  | (show WL _ _ _ _ _ _ _; first | apply WL.nil | (refine WL.au (k := ?_)))
  | (show Z _ _ _ _ _; apply Z.then_normal)
  | (show W _ _ _ _ _ _; first | apply W.seq | apply W.region | apply W.block | apply W.skip)
  | fail)
 refine W.loop1 A.length (fun k => k ≤ A.length ∧ A.take k = B.take k) (fun k => [(0, .slice a A.length ca), (1, .slice b B.length cb), (5, .int .i64 k)]) ⟨Nat.zero_le _, rfl⟩ (fun k h => h.1) ⟨rfl, rfl, rfl, trivial⟩ ?_
 rintro k ⟨hk, hT⟩
 by_cases hlt : k < A.length
 ·obtain ⟨x, hx⟩ := getI A hlt
  obtain ⟨y, hy⟩ := getI B (show k < B.length by omega)
  by_cases he : x = y
  ·subst he
   repeat' (first
    | (apply W.condKT; exact rfl; (focus (first | exact dec_true (by omega) | exact dec_false (fun h => h rfl); done)))
    | (apply W.condKF; exact rfl; (focus (first | exact dec_true (by omega) | exact dec_false (fun h => h rfl); done)))
    | (show WL _ _ _ _ _ _ _; first | apply WL.nil | (refine WL.au (k := ?_)))
    | (show QL _ _ _ _ _ _ _; first | apply QL.nil | (refine QL.au (k := ?_)) | (apply QL.index tOk; (iterate 8 exact rfl); assumption; (exact extA); exact rfl; omega; assumption; intro b off h; have hcc := h; first | (obtain ⟨h1, h2, h3, h4, h5, h6, _⟩ := h) | (obtain ⟨h1, h2, h3, _⟩ := h) | (obtain ⟨h1, h2, _⟩ := h) | (obtain ⟨h1, _⟩ := h)))
    | (show Z _ _ _ _ _; first | apply Z.then_normal | apply Z.block_normal)
    | (show W _ _ _ _ _ _; first | apply W.seq | apply W.region | apply W.block | apply W.skip | (apply W.regionD tMix; kernel_rfl))
    | fail)
   exact Z.again1 ⟨by omega, take_eqB hT hx hy rfl⟩ ⟨rfl, rfl, rfl, trivial⟩
  ·rw [dec_false (fun h => he (by rw [h] at hx; rw [hx] at hy; exact Option.some.inj hy))]
   repeat' (first
    | (apply W.condKT; exact rfl; (focus (first | exact dec_true (by omega) | exact dec_true he; done)))
    | (show WL _ _ _ _ _ _ _; first | apply WL.nil | (refine WL.au (k := ?_)))
    | (show QL _ _ _ _ _ _ _; first | apply QL.nil | (refine QL.au (k := ?_)) | (apply QL.index tOk; (iterate 8 exact rfl); assumption; (exact extA); exact rfl; omega; assumption; intro b off h; have hcc := h; first | (obtain ⟨h1, h2, h3, h4, h5, h6, _⟩ := h) | (obtain ⟨h1, h2, h3, _⟩ := h) | (obtain ⟨h1, h2, _⟩ := h) | (obtain ⟨h1, _⟩ := h)))
    | (show Z _ _ _ _ _; first | apply Z.then_normal | apply Z.then_ret | apply Z.block_ret)
    | (show W _ _ _ _ _ _; first | apply W.seq | apply W.region | apply W.block | apply W.skip | apply W.ret | (apply W.regionD tMix; kernel_rfl))
    | fail)
   exact Z.body1 Try.results44 rfl fun m => ⟨rfl, m, rfl⟩
 ·obtain rfl : k = A.length := by omega
  have hAB : A = B := by rw [List.take_length] at hT; rw [hT, hl, List.take_length]
  rw [dec_true hAB]
  repeat' (first
   | (apply W.condKF; exact rfl; (focus (exact dec_false (by omega); done)))
   | (show WL _ _ _ _ _ _ _; first | apply WL.nil | (refine WL.au (k := ?_)))
   | (show Z _ _ _ _ _; first | apply Z.then_normal | apply Z.then_exit | apply Z.block_exit)
   | (show W _ _ _ _ _ _; first | apply W.seq | apply W.region | apply W.ret | apply W.exit)
   | fail)
  exact Z.body1 Try.results44 rfl fun m => ⟨rfl, m, rfl⟩
end Go.Proofs.Yteidpnpbfagaeaa
namespace Go.Proofs.Yteidpnpbfagaeaa
open Go Go.Lt Go.RowKit
set_option linter.unusedVariables false
set_option linter.unusedSimpArgs false
set_option maxRecDepth 20000

theorem copy_semG {N n : List (Int × Int)} (hg : GoodNet n) (hT : Tidy N) {L : List Int} (hL : ∀ z ∈ L, hasL N z) (hin : cnt n n.length ≤ L.length) (ins : List Bool) : ∀ k, k ≤ n.length →
  Tidy (cto N n L k).2.2 ∧ (cto N n L k).2.1 = cnt n k ∧ ∀ i z, (cto N n L k).1[i]? = some z → ofL (values (cto N n L k).2.2 ins) z = (values n (L.map (ofL (values N ins)))).getD i false
 | 0, _ => by
  refine ⟨hT, rfl, fun i z hz => ?_⟩
  have hz' : [(0 : Int)][i]? = some z := hz
  have hi := lt_of_get hz'
  simp at hi
  subst hi
  simp at hz'
  subst hz'
  rw [values_zero, ofL_zero]
 | k + 1, hk => by
  obtain ⟨x, hx⟩ := getI n (show k < n.length by omega)
  obtain ⟨h1, h2, h3⟩ := copy_semG hg hT hL hin ins k (by omega)
  obtain ⟨i1, i2, i3, i4, i5, i6⟩ := cto_inv (N := N) (ins := L) hg hL k (by omega)
  rw [cto_succ hx]
  generalize cto N n L k = s at h1 h2 h3 i1 i2 i3 i4 i5 i6
  unfold cstep
  by_cases h0 : 0 ≤ x.1
  ·rw [if_pos h0]
   have hgt := hg.gate hx h0
   have ha := hasL_litI i2 (x := x.1) (by omega)
   have hb := hasL_litI i2 (x := x.2) (by omega)
   have hG : Grow s.2.2 (andV s.2.2 (litI s.1 x.1) (litI s.1 x.2)).2 := .gate _ _ (.refl _)
   have hl : ∀ y : Int, 0 ≤ y → (y / 2).toNat < s.1.length → ofL (values s.2.2 ins) (litI s.1 y) = ofL (values n (L.map (ofL (values N ins)))) y := by
    intro y hy0 hy
    obtain ⟨z, hz⟩ := getI s.1 hy
    have hzv := h3 _ z hz
    have hz0 := (i2 z (List.mem_of_getElem? hz)).1
    unfold litI xorI
    rw [getD_of hz]
    by_cases hp : y % 2 = 1
    ·rw [if_pos hp, ofL_xor1 _ hz0, hzv, ofL, decide_eq_true hp]; simp
    ·rw [if_neg hp, hzv, ofL, decide_eq_false hp]; simp
   refine ⟨h1.and _ _, by rw [h2, cnt_gate hx (by omega)], fun i z hz => ?_⟩
   rcases get_snoc hz with hz1 | ⟨rfl, rfl⟩
   ·rw [hG.of ins (i2 z (List.mem_of_getElem? hz1))]; exact h3 i z hz1
   ·rw [andV_of h1 ins ha hb, hl _ h0 (by omega), hl _ (by omega) (by omega), i1, values_gate hg _ hx h0]
  ·have hx0 : x.1 < 0 := by omega
   have hc1 := cnt_in hx hx0
   have hc2 := cnt_mono n (i := k + 1) (k := n.length) (by omega)
   have hlt : s.2.1 < L.length := by omega
   rw [if_neg h0, if_pos hlt]
   obtain ⟨q, hq⟩ := getI L hlt
   refine ⟨h1, by dsimp only; rw [h2, hc1], fun i z hz => ?_⟩
   rcases get_snoc hz with hz1 | ⟨rfl, rfl⟩
   ·exact h3 i z hz1
   ·rw [getD_of hq, i5.of ins (hL q (List.mem_of_getElem? hq)), i1, values_in _ hx hx0, ← h2]
    have e : (L.map (ofL (values N ins)))[s.2.1]? = some (ofL (values N ins) q) := by rw [List.getElem?_map, hq]; rfl
    rw [getD_of e]
theorem litI_of_copy {own : List Int} {V W : List Bool} {N : List (Int × Int)} (h : ∀ (i : Nat) z, own[i]? = some z → ofL V z = W.getD i false) (h0 : ∀ z ∈ own, hasL N z) {y : Int} (hy : (y / 2).toNat < own.length) : ofL V (litI own y) = ofL W y := by
 obtain ⟨z, hz⟩ := getI own hy
 have hzv := h _ z hz
 have hz0 := (h0 z (List.mem_of_getElem? hz)).1
 unfold litI xorI
 rw [getD_of hz]
 by_cases hp : y % 2 = 1
 ·rw [if_pos hp, ofL_xor1 _ hz0, hzv, ofL, decide_eq_true hp]; simp
 ·rw [if_neg hp, hzv, ofL, decide_eq_false hp]; simp
section
variable {c : CirT} (hg : GoodC' c)
include hg
theorem cpU_sem {u : UnV} (hU : UOk c u) (I : List Bool) {M : List (Int × Int)} (hM : Grow (cpU c u).2 M) {l : Int} (hl : KnL c l) :
  ofL (values M I) (uLit c (cpU c u).1 l) = litV c (u.last.map (ofL (values M I))) ((uinTo u.N c.ins.length).1.map (ofL (values M I))) l := by
 obtain ⟨hh, j1, j2, j3, j4, j5⟩ := cpU_ok hg hU
 obtain ⟨u1, u2, u3, u4⟩ := uinTo_inv u.N c.ins.length
 have hlast := hU.last
 have hgn := (cNet_ok hg).2
 have hcn := net_cnt hg (cNet c).1.length (Nat.le_refl _)
 have hT1 : Tidy (uinTo u.N c.ins.length).2 := u4.tidy hU.tidy
 have hlen : ((uinTo u.N c.ins.length).1 ++ u.last).length = c.ins.length + c.lat.length := by rw [List.length_append, u1, hlast.2.1]
 have hcs := (copy_semG hgn hT1 hh (by rw [hcn, hlen, inl_len]; exact Nat.min_le_right _ _) I (cNet c).1.length (Nat.le_refl _)).2.2
 have eC : cpU c u = ((cto (uinTo u.N c.ins.length).2 (cNet c).1 ((uinTo u.N c.ins.length).1 ++ u.last) (cNet c).1.length).1, (cto (uinTo u.N c.ins.length).2 (cNet c).1 ((uinTo u.N c.ins.length).1 ++ u.last) (cNet c).1.length).2.2) := by unfold cpU; exact copyV_yes hh
 have hgr : Grow (uinTo u.N c.ins.length).2 (cpU c u).2 := by rw [eC]; exact (cto_inv hgn hh (cNet c).1.length (Nat.le_refl _)).2.2.2.2.1
 have hbits : ((uinTo u.N c.ins.length).1 ++ u.last).map (ofL (values (uinTo u.N c.ins.length).2 I)) = insV c (u.last.map (ofL (values M I))) ((uinTo u.N c.ins.length).1.map (ofL (values M I))) := by
  unfold insV
  have a1 : brV ((uinTo u.N c.ins.length).1.map (ofL (values M I))) c.ins.length = (uinTo u.N c.ins.length).1.map (ofL (values M I)) := by
   have := brV_self ((uinTo u.N c.ins.length).1.map (ofL (values M I)))
   rw [List.length_map, u1] at this; exact this
  have a2 : brV (u.last.map (ofL (values M I))) c.lat.length = u.last.map (ofL (values M I)) := by
   have := brV_self (u.last.map (ofL (values M I)))
   rw [List.length_map, hlast.2.1] at this; exact this
  rw [a1, a2, ← List.map_append]
  exact List.map_congr_left fun z hz => ((hgr.trans hM).of I (hh z hz)).symm
 rw [uLit_known hg _ (fun z hz => (j2 z hz).1) j1 hl]
 have hr := knL_range hg hl
 have hz := hasL_litI j2 (x := litI (cNet c).2 l) (by omega)
 rw [hM.of I hz]
 unfold litV stepV
 rw [← hbits]
 refine litI_of_copy (N := (cpU c u).2) (fun i z hz => ?_) j2 (by omega)
 rw [eC] at hz ⊢
 exact hcs i z hz
structure USem (c : CirT) (u : UnV) (I : List Bool) : Prop where
 lit : ∀ (k : Nat) o i s, u.own[k]? = some o → u.ins[k]? = some i → u.st[k]? = some s → ∀ l, KnL c l → ofL (values u.N I) (uLit c o l) = litV c (s.map (ofL (values u.N I))) (i.map (ofL (values u.N I))) l
 next : ∀ (k : Nat) o s, u.own[k]? = some o → u.st[k + 1]? = some s → s = nextU c o
theorem USem.up {u : UnV} {I : List Bool} (h : USem c u I) (hU : UOk c u) {M : List (Int × Int)} (hM : Grow u.N M) : USem c { u with N := M } I := by
 refine ⟨fun k o i s h1 h2 h3 l hl => ?_, h.next⟩
 have e1 : s.map (ofL (values M I)) = s.map (ofL (values u.N I)) := List.map_congr_left fun z hz => hM.of I ((hU.st s (List.mem_of_getElem? h3)).2 z hz)
 have e2 : i.map (ofL (values M I)) = i.map (ofL (values u.N I)) := List.map_congr_left fun z hz => hM.of I ((hU.ins i (List.mem_of_getElem? h2)).2 z hz)
 have ho := hU.own o (List.mem_of_getElem? h1)
 show ofL (values M I) _ = litV c (s.map (ofL (values M I))) (i.map (ofL (values M I))) l
 rw [e1, e2, hM.of I (uLit_has hg ho.2 ho.1 hl)]
 exact h.lit k o i s h1 h2 h3 l hl
omit hg in
theorem USem.new (free : Bool) (I : List Bool) : USem c (newU c free) I := ⟨fun k o i s h1 => by simp [newU] at h1, fun k o s h1 => by simp [newU] at h1⟩
theorem USem.grow {u : UnV} {I : List Bool} (h : USem c u I) (hU : UOk c u) : USem c (growU c u) I := by
 obtain ⟨_, j1, j2, j3, j4, j5⟩ := cpU_ok hg hU
 have hup := USem.up hg h hU j5
 have hli := hU.li
 have hls := hU.ls
 have hlast := hU.last.1
 have e9 : u.st.length - 1 = u.own.length := by omega
 rw [e9] at hlast
 refine ⟨fun k o i s h1 h2 h3 l hl => ?_, fun k o s h1 h2 => ?_⟩
 ·rcases get_snoc (N := u.own) h1 with a1 | ⟨a1, rfl⟩
  ·have hk := lt_of_get a1
   have b2 : u.ins[k]? = some i := by
    rcases get_snoc (N := u.ins) h2 with b | ⟨b, _⟩
    ·exact b
    ·omega
   have b3 : u.st[k]? = some s := by
    rcases get_snoc (N := u.st) h3 with b | ⟨b, _⟩
    ·exact b
    ·omega
   exact hup.lit k o i s a1 b2 b3 l hl
  ·have b2 : i = (uinTo u.N c.ins.length).1 := by
    rcases get_snoc (N := u.ins) h2 with b | ⟨_, b⟩
    ·have := lt_of_get b; omega
    ·exact b
   have b3 : u.st[k]? = some s := by
    rcases get_snoc (N := u.st) h3 with b | ⟨b, _⟩
    ·exact b
    ·omega
   rw [a1, hlast] at b3
   cases b3
   subst b2
   exact cpU_sem hg hU I (.refl _) hl
 ·rcases get_snoc (N := u.own) h1 with a1 | ⟨a1, rfl⟩
  ·have hk := lt_of_get a1
   rcases get_snoc (N := u.st) h2 with b | ⟨b, _⟩
   ·exact h.next k o s a1 b
   ·omega
  ·rcases get_snoc (N := u.st) h2 with b | ⟨_, b⟩
   ·have := lt_of_get b; omega
   ·exact b
theorem USem.states {u : UnV} {I : List Bool} (h : USem c u I) (hU : UOk c u) {s0 : List Int} (h0 : u.st[0]? = some s0) : ∀ (k : Nat) s, u.st[k]? = some s → stateV c (s0.map (ofL (values u.N I))) (u.ins.map fun l => l.map (ofL (values u.N I))) k = s.map (ofL (values u.N I))
 | 0, s, hs => by
  rw [h0] at hs; cases hs
  show brV _ _ = _
  have := brV_self (s0.map (ofL (values u.N I)))
  rw [List.length_map, (hU.st s0 (List.mem_of_getElem? h0)).1] at this; exact this
 | k + 1, s, hs => by
  have hl := lt_of_get hs
  have hls := hU.ls
  have hli := hU.li
  obtain ⟨o, ho⟩ := getI u.own (show k < _ by omega)
  obtain ⟨i, hi⟩ := getI u.ins (show k < _ by omega)
  obtain ⟨s1, hs1⟩ := getI u.st (show k < _ by omega)
  have ih := USem.states h hU h0 k s1 hs1
  have hi' : (u.ins.map fun l => l.map (ofL (values u.N I)))[k]? = some (i.map (ofL (values u.N I))) := by rw [List.getElem?_map, hi]; rfl
  show nextV c _ _ = _
  rw [ih, getD_of hi', h.next k o s ho hs]
  unfold nextV nextU
  rw [List.map_map]
  exact List.map_congr_left fun t ht => (h.lit k o i s1 ho hi hs1 t.2.1 (knL_used hg (used_next ht))).symm
omit hg in
theorem ulTo_sem {a b : List Int} {N : List (Int × Int)} (hT : Tidy N) (I : List Bool) (ha : ∀ z ∈ a, hasL N z) (hb : ∀ z ∈ b, hasL N z) (hl : b.length = a.length) : ∀ k, k ≤ a.length →
  (ofL (values (ulTo a b N k).2 I) (ulTo a b N k).1 = true ↔ (a.take k).map (ofL (values N I)) ≠ (b.take k).map (ofL (values N I)))
 | 0, _ => by
  have e : ulTo a b N 0 = (0, N) := rfl
  rw [e, ofL_zero]; simp [values_zero]
 | k + 1, hk => by
  obtain ⟨x, hx⟩ := getI a (show k < _ by omega)
  obtain ⟨y, hy⟩ := getI b (show k < _ by omega)
  obtain ⟨i1, i2, i3, i4⟩ := ulTo_inv ha hb hl k (by omega)
  have ih := ulTo_sem hT I ha hb hl k (by omega)
  rw [ulTo_succ]
  unfold ulStep
  rw [getD_of hx, getD_of hy, take_succ' hx, take_succ' hy]
  generalize ulTo a b N k = s at i1 i2 i3 i4 ih
  have hxN := ha x (List.mem_of_getElem? hx)
  have hyN := hb y (List.mem_of_getElem? hy)
  have hxh := hasL_mono hxN i2
  have hyh := hasL_mono hyN i2
  have hTs := i4.tidy hT
  have l1 : s.2.length ≤ (xorV s.2 x y).2.length ∧ (xorV s.2 x y).2.length ≤ s.2.length + 3 := muxV_len _ _ _ _
  have h1 : hasL (xorV s.2 x y).2 (xorV s.2 x y).1 := muxV_has hxh (notL_has hyh) hyh
  have hG : Grow s.2 (xorV s.2 x y).2 := muxV_grow _ _ _ _
  rw [orV_of (hG.tidy hTs) I (hasL_mono i1 l1.1) h1, hG.of I i1, xorV_of hTs I hxh hyh, i4.of I hxN, i4.of I hyN, Bool.or_eq_true, ih, List.map_append, List.map_append, List.map_singleton, List.map_singleton]
  constructor
  ·rintro (h | h) he
   ·exact h (List.append_inj_left he (by simp; omega))
   ·have := List.append_inj_right he (by simp; omega)
    simp only [List.cons.injEq, and_true] at this
    rw [this] at h; simp at h
  ·intro h
   by_cases h2 : (a.take k).map (ofL (values N I)) = (b.take k).map (ofL (values N I))
   ·right
    rw [h2] at h
    simpa using h
   ·exact .inl h2
theorem new_starts (I : List Bool) {M : List (Int × Int)} : ∀ k, k ≤ c.lat.length → ∀ (j : Nat) t z, j < k → c.lat[j]? = some t → (firstTo c false k).1[j]? = some z → (¬ (t.2.2 = 0 ∧ ofL (values M I) z = true) ∧ ¬ (t.2.2 = 1 ∧ ofL (values M I) z = false))
 | 0, _, j, t, z, hj, _, _ => by omega
 | k + 1, hk, j, t, z, hj, ht, hz => by
  obtain ⟨t', ht'⟩ := getI c.lat (show k < _ by omega)
  have hl := (firstTo_inv hg false k (by omega)).1
  rw [firstTo_succ ht'] at hz
  by_cases h1 : 1 < t'.2.2
  ·rw [fstep_in (.inr h1)] at hz
   rcases get_snoc hz with hz | ⟨hz, _⟩
   ·have := lt_of_get hz
    exact new_starts I k (by omega) j t z (by omega) ht hz
   ·rw [hl] at hz; subst hz
    rw [ht] at ht'; cases ht'
    exact ⟨fun h => by have := h.1; omega, fun h => by have := h.1; omega⟩
  ·rw [fstep_no (fun h => h.elim (fun h => by cases h) h1)] at hz
   rcases get_snoc hz with hz1 | ⟨hj2, rfl⟩
   ·have := lt_of_get hz1
    exact new_starts I k (by omega) j t z (by omega) ht hz1
   ·rw [hl] at hj2; subst hj2
    rw [ht] at ht'; cases ht'
    refine ⟨fun h => ?_, fun h => ?_⟩
    ·obtain ⟨k1, k2⟩ := h
     rw [k1, ofL_zero] at k2; cases k2
    ·obtain ⟨k1, k2⟩ := h
     rw [k1, ofL_one] at k2; cases k2
end
end Go.Proofs.Yteidpnpbfagaeaa
namespace Go.Proofs.Yteidpnpbfagaeaa
open Go Go.Lt Go.RowKit
set_option linter.unusedVariables false
set_option linter.unusedSimpArgs false
set_option maxRecDepth 20000

theorem runI_get {r : RunV} {k : Nat} {x : RowV Bool} (h : r.ins.2.2[k]? = some x) : r.i[k]? = some x.2.2 := by
 show (r.ins.2.2.map (·.2.2))[k]? = _
 rw [List.getElem?_map, h]; rfl
theorem runI_len (r : RunV) : r.i.length = r.ins.2.2.length := List.length_map _
theorem range_map_succ {α : Type} (f : Nat → α) (k : Nat) : (List.range (k + 1)).map f = (List.range k).map f ++ [f k] := by rw [List.range_succ, List.map_append]; rfl
set_option maxHeartbeats 2000000 in
theorem ref17_States (gm : Nat) (c : Circ) (rn : RowV (Int × Int)) (ra : RowV Int) (r : RunV) (w : World) (hM : MAt w gm c rn ra) (hR : RAt w r) (hn : r.ins.2.2.length ≤ 1048576) :
  Lt.Spec Try.prog 31 [.pointer (some ⟨gm, 0, none⟩), r.val] w (IsFreshRR 1 encB 4 31 w (statesV c.t r.s r.i)) := by
 have hM' := hM
 obtain ⟨hcells, hC, Rn, Ra, en, ea, hg, hz⟩ := hM
 have k2 : c.lat.2.2.length ≤ 100000 := hz.2.1
 refine Spec.of _ Try.func31 rfl Try.ntmps31 (by kernel_rfl) rfl ?_
 repeat' (first
  | (apply WL.box; (iterate 3 exact rfl); intro gb w' hb hge hc hx; have hcc := hc; (first | (obtain ⟨h1, h2, h3, _⟩ := hc) | (obtain ⟨h1, h2, _⟩ := hc)); (obtain ⟨gr, rfl⟩ : ∃ x, x = gb := ⟨_, rfl⟩; obtain ⟨wr, rfl⟩ : ∃ x, x = w' := ⟨_, rfl⟩; obtain ⟨hxr, rfl⟩ : ∃ x, x = hx := ⟨_, rfl⟩))
  | (show WL _ _ _ _ _ _ _; first | apply WL.nil | (refine WL.au (k := ?_)))
  | (show Z _ _ _ _ _; apply Z.then_normal)
  | (show W _ _ _ _ _ _; first | apply W.seq | apply W.region)
  | fail)
 have hcr := hcells.ext hxr
 obtain ⟨y0, y1, y2, _⟩ := hcr
 repeat' (first
  | (apply FL.nilc; (iterate 3 exact rfl))
  | (show W _ _ (.region 1 _ _) _ _ _; apply W.regionGX (.fl true 1 (.fl true 3 (.fl true 4 (.fl true 5 (.fl true 6 (.fl false 2 (.fl false 7 (.fl true 8 (.br 0 (.br 9 (.fl true 10 (.fl true 11 .done)) .stop) (.br 9 (.br 0 (.fl true 10 (.fl true 11 .done)) .stop) .stop)))))))))) [0, 7, 8, 9, 10] tMix; kernel_rfl)
  | (apply WL.lit (len := 0) tOk; (iterate 6 exact rfl); (first | exact rfl | kernel_rfl | (simp [Instr.fill, catCells]; done)); exact rfl; intro gb w' hb hge hc hx; have hO0 := Own.of_block0 (enc := encRB) (s := 1) hb hge; (obtain ⟨g8, rfl⟩ : ∃ x, x = gb := ⟨_, rfl⟩))
  | ((show WL _ _ _ (⟨_, .call ⟨.value (.func 16), _, _⟩, _, _, _, _⟩ :: _) _ _ _); apply WL.call; (iterate 4 exact rfl); exact ref17_Brought _ _ r.s c.lat.2.2.length _ (hR.st.ext extA) (by omega); rintro v' w' ⟨hx, a', cap', rfl, hO⟩)
  | (show SX _ _ _ _ _ _ _ _ _; first | (apply SX.done; intro w' hx) | (apply SX.fl0; exact rfl) | (apply SX.fl1; exact rfl; (exact extA)) | (apply SX.br1; exact rfl; intro w' hx) | (apply SX.br; exact rfl; (intro w' hx)))
  | (show FL _ _ _ _ _ _ _ _; first | apply FL.nilX | (apply FL.loadE tOk; (iterate 5 exact rfl); (first | assumption | (focus (apply Ext.cell; rotate_left; assumption; exact extA; done)))))
  | (show FL _ _ _ _ _ _ _ _; (refine FL.au (k := ?_)))
  | (show Z _ _ _ _ _; (apply Z.sxE; (exact extA)))
  | (show WL _ _ _ _ _ _ _; first | apply WL.nil | (refine WL.au (k := ?_)))
  | (show Z _ _ _ _ _; apply Z.then_normal)
  | (show W _ _ _ _ _ _; first | apply W.seq | apply W.region | apply W.block)
  | fail)
 all_goals
  have hXr : Ext wr w' := extA
  have h0 : RR1 1 encB 4 31 wr.heap.size w' (some ⟨g8, 0, none⟩) 0 [] a' cap' (brV r.s c.lat.2.2.length) := by
   refine RR1.first (Own.base (Own.ext hO extA) (Below.size extA)) (Own.base (Own.ext hO0 extA) (Below.size extA)) fun k hk => ?_
   first
   | exact Nat.ne_of_gt (Nat.lt_of_lt_of_le (Nat.lt_of_lt_of_le (heap_lt hb) (Below.size extA)) (hO.blk_lt k hk).1)
   | exact Nat.ne_of_lt (Nat.lt_of_lt_of_le (Nat.lt_of_lt_of_le (hO.blk_lt k hk).2 (Below.size extA)) hge)
  have hXw : Ext w w' := hxr.trans hXr
  obtain ⟨b0, rfl⟩ : ∃ x, x = a' := ⟨_, rfl⟩; obtain ⟨d0, rfl⟩ : ∃ x, x = cap' := ⟨_, rfl⟩; obtain ⟨w1, rfl⟩ : ∃ x, x = w' := ⟨_, rfl⟩
  clear hO hO0
  refine W.loopO2 r.ins.2.2.length (fun k a cp b dp w' => k ≤ r.ins.2.2.length ∧ Ext wr w' ∧ ∃ rs : List (RowV Bool), rs.length = k ∧ rs.map (fun q => q.2.2) = (List.range k).map (stateV c.t r.s r.i) ∧ RR1 1 encB 4 31 wr.heap.size w' a cp rs b dp (stateV c.t r.s r.i k))
   (fun k a cp b dp => [(0, .pointer (some ⟨gm, 0, none⟩)), (3, .pointer (some ⟨gr, 0, none⟩)), (5, .slice a k cp), (6, .slice b (stateV c.t r.s r.i k).length dp), (7, .int .i64 k)]) (some ⟨g8, 0, none⟩) 0 b0 d0 ⟨Nat.zero_le _, hXr, [], rfl, rfl, h0⟩ (fun k a cp b dp w' h => h.1) ⟨rfl, rfl, rfl, rfl, rfl, trivial⟩ ?_
  clear h0
  rintro k a cp b dp w2 ⟨hk, hX2, rs, hl, he, hR1⟩
  have hsl := stateV_len c.t r.s r.i k
  have hsl' : (stateV c.t r.s r.i k).length = c.lat.2.2.length := hsl
  have hcc2 := hcc.ext hX2
  obtain ⟨k1, k3, _⟩ := hcc2
  have hRi := hR.ins
  have hXw2 : Ext w w2 := hxr.trans hX2
  by_cases hlt : k < r.ins.2.2.length
  ·obtain ⟨x, hx⟩ := getI r.ins.2.2 hlt
   have hxi := runI_get hx
   have hxr2 := hR.each x (List.mem_of_getElem? hx)
   have e1 : stateV c.t r.s r.i (k + 1) = nextV c.t (stateV c.t r.s r.i k) x.2.2 := by
    show nextV c.t _ (r.i.getD k []) = _; rw [getD_of hxi]
   have hOo : Own 1 encRB 31 wr.heap.size w2 a cp rs := hR1.rr.outer
   have RSt := hR1.own.row encB_ok
   repeat' (first
    | (apply W.condKT; exact rfl; (focus (exact dec_true (by omega); done)))
    | (apply WL.lit tOk; (iterate 6 exact rfl); (first | exact rfl | kernel_rfl | (simp [Instr.fill, catCells]; done)); exact rfl; intro gb w' hb hge hc hx)
    | (apply WL.append1 (z := (((b, dp, stateV c.t r.s r.i k) : RowV Bool))) tOk encRB_ok; (iterate 10 exact rfl); assumption; (exact extA); (first | exact rfl | (focus (simp only [List.length_set]; done)) | (focus (simp; done)) | (focus (simp [*]; done)) | omega | (focus (simp only [List.length_set]; omega))); (first | assumption | (refine Cells.ext ?_ (by assumption); exact extA)); exact rfl; exact rfl; (exact extA); (first | omega | (simp; omega) | (simp at *; omega)); intro a' cap' w' hO hX' hU hF)
    | (show WL _ _ _ _ _ _ _; first | apply WL.nil | (refine WL.au (k := ?_)))
    | (show Z _ _ _ _ _; apply Z.then_normal)
    | (show W _ _ _ _ _ _; first | apply W.seq | apply W.region | apply W.block | apply W.skip)
    | fail)
   have hXn : Ext wr w' := hX'
   have hR2 := (hR1.ext hx).push hU hO hF
   have hl2 : (rs ++ [((b, dp, stateV c.t r.s r.i k) : RowV Bool)]).length = k + 1 := by rw [List.length_append, hl]; rfl
   have he2 : (rs ++ [((b, dp, stateV c.t r.s r.i k) : RowV Bool)]).map (fun q => q.2.2) = (List.range (k + 1)).map (stateV c.t r.s r.i) := by rw [List.map_append, he, range_map_succ]; rfl
   have hget : (rs ++ [((b, dp, stateV c.t r.s r.i k) : RowV Bool)])[k]? = some (b, dp, stateV c.t r.s r.i k) := by rw [List.getElem?_append_right (by omega), hl]; simp
   have RSt2 : Row 1 encB w' b (stateV c.t r.s r.i k) := hR2.row encB_ok hget
   obtain ⟨k4, k5, _⟩ := hcc.ext hXn
   clear hOo RSt hO hU hF
   obtain ⟨w3, rfl⟩ : ∃ x, x = w' := ⟨_, rfl⟩; obtain ⟨a3, rfl⟩ : ∃ x, x = a' := ⟨_, rfl⟩; obtain ⟨c3, rfl⟩ : ∃ x, x = cap' := ⟨_, rfl⟩
   have hM3 := hM'.ext (hxr.trans hXn)
   have hRi3 := hRi.ext (hxr.trans hXn)
   have hxr3 := hxr2.ext (hxr.trans hXn)
   repeat' (first
    | ((show WL _ _ _ (⟨_, .call ⟨.value (.func 18), _, _⟩, _, _, _, _⟩ :: _) _ _ _); apply WL.call; (iterate 4 exact rfl); exact ref17_Next gm c rn ra _ _ _ _ (stateV c.t r.s r.i k) x.2.2 _ (hM3.ext extA) (RSt2.ext extA) (hxr3.ext extA); rintro v' w' ⟨hx, a', cap', rfl, hO⟩)
    | (show WL _ _ _ _ _ _ _; first | apply WL.nil | (refine WL.au (k := ?_)) | (apply WL.index tOk; (iterate 8 exact rfl); assumption; (exact extA); exact rfl; omega; assumption; intro b off h; have hcc := h; first | (obtain ⟨h1, h2, h3, h4, h5, h6, _⟩ := h) | (obtain ⟨h1, h2, h3, _⟩ := h) | (obtain ⟨h1, h2, _⟩ := h) | (obtain ⟨h1, _⟩ := h)))
    | (show Z _ _ _ _ _; first | apply Z.then_normal | apply Z.block_normal)
    | (show W _ _ _ _ _ _; apply W.region)
    | fail)
   rw [← e1] at hO ⊢
   exact Z.againO2 a3 c3 a' cap' ⟨by omega, hXn.trans extA, _, hl2, he2, RR1.new hR2 extA hO (Below.size hXn)⟩ ⟨rfl, rfl, congrArg (fun z => some (Value.slice a3 z c3)) hl2, rfl, rfl, trivial⟩
  ·obtain rfl : k = r.ins.2.2.length := by omega
   repeat' (first
    | (apply W.condKF; exact rfl; (focus (exact dec_false (by omega); done)))
    | (show WL _ _ _ _ _ _ _; first | apply WL.nil | (refine WL.au (k := ?_)))
    | (show Z _ _ _ _ _; first | apply Z.then_normal | apply Z.then_exit | apply Z.block_exit)
    | (show W _ _ _ _ _ _; first | apply W.seq | apply W.region | apply W.ret | apply W.exit)
    | fail)
   have he' : rs.map (fun q => q.2.2) = statesV c.t r.s r.i := by rw [he]; unfold statesV; rw [runI_len]
   refine Z.body1 Try.results31 rfl fun m => ⟨hXw2.at m, a, cp, rs, by rw [hl], (hR1.rr.base (Below.size hxr)).at m, he'⟩

theorem statesV_i (c : CirT) (r : RunV) {k : Nat} {rs : List (RowV Bool)} (h : rs.map (fun q => q.2.2) = statesV c r.s r.i) (hk : k < r.ins.2.2.length) : ∃ q, rs[k]? = some q ∧ q.2.2 = stateV c r.s r.i k := by
 have h1 : (rs.map (fun q => q.2.2))[k]? = some (stateV c r.s r.i k) := by rw [h]; exact statesV_get c r.s r.i (by rw [runI_len]; exact hk)
 rw [List.getElem?_map] at h1
 obtain ⟨q, hq, he⟩ := Option.map_eq_some_iff.1 h1
 exact ⟨q, hq, he⟩
end Go.Proofs.Yteidpnpbfagaeaa
namespace Go.Proofs.Yteidpnpbfagaeaa
open Go Go.Lt Go.RowKit
set_option linter.unusedVariables false
set_option linter.unusedSimpArgs false
set_option maxRecDepth 20000

set_option maxHeartbeats 1000000 in
theorem ref17_NewB (c : Circ) (w : World) (hC : CAt w c) (hg : GoodC' c.t) (hz : SzC c.t 100000) :
  Lt.Spec Try.prog 15 [c.val] w (fun v w' => Ext w w' ∧ ∃ gm rn ra, v = .pointer (some ⟨gm, 0, none⟩) ∧ MAt w' gm c rn ra ∧ (w.heap.size ≤ gm ∧ gm < w'.heap.size) ∧ (∀ k, blk rn.1 = some k → w.heap.size ≤ k ∧ k < w'.heap.size) ∧ ∀ k, blk ra.1 = some k → w.heap.size ≤ k ∧ k < w'.heap.size) := by
 refine Spec.of _ Try.func15 rfl Try.ntmps15 (by kernel_rfl) rfl ?_
 repeat' (first
  | (apply WL.box; (iterate 3 exact rfl); intro gb w' hb hge hc hx; have hcc := hc; (first | (obtain ⟨h1, h2, h3, _⟩ := hc) | (obtain ⟨h1, h2, _⟩ := hc)); (first | (have h_0 := hcells; clear h_0) | (have hcells := hcc; obtain ⟨gc, rfl⟩ : ∃ x, x = gb := ⟨_, rfl⟩; obtain ⟨wc, rfl⟩ : ∃ x, x = w' := ⟨_, rfl⟩; obtain ⟨hxc, rfl⟩ : ∃ x, x = hx := ⟨_, rfl⟩)))
  | (((show WL _ _ _ (⟨_, .call ⟨.value (.func 63), _, _⟩, _, _, _, _⟩ :: _) _ _ _); apply WL.call; (iterate 4 exact rfl); exact ref11_Net c _ (hC.ext extA) hg hz; rintro v' w7 ⟨hx7, am, cm, ab, cb, rfl, hOm, hOb⟩; have hcells7 := hcells.ext hx7; have Rm := hOm.row encN_ok; have Rb := hOb.row encI_ok))
  | (apply WL.build tOk; (iterate 7 exact rfl); kernel_rfl)
  | (show WL _ _ _ _ _ _ _; first | apply WL.nil | (refine WL.au (k := ?_)))
  | (show Z _ _ _ _ _; apply Z.then_normal)
  | (show W _ _ _ _ _ _; first | apply W.seq | apply W.region | apply W.ret)
  | fail)
 have hcm : Cells w' gb 0 (c.vals ++ [.slice am (cNet c.t).1.length cm, .slice ab (cNet c.t).2.length cb]) := hcc
 exact Z.body1 Try.results15 rfl fun m => ⟨Ext.at extA m, gb, (am, cm, (cNet c.t).1), (ab, cb, (cNet c.t).2), rfl, (MAt.mk hcm (hC.ext extA) (Rm.ext extA) (Rb.ext extA) rfl rfl hg hz : MAt w' gb c (am, cm, (cNet c.t).1) (ab, cb, (cNet c.t).2)).ext ((Ext.refl _).at m), ⟨Nat.le_trans (Below.size (show Ext w w7 from extA)) hge, heap_lt hb⟩, fun k hk => ⟨Nat.le_trans (Below.size (show Ext w _ from extA)) (hOm.blk_lt k hk).1, Nat.lt_of_lt_of_le (hOm.blk_lt k hk).2 (Below.size (Ext.at (show Ext w7 w' from extA) m))⟩, fun k hk => ⟨Nat.le_trans (Below.size (show Ext w _ from extA)) (hOb.blk_lt k hk).1, Nat.lt_of_lt_of_le (hOb.blk_lt k hk).2 (Below.size (Ext.at (show Ext w7 w' from extA) m))⟩⟩

theorem Cells.keepB {w w' : World} {b : Nat} (e : w'.heap[b]? = w.heap[b]?) : ∀ {L : List Value} {o : Nat}, Cells w b o L → Cells w' b o L
 | [], _, _ => trivial
 | u :: r, o, hc => ⟨by have h3 := hc.1; simp only [World.cell?] at h3 ⊢; rw [e]; exact h3, Cells.keepB e hc.2⟩
theorem MAt.keepU {w w1 w2 : World} {gm g B : Nat} {c : Circ} {rn : RowV (Int × Int)} {ra : RowV Int} (h : MAt w1 gm c rn ra) (hC : CAt w c) (hx : Ext w w2) (hU : Upd B (some ⟨g, 0, none⟩) w1 w2) (hm : gm < w1.heap.size ∧ gm ≠ g) (hn : ∀ k, blk rn.1 = some k → k < w1.heap.size ∧ k ≠ g) (ha : ∀ k, blk ra.1 = some k → k < w1.heap.size ∧ k ≠ g) : MAt w2 gm c rn ra := by
 have key : ∀ k, k < w1.heap.size ∧ k ≠ g → w2.heap[k]? = w1.heap[k]? := fun k hk => hU.grown.block k hk.1 fun he => by
  simp only [blk, Option.map_some, Option.some.injEq] at he; exact hk.2 he
 exact ⟨Cells.keepB (key gm hm) h.cells, hC.ext hx, h.net.keep fun k hk => key k (hn k hk), h.at_.keep fun k hk => key k (ha k hk), h.en, h.ea, h.good, h.size⟩
theorem Row.keepU {α : Type} {s : Nat} {enc : α → List Value} {w1 w2 : World} {g B : Nat} {a : Option Addr} {l : List α} (h : Row s enc w1 a l) (hU : Upd B (some ⟨g, 0, none⟩) w1 w2) (ha : ∀ k, blk a = some k → k < w1.heap.size ∧ k ≠ g) : Row s enc w2 a l :=
 h.keep fun k hk => hU.grown.block k (ha k hk).1 fun he => by
  simp only [blk, Option.map_some, Option.some.injEq] at he; exact (ha k hk).2 he
noncomputable def uK (c : CirT) (free : Bool) : Nat → UnV
 | 0 => newU c free
 | k + 1 => growU c (uK c free k)
theorem uK_ok {c : CirT} (hg : GoodC' c) (free : Bool) (I : List Bool) : ∀ k, UOk c (uK c free k) ∧ (uK c free k).N.length ≤ c.lat.length + k * (c.ins.length + (cNet c).1.length) ∧ (uK c free k).own.length = k ∧ USem c (uK c free k) I ∧ (uK c free k).st[0]? = some (firstTo c free c.lat.length).1
 | 0 => ⟨(newU_ok hg free).1, by have := (newU_ok hg free).2; show (newU c free).N.length ≤ _; omega, rfl, USem.new free I, rfl⟩
 | k + 1 => by
  obtain ⟨i1, i2, i3, i4, i5⟩ := uK_ok hg free I k
  obtain ⟨g1, g2, g3, g4⟩ := growU_ok hg i1
  refine ⟨g1, ?_, ?_, USem.grow hg i4 i1, ?_⟩
  ·show (growU c (uK c free k)).N.length ≤ _
   rw [Nat.succ_mul]; omega
  ·show (growU c (uK c free k)).own.length = _
   unfold growU; simp [i3]
  ·show ((uK c free k).st ++ _)[0]? = _
   rw [List.getElem?_append_left (lt_of_get i5)]; exact i5
theorem net_len2 {c : CirT} (hg : GoodC' c) : (cNet c).1.length ≤ c.ins.length + c.lat.length + c.gates.length := by
 rw [(cNet_ok hg).1.len1]
 have h2 := (ordL_is c.gates).1.le
 show (c.ins ++ c.lat.map (·.1) ++ (ordL c.gates).map (fun i => (gAt c.gates i).1)).length ≤ _
 simp; omega
theorem law19_of (g14 g16 cn cv : Nat) (an av : Option Addr) (n : List (Int × Int)) (V : List Bool) (l : Int) (b : Bool) (w : World) (h14 : w.cell? ⟨g14, 0, none⟩ = some (.slice an n.length cn)) (h16 : w.cell? ⟨g16, 0, none⟩ = some (.slice av V.length cv)) (RV : Row 1 encB w av V) (hV : V.length = n.length + 1) (hn : n.length ≤ 1048576) (hl : hasL n l) (hb : ofL V l = b) :
  Still Try.prog 39 ([.int .i64 l, .bool b] ++ [.pointer (some ⟨g14, 0, none⟩), .pointer (some ⟨g16, 0, none⟩)]) w (.bool true) := by
 unfold hasL at hl
 have hof := ref07_Of av cv V l w RV ⟨hl.1, by omega, by omega⟩
 rw [hb] at hof
 refine Spec.of _ Try.func39 rfl Try.ntmps39 (by kernel_rfl) rfl ?_
 repeat' (first
  | (apply WL.gT; exact rfl; exact rfl; (focus (exact dec_true (by omega); done)))
  | (((show WL _ _ _ (⟨_, .call ⟨.value (.func 40), _, _⟩, _, _, _, _⟩ :: _) _ _ _); apply WL.callS; (iterate 4 exact rfl); exact hof))
  | (show WL _ _ _ _ _ _ _; first | apply WL.nil | (refine WL.au (k := ?_)))
  | (show Z _ _ _ _ _; apply Z.then_normal)
  | (show W _ _ _ _ _ _; first | apply W.seq | apply W.region | apply W.ret)
  | fail)
 exact Z.body1 Try.results39 rfl fun m => ⟨congrArg Value.bool (dec_true rfl), m, rfl⟩
theorem pickL_get {l : List Int} {j : Nat} {y : Int} (h : l[j]? = some y) : pickL l j = y := by
 have := lt_of_get h
 unfold pickL; rw [if_pos (by omega), Int.toNat_natCast, getD_of h]
theorem rowU_get {ls : List (List Int)} {k : Nat} {s : List Int} (h : ls[k]? = some s) : rowU ls k = s := by
 have := lt_of_get h
 unfold rowU; rw [if_pos (by omega), Int.toNat_natCast, getD_of h]
theorem state_get {u : UnV} {k j : Nat} {s : List Int} {y : Int} (h : u.st[k]? = some s) (hy : s[j]? = some y) : u.state k j = y := by
 unfold UnV.state; rw [rowU_get h, pickL_get hy]
theorem lit_get {c : CirT} {u : UnV} {k : Nat} {o : List Int} (h : u.own[k]? = some o) (l : Int) : u.lit c k l = uLit c o l := by
 have := lt_of_get h
 unfold UnV.lit; rw [if_pos (by omega), Int.toNat_natCast, getD_of h]
theorem bad_get {c : CirT} {u : UnV} {k j : Nat} {o : List Int} {l : Int} (h : u.own[k]? = some o) (hl : c.bads[j]? = some l) : u.bad c k j = uLit c o l := by
 unfold UnV.bad; rw [pickL_get hl, lit_get h]
theorem cons_get {c : CirT} {u : UnV} {k : Nat} {o : List Int} (h : u.own[k]? = some o) : u.cons c k = c.cons.map (uLit c o) := by
 have := lt_of_get h
 unfold UnV.cons; rw [if_pos (by omega)]
 exact List.map_congr_left fun x _ => lit_get h x
theorem dec_bool {p : Prop} {b : Bool} (h : p ↔ b = true) : dec p = b := by
 cases b
 ·exact dec_false fun hp => by cases h.1 hp
 ·exact dec_true (h.2 rfl)
theorem badP_lit {c : CirT} {s i : List Bool} {j : Nat} {l : Int} (hl : c.bads[j]? = some l) : BadP c s i j ↔ litV c s i l = true := by
 unfold BadP
 rw [Int.toNat_natCast, hl]
 exact ⟨fun ⟨_, l', h1, h2⟩ => by cases h1; exact h2, fun h => ⟨by omega, l, rfl, h⟩⟩
end Go.Proofs.Yteidpnpbfagaeaa
namespace Go.Proofs.Yteidpnpbfagaeaa
open Go Go.Lt Go.RowKit
set_option linter.unusedVariables false
set_option linter.unusedSimpArgs false
set_option maxRecDepth 20000

set_option maxRecDepth 20000 in
set_option maxHeartbeats 32000000 in
theorem law_UnrollMeans (c : Circ) (free : Bool) (many : Int) (ab : Option Addr) (cb : Nat) (ins : List Bool) (w : World) (hC : CAt w c) (Rb : Row 1 encB w ab ins) (hcb : ins.length ≤ cb) (hm : 0 ≤ many ∧ many ≤ 255) (hi : ins.length ≤ 1048576) :
  Pure Try.prog 5 [c.val, .bool free, .int .u8 many, .slice ab ins.length cb] w (.bool true) := by
 by_cases hf : FewC c.t 20 ∧ c.max ≤ 300 ∧ GoodC' c.t
 rotate_left
 ·skip
  refine Spec.of _ Try.func5 rfl Try.ntmps5 (by kernel_rfl) rfl ?_
  repeat' (first
   | (apply WL.box; (iterate 3 exact rfl); intro gb w' hb hge hc hx; have hcc := hc; (first | (obtain ⟨h1, h2, h3, _⟩ := hc) | (obtain ⟨h1, h2, _⟩ := hc)))
   | (apply W.condKT; exact rfl; (focus (first | (rw [dec_false hf]; rfl); done)))
   | ((show WL _ _ _ (⟨_, .call ⟨.value (.func 7), _, _⟩, _, _, _, _⟩ :: _) _ _ _); apply WL.callP; (iterate 4 exact rfl); exact law11_Small c 20 _ (hC.ext extA) (by decide); intro w' hx)
   | ((show WL _ _ _ (⟨_, .call ⟨.value (.func 32), _, _⟩, _, _, _, _⟩ :: _) _ _ _); apply WL.callP; (iterate 4 exact rfl); exact law19_lives _; intro w' hx)
   | (show WL _ _ _ _ _ _ _; first | apply WL.nil | (refine WL.au (k := ?_)))
   | (show Z _ _ _ _ _; first | apply Z.then_normal | apply Z.then_ret)
   | (show W _ _ _ _ _ _; first | apply W.seq | apply W.region | apply W.ret)
   | fail)
  exact Z.body1 Try.results5 rfl fun m => ⟨rfl, Ext.at extA m⟩
 obtain ⟨hfew, hmx, hg⟩ := hf
 obtain ⟨hz, hz7⟩ := few_sz2 hfew (by decide)
 obtain ⟨q1, q2, q3, q4, q5, q6, _, _⟩ := few_iff.1 hfew
 have hnl := net_len2 hg
 have zb : (c.bads.2.2.length : Int) ≤ 20 := q5
 have zc : (c.cons.2.2.length : Int) ≤ 20 := q6
 have zl : (c.lat.2.2.length : Int) ≤ 20 := q2
 obtain ⟨L, hL⟩ : ∃ L : Nat, (L : Int) = many % 5 := ⟨(many % 5).toNat, by omega⟩
 have hL5 : L < 5 := by omega
 refine Spec.of _ Try.func5 rfl Try.ntmps5 (by kernel_rfl) rfl ?_
 repeat' (first
  | (apply WL.box; (iterate 3 exact rfl); intro gb w' hb hge hc hx; have hcc := hc; (first | (obtain ⟨h1, h2, h3, _⟩ := hc) | (obtain ⟨h1, h2, _⟩ := hc)); (have hcells := hcc; obtain ⟨gc, rfl⟩ : ∃ x, x = gb := ⟨_, rfl⟩; obtain ⟨wc, rfl⟩ : ∃ x, x = w' := ⟨_, rfl⟩; obtain ⟨hxc, rfl⟩ : ∃ x, x = hx := ⟨_, rfl⟩))
  | (apply WL.gF; exact rfl; exact rfl; (focus (first | (rw [dec_true (show FewC c.t 20 ∧ c.max ≤ 300 ∧ GoodC' c.t from ⟨hfew, hmx, hg⟩)]; rfl) | exact dec_false (show ¬ (0 : Int) ≠ 0 from fun h => h rfl) | exact dec_false (fun h => by cases h); done)))
  | (apply W.condKF; exact rfl; (focus (first | (rw [dec_true (show FewC c.t 20 ∧ c.max ≤ 300 ∧ GoodC' c.t from ⟨hfew, hmx, hg⟩)]; rfl) | exact dec_false (show ¬ (0 : Int) ≠ 0 from fun h => h rfl) | exact dec_false (fun h => by cases h); done)))
  | (apply WL.eqNilS tOk; (iterate 6 exact rfl))
  | ((show WL _ _ _ (⟨_, .call ⟨.value (.func 7), _, _⟩, _, _, _, _⟩ :: _) _ _ _); apply WL.callP; (iterate 4 exact rfl); exact law11_Small c 20 _ (hC.ext extA) (by decide); intro w' hx; (obtain ⟨w1, rfl⟩ : ∃ x, x = w' := ⟨_, rfl⟩; obtain ⟨hx1, rfl⟩ : ∃ x, x = hx := ⟨_, rfl⟩))
  | (((show WL _ _ _ (⟨_, .call ⟨.value (.func 11), _, _⟩, _, _, _, _⟩ :: _) _ _ _); apply WL.call; (iterate 4 exact rfl); exact law11_Own c _ (hC.ext extA) hz hz7; rintro v' w2 ⟨hx2, d, rfl, hdt, hOD⟩))
  | (((show WL _ _ _ (⟨_, .call ⟨.value (.func 33), _, _⟩, _, _, _, _⟩ :: _) _ _ _); apply WL.call; (iterate 4 exact rfl); exact un_New d free w2 hOD.at (by rw [hdt]; exact hg) (by rw [hdt]; exact hz) (by rw [hdt]; exact hz7); rintro v' w3 ⟨w0, m, x0, hX0, rfl, hmt, hU0⟩))
  | ((apply WL.remK; (iterate 4 exact rfl); omega; rw [← hL]))
  | (show WL _ _ _ _ _ _ _; first | apply WL.nil | (refine WL.au (k := ?_)))
  | (show Z _ _ _ _ _; apply Z.then_normal)
  | (show W _ _ _ _ _ _; first | apply W.seq | apply W.region | apply W.block | apply W.skip | (apply W.condF; exact rfl))
  | fail)
 have hwr : IntKind.i64.wrap (L : Int) = (L : Int) := IntWalk.i64_in _ (by omega)
 rw [hwr]
 rw [hdt] at hmt hU0
 have hgm : GoodC' m.d.t := by rw [hmt]; exact hg
 have hzm : SzC m.d.t 100000 := by rw [hmt]; exact hz
 have hXw0 : Ext w w0 := (hxc.trans (hx1.trans hx2)).trans hX0
 refine W.loopW (L + 1) (fun k w' => k ≤ L + 1 ∧ ∃ x, UAt w0 w' m (uK c.t free k) x []) (fun k => [(1, .bool free), (3, .slice ab ins.length cb), (4, .pointer (some ⟨gc, 0, none⟩)), (9, .pointer (some ⟨m.gf, 0, none⟩)), (11, .int .i64 L), (12, .int .i64 k)]) ⟨Nat.zero_le _, x0, hU0⟩ (fun k w' h => h.1) (by repeat' first | exact trivial | (refine And.intro ?_ ?_) | exact rfl) ?_
 rintro k wk ⟨hk, xk, hUk⟩
 obtain ⟨i1, i2, i3, i4, i5⟩ := uK_ok hg free ins k
 have hNb : (uK c.t free k).N.length ≤ 600 := by
  have h1 : k * (c.t.ins.length + (cNet c.t).1.length) ≤ 5 * (c.t.ins.length + (cNet c.t).1.length) := Nat.mul_le_mul_right _ (by omega)
  omega
 by_cases hlt : k < L + 1
 ·have hgr := un_Grow hUk hgm hzm (by rw [hmt]; exact i1) (by omega) (by omega)
  rw [hmt] at hgr
  repeat' (first
   | (apply W.condKT; exact rfl; (focus (first | exact dec_true (by omega) | exact dec_false (show ¬ (0 : Int) ≠ 0 from fun h => h rfl); done)))
   | (apply W.condKF; exact rfl; (focus (first | exact dec_true (by omega) | exact dec_false (show ¬ (0 : Int) ≠ 0 from fun h => h rfl); done)))
   | (((show WL _ _ _ (⟨_, .call ⟨.value (.func 34), _, _⟩, _, _, _, _⟩ :: _) _ _ _); apply WL.call; (iterate 4 exact rfl); exact hgr; rintro v' w4 ⟨rfl, x4, hU4⟩))
   | (show WL _ _ _ _ _ _ _; first | apply WL.nil | (refine WL.au (k := ?_)))
   | (show Z _ _ _ _ _; first | apply Z.then_normal | apply Z.block_normal)
   | (show W _ _ _ _ _ _; first | apply W.seq | apply W.region | apply W.block | apply W.skip)
   | fail)
  exact Z.againW ⟨by omega, x4, hU4⟩ (by repeat' first | exact trivial | (refine And.intro ?_ ?_) | exact rfl)
 obtain rfl : k = L + 1 := by omega
 obtain ⟨u, hu⟩ : ∃ u, u = uK c.t free (L + 1) := ⟨_, rfl⟩
 rw [← hu] at hUk i1 i2 i3 i4 i5 hNb
 have hls := i1.ls
 have hli := i1.li
 have hunl := un_Unlike hUk hzm (by rw [hmt]; exact i1) (by omega) 0 L
 obtain ⟨A, hA⟩ : ∃ A, A = rowU u.st 0 := ⟨_, rfl⟩
 obtain ⟨B, hB⟩ : ∃ B, B = rowU u.st L := ⟨_, rfl⟩
 have hin0 : (0 : Int) ≤ 0 ∧ (0 : Int) < (u.st.length : Int) := by omega
 have hinL : (0 : Int) ≤ (L : Int) ∧ (L : Int) < (u.st.length : Int) := by omega
 have e5 : unlikeU u 0 L = ((ulTo A B u.N A.length).1, { u with N := (ulTo A B u.N A.length).2 }) := by unfold unlikeU; rw [if_pos ⟨hin0, hinL⟩, hA, hB]
 rw [e5] at hunl
 obtain ⟨a1, a2⟩ := rowU_mem hin0
 obtain ⟨b1, b2⟩ := rowU_mem hinL
 rw [← hA] at a1 a2
 rw [← hB] at b1 b2
 obtain ⟨sa1, sa2⟩ := i1.st A a2
 obtain ⟨sb1, sb2⟩ := i1.st B b2
 obtain ⟨k1, k2, k3, k4⟩ := ulTo_inv sa2 sb2 (by rw [sa1, sb1]) A.length (Nat.le_refl _)
 have hsemU := ulTo_sem i1.tidy ins sa2 sb2 (by rw [sa1, sb1]) A.length (Nat.le_refl _)
 rw [List.take_length, show B.take A.length = B by rw [show A.length = B.length by rw [sa1, sb1]]; exact List.take_length] at hsemU
 obtain ⟨z, hz5⟩ : ∃ z, z = (ulTo A B u.N A.length).1 := ⟨_, rfl⟩
 obtain ⟨N5, hN5⟩ : ∃ N5, N5 = (ulTo A B u.N A.length).2 := ⟨_, rfl⟩
 rw [← hz5, ← hN5] at hunl hsemU k1
 rw [← hN5] at k2 k3 k4
 obtain ⟨u5, hu5⟩ : ∃ u5 : UnV, u5 = { u with N := N5 } := ⟨_, rfl⟩
 rw [← hu5] at hunl
 have o5 : UOk c.t u5 := by rw [hu5]; exact i1.grow k4
 have s5 : USem c.t u5 ins := by rw [hu5]; exact USem.up hg i4 i1 k4
 have n5 : u5.N = N5 := by rw [hu5]
 have w5o : u5.own = u.own := by rw [hu5]
 have w5i : u5.ins = u.ins := by rw [hu5]
 have w5s : u5.st = u.st := by rw [hu5]
 have sal : A.length ≤ 20 := by rw [sa1]; omega
 repeat' (first
  | (apply W.condKF; exact rfl; (focus (exact dec_false (by omega); done)))
  | (((show WL _ _ _ (⟨_, .call ⟨.value (.func 35), _, _⟩, _, _, _, _⟩ :: _) _ _ _); apply WL.call; (iterate 4 exact rfl); exact hunl; rintro v' w5 ⟨rfl, x5, hU5⟩))
  | (show WL _ _ _ _ _ _ _; first | apply WL.nil | (refine WL.au (k := ?_)))
  | (show Z _ _ _ _ _; first | apply Z.then_normal | apply Z.then_exit | apply Z.block_exit)
  | (show W _ _ _ _ _ _; first | apply W.seq | apply W.region | apply W.exit)
  | fail)
 replace hU5 : UAt w0 w5 m u5 x5 [] := hU5
 have hXw5 : Ext w w5 := hXw0.trans hU5.ext
 have hXc5 : Ext wc w5 := (((hx1.trans hx2).trans hX0).trans hU5.ext)
 have hcells5 : Cells w5 gc 0 c.vals := Cells.ext hXc5 hcells
 refine W.cutT (σ := Option Addr × Nat × Nat × RowV (Int × Int) × RowV Int × Nat × World) (fun s => Ext w5 s.2.2.2.2.2.2 ∧ Row 2 encN s.2.2.2.2.2.2 s.1 u5.N ∧ MAt s.2.2.2.2.2.2 s.2.2.1 c s.2.2.2.1 s.2.2.2.2.1 ∧ s.2.2.2.2.2.2.cell? ⟨s.2.2.2.2.2.1, 0, none⟩ = some (.slice s.1 u5.N.length s.2.1))
  (fun s => [(1, .bool free), (3, .slice ab ins.length cb), (4, .pointer (some ⟨gc, 0, none⟩)), (9, .pointer (some ⟨m.gf, 0, none⟩)), (11, .int .i64 L), (13, .int .i64 z), (14, .pointer (some ⟨s.2.2.2.2.2.1, 0, none⟩)), (15, .pointer (some ⟨s.2.2.1, 0, none⟩))]) (fun s => s.2.2.2.2.2.2) ?_ ?_
 ·skip
  repeat' (first
   | (show W _ _ (.region 13 _ _) _ _ _; apply W.regionGX (.fl true 0 (.fl false 2 (.br 1 (.br 3 (.br 4 (.br 5 (.fl true 6 .done) .stop) .stop) (.br 4 (.br 3 (.br 5 (.fl true 6 .done) .stop) .stop) .stop)) (.br 4 (.br 1 (.br 3 (.br 5 (.fl true 6 .done) .stop) .stop) .stop) .stop)))) [1, 4, 5] tMix; kernel_rfl)
   | (((show WL _ _ _ (⟨_, .call ⟨.value (.func 36), _, _⟩, _, _, _, _⟩ :: _) _ _ _); apply WL.call; (iterate 4 exact rfl); exact un_Net (hU5.up extA) (by rw [n5]; omega); rintro v' wN ⟨hxN, aN, cN, rfl, hON⟩))
   | (((show WL _ _ _ (⟨_, .call ⟨.value (.func 15), _, _⟩, _, _, _, _⟩ :: _) _ _ _); apply WL.call; (iterate 4 exact rfl); exact ref17_NewB c _ (hC.ext (hXw5.trans extA)) hg hz; rintro v' wM ⟨hxM, gm, rn, ra, rfl, hM, hgmb, hrnb, hrab⟩))
   | ((show WL _ _ _ (⟨some 14, .alloc _, _, _, _, _⟩ :: _) _ _ _; apply WL.alloc tOk; (iterate 3 exact rfl); intro g14 wA hb14 hgeA hxA))
   | ((show WL _ _ _ (⟨none, .store _ (.tmp 14) _, _, _, _, _⟩ :: _) _ _ _; apply WL.storeB (w0 := w5) tOk; (iterate 4 exact rfl); exact hb14; exact extA; kernel_rfl; kernel_rfl; kernel_rfl; exact extA; exact Nat.le_trans (Below.size extA) hgeA; intro w6 hb6 hc6 hX6 hU6; have hNA : ∀ k, blk aN = some k → k ≠ g14 := (fun k hk he => by have e1 := hON.blk_lt k hk; first | (have e2 := Nat.lt_of_lt_of_le (heap_lt hb14) (Nat.le_trans (Below.size (show Ext wA _ from extA)) e1.1); omega) | (have e2 := Nat.lt_of_lt_of_le e1.2 (Nat.le_trans (Below.size (show Ext wN _ from extA)) hgeA); omega)); have hMA : ∀ k, (gm = k ∨ blk rn.1 = some k ∨ blk ra.1 = some k) → k < wM.heap.size ∧ k ≠ g14 := (fun k hk => by have e1 : _ ≤ k ∧ k < wM.heap.size := (by rcases hk with hk | hk | hk; (subst hk; exact hgmb); exact hrnb k hk; exact hrab k hk); refine ⟨e1.2, fun he => ?_⟩; first | (have e2 := Nat.lt_of_lt_of_le (heap_lt hb14) (Nat.le_trans (Below.size (show Ext wA _ from extA)) e1.1); omega) | (have e2 := Nat.lt_of_lt_of_le e1.2 (Nat.le_trans (Below.size (show Ext wM _ from extA)) hgeA); omega)); have RN6 := Row.keepU ((hON.row encN_ok).ext extA) hU6 (fun k hk => ⟨Nat.lt_of_lt_of_le (hON.blk_lt k hk).2 (Below.size extA), hNA k hk⟩); have hM6 := MAt.keepU (hM.ext extA) (hC.ext hXw5) hX6 hU6 ⟨Nat.lt_of_lt_of_le (hMA gm (.inl rfl)).1 (Below.size extA), (hMA gm (.inl rfl)).2⟩ (fun k hk => ⟨Nat.lt_of_lt_of_le (hMA k (.inr (.inl hk))).1 (Below.size extA), (hMA k (.inr (.inl hk))).2⟩) (fun k hk => ⟨Nat.lt_of_lt_of_le (hMA k (.inr (.inr hk))).1 (Below.size extA), (hMA k (.inr (.inr hk))).2⟩)))
   | (show SX _ _ _ _ _ _ _ _ _; first | (apply SX.done; intro w' hx) | (apply SX.fl0; exact rfl) | (apply SX.fl1; exact rfl; (exact extA)) | (apply SX.br1; exact rfl; intro w' hx) | (apply SX.br; exact rfl; (intro w' hx)))
   | (show FL _ _ _ _ _ _ _ _; first | apply FL.nilX | (apply FL.loadAE tOk; (iterate 5 exact rfl); assumption; exact rfl))
   | (show FL _ _ _ _ _ _ _ _; (refine FL.au (k := ?_)))
   | (show Z _ _ _ _ _; first | (apply Z.sxL; exact rfl) | (apply Z.sxE; (exact extA)))
   | (show WL _ _ _ _ _ _ _; apply WL.nil)
   | fail)
  all_goals
   have hXf : Ext w6 _ := (by assumption)
   obtain ⟨h14c, _⟩ := hc6
   exact Z.cut (aN, cN, gm, rn, ra, g14, _) ⟨hX6.trans hXf, RN6.ext hXf, hM6.ext hXf, hXf.cell h14c⟩ (by repeat' first | exact trivial | (refine And.intro ?_ ?_) | exact rfl) rfl
 rintro ⟨aN, cN, gm, rn, ra, g14, w7⟩ ⟨hX57, RN7, hM7, h14⟩
 dsimp only at hX57 RN7 hM7 h14 ⊢
 have hNb5 : u5.N.length ≤ 1000 := by rw [n5]; omega
 have hg5 := o5.tidy.good
 obtain ⟨V, hV⟩ : ∃ V, V = values u5.N ins := ⟨_, rfl⟩
 have hVl : V.length = u5.N.length + 1 := by rw [hV]; exact values_len' _ _
 have hchk : check u5.N = 0 := (check_zero (by omega)).2 hg5
 have hk5 : hasL u5.N z := by rw [n5]; exact k1
 have hkk := hk5
 unfold hasL at hkk
 have eR : runU u5 ins L = (A.map (ofL V), u5.ins.map (fun l => l.map (ofL V))) := by
  unfold runU
  rw [if_pos ⟨by omega, by rw [w5o, i3]; omega⟩, ← hV, w5s, ← hA, show (L : Int).toNat + 1 = u5.ins.length by rw [w5i, hli, i3]; omega, List.take_length]
 have hX07 : Ext w0 w7 := hU5.ext.trans hX57
 have hXw7 : Ext w w7 := hXw5.trans hX57
 have hrun := fun (w9 : World) (h9 : Ext w7 w9) => un_Run (hU5.up (hX57.trans h9)) hzm (by rw [hmt]; exact o5) (by omega) (by rw [w5o, i3]; omega) ab cb ins L (Rb.ext (hXw7.trans h9)) hcb hi ⟨by omega, by rw [w5o, i3]; omega⟩
 rw [eR] at hrun
 have hStart : free = false → StartsP c.t (A.map (ofL V)) := fun hfr => by
  rw [hfr] at i5
  have eA : A = (firstTo c.t false c.t.lat.length).1 := by
   have e9 := a1
   rw [show (0 : Int).toNat = 0 from rfl, i5] at e9
   exact (Option.some.inj e9).symm
  refine ⟨by rw [List.length_map, sa1], fun k t b h1 h2 => ?_⟩
  rw [List.getElem?_map] at h2
  obtain ⟨y, hy, rfl⟩ := Option.map_eq_some_iff.1 h2
  rw [eA] at hy
  have := new_starts hg (c := c.t) ins (M := u5.N) c.t.lat.length (Nat.le_refl _) k t y (lt_of_get h1) h1 hy
  rw [← hV] at this
  exact this
 rcases (show free = true ∨ free = false by cases free <;> simp) with hfr | hfr
 rotate_left
 all_goals
  repeat' (first
   | (apply WL.gT; exact rfl; exact rfl; (focus (first | exact dec_false (show ¬ (0 : Int) ≠ 0 from fun h => h rfl) | exact dec_false (by omega) | (rw [hfr]; with_reducible exact Bool.not_true) | (rw [hfr]; with_reducible exact Bool.not_false) | with_reducible exact Bool.not_true; done)))
   | (apply WL.gF; exact rfl; exact rfl; (focus (first | exact dec_false (show ¬ (0 : Int) ≠ 0 from fun h => h rfl) | exact dec_false (by omega) | (rw [hfr]; with_reducible exact Bool.not_true) | (rw [hfr]; with_reducible exact Bool.not_false) | with_reducible exact Bool.not_true; done)))
   | (apply W.condKF; exact rfl; (focus (first | exact dec_false (show ¬ (0 : Int) ≠ 0 from fun h => h rfl) | exact dec_false (by omega) | (rw [hfr]; with_reducible exact Bool.not_true) | (rw [hfr]; with_reducible exact Bool.not_false) | with_reducible exact Bool.not_true; done)))
   | (((show WL _ _ _ (⟨_, .call ⟨.value (.func 37), _, _⟩, _, _, _, _⟩ :: _) _ _ _); apply WL.callS; (iterate 4 exact rfl); have h9 := ref07_Check aN cN u5.N w7 RN7; rw [hchk] at h9; exact h9))
   | (((show WL _ _ _ (⟨_, .call ⟨.value (.func 22), _, _⟩, _, _, _, _⟩ :: _) _ _ _); apply WL.call; (iterate 4 exact rfl); exact ref07_Values aN ab cN cb u5.N ins w7 RN7 (Rb.ext hXw7) hg5 (by omega); rintro v' w8 ⟨hx8, aV, cV, rfl, hOV⟩; rw [← hV] at hOV ⊢))
   | (((show WL _ _ _ (⟨_, .call ⟨.value (.func 38), _, _⟩, _, _, _, _⟩ :: _) _ _ _); apply WL.call; (iterate 4 exact rfl); exact hrun _ hx8; rintro v' w9 ⟨hx9, r, rfl, hR, hrs, hri⟩; have hri' : r.i = u5.ins.map (fun l => l.map (ofL V)) := hri; have hrs' : r.s = A.map (ofL V) := hrs; have hrl : r.ins.2.2.length = L + 1 := (by have h9 := congrArg List.length hri'; simp only [List.length_map] at h9; rw [h9, w5i, hli, i3]); have hsl9 : r.st.2.2.length = c.lat.2.2.length := (by have h9 := congrArg List.length hrs'; rw [List.length_map, sa1] at h9; exact h9)))
   | ((show WL _ _ _ (⟨some 16, .alloc _, _, _, _, _⟩ :: _) _ _ _; apply WL.alloc tOk; (iterate 3 exact rfl); intro g16 wa hb16 hgea hxa))
   | ((show WL _ _ _ (⟨some 17, .alloc _, _, _, _, _⟩ :: _) _ _ _; apply WL.alloc tOk; (iterate 3 exact rfl); intro g17 wb hb17 hgeb hxb))
   | ((show WL _ _ _ (⟨none, .store _ (.tmp 16) _, _, _, _, _⟩ :: _) _ _ _; apply WL.storeB (w0 := w9) tOk; (iterate 4 exact rfl); exact hb16; exact hxb; kernel_rfl; kernel_rfl; kernel_rfl; exact (hxa.trans hxb); exact hgea; intro wc' hb16' hc16 hX16 hU16; have hb17' := hU16.heap hb17 (by have := heap_lt hb16; omega)))
   | ((show WL _ _ _ (⟨none, .store _ (.tmp 17) _, _, _, _, _⟩ :: _) _ _ _; apply WL.storeB (w0 := w9) tOk; (iterate 4 exact rfl); exact hb17'; exact Ext.refl _; kernel_rfl; kernel_rfl; kernel_rfl; exact hX16; exact Nat.le_trans (Below.size hxa) hgeb; intro wd hb17'' hc17 hX17 hU17; have hb16d := hU17.heap hb16' (by have := heap_lt hb16; omega); obtain ⟨y17a, y17b, _⟩ := id hc17; obtain ⟨y16, _⟩ := cells_heap hb16d))
   | (((show WL _ _ _ (⟨_, .call ⟨.value (.func 31), _, _⟩, _, _, _, _⟩ :: _) _ _ _); apply WL.call; (iterate 4 exact rfl); exact ref17_States gm c rn ra r wd (hM7.ext ((hx8.trans hx9).trans hX17)) (hR.ext hX17) (by omega); rintro v' wS ⟨hxS, aT, cT, rs, rfl, hORR, hrsS⟩; have hX7S : Ext w7 wS := (hx8.trans hx9).trans (hX17.trans hxS); obtain ⟨y0, y1, y2, y3, y4, y5, _⟩ := id (Cells.ext ((hXc5.trans hX57).trans hX7S) (show Cells wc gc 0 c.vals from hcells))))
   | (((show WL _ _ _ (⟨_, .call ⟨.value (.func 30), _, _⟩, _, _, _, _⟩ :: _) _ _ _); apply WL.callS; (iterate 4 exact rfl); have h9 := ref17_Starts gm c rn ra r.st.1 r.st.2.1 r.st.2.2 wS (hM7.ext (((hx8.trans hx9).trans hX17).trans hxS)) (hR.st.ext (hX17.trans hxS)); have e9 : dec (StartsP c.t r.st.2.2) = true := dec_true (by have h8 := hStart hfr; rw [← hrs'] at h8; exact h8); rw [e9] at h9; exact h9))
   | (show WL _ _ _ _ _ _ _; first | apply WL.nil | (refine WL.au (k := ?_)) | (apply WL.guardF; exact rfl; exact rfl))
   | (show Z _ _ _ _ _; apply Z.then_normal)
   | (show W _ _ _ _ _ _; first | apply W.seq | apply W.region | apply W.block | apply W.skip | (apply W.condF; exact rfl))
   | fail)
  have hUS := hU5.up (hX57.trans hX7S)
  have hMS := hM7.ext hX7S
  have RVS := (hOV.row encB_ok).ext (hx9.trans (hX17.trans hxS))
  have h14S := hX7S.cell h14
  have h16S := hxS.cell y16
  have h17S := hxS.cell y17b
  have hRS := hR.ext (hX17.trans hxS)
  have hXwS : Ext w wS := hXw7.trans hX7S
  have RT : Row 1 encRB wS aT rs := hORR.outer.row encRB_ok
  have hrsl : rs.length = L + 1 := by
   have h9 := congrArg List.length hrsS
   rw [List.length_map, statesV_len, List.length_map] at h9
   omega
  have hof : ∀ (w9 : World) (l : Int) (b : Bool), Ext wS w9 → hasL u5.N l → ofL V l = b → Still Try.prog 39 ([.int .i64 l, .bool b] ++ [.pointer (some ⟨g14, 0, none⟩), .pointer (some ⟨g16, 0, none⟩)]) w9 (.bool true) := fun w9 l b h9 hl hb => law19_of g14 g16 cN cV aN aV u5.N V l b w9 (h9.cell h14S) (h9.cell h16S) (RVS.ext h9) hVl (by omega) hl hb
  have hlitV : ∀ (k : Nat) o i s, u5.own[k]? = some o → u5.ins[k]? = some i → u5.st[k]? = some s → ∀ l, KnL c.t l → ofL V (uLit c.t o l) = litV c.t (s.map (ofL V)) (i.map (ofL V)) l := fun k o i s h1 h2 h3 l hl => by
   have h9 := s5.lit k o i s h1 h2 h3 l hl
   rw [← hV] at h9; exact h9
  have hstV : ∀ (k : Nat) s, u5.st[k]? = some s → stateV c.t r.s r.i k = s.map (ofL V) := fun k s h1 => by
   have h0 : u5.st[0]? = some A := by rw [w5s]; exact a1
   have h9 := USem.states hg s5 o5 h0 k s h1
   rw [← hV, ← hrs', ← hri'] at h9; exact h9
  have hzV : ofL V z = !dec (A.map (ofL V) = B.map (ofL V)) := by
   have eA : A.map (ofL V) = A.map (ofL (values u.N ins)) := List.map_congr_left fun y hy => by rw [hV, n5]; exact k4.of ins (sa2 y hy)
   have eB : B.map (ofL V) = B.map (ofL (values u.N ins)) := List.map_congr_left fun y hy => by rw [hV, n5]; exact k4.of ins (sb2 y hy)
   rw [eA, eB]
   rw [← n5, ← hV] at hsemU
   by_cases h9 : A.map (ofL (values u.N ins)) = B.map (ofL (values u.N ins))
   ·rw [dec_true h9]
    cases h8 : ofL V z
    ·rfl
    ·exact absurd h9 (hsemU.1 h8)
   ·rw [dec_false h9, hsemU.2 h9]; rfl
  clear hrun hunl hsemU
  refine W.loopW (L + 1) (fun k w' => k ≤ L + 1 ∧ Ext wS w') (fun k => [(4, .pointer (some ⟨gc, 0, none⟩)), (9, .pointer (some ⟨m.gf, 0, none⟩)), (11, .int .i64 L), (13, .int .i64 z), (14, .pointer (some ⟨g14, 0, none⟩)), (15, .pointer (some ⟨gm, 0, none⟩)), (16, .pointer (some ⟨g16, 0, none⟩)), (17, .pointer (some ⟨g17, 0, none⟩)), (18, .slice aT rs.length cT), (19, .func (.func 39) #[] #[.pointer (some ⟨g14, 0, none⟩), .pointer (some ⟨g16, 0, none⟩)]), (20, .int .i64 k)]) ⟨Nat.zero_le _, Ext.refl _⟩ (fun k w' h => h.1) (by repeat' first | exact trivial | (refine And.intro ?_ ?_) | exact rfl) ?_
  rintro k wk ⟨hk, hXk⟩
  by_cases hlt : k < L + 1
  ·obtain ⟨s, hs⟩ := getI u5.st (show k < _ by rw [w5s]; omega)
   obtain ⟨o, ho⟩ := getI u5.own (show k < _ by rw [w5o]; omega)
   obtain ⟨ii, hii⟩ := getI u5.ins (show k < _ by rw [w5i]; omega)
   obtain ⟨q, hq, hqe⟩ := statesV_i c.t r hrsS (show k < r.ins.2.2.length by omega)
   rw [hstV k s hs] at hqe
   obtain ⟨qi, hqi⟩ := getI r.ins.2.2 (show k < _ by omega)
   have hqie : qi.2.2 = ii.map (ofL V) := by
    have h1 := runI_get hqi
    rw [hri', List.getElem?_map, hii] at h1
    exact (Option.some.inj h1).symm
   have Rq : Row 1 encB wS q.1 q.2.2 := hORR.row encB_ok hq
   have Rqi := hRS.each qi (List.mem_of_getElem? hqi)
   have hso := o5.st s (List.mem_of_getElem? hs)
   have hoo := o5.own o (List.mem_of_getElem? ho)
   have hsl : s.length = c.lat.2.2.length := hso.1
   repeat' (first
    | (apply W.condKT; exact rfl; (focus (exact dec_true (by omega); done)))
    | (show WL _ _ _ _ _ _ _; first | apply WL.nil | (refine WL.au (k := ?_)))
    | (show Z _ _ _ _ _; apply Z.then_normal)
    | (show W _ _ _ _ _ _; first | apply W.seq | apply W.region | apply W.block | apply W.skip)
    | fail)
   refine W.loopW c.lat.2.2.length (fun j w' => j ≤ c.lat.2.2.length ∧ Ext wS w') (fun j => [(4, .pointer (some ⟨gc, 0, none⟩)), (9, .pointer (some ⟨m.gf, 0, none⟩)), (11, .int .i64 L), (13, .int .i64 z), (14, .pointer (some ⟨g14, 0, none⟩)), (15, .pointer (some ⟨gm, 0, none⟩)), (16, .pointer (some ⟨g16, 0, none⟩)), (17, .pointer (some ⟨g17, 0, none⟩)), (18, .slice aT rs.length cT), (19, .func (.func 39) #[] #[.pointer (some ⟨g14, 0, none⟩), .pointer (some ⟨g16, 0, none⟩)]), (20, .int .i64 k), (21, .int .i64 j)]) ⟨Nat.zero_le _, hXk⟩ (fun k w' h => h.1) (by repeat' first | exact trivial | (refine And.intro ?_ ?_) | exact rfl) ?_
   rintro j wj ⟨hj, hXj⟩
   by_cases hjl : j < c.lat.2.2.length
   ·obtain ⟨y, hy⟩ := getI s (show j < s.length by omega)
    have hqy : q.2.2[j]? = some (ofL V y) := by rw [hqe, List.getElem?_map, hy]; rfl
    have hst := un_State (hUS.up hXj) k j
    rw [show u5.state k j = y from state_get hs hy] at hst
    have hcl := hof wj y (ofL V y) hXj (hso.2 y (List.mem_of_getElem? hy)) rfl
    repeat' (first
     | (apply W.condKT; exact rfl; (focus (first | exact dec_true (by omega) | with_reducible exact Bool.not_true; done)))
     | (apply W.condKF; exact rfl; (focus (first | exact dec_true (by omega) | with_reducible exact Bool.not_true; done)))
     | ((show QL _ _ _ _ (⟨_, .call ⟨.value (.func 41), _, _⟩, _, _, _, _⟩ :: _) _ _; apply QL.callS; (iterate 4 exact rfl); exact hst))
     | ((show QL _ _ _ _ (⟨_, .call ⟨.value (.tmp 125), _, _⟩, _, _, _, _⟩ :: _) _ _; apply QL.callS; (iterate 4 exact rfl); exact hcl))
     | (show WL _ _ _ _ _ _ _; first | apply WL.nil | (refine WL.au (k := ?_)))
     | (show QL _ _ _ _ _ _ _; first | apply QL.nil | (refine QL.au (k := ?_)) | (apply QL.index tOk; (iterate 8 exact rfl); assumption; (exact extA); exact rfl; omega; assumption; intro b off h; have hcc := h; first | (obtain ⟨h1, h2, h3, h4, h5, h6, _⟩ := h) | (obtain ⟨h1, h2, h3, _⟩ := h) | (obtain ⟨h1, h2, _⟩ := h) | (obtain ⟨h1, _⟩ := h)))
     | (show Z _ _ _ _ _; first | apply Z.then_normal | apply Z.block_normal)
     | (show W _ _ _ _ _ _; first | apply W.seq | apply W.region | apply W.block | apply W.skip | (apply W.regionD tMix; kernel_rfl))
     | fail)
    exact Z.againW ⟨by omega, hXj⟩ (by repeat' first | exact trivial | (refine And.intro ?_ ?_) | exact rfl)
   repeat' (first
    | (apply W.condKF; exact rfl; (focus (exact dec_false (by omega); done)))
    | (show WL _ _ _ _ _ _ _; first | apply WL.nil | (refine WL.au (k := ?_)))
    | (show Z _ _ _ _ _; first | apply Z.then_normal | apply Z.then_exit | apply Z.block_exit)
    | (show W _ _ _ _ _ _; first | apply W.seq | apply W.region | apply W.block | apply W.exit)
    | fail)
   refine W.loopW c.bads.2.2.length (fun j w' => j ≤ c.bads.2.2.length ∧ Ext wS w') (fun j => [(4, .pointer (some ⟨gc, 0, none⟩)), (9, .pointer (some ⟨m.gf, 0, none⟩)), (11, .int .i64 L), (13, .int .i64 z), (14, .pointer (some ⟨g14, 0, none⟩)), (15, .pointer (some ⟨gm, 0, none⟩)), (16, .pointer (some ⟨g16, 0, none⟩)), (17, .pointer (some ⟨g17, 0, none⟩)), (18, .slice aT rs.length cT), (19, .func (.func 39) #[] #[.pointer (some ⟨g14, 0, none⟩), .pointer (some ⟨g16, 0, none⟩)]), (20, .int .i64 k), (22, .int .i64 j)]) ⟨Nat.zero_le _, hXj⟩ (fun k w' h => h.1) (by repeat' first | exact trivial | (refine And.intro ?_ ?_) | exact rfl) ?_
   rintro j2 wj2 ⟨hj2, hXj2⟩
   by_cases hjl2 : j2 < c.bads.2.2.length
   ·obtain ⟨l, hl⟩ := getI c.bads.2.2 hjl2
    have hkn := knL_used hg (used_bad (c := c.t) (List.mem_of_getElem? hl))
    have hbd : ∀ w9, Ext wS w9 → Pure Try.prog 42 [.pointer (some ⟨m.gf, 0, none⟩), .int .i64 k, .int .i64 j2] w9 (.int .i64 (uLit c.t o l)) := fun w9 h9 => by
     have h1 := un_Bad hgm (hUS.up h9) k j2
     rw [hmt, bad_get ho hl] at h1; exact h1
    have hbm : ∀ w9, Ext wS w9 → Pure Try.prog 19 [.pointer (some ⟨gm, 0, none⟩), .slice q.1 q.2.2.length q.2.1, .slice qi.1 qi.2.2.length qi.2.1, .int .i64 j2] w9 (.bool (ofL V (uLit c.t o l))) := fun w9 h9 => by
     have h1 := ref17_Bad gm c rn ra q.1 qi.1 q.2.1 qi.2.1 q.2.2 qi.2.2 j2 w9 (hMS.ext h9) (Rq.ext h9) (Rqi.ext h9)
     rw [dec_bool (b := ofL V (uLit c.t o l)) (by rw [hqe, hqie, hlitV k o ii s ho hii hs l hkn]; exact badP_lit hl)] at h1; exact h1
    have hul := uLit_has hg hoo.2 hoo.1 hkn
    have RTj := RT.ext hXj2
    have z17 := hXj2.cell h17S
    have RIj := hRS.ins.ext hXj2
    repeat' (first
     | (apply W.condKT; exact rfl; (focus (first | exact dec_true (by omega) | with_reducible exact Bool.not_true; done)))
     | (apply W.condKF; exact rfl; (focus (first | exact dec_true (by omega) | with_reducible exact Bool.not_true; done)))
     | (show W _ _ (.region 32 _ _) _ _ _; apply W.regionGX (.fl true 0 (.fl true 1 (.fl true 2 (.fl true 3 (.fl true 5 (.fl true 6 (.fl true 7 (.fl true 8 (.fl true 10 (.fl true 12 (.fl true 15 (.fl false 9 (.fl false 11 (.fl true 13 (.fl false 14 (.br 4 (.br 16 (.br 17 (.fl true 18 .done) .stop) .stop) .stop)))))))))))))))) [4, 11, 13, 14, 16, 17, 18] tMix; kernel_rfl)
     | (((show WL _ _ _ (⟨_, .call ⟨.value (.func 42), _, _⟩, _, _, _, _⟩ :: _) _ _ _); apply WL.callP; (iterate 4 exact rfl); exact hbd _ (hXj2.trans extA); intro w' hx))
     | (((show WL _ _ _ (⟨_, .call ⟨.value (.func 19), _, _⟩, _, _, _, _⟩ :: _) _ _ _); apply WL.callP; (iterate 4 exact rfl); exact hbm _ (hXj2.trans extA); intro w' hx))
     | ((show WL _ _ _ (⟨_, .call ⟨.value (.tmp 146), _, _⟩, _, _, _, _⟩ :: _) _ _ _; apply WL.callS; (iterate 4 exact rfl); exact hof _ _ _ (hXj2.trans extA) hul rfl))
     | (show SX _ _ _ _ _ _ _ _ _; first | (apply SX.done; intro w' hx) | (apply SX.fl0; exact rfl) | (apply SX.fl1; exact rfl; (exact extA)) | (apply SX.br1; exact rfl; intro w' hx))
     | (show FL _ _ _ _ _ _ _ _; first | apply FL.nilX | (apply FL.loadE tOk; (iterate 5 exact rfl); (first | assumption | (focus (apply Ext.cell; rotate_left; assumption; exact extA; done)))) | (apply FL.indexE tOk; (iterate 8 exact rfl); assumption; exact rfl; omega; assumption; intro b off h; have hcc := h; first | (obtain ⟨h1, h2, h3, h4, h5, h6, _⟩ := h) | (obtain ⟨h1, h2, h3, _⟩ := h) | (obtain ⟨h1, h2, _⟩ := h) | (obtain ⟨h1, _⟩ := h)))
     | (show FL _ _ _ _ _ _ _ _; (refine FL.au (k := ?_)))
     | (show Z _ _ _ _ _; (apply Z.sxE; (exact extA)))
     | (show WL _ _ _ _ _ _ _; first | apply WL.nil | (refine WL.au (k := ?_)))
     | (show Z _ _ _ _ _; first | apply Z.then_normal | apply Z.block_normal)
     | (show W _ _ _ _ _ _; first | apply W.seq | apply W.region | apply W.block | apply W.skip)
     | fail)
    exact Z.againW ⟨by omega, hXj2.trans extA⟩ (by repeat' first | exact trivial | (refine And.intro ?_ ?_) | exact rfl)
   have hcon := un_Cons hgm hzm (hUS.up hXj2) k
   rw [hmt, cons_get ho] at hcon
   repeat' (first
    | (apply W.condKF; exact rfl; (focus (exact dec_false (by omega); done)))
    | (((show WL _ _ _ (⟨_, .call ⟨.value (.func 43), _, _⟩, _, _, _, _⟩ :: _) _ _ _); apply WL.call; (iterate 4 exact rfl); exact hcon; rintro v' wq ⟨hxq, aC, cC, rfl, hOC⟩))
    | (show WL _ _ _ _ _ _ _; first | apply WL.nil | (refine WL.au (k := ?_)))
    | (show Z _ _ _ _ _; first | apply Z.then_normal | apply Z.then_exit | apply Z.block_exit)
    | (show W _ _ _ _ _ _; first | apply W.seq | apply W.region | apply W.block | apply W.exit)
    | fail)
   have RC : Row 1 encI wq aC (c.cons.2.2.map (uLit c.t o)) := hOC.row encI_ok
   have hXq : Ext wS wq := hXj2.trans hxq
   have hcll : (c.cons.2.2.map (uLit c.t o)).length = c.cons.2.2.length := List.length_map _
   have hP0 : dec (∀ x ∈ c.cons.2.2.take 0, ofL V (uLit c.t o x) = true) = true := dec_true (fun x hx => by simp at hx)
   refine W.loop1 c.cons.2.2.length (fun j => j ≤ c.cons.2.2.length) (fun j => [(4, .pointer (some ⟨gc, 0, none⟩)), (9, .pointer (some ⟨m.gf, 0, none⟩)), (11, .int .i64 L), (13, .int .i64 z), (14, .pointer (some ⟨g14, 0, none⟩)), (15, .pointer (some ⟨gm, 0, none⟩)), (16, .pointer (some ⟨g16, 0, none⟩)), (17, .pointer (some ⟨g17, 0, none⟩)), (18, .slice aT rs.length cT), (19, .func (.func 39) #[] #[.pointer (some ⟨g14, 0, none⟩), .pointer (some ⟨g16, 0, none⟩)]), (20, .int .i64 k), (23, .bool (dec (∀ x ∈ c.cons.2.2.take j, ofL V (uLit c.t o x) = true))), (167, .slice aC (c.cons.2.2.map (uLit c.t o)).length cC), (168, .int .i64 (c.cons.2.2.map (uLit c.t o)).length), (169, .int .i64 j)]) (Nat.zero_le _) (fun k h => h) (by repeat' first | exact trivial | (refine And.intro ?_ ?_) | exact rfl | (rw [hP0]; exact rfl)) ?_
   rintro j3 hj3
   by_cases hjl3 : j3 < c.cons.2.2.length
   ·obtain ⟨y, hy⟩ := getI c.cons.2.2 hjl3
    have hym : (c.cons.2.2.map (uLit c.t o))[j3]? = some (uLit c.t o y) := by rw [List.getElem?_map, hy]; rfl
    have hkn := knL_used hg (used_con (c := c.t) (List.mem_of_getElem? hy))
    have hul := uLit_has hg hoo.2 hoo.1 hkn
    unfold hasL at hul
    have hofl := ref07_Of aV cV V (uLit c.t o y) wq (RVS.ext hXq) ⟨hul.1, by omega, by omega⟩
    have z14 := hXq.cell h14S
    have z16 := hXq.cell h16S
    by_cases hP : ∀ x ∈ c.cons.2.2.take j3, ofL V (uLit c.t o x) = true
    ·have e1 : dec (∀ x ∈ c.cons.2.2.take (j3 + 1), ofL V (uLit c.t o x) = true) = ofL V (uLit c.t o y) := dec_bool (by
      rw [take_succ' hy]
      exact ⟨fun h => h y (List.mem_append_right _ (List.mem_singleton.2 rfl)), fun h x hx => by
       rcases List.mem_append.1 hx with hx | hx
       ·exact hP x hx
       ·rw [List.mem_singleton.1 hx]; exact h⟩)
     repeat' (first
      | (apply WL.gT; exact rfl; exact rfl; (focus (first | exact dec_true hP | exact dec_true (by omega); done)))
      | (apply W.condKT; exact rfl; (focus (first | exact dec_true hP | exact dec_true (by omega); done)))
      | (((show WL _ _ _ (⟨_, .call ⟨.value (.func 40), _, _⟩, _, _, _, _⟩ :: _) _ _ _); apply WL.callS; (iterate 4 exact rfl); exact hofl))
      | (show WL _ _ _ _ _ _ _; first | apply WL.nil | (refine WL.au (k := ?_)) | (apply WL.index tOk; (iterate 8 exact rfl); assumption; (exact extA); exact rfl; omega; assumption; intro b off h; have hcc := h; first | (obtain ⟨h1, h2, h3, h4, h5, h6, _⟩ := h) | (obtain ⟨h1, h2, h3, _⟩ := h) | (obtain ⟨h1, h2, _⟩ := h) | (obtain ⟨h1, _⟩ := h)))
      | (show Z _ _ _ _ _; first | apply Z.then_normal | apply Z.block_normal)
      | (show W _ _ _ _ _ _; first | apply W.seq | apply W.region | apply W.block | apply W.skip)
      | fail)
     exact Z.again1 (by omega) (by repeat' first | exact trivial | (refine And.intro ?_ ?_) | exact rfl | (rw [e1]; exact rfl))
    ·have e1 : dec (∀ x ∈ c.cons.2.2.take (j3 + 1), ofL V (uLit c.t o x) = true) = false := dec_false fun h => hP fun x hx => h x (by rw [take_succ' hy]; exact List.mem_append_left _ hx)
     repeat' (first
      | (apply WL.gF; exact rfl; exact rfl; (focus (first | exact dec_false hP | exact dec_true (by omega); done)))
      | (apply W.condKT; exact rfl; (focus (first | exact dec_false hP | exact dec_true (by omega); done)))
      | (show WL _ _ _ _ _ _ _; first | apply WL.nil | (refine WL.au (k := ?_)) | (apply WL.index tOk; (iterate 8 exact rfl); assumption; (exact extA); exact rfl; omega; assumption; intro b off h; have hcc := h; first | (obtain ⟨h1, h2, h3, h4, h5, h6, _⟩ := h) | (obtain ⟨h1, h2, h3, _⟩ := h) | (obtain ⟨h1, h2, _⟩ := h) | (obtain ⟨h1, _⟩ := h)) | (apply WL.guardF; exact rfl; exact rfl))
      | (show Z _ _ _ _ _; first | apply Z.then_normal | apply Z.block_normal)
      | (show W _ _ _ _ _ _; first | apply W.seq | apply W.region | apply W.block | apply W.skip)
      | fail)
     exact Z.again1 (by omega) (by repeat' first | exact trivial | (refine And.intro ?_ ?_) | exact rfl | (rw [e1]; exact rfl))
   obtain rfl : j3 = c.cons.2.2.length := by omega
   have hhd : ∀ w9, Ext wS w9 → Pure Try.prog 17 [.pointer (some ⟨gm, 0, none⟩), .slice q.1 q.2.2.length q.2.1, .slice qi.1 qi.2.2.length qi.2.1] w9 (.bool (dec (∀ x ∈ c.cons.2.2.take c.cons.2.2.length, ofL V (uLit c.t o x) = true))) := fun w9 h9 => by
    have h1 := ref17_Holds gm c rn ra q.1 qi.1 q.2.1 qi.2.1 q.2.2 qi.2.2 w9 (hMS.ext h9) (Rq.ext h9) (Rqi.ext h9)
    rw [dec_congr (q := ∀ x ∈ c.cons.2.2.take c.cons.2.2.length, ofL V (uLit c.t o x) = true) (by
     rw [List.take_length, hqe, hqie]
     unfold HoldsP
     exact ⟨fun h x hx => by rw [hlitV k o ii s ho hii hs x (knL_used hg (used_con (c := c.t) hx))]; exact h x hx, fun h x hx => by have h2 := h x hx; rw [hlitV k o ii s ho hii hs x (knL_used hg (used_con (c := c.t) hx))] at h2; exact h2⟩)] at h1
    exact h1
   obtain ⟨hb, hhb⟩ : ∃ b, b = dec (∀ x ∈ c.cons.2.2.take c.cons.2.2.length, ofL V (uLit c.t o x) = true) := ⟨_, rfl⟩
   rw [← hhb] at hhd ⊢
   have RTq := RT.ext hXq
   have z17 := hXq.cell h17S
   have RIq := hRS.ins.ext hXq
   repeat' (first
    | (apply W.condKF; exact rfl; (focus (first | exact dec_false (by omega) | exact dec_false (fun h => h rfl); done)))
    | (show W _ _ (.region 40 _ _) _ _ _; apply W.regionGX (.fl true 0 (.fl true 1 (.fl true 2 (.fl true 3 (.fl true 4 (.fl true 6 (.fl true 8 (.fl false 5 (.fl false 7 (.fl true 9 (.fl false 10 (.br 11 (.fl true 12 .done) .stop)))))))))))) [7, 9, 10, 11, 12] tMix; kernel_rfl)
    | (((show WL _ _ _ (⟨_, .call ⟨.value (.func 17), _, _⟩, _, _, _, _⟩ :: _) _ _ _); apply WL.callP; (iterate 4 exact rfl); exact hhd _ (hXq.trans extA); intro w' hx))
    | (show SX _ _ _ _ _ _ _ _ _; first | (apply SX.done; intro w' hx) | (apply SX.fl0; exact rfl) | (apply SX.fl1; exact rfl; (exact extA)) | (apply SX.br1; exact rfl; intro w' hx))
    | (show FL _ _ _ _ _ _ _ _; first | apply FL.nilX | (apply FL.loadE tOk; (iterate 5 exact rfl); (first | assumption | (focus (apply Ext.cell; rotate_left; assumption; exact extA; done)))) | (apply FL.indexE tOk; (iterate 8 exact rfl); assumption; exact rfl; omega; assumption; intro b off h; have hcc := h; first | (obtain ⟨h1, h2, h3, h4, h5, h6, _⟩ := h) | (obtain ⟨h1, h2, h3, _⟩ := h) | (obtain ⟨h1, h2, _⟩ := h) | (obtain ⟨h1, _⟩ := h)))
    | (show FL _ _ _ _ _ _ _ _; (refine FL.au (k := ?_)))
    | (show Z _ _ _ _ _; (apply Z.sxE; (exact extA)))
    | (show WL _ _ _ _ _ _ _; first | apply WL.nil | (refine WL.au (k := ?_)))
    | (show Z _ _ _ _ _; first | apply Z.then_normal | apply Z.block_normal | apply Z.then_exit | apply Z.block_exit)
    | (show W _ _ _ _ _ _; first | apply W.seq | apply W.region | apply W.skip | apply W.exit)
    | fail)
   exact Z.againW ⟨by omega, hXq.trans extA⟩ (by repeat' first | exact trivial | (refine And.intro ?_ ?_) | exact rfl)
  obtain rfl : k = L + 1 := by omega
  obtain ⟨q0, hq0, hq0e⟩ := statesV_i c.t r hrsS (show 0 < r.ins.2.2.length by omega)
  obtain ⟨qL, hqL, hqLe⟩ := statesV_i c.t r hrsS (show L < r.ins.2.2.length by omega)
  have hs0 : u5.st[0]? = some A := by rw [w5s]; exact a1
  have hsL : u5.st[L]? = some B := by
   have e9 := b1
   rw [Int.toNat_natCast] at e9
   rw [w5s]; exact e9
  rw [hstV 0 A hs0] at hq0e
  rw [hstV L B hsL] at hqLe
  have R0 : Row 1 encB wS q0.1 q0.2.2 := hORR.row encB_ok hq0
  have RL : Row 1 encB wS qL.1 qL.2.2 := hORR.row encB_ok hqL
  have hq0' : rs[(0 : Int).toNat]? = some q0 := hq0
  have z16 := hXk.cell h16S
  have RTk := RT.ext hXk
  have hofz : ∀ w9, Ext wS w9 → Still Try.prog 40 [.slice aV V.length cV, .int .i64 z] w9 (.bool (ofL V z)) := fun w9 h9 => ref07_Of aV cV V z w9 (RVS.ext h9) ⟨hkk.1, by omega, by omega⟩
  rw [hzV] at hofz
  have hsmb : ∀ w9, Ext wS w9 → Still Try.prog 44 [.slice q0.1 q0.2.2.length q0.2.1, .slice qL.1 qL.2.2.length qL.2.1] w9 (.bool (dec (A.map (ofL V) = B.map (ofL V)))) := fun w9 h9 => by
   have h1 := ref01_Same q0.1 qL.1 q0.2.1 qL.2.1 q0.2.2 qL.2.2 w9 (R0.ext h9) (RL.ext h9)
   have e9 : dec (q0.2.2 = qL.2.2) = dec (A.map (ofL V) = B.map (ofL V)) := by rw [hq0e, hqLe]
   rw [e9] at h1; exact h1
  obtain ⟨hb, hhb⟩ : ∃ b, b = dec (A.map (ofL V) = B.map (ofL V)) := ⟨_, rfl⟩
  rw [← hhb] at hofz hsmb
  repeat' (first
   | (apply WL.gT; exact rfl; exact rfl; (focus (first | exact dec_false (by omega) | with_reducible exact dec_true rfl; done)))
   | (apply W.condKF; exact rfl; (focus (first | exact dec_false (by omega) | with_reducible exact dec_true rfl; done)))
   | (show W _ _ (.region 42 _ _) _ _ _; apply W.regionGX (.fl true 1 (.fl true 3 (.fl true 4 (.fl true 6 (.fl true 7 (.fl true 8 (.fl false 0 (.fl false 5 (.fl false 9 (.br 2 (.br 10 (.fl true 11 (.fl true 12 (.fl true 13 (.br 14 (.fl true 15 (.fl true 16 .done)) .stop)))) .stop) .stop)))))))))) [2, 5, 9, 10, 11, 12, 13, 14, 15] tMix; kernel_rfl)
   | (((show WL _ _ _ (⟨_, .call ⟨.value (.func 40), _, _⟩, _, _, _, _⟩ :: _) _ _ _); apply WL.callS; (iterate 4 exact rfl); exact hofz _ (hXk.trans extA)))
   | (((show WL _ _ _ (⟨_, .call ⟨.value (.func 44), _, _⟩, _, _, _, _⟩ :: _) _ _ _); apply WL.callS; (iterate 4 exact rfl); exact hsmb _ (hXk.trans extA)))
   | ((show WL _ _ _ (⟨_, .call ⟨.value (.func 32), _, _⟩, _, _, _, _⟩ :: _) _ _ _); apply WL.callP; (iterate 4 exact rfl); exact law19_lives _; intro w' hx)
   | (show SX _ _ _ _ _ _ _ _ _; first | (apply SX.done; intro w' hx) | (apply SX.fl0; exact rfl) | (apply SX.fl1; exact rfl; (exact extA)) | (apply SX.br1; exact rfl; intro w' hx))
   | (show FL _ _ _ _ _ _ _ _; first | apply FL.nilX | (apply FL.loadE tOk; (iterate 5 exact rfl); (first | assumption | (focus (apply Ext.cell; rotate_left; assumption; exact extA; done)))) | (apply FL.indexE tOk; (iterate 8 exact rfl); assumption; exact rfl; omega; assumption; intro b off h; have hcc := h; first | (obtain ⟨h1, h2, h3, h4, h5, h6, _⟩ := h) | (obtain ⟨h1, h2, h3, _⟩ := h) | (obtain ⟨h1, h2, _⟩ := h) | (obtain ⟨h1, _⟩ := h)))
   | (show FL _ _ _ _ _ _ _ _; (refine FL.au (k := ?_)))
   | (show Z _ _ _ _ _; (apply Z.sxE; (exact extA)))
   | (show WL _ _ _ _ _ _ _; first | apply WL.nil | (refine WL.au (k := ?_)))
   | (show Z _ _ _ _ _; first | apply Z.then_normal | apply Z.then_exit | apply Z.block_exit)
   | (show W _ _ _ _ _ _; first | apply W.seq | apply W.region | apply W.ret | apply W.exit)
   | fail)
  exact Z.body1 Try.results5 rfl fun q => ⟨rfl, Ext.at ((hXwS.trans hXk).trans extA) q⟩
end Go.Proofs.Yteidpnpbfagaeaa
namespace Go.Proofs.Yteidpnpbfagaeaa
open Go Go.Lt Go.RowKit Go.ChangeShapes Go.WideShapes Go.ChangeAt Go.Deep
set_option linter.unusedVariables false
set_option linter.unusedSimpArgs false
set_option maxRecDepth 20000

set_option maxRecDepth 20000 in
theorem circ_of {H : Type} {en : TypeId × Value → H} {w : World} {base : Nat} {spare : Nat → Bool} {held : Bool} {r : Reach} {b0 : Nat} {v : Value} {d : DataW H} {ps : List MemPlace} (hval : Value.okWide Try.prog w r b0 27 v) (hd : DataW.Trod en Try.prog w base spare held 27 v d ps) : ∃ c : Circ, v = c.val ∧ CAt w c := by
 obtain ⟨⟨m, ins, lat, outs, bads, cons, gates, syms, com, _⟩, hv, _, ki, kl, ko, kb, kc, kg, ks, _⟩ := struct_of (reads_struct Try.underlying27 (by kernel_rfl) (by kernel_rfl) (readsF_cons (reads_int Try.underlying3) (readsF_cons (reads_row (s := 1) (reads_int Try.underlying3) (by kernel_rfl) Try.underlying22 (fun _ => rfl) (by decide)) (readsF_cons (reads_row (s := 3) (reads_triple' (s0 := 1) (s1 := 1) (s2 := 1) Try.underlying87 (reads_int Try.underlying3) (reads_int Try.underlying3) (reads_int Try.underlying3) (by kernel_rfl) rfl rfl rfl (by kernel_rfl) (by kernel_rfl) (by kernel_rfl)) (by kernel_rfl) Try.underlying23 (fun _ => rfl) (by decide)) (readsF_cons (reads_row (s := 1) (reads_int Try.underlying3) (by kernel_rfl) Try.underlying22 (fun _ => rfl) (by decide)) (readsF_cons (reads_row (s := 1) (reads_int Try.underlying3) (by kernel_rfl) Try.underlying22 (fun _ => rfl) (by decide)) (readsF_cons (reads_row (s := 1) (reads_int Try.underlying3) (by kernel_rfl) Try.underlying22 (fun _ => rfl) (by decide)) (readsF_cons (reads_row (s := 3) (reads_triple' (s0 := 1) (s1 := 1) (s2 := 1) Try.underlying89 (reads_int Try.underlying3) (reads_int Try.underlying3) (reads_int Try.underlying3) (by kernel_rfl) rfl rfl rfl (by kernel_rfl) (by kernel_rfl) (by kernel_rfl)) (by kernel_rfl) Try.underlying24 (fun _ => rfl) (by decide)) (readsF_cons (reads_row (s := 3) (reads_triple' (s0 := 1) (s1 := 1) (s2 := 1) Try.underlying150 (reads_int Try.underlying5) (reads_int Try.underlying3) (reads_string Try.underlying9) (by kernel_rfl) rfl rfl rfl (by kernel_rfl) (by kernel_rfl) (by kernel_rfl)) (by kernel_rfl) Try.underlying25 (fun _ => rfl) (by decide)) (readsF_cons (reads_string Try.underlying9) (readsF_nil _))))))))))) Try.underlying27 hval hd
 exact ⟨⟨m, ins, lat, outs, bads, cons, gates, syms, com⟩, hv, ⟨ki.1, ki.2.1, ki.2.2.2.1⟩, ⟨kl.1, kl.2.1, kl.2.2.2.1⟩, ⟨ko.1, ko.2.1, ko.2.2.2.1⟩, ⟨kb.1, kb.2.1, kb.2.2.2.1⟩, ⟨kc.1, kc.2.1, kc.2.2.2.1⟩, ⟨kg.1, kg.2.1, kg.2.2.2.1⟩, ⟨ks.1, ks.2.1, ks.2.2.2.1⟩⟩
end Go.Proofs.Yteidpnpbfagaeaa
namespace Go.Proofs.Yteidpnpbfagaeaa
open Go Go.Lt Go.ChangeShapes Go.WideShapes Go.ChangeAt Go.RowKit
set_option linter.unusedVariables false
set_option linter.unusedSimpArgs false
set_option maxRecDepth 20000
open Go.ChangeMaps (open_string shut_string)
namespace unrollMeans
theorem own : ownKnob Try.prog.godebug = none := by kernel_rfl
theorem laidOut : laidOutB Try.prog = true := factLaid
theorem one_le {H : Type} (d : DataW H) : 1 ≤ Rows.uptoBulk d := by
 cases d with
 | lit l => cases l <;> simp [Rows.uptoBulk]
 | nil => simp [Rows.uptoBulk]
 | ptr d => simp [Rows.uptoBulk]
 | slice elems spare => simp [Rows.uptoBulk]
 | agg parts => simp [Rows.uptoBulk]
 | iface t d => simp [Rows.uptoBulk]
 | map entries => simp [Rows.uptoBulk]
 | held h => simp [Rows.uptoBulk]
theorem length_le {H : Type} (l : List (DataW H)) : l.length ≤ Rows.uptoBulkAll l := by
 induction l with
 | nil => simp [Rows.uptoBulkAll]
 | cons x r ih => have := one_le x; simp only [Rows.uptoBulkAll, List.length_cons]; omega
theorem bulk_slice {H : Type} {P : Program} {en : TypeId × Value → H} {w : World} {base : Nat} {spare : Nat → Bool} {held : Bool} {t e : TypeId} {d : DataW H} {ps : List MemPlace} {a : Option Addr} {n cap : Nat} (ht : P.underlying t = some (.slice e)) (hd : DataW.Trod en P w base spare held t (.slice a n cap) d ps) : n ≤ Rows.uptoBulk d := by
 obtain ⟨fuel, hf⟩ := hd
 rcases Go.Deep.open_slice ht hf with ⟨hcs, hx⟩ | ⟨a0, len0, cap0, q0, q, D, Pl, hcs, _, hl, hm, hmm, hx, _⟩
 ·simp only [Value.cells, List.cons.injEq, Value.slice.injEq, and_true] at hcs
  rw [hcs.2.1]; omega
 ·simp only [Value.cells, List.cons.injEq, Value.slice.injEq, and_true] at hcs
  simp only [Prod.mk.injEq] at hx
  rw [hx.1, hcs.2.1]
  have h3 := length_le ((List.range len0).map D)
  simp only [List.length_map, List.length_range] at h3
  simp only [Rows.uptoBulk]
  omega
set_option maxRecDepth 100000 in
theorem contract (H : Type) (enc : TypeId × Value → H) (W : World) (base : Nat) (args : Array Value) (ds gs : List (DataW H)) (before : List MemPlace)
  (hval0 : ∀ (j : Nat) t v, Try.f5.params[j]? = some t → args[j]? = some v → Value.okWide Try.prog W .any base t v)
  (hW : DataW.Whole enc Try.prog Try.f5.params.toList Rows.unrollMeansSpec.vars false W args.toList ds gs before) (hk : Rows.uptoSmall H (ds ++ gs) = true) :
  Calls Try.prog 5 args W fun e W' => ∃ v, e = .returned v ∧ Rows.unrollMeansSpec.post enc Try.prog Try.f5 false true false false W args v W' := by
 have hval : ∀ (j : Nat) t v, Try.f5.params[j]? = some t → args[j]? = some v → Value.okWide Try.prog W .any base t v := hval0
 have hW' := hW
 obtain ⟨p, q, hA0, hV, rfl, hfz, hnd⟩ := hW
 have hA : DataW.TrodAll enc Try.prog W 0 (fun _ => true) true Try.f5.params.toList args.toList ds p := hA0
 rw [Try.params5] at hA hval
 obtain ⟨v0, vs0, d0, ds0, p0, q0, hargs, rfl, rfl, h0, r0⟩ := trodAll_cons hA
 obtain ⟨v1, vs1, d1, ds1, p1, q1, rfl, rfl, rfl, h1, r1⟩ := trodAll_cons r0
 obtain ⟨v2, vs2, d2, ds2, p2, q2, rfl, rfl, rfl, h2, r2⟩ := trodAll_cons r1
 obtain ⟨v3, vs3, d3, ds3, p3, q3, rfl, rfl, rfl, h3, r3⟩ := trodAll_cons r2
 obtain ⟨rfl, rfl, rfl⟩ := trodAll_nil r3
 obtain rfl : args = #[v0, v1, v2, v3] := by cases args; simp_all
 obtain ⟨rfl, rfl⟩ := trodVars_none hV
 have k0 := h0
 have lt0 : ∀ x ∈ p0, x.block < W.heap.size := by obtain ⟨m, hm⟩ := k0; exact DataW.trod_lt m _ _ _ hm
 have k1 := h1
 have lt1 : ∀ x ∈ p1, x.block < W.heap.size := by obtain ⟨m, hm⟩ := k1; exact DataW.trod_lt m _ _ _ hm
 have k2 := h2
 have lt2 : ∀ x ∈ p2, x.block < W.heap.size := by obtain ⟨m, hm⟩ := k2; exact DataW.trod_lt m _ _ _ hm
 have k3 := h3
 have lt3 : ∀ x ∈ p3, x.block < W.heap.size := by obtain ⟨m, hm⟩ := k3; exact DataW.trod_lt m _ _ _ hm
 obtain ⟨c0, rfl, hC0⟩ := circ_of (hval 0 27 v0 rfl rfl) h0
 obtain ⟨b1, rfl, rfl, rfl⟩ := open_bool Try.underlying4 (hval 1 4 v1 rfl rfl) h1
 obtain ⟨n2, rfl, rfl, rfl, w2⟩ := open_int Try.underlying5 (hval 2 5 v2 rfl rfl) h2
 obtain ⟨a3, l3, cap3, rfl, hl3, hm3, hna3, R3, w3⟩ := row_of (s := 1) (reads_bool Try.underlying4) (by kernel_rfl) Try.underlying31 (fun _ => rfl) (by decide) (hval 3 31 v3 rfl rfl) h3
 have hk9 : Rows.uptoBulkAll _ ≤ 1048576 := of_decide_eq_true hk
 simp only [Rows.uptoBulkAll, List.cons_append, List.nil_append, List.append_nil] at hk9
 have hb3 : l3.length ≤ 1048576 := by have h9 := bulk_slice Try.underlying31 k3; omega
 clear hA0 hval0
 refine (Spec.law (law_UnrollMeans c0 b1 n2 a3 cap3 l3 W hC0 R3 hl3 (by simpa [Lit.wf, IntKind.min, IntKind.max, IntKind.signed, IntKind.bits] using w2) hb3)).mono fun e W' ⟨he, bel⟩ => ?_
 subst he
 exact ⟨_, rfl, _, _, _, [], _, [], hW', trodAll_mk1 (shut_bool Try.underlying4 _), (trodAll_cons_mk (Below.trod laidOut (by kernel_rfl) (of_decide_eq_true (by kernel_rfl)) k0 bel lt0) (trodAll_cons_mk (Below.trod laidOut (by kernel_rfl) (of_decide_eq_true (by kernel_rfl)) k1 bel lt1) (trodAll_cons_mk (Below.trod laidOut (by kernel_rfl) (of_decide_eq_true (by kernel_rfl)) k2 bel lt2) (trodAll_cons_mk (Below.trod laidOut (by kernel_rfl) (of_decide_eq_true (by kernel_rfl)) k3 bel lt3) trodAll_mk0)))), rfl, bel.frame _, fun h => by cases h⟩
set_option maxRecDepth 100000 in
theorem lifted (os : Os) (started : os.Started) (H : Type) (enc : TypeId × Value → H) (F : Stop.Interp) :
  ReturnsInHanded {} Try.checked os 5 .any ((Rows.OpenSpec.upto Rows.unrollMeansSpec).pre6 enc Try.prog Try.f5 Rows.unrollMeansUptoRow.domain false) (((Rows.OpenSpec.upto Rows.unrollMeansSpec).at F).post enc Try.prog Try.f5 false true false false) := by
 refine returnsInHanded_of_cond (C := Try.checked) (s := Rows.OpenSpec.upto Rows.unrollMeansSpec) (k := Rows.uptoSmall) rfl own started (by kernel_rfl) Try.func5
  (OpenSpec.witness (enc := enc) (C := Try.checked) (s := Rows.OpenSpec.upto Rows.unrollMeansSpec) (k := Rows.uptoSmall) rfl false ⟨#[], #[.agg #[.int .i64 0, .slice none 0 0, .slice none 0 0, .slice none 0 0, .slice none 0 0, .slice none 0 0, .slice none 0 0, .slice none 0 0, .string ⟨#[]⟩], .bool false, .int .u8 0, .slice none 0 0], []⟩ 8 (by kernel_rfl) (by kernel_rfl) (by kernel_rfl)
   (x := ([.agg [.lit (.int .i64 0), .nil, .nil, .nil, .nil, .nil, .nil, .nil, .lit (.string [])], .lit (.bool false), .lit (.int .u8 0), .nil], [], [])) (by kernel_rfl) rfl (by kernel_rfl)) ?_
 intro W base args ds gs before hval hW _ hk _
 exact contract H enc W base args ds gs before hval hW hk
theorem j0 : (Rows.unrollMeansUptoRow.wf (OpenSpec.ofChange Rows.unrollMeansSpec)) = true := by kernel_rfl
theorem j3 : (Try.f5.params.all (Try.prog.readableRec ·)) = true := by kernel_rfl
theorem j4 : (namedTie Try.prog Rows.unrollMeansUptoRow.named Rows.unrollMeansSpec.vars) = true := by kernel_rfl
theorem j5 : ((Rows.unrollMeansUptoRow.stops == [])) = true := by kernel_rfl
theorem j7 : ((Rows.unrollMeansUptoRow.knobs == [])) = true := by kernel_rfl
theorem j9 : ((Rows.unrollMeansUptoRow.inPlace == Try.prog.inPlace 5)) = true := by kernel_rfl
theorem j10 : ((Rows.unrollMeansUptoRow.unfollowed == Try.prog.unfollowed 5)) = true := by kernel_rfl
theorem j11 : ((Rows.unrollMeansUptoRow.recurses == Try.prog.recurses 5)) = true := by kernel_rfl
theorem j12 : ((Rows.unrollMeansUptoRow.named == Try.prog.varsNamed 5)) = true := by kernel_rfl
theorem j13 : ((Rows.unrollMeansUptoRow.maps == (Try.f5.params.toList ++ Rows.unrollMeansSpec.plain.varTypes Try.prog).any (Try.prog.mapsRec ·))) = true := by kernel_rfl
theorem j14 : ((Rows.unrollMeansUptoRow.ifaces == (Try.f5.params.toList ++ Rows.unrollMeansSpec.plain.varTypes Try.prog).any (Try.prog.ifacesRec ·))) = true := by kernel_rfl
theorem j15 : ((Rows.unrollMeansUptoRow.mapsOut == Try.prog.mapsAmong Try.f5.resultTypes.toList)) = true := by kernel_rfl
theorem j16 : ((Rows.unrollMeansUptoRow.loops == (Try.f5.params.toList ++ Rows.unrollMeansSpec.plain.varTypes Try.prog).any (Try.prog.loopsFrom ·))) = true := by kernel_rfl
theorem j17 : ((Rows.unrollMeansUptoRow.wideKeys == (Try.f5.params.toList ++ Rows.unrollMeansSpec.plain.varTypes Try.prog ++ Try.f5.resultTypes.toList).any (Try.prog.wideKeysFrom ·))) = true := by kernel_rfl
theorem j18 : (Rows.unrollMeansSpec.vars.all (Try.prog.varReadable ·)) = true := by kernel_rfl
theorem j19 : (Try.f5.resultTypes.all (fun t => Try.prog.readableRec t && decide (t < Try.prog.types.size))) = true := by kernel_rfl
theorem j20 : ((Rows.unrollMeansUptoRow.ifacesOut == Try.f5.resultTypes.toList.any (Try.prog.ifacesRec ·))) = true := by kernel_rfl
theorem j21 : ((Rows.unrollMeansUptoRow.loopsOut == Try.f5.resultTypes.toList.any (Try.prog.loopsFrom ·))) = true := by kernel_rfl
theorem j22 : ((Rows.unrollMeansUptoRow.plainKeys == Try.prog.plainKeys)) = true := by rw [show Rows.unrollMeansUptoRow.plainKeys = Rows.liftAsksRow.plainKeys by kernel_rfl]; exact factKeys
theorem j23 : (Rows.unrollMeansUptoRow.shortTexts.isNone) = true := by kernel_rfl
theorem j26 : ((Rows.unrollMeansUptoRow.lifted == Try.prog.liftsFinal)) = true := by rw [show Rows.unrollMeansUptoRow.lifted = Rows.liftAsksRow.lifted by kernel_rfl]; exact factLifts
theorem j27 : ((Try.prog.make == some Rows.unrollMeansUptoRow.make)) = true := by rw [show Rows.unrollMeansUptoRow.make = Rows.liftAsksRow.make by kernel_rfl]; exact factMake
theorem j28 : ((Rows.unrollMeansUptoRow.kinds == (if Rows.unrollMeansUptoRow.domain.isEmpty then [] else Try.f5.params.toList.map fun t => match Try.prog.underlying t with | some (.int k) => some k | _ => none))) = true := by kernel_rfl
theorem j29 : ((Rows.unrollMeansUptoRow.pinned == Rows.unrollMeansUptoRow.pinnedBy)) = true := by kernel_rfl
theorem j30 : ((Rows.unrollMeansUptoRow.veiled == (Try.f5.params.toList ++ Rows.unrollMeansSpec.plain.varTypes Try.prog ++ Try.f5.resultTypes.toList).any (Try.prog.veiledRec ·))) = true := by kernel_rfl
theorem j31 : (Rows.unrollMeansUptoRow.veiledFits Try.prog Try.f5.params.toList (Try.f5.params.toList ++ Rows.unrollMeansSpec.plain.varTypes Try.prog ++ Try.f5.resultTypes.toList)) = true := by kernel_rfl
set_option maxRecDepth 100000 in
theorem closed : joinedFacts Try.checked.prog 5 Try.f5 Rows.unrollMeansSpec Rows.unrollMeansUptoRow = true := by unfold joinedFacts; exact (band (band (band (band (band (band (band (band (band (band (band (band (band (band (band (band (band (band (band (band (band (band (band (band (band (band (band (band (band (band (band j0 factLaid) factMaps) j3) j4) j5) factStops) j7) factKnobs) j9) j10) j11) j12) j13) j14) j15) j16) j17) j18) j19) j20) j21) j22) j23) factHeard) factEnter) j26) j27) j28) j29) j30) j31)
theorem named : Try.checked.prog.funcNamed Rows.unrollMeansUptoRow.func = some 5 := by kernel_rfl
theorem over : Rows.unrollMeansUptoRow.holds Try.pinned (Rows.OpenSpec.upto Rows.unrollMeansSpec) :=
 OpenClaim.holds_of_cond 5 Try.f5 rfl rfl rfl rfl rfl rfl rfl ⟨rfl, rfl, rfl, rfl, rfl⟩ rfl rfl rfl rfl rfl named Try.func5 closed
  (of_decide_eq_true (by kernel_rfl)) (by unfold Func.isWrapper; first | (rw [if_pos (by decide +kernel)]; kernel_rfl) | (rw [if_neg (by decide +kernel)]; exact ⟨rfl, rfl⟩))
  (fun os started H enc _ F => lifted os started H enc F)
theorem proved : Rows.UnrollMeansUptoSaid := over
end unrollMeans
end Go.Proofs.Yteidpnpbfagaeaa
