/- Part 3 of what the claim CoiMeans needs: lemmas and contracts, printed from longer texts. No conditions. -/
import Derived.Test.YteidpnpbfagaeaaRows
import Derived.Lib.SmallJoins
import Derived.KernelRfl
import Derived.WalkKit
import Derived.ProofKit
import Derived.Deep.Quiet
import Derived.Deep.LoopGhost
import Derived.StillTail
import Derived.Test.YteidpnpbfagaeaaProg
import Derived.OpenShut
import Derived.ShutString
import Derived.ChangeOld
import Derived.Deep.Slices
import Derived.SizedLaws
import Derived.Laws.StructEq
import Derived.Laws.Externs
import Derived.MapKept
import Derived.Laws.CopyRow
import Derived.Laws.IdiomCopy
import Derived.Test.YteidpnpbfagaeaaCoiMeansP2
set_option linter.unusedVariables false
set_option linter.unusedSimpArgs false
set_option maxRecDepth 20000
set_option maxHeartbeats 32000000
namespace Go.Proofs.Yteidpnpbfagaeaa
open Go Go.Lt Go.RowKit

theorem aig_Input (gs r cap : Nat) (a : Option Addr) (N : List (Int × Int)) (M : List ((Int × Int) × Int)) (rest : List Piece) (w w0 : World) (hX : Ext w0 w) (hS : Sep w0.heap.size w (stP w0.heap.size gs a cap r N M ++ rest)) (hN : N.length < 1048576) :
  Lt.Spec Try.prog 90 [.pointer (some ⟨gs, 0, none⟩)] w (fun v w' => Ext w0 w' /\ ∃ a' cap', v = .int .i64 (2 * ((N.length : Int) + 1)) /\ Sep w0.heap.size w' (stP w0.heap.size gs a' cap' r (N ++ [(-1, 0)]) M ++ rest)) := by
 refine Spec.of _ Try.func90 rfl Try.ntmps90 (by kernel_rfl) rfl ?_
 repeat' (first | (apply WL.eqNilS tOk; (iterate 6 exact rfl)) | (apply WL.build tOk; (iterate 7 exact rfl); kernel_rfl) | (apply WL.call (f := 143); (iterate 4 exact rfl); exact aig_put gs r cap a N M (-1, 0) rest _ w0 hX hS hN; rintro v' w' ⟨hX2, a', cap', rfl, hS2⟩) | (first | apply WL.nil | (refine WL.au (k := ?_))) | apply Z.tn | (first | apply W.seq | apply W.region | apply W.skip | apply W.ret | (apply W.condF; exact rfl)))
 exact Z.bd1 Try.results90 rfl fun m => ⟨hX2.at m, a', cap', rfl, hS2.ext ((Ext.refl _).at m)⟩
def hasL (N : List (Int × Int)) (x : Int) : Prop := 0 <= x /\ x < 2 * ((N.length : Int) + 1)
theorem aig_below (l m : Int) (w : World) (hm : 0 <= m /\ m <= 4611686018427387903) : Still Try.prog 155 [.int .i64 l, .int .i64 m] w (.bool (dec (0 <= l /\ l < 2 * m))) := by
 refine Spec.of _ Try.func155 rfl Try.ntmps155 (by kernel_rfl) rfl ?_
 repeat' (first | (first | apply WL.nil | (refine WL.au (k := ?_)) | (apply WL.gdF; exact rfl; exact rfl) | (apply WL.gD; exact rfl; exact rfl; all_goals intro _)) | apply Z.tn | (first | apply W.seq | apply W.region | apply W.ret))
 all_goals (refine Z.bd1 Try.results155 rfl fun m => ⟨?_, m, rfl⟩; (first | exact congrArg Value.bool (dTt (by omega)).symm | exact congrArg Value.bool (dFf (by omega)).symm | exact congrArg Value.bool (dTt (by omega)) | exact congrArg Value.bool (dFf (by omega)) | exact congrArg Value.bool (dCg (by omega))))
theorem aig_has1 (gs g2 cap : Nat) (a : Option Addr) (N : List (Int × Int)) (v2 : Value) (x : Int) (w : World) (hc : w.heap[gs]? = some (.cells #[.slice a N.length cap, v2] 142 (0, 0))) (h2 : w.cell? ⟨g2, 0, none⟩ = some (.pointer (some ⟨gs, 0, none⟩))) (hN : N.length <= 1048576) :
  Still Try.prog 154 ([.int .i64 x] ++ [.pointer (some ⟨g2, 0, none⟩)]) w (.bool (!dec (hasL N x))) := by
 obtain ⟨h1, _⟩ := cHp hc
 refine Spec.of _ Try.func154 rfl Try.ntmps154 (by kernel_rfl) rfl ?_
 repeat' (first | (apply WL.nilc; (iterate 3 exact rfl)) | (apply WL.callS (f := 155); (iterate 4 exact rfl); exact aig_below _ _ _ (by omega)) | (first | apply WL.nil | (refine WL.au (k := ?_))) | apply Z.tn | (first | apply W.seq | apply W.region | apply W.ret))
 exact Z.bd1 Try.results154 rfl fun m => ⟨rfl, m, rfl⟩
theorem slices_ContainsFunc (a : Option Addr) (cap : Nat) (l : List Int) (f : Nat) (us : List Value) (p : Int -> Bool) (w w0 : World) (R : Row 1 encI w0 a l) (E : Ext w0 w)
  (hf : ∀ x ∈ l, Still Try.prog f ([.int .i64 x] ++ us) w (.bool (p x))) :
  Still Try.prog 153 [.slice a l.length cap, fnv f us] w (.bool (dec (∃ x ∈ l, p x = true))) := by
 refine Spec.of _ Try.func153 rfl Try.ntmps153 (by kernel_rfl) rfl ?_
 repeat' (first | (apply WL.callS (f := 159); (iterate 4 exact rfl); exact slices_IndexFunc _ _ l f us p _ w0 R E hf) | (first | apply WL.nil | (refine WL.au (k := ?_))) | apply Z.tn | (first | apply W.seq | apply W.region | apply W.ret))
 refine Z.bd1 Try.results153 rfl fun m => ⟨congrArg Value.bool (dCg ?_), m, rfl⟩
 by_cases h : l.findIdx p < l.length
 ·rw [if_pos h]
  exact ⟨fun _ => ⟨l[l.findIdx p], List.getElem_mem h, List.findIdx_getElem⟩, fun _ => by omega⟩
 ·rw [if_neg h]
  exact ⟨fun hh => by omega, fun hh => absurd (List.findIdx_lt_length_of_exists hh) h⟩

theorem aig_has (gs cap cl : Nat) (a al : Option Addr) (N : List (Int × Int)) (L : List Int) (v2 : Value) (w : World) (hc : w.heap[gs]? = some (.cells #[.slice a N.length cap, v2] 142 (0, 0))) (RL : Row 1 encI w al L) (hN : N.length <= 1048576) :
  Pure Try.prog 111 [.pointer (some ⟨gs, 0, none⟩), .slice al L.length cl] w (.bool (dec (∀ x ∈ L, hasL N x))) := by
 refine Spec.of _ Try.func111 rfl Try.ntmps111 (by kernel_rfl) rfl ?_
 repeat' (first | (apply WL.box; (iterate 3 exact rfl); intro gb w' hb hge hc hx; have hcc := hc; (first | (obtain ⟨h1, h2, h3, _⟩ := hc) | (obtain ⟨h1, h2, _⟩ := hc))) | (apply WL.neNilS tOk; (iterate 6 exact rfl)) | (apply WL.callS (f := 153); (iterate 4 exact rfl); exact slices_ContainsFunc _ _ L 154 [.pointer (some ⟨gb, 0, none⟩)] (fun x => !dec (hasL N x)) _ _ RL hx (fun x _ => aig_has1 gs gb cap a N v2 x _ (Ext.heap hx hc) h1 hN)) | (first | apply WL.nil | (refine WL.au (k := ?_))) | apply Z.tn | (first | apply W.seq | apply W.region | apply W.ret))
 refine Z.bd1 Try.results111 rfl fun m => ⟨congrArg Value.bool ?_, Ext.at extA m⟩
 by_cases h : ∀ x ∈ L, hasL N x
 ·rw [dTt h, dFf]
  ·rfl
  ·rintro ⟨x, hx, hp⟩; rw [dTt (h x hx)] at hp; cases hp
 ·rw [dFf h, dTt]
  ·rfl
  ·have h' : ∃ x, ¬ (x ∈ L -> hasL N x) := Classical.not_forall.1 h
   obtain ⟨x, hx⟩ := h'
   have h2 : x ∈ L /\ ¬ hasL N x := Classical.not_imp.1 hx
   exact ⟨x, h2.1, by rw [dFf h2.2]; rfl⟩

theorem Sep.sub' {B : Nat} {w : World} {ps qs : List Piece} (f : Nat -> Nat) (hS : Sep B w ps) (hf : ∀ i p, qs[i]? = some p -> ps[f i]? = some p) (hi : ∀ i j, i < qs.length -> j < qs.length -> i ≠ j -> f i ≠ f j) : Sep B w qs := by
 refine ⟨fun i p h => hS.holds _ _ (hf i p h), fun i j p q h1 h2 hne => hS.apart _ _ _ _ (hf i p h1) (hf j q h2) (hi i j ?_ ?_ hne)⟩
 ·exact (List.getElem?_eq_some_iff.1 h1).1
 ·exact (List.getElem?_eq_some_iff.1 h2).1
theorem Sep.rot {B : Nat} {w : World} {p : Piece} {ps : List Piece} (hS : Sep B w (p :: ps)) : Sep B w (ps ++ [p]) := by
 refine Sep.sub' (fun i => if i < ps.length then i + 1 else 0) hS (fun i q h => ?_) (fun i j hi hj hne => ?_)
 ·by_cases h1 : i < ps.length
  ·simp only [if_pos h1]; rw [List.getElem?_append_left h1] at h; simpa using h
  ·simp only [if_neg h1]
   have h2 := (List.getElem?_eq_some_iff.1 h).1
   simp only [List.length_append, List.length_cons, List.length_nil] at h2
   have : i = ps.length := by omega
   subst this; simp at h; subst h; rfl
 ·simp only [List.length_append, List.length_cons, List.length_nil] at hi hj
  show (if i < ps.length then i + 1 else 0) ≠ (if j < ps.length then j + 1 else 0)
  split <;> split <;> omega
theorem Sep.rotBack {B : Nat} {w : World} {p : Piece} {ps : List Piece} (hS : Sep B w (ps ++ [p])) : Sep B w (p :: ps) := by
 refine Sep.sub' (fun i => if i = 0 then ps.length else i - 1) hS (fun i q h => ?_) (fun i j hi hj hne => ?_)
 ·cases i with
  | zero => simp at h; subst h; simp
  | succ i =>
   have h2 := (List.getElem?_eq_some_iff.1 h).1
   simp only [List.length_cons] at h2
   simp only [Nat.add_one_ne_zero, if_false, Nat.add_sub_cancel]
   rw [List.getElem?_append_left (by omega)]; simpa using h
 ·simp only [List.length_cons] at hi hj
  show (if i = 0 then ps.length else i - 1) ≠ (if j = 0 then ps.length else j - 1)
  split <;> split <;> omega
theorem Sep.tail {B : Nat} {w : World} {p : Piece} {ps : List Piece} (hS : Sep B w (p :: ps)) : Sep B w ps := hS.drop 1

structure AndR where
 v : Int
 N : List (Int × Int)
 M : List ((Int × Int) × Int)
noncomputable def andF (N : List (Int × Int)) (M : List ((Int × Int) × Int)) (x y : Int) : AndR :=
 bif dec (¬ (hasL N x /\ hasL N y)) then ⟨-1, N, M⟩ else
 bif dec (x = 0 ∨ x = xor1 y) then ⟨0, N, M⟩ else
 bif dec (x = 1 ∨ x = y) then ⟨y, N, M⟩ else
 match mget (x, y) M with
 | some v => ⟨v, N, M⟩
 | none => ⟨2 * ((N.length : Int) + 1), N ++ [(x, y)], M ++ [((x, y), 2 * ((N.length : Int) + 1))]⟩

section
variable {N : List (Int × Int)} {M : List ((Int × Int) × Int)} {x y : Int}
theorem andF_no (h : ¬ (hasL N x /\ hasL N y)) : andF N M x y = ⟨-1, N, M⟩ := by unfold andF; rw [dTt h]; rfl
theorem andF_zero (h : hasL N x /\ hasL N y) (h1 : x = 0 ∨ x = xor1 y) : andF N M x y = ⟨0, N, M⟩ := by unfold andF; rw [dFf (fun hh => hh h), dTt h1]; rfl
theorem andF_one (h : hasL N x /\ hasL N y) (h1 : ¬ (x = 0 ∨ x = xor1 y)) (h2 : x = 1 ∨ x = y) : andF N M x y = ⟨y, N, M⟩ := by unfold andF; rw [dFf (fun hh => hh h), dFf h1, dTt h2]; rfl
theorem andF_old {v : Int} (h : hasL N x /\ hasL N y) (h1 : ¬ (x = 0 ∨ x = xor1 y)) (h2 : ¬ (x = 1 ∨ x = y)) (hm : mget (x, y) M = some v) : andF N M x y = ⟨v, N, M⟩ := by unfold andF; rw [dFf (fun hh => hh h), dFf h1, dFf h2, hm]; rfl
theorem andF_new (h : hasL N x /\ hasL N y) (h1 : ¬ (x = 0 ∨ x = xor1 y)) (h2 : ¬ (x = 1 ∨ x = y)) (hm : mget (x, y) M = none) : andF N M x y = ⟨2 * ((N.length : Int) + 1), N ++ [(x, y)], M ++ [((x, y), 2 * ((N.length : Int) + 1))]⟩ := by unfold andF; rw [dFf (fun hh => hh h), dFf h1, dFf h2, hm]; rfl
end

theorem aig_AndLe (gs r cap : Nat) (a : Option Addr) (N : List (Int × Int)) (M : List ((Int × Int) × Int)) (x y : Int) (rest : List Piece) (w w0 : World) (hX : Ext w0 w) (hS : Sep w0.heap.size w (stP w0.heap.size gs a cap r N M ++ rest)) (hN : N.length < 1048576) (hxy : x <= y) :
  Lt.Spec Try.prog 113 [.pointer (some ⟨gs, 0, none⟩), .int .i64 x, .int .i64 y] w (fun v w' => Ext w0 w' /\ ∃ a' cap', v = .int .i64 (andF N M x y).v /\ Sep w0.heap.size w' (stP w0.heap.size gs a' cap' r (andF N M x y).N (andF N M x y).M ++ rest)) := by
 have hC0 := hS.cell (i := 0) rfl
 have hM0 := hS.map (i := 2) rfl
 have hgs := (hS.lt (i := 0) rfl rfl)
 have hr := (hS.lt (i := 2) rfl rfl)
 obtain ⟨hD0, hD1, _⟩ := cHp hC0
 have hall : dec (∀ z ∈ [x, y], hasL N z) = dec (hasL N x /\ hasL N y) := dCg (by simp)
 rcases hm : mget (x, y) M with _ | v
 ·refine Spec.of _ Try.func113 rfl Try.ntmps113 (by kernel_rfl) rfl ?_
  repeat' (first | (apply WL.lit tOk; (iterate 6 exact rfl); kernel_rfl; exact rfl; intro gb w' hb hge hc hx; have hO := Own.of_block ([x, y]) eIk hb hge rfl) | (apply WL.callP (f := 111); (iterate 4 exact rfl); exact aig_has _ _ _ _ _ N [x, y] _ _ (Ext.heap (by assumption) hC0) (Own.row eIk (by assumption)) (by omega); intro w' hx) | (apply W.cKF; exact rfl; exact dFf (by omega)) | (apply WL.xor1; (iterate 4 exact rfl); (focus (have h9 := (by assumption : ∀ z ∈ [x, y], hasL N z); have h8 := h9 y (by simp); unfold hasL at h8; omega))) | (apply WL.build tOk; (iterate 7 exact rfl); kernel_rfl) | (apply WL.alloc tOk; (iterate 3 exact rfl); intro gb w' hb hge hx; replace hS := Sep.newCell (Sep.ext hS extA) hx hb hge (by (exact Below.size extA)); (try simp only [List.set_cons_zero, List.set_cons_succ] at hS); (try have hR2 := hS.row (i := 2) rfl); (try have hC0 := hS.cell (i := 0) rfl); (try have hD0 := (cHp hC0).1); (try have hE0 := (cHp hC0).2.1); (try have hC1 := hS.cell (i := 1) rfl); (try have hD1 := (cHp hC1).1); (try have hE1 := (cHp hC1).2.1); (try have hM3 := hS.map (i := 3) rfl)) | (apply WL.storeB (w0 := w0) tOk; (iterate 4 exact rfl); assumption; exact extA; (iterate 3 exact rfl); exact extA; ((focus (apply Nat.le_trans; rotate_left; assumption; exact Below.size extA; done))); intro w' hb hc hX' hU; have hcc := hc; obtain ⟨h1, h2, _⟩ := hc; replace hS := Sep.uCl (i := 0) rfl hU hb hS extA (by (exact Below.size extA)); (try simp only [List.set_cons_zero, List.set_cons_succ] at hS); (try have hR2 := hS.row (i := 2) rfl); (try have hC0 := hS.cell (i := 0) rfl); (try have hD0 := (cHp hC0).1); (try have hE0 := (cHp hC0).2.1); (try have hC1 := hS.cell (i := 1) rfl); (try have hD1 := (cHp hC1).1); (try have hE1 := (cHp hC1).2.1); (try have hM3 := hS.map (i := 3) rfl)) | (apply QL.nilc; (iterate 3 exact rfl)) | (apply QL.lookupNone (a := (x, y)) tOk keyN; (iterate 7 exact rfl); assumption; exact hm) | (first | apply WL.nil | (refine WL.au (k := ?_)) | (apply WL.gdF; exact rfl; exact rfl) | (apply WL.gD; exact rfl; exact rfl; all_goals intro _)) | (first | apply QL.nil | (refine QL.au (k := ?_))) | (first | apply Z.tn | apply Z.bkn | apply Z.tnr | apply Z.bkr) | (first | apply W.seq | apply W.region | apply W.block | apply W.skip | apply W.ret | (apply W.condT; exact rfl) | (apply W.condF; exact rfl) | (apply W.condD; exact rfl; all_goals intro _) | (apply W.condN; exact rfl; all_goals intro _) | (apply W.rgD tMix; kernel_rfl)))
  repeat' (first | ((show WL _ _ _ (⟨_, .call ⟨.value (.func 143), _, _⟩, _, _, _, _⟩ :: _) _ _ _); have hS9 : Lt.Sep w0.heap.size _ (stP w0.heap.size gs a cap r N M ++ (rest ++ [pcell gb _ 105])) := Sep.rot hS; apply WL.call; (iterate 4 exact rfl); exact aig_put gs r cap a N M (x, y) _ _ w0 extA hS9 hN; rintro v' w'' ⟨hX2, a', cap', rfl, hS2⟩; replace hS := Sep.rotBack (ps := stP w0.heap.size gs a' cap' r (N ++ [(x, y)]) M ++ rest) hS2; (try simp only [List.set_cons_zero, List.set_cons_succ] at hS); (try have hR2 := hS.row (i := 2) rfl); (try have hC0 := hS.cell (i := 0) rfl); (try have hD0 := (cHp hC0).1); (try have hE0 := (cHp hC0).2.1); (try have hC1 := hS.cell (i := 1) rfl); (try have hD1 := (cHp hC1).1); (try have hE1 := (cHp hC1).2.1); (try have hM3 := hS.map (i := 3) rfl); have hcc2 := cHp (hS.cell (i := 0) rfl)) | (apply W.cKT; exact rfl; exact dTt (by omega)) | (apply W.regionQS 6 tMix; kernel_rfl; exact rfl; kernel_rfl; kernel_rfl) | (apply QL.nilc; (iterate 3 exact rfl)) | (apply WL.mapNew (B := 0) (w0 := w0) (a := (x, y)) tOk keyN; (iterate 6 exact rfl); assumption; exact hm; exact extA; exact hr.1; intro w9 hM9 hX9 hU9; replace hS := Sep.updMap (i := 3) rfl hU9 hM9 hS (Ext.refl _) (Below.size extA)) | (first | apply WL.nil | (refine WL.au (k := ?_))) | (first | apply QL.nil | (refine QL.au (k := ?_))) | (first | apply Z.tail | apply Z.tn) | (first | apply W.seq | apply W.region | apply W.ret))
  all_goals (refine Z.bd1 Try.results113 rfl fun m => ?_)
  all_goals (first
   | (rw [andF_no (fun hh => (by assumption : ¬ ∀ z ∈ [x, y], hasL N z) (by intro z hz; simp only [List.mem_cons, List.not_mem_nil, or_false] at hz; rcases hz with rfl | rfl; exact hh.1; exact hh.2))]; exact ⟨Ext.at extA m, a, cap, rfl, (Sep.ext hS extA).ext ((Ext.refl _).at m)⟩)
   | (have h9 := (by assumption : ∀ z ∈ [x, y], hasL N z); have h8 : hasL N x /\ hasL N y := ⟨h9 _ (by simp), h9 _ (by simp)⟩; first
    | (rw [andF_zero h8 (by omega)]; exact ⟨Ext.at extA m, a, cap, rfl, (Sep.ext hS extA).ext ((Ext.refl _).at m)⟩)
    | (rw [andF_one h8 (by omega) (by omega)]; exact ⟨Ext.at extA m, a, cap, rfl, (Sep.ext hS extA).ext ((Ext.refl _).at m)⟩)
    | (rw [andF_new h8 (by omega) (by omega) hm]; exact ⟨Ext.at extA m, a', cap', rfl, (Sep.tail hS).ext ((Ext.refl _).at m)⟩)))
 ·refine Spec.of _ Try.func113 rfl Try.ntmps113 (by kernel_rfl) rfl ?_
  repeat' (first | (apply WL.lit tOk; (iterate 6 exact rfl); kernel_rfl; exact rfl; intro gb w' hb hge hc hx; have hO := Own.of_block ([x, y]) eIk hb hge rfl) | (apply WL.callP (f := 111); (iterate 4 exact rfl); exact aig_has _ _ _ _ _ N [x, y] _ _ (Ext.heap (by assumption) hC0) (Own.row eIk (by assumption)) (by omega); intro w' hx) | (apply W.cKF; exact rfl; exact dFf (by omega)) | (apply WL.xor1; (iterate 4 exact rfl); (focus (have h9 := (by assumption : ∀ z ∈ [x, y], hasL N z); have h8 := h9 y (by simp); unfold hasL at h8; omega))) | (apply WL.build tOk; (iterate 7 exact rfl); kernel_rfl) | (apply WL.alloc tOk; (iterate 3 exact rfl); intro gb w' hb hge hx; replace hS := Sep.newCell (Sep.ext hS extA) hx hb hge (by (exact Below.size extA)); (try simp only [List.set_cons_zero, List.set_cons_succ] at hS); (try have hR2 := hS.row (i := 2) rfl); (try have hC0 := hS.cell (i := 0) rfl); (try have hD0 := (cHp hC0).1); (try have hE0 := (cHp hC0).2.1); (try have hC1 := hS.cell (i := 1) rfl); (try have hD1 := (cHp hC1).1); (try have hE1 := (cHp hC1).2.1); (try have hM3 := hS.map (i := 3) rfl)) | (apply WL.storeB (w0 := w0) tOk; (iterate 4 exact rfl); assumption; exact extA; (iterate 3 exact rfl); exact extA; ((focus (apply Nat.le_trans; rotate_left; assumption; exact Below.size extA; done))); intro w' hb hc hX' hU; have hcc := hc; obtain ⟨h1, h2, _⟩ := hc; replace hS := Sep.uCl (i := 0) rfl hU hb hS extA (by (exact Below.size extA)); (try simp only [List.set_cons_zero, List.set_cons_succ] at hS); (try have hR2 := hS.row (i := 2) rfl); (try have hC0 := hS.cell (i := 0) rfl); (try have hD0 := (cHp hC0).1); (try have hE0 := (cHp hC0).2.1); (try have hC1 := hS.cell (i := 1) rfl); (try have hD1 := (cHp hC1).1); (try have hE1 := (cHp hC1).2.1); (try have hM3 := hS.map (i := 3) rfl)) | (apply QL.nilc; (iterate 3 exact rfl)) | (apply QL.lookupSome (a := (x, y)) tOk keyN; (iterate 7 exact rfl); assumption; exact hm) | (first | apply WL.nil | (refine WL.au (k := ?_)) | (apply WL.gdF; exact rfl; exact rfl) | (apply WL.gD; exact rfl; exact rfl; all_goals intro _)) | (first | apply QL.nil | (refine QL.au (k := ?_))) | (first | apply Z.tn | apply Z.bkn | apply Z.tnr | apply Z.bkr) | (first | apply W.seq | apply W.region | apply W.block | apply W.skip | apply W.ret | (apply W.condT; exact rfl) | (apply W.condD; exact rfl; all_goals intro _) | (apply W.condN; exact rfl; all_goals intro _) | (apply W.rgD tMix; kernel_rfl)))
  all_goals (refine Z.bd1 Try.results113 rfl fun m => ?_)
  all_goals (first
   | (rw [andF_no (fun hh => (by assumption : ¬ ∀ z ∈ [x, y], hasL N z) (by intro z hz; simp only [List.mem_cons, List.not_mem_nil, or_false] at hz; rcases hz with rfl | rfl; exact hh.1; exact hh.2))]; exact ⟨Ext.at extA m, a, cap, rfl, (Sep.ext hS extA).ext ((Ext.refl _).at m)⟩)
   | (have h9 := (by assumption : ∀ z ∈ [x, y], hasL N z); have h8 : hasL N x /\ hasL N y := ⟨h9 _ (by simp), h9 _ (by simp)⟩; first
    | (rw [andF_zero h8 (by omega)]; exact ⟨Ext.at extA m, a, cap, rfl, (Sep.ext hS extA).ext ((Ext.refl _).at m)⟩)
    | (rw [andF_one h8 (by omega) (by omega)]; exact ⟨Ext.at extA m, a, cap, rfl, (Sep.ext hS extA).ext ((Ext.refl _).at m)⟩)
    | (rw [andF_old h8 (by omega) (by omega) hm]; exact ⟨Ext.at extA m, a, cap, rfl, (Sep.tail hS).ext ((Ext.refl _).at m)⟩)))

theorem aig_AndGt (gs r cap : Nat) (a : Option Addr) (N : List (Int × Int)) (M : List ((Int × Int) × Int)) (x y : Int) (rest : List Piece) (w w0 : World) (hX : Ext w0 w) (hS : Sep w0.heap.size w (stP w0.heap.size gs a cap r N M ++ rest)) (hN : N.length < 1048576) (hxy : y < x) :
  Lt.Spec Try.prog 113 [.pointer (some ⟨gs, 0, none⟩), .int .i64 x, .int .i64 y] w (fun v w' => Ext w0 w' /\ ∃ a' cap', v = .int .i64 (andF N M y x).v /\ Sep w0.heap.size w' (stP w0.heap.size gs a' cap' r (andF N M y x).N (andF N M y x).M ++ rest)) := by
 have hC0 := hS.cell (i := 0) rfl
 have hM0 := hS.map (i := 2) rfl
 have hgs := (hS.lt (i := 0) rfl rfl)
 have hr := (hS.lt (i := 2) rfl rfl)
 obtain ⟨hD0, hD1, _⟩ := cHp hC0
 have hall : dec (∀ z ∈ [x, y], hasL N z) = dec (hasL N y /\ hasL N x) := dCg (by simp; exact and_comm)
 rcases hm : mget (y, x) M with _ | v
 ·refine Spec.of _ Try.func113 rfl Try.ntmps113 (by kernel_rfl) rfl ?_
  repeat' (first | (apply WL.lit tOk; (iterate 6 exact rfl); kernel_rfl; exact rfl; intro gb w' hb hge hc hx; have hO := Own.of_block ([x, y]) eIk hb hge rfl) | (apply WL.callP (f := 111); (iterate 4 exact rfl); exact aig_has _ _ _ _ _ N [x, y] _ _ (Ext.heap (by assumption) hC0) (Own.row eIk (by assumption)) (by omega); intro w' hx) | (apply W.cKT; exact rfl; (focus (exact dTt (by omega)))) | (apply W.cKF; exact rfl; exact dFf (by omega)) | (apply WL.xor1; (iterate 4 exact rfl); (focus (have h9 := (by assumption : ∀ z ∈ [x, y], hasL N z); have h8 := h9 x (by simp); unfold hasL at h8; omega))) | (apply WL.build tOk; (iterate 7 exact rfl); kernel_rfl) | (apply WL.alloc tOk; (iterate 3 exact rfl); intro gb w' hb hge hx; replace hS := Sep.newCell (Sep.ext hS extA) hx hb hge (by (exact Below.size extA)); (try simp only [List.set_cons_zero, List.set_cons_succ] at hS); (try have hR2 := hS.row (i := 2) rfl); (try have hC0 := hS.cell (i := 0) rfl); (try have hD0 := (cHp hC0).1); (try have hE0 := (cHp hC0).2.1); (try have hC1 := hS.cell (i := 1) rfl); (try have hD1 := (cHp hC1).1); (try have hE1 := (cHp hC1).2.1); (try have hM3 := hS.map (i := 3) rfl)) | (apply WL.storeB (w0 := w0) tOk; (iterate 4 exact rfl); assumption; exact extA; (iterate 3 exact rfl); exact extA; ((focus (apply Nat.le_trans; rotate_left; assumption; exact Below.size extA; done))); intro w' hb hc hX' hU; have hcc := hc; obtain ⟨h1, h2, _⟩ := hc; replace hS := Sep.uCl (i := 0) rfl hU hb hS extA (by (exact Below.size extA)); (try simp only [List.set_cons_zero, List.set_cons_succ] at hS); (try have hR2 := hS.row (i := 2) rfl); (try have hC0 := hS.cell (i := 0) rfl); (try have hD0 := (cHp hC0).1); (try have hE0 := (cHp hC0).2.1); (try have hC1 := hS.cell (i := 1) rfl); (try have hD1 := (cHp hC1).1); (try have hE1 := (cHp hC1).2.1); (try have hM3 := hS.map (i := 3) rfl)) | (apply QL.nilc; (iterate 3 exact rfl)) | (apply QL.lookupNone (a := (y, x)) tOk keyN; (iterate 7 exact rfl); assumption; exact hm) | (first | apply WL.nil | (refine WL.au (k := ?_)) | (apply WL.gdF; exact rfl; exact rfl) | (apply WL.gD; exact rfl; exact rfl; all_goals intro _)) | (first | apply QL.nil | (refine QL.au (k := ?_))) | (first | apply Z.tn | apply Z.bkn | apply Z.tnr | apply Z.bkr) | (first | apply W.seq | apply W.region | apply W.block | apply W.skip | apply W.ret | (apply W.condT; exact rfl) | (apply W.condF; exact rfl) | (apply W.condD; exact rfl; all_goals intro _) | (apply W.condN; exact rfl; all_goals intro _) | (apply W.rgD tMix; kernel_rfl)))
  repeat' (first | ((show WL _ _ _ (⟨_, .call ⟨.value (.func 143), _, _⟩, _, _, _, _⟩ :: _) _ _ _); have hS9 : Lt.Sep w0.heap.size _ (stP w0.heap.size gs a cap r N M ++ (rest ++ [pcell gb _ 105])) := Sep.rot hS; apply WL.call; (iterate 4 exact rfl); exact aig_put gs r cap a N M (y, x) _ _ w0 extA hS9 hN; rintro v' w'' ⟨hX2, a', cap', rfl, hS2⟩; replace hS := Sep.rotBack (ps := stP w0.heap.size gs a' cap' r (N ++ [(y, x)]) M ++ rest) hS2; (try simp only [List.set_cons_zero, List.set_cons_succ] at hS); (try have hR2 := hS.row (i := 2) rfl); (try have hC0 := hS.cell (i := 0) rfl); (try have hD0 := (cHp hC0).1); (try have hE0 := (cHp hC0).2.1); (try have hC1 := hS.cell (i := 1) rfl); (try have hD1 := (cHp hC1).1); (try have hE1 := (cHp hC1).2.1); (try have hM3 := hS.map (i := 3) rfl); have hcc2 := cHp (hS.cell (i := 0) rfl)) | (apply W.cKT; exact rfl; exact dTt (by omega)) | (apply W.regionQS 6 tMix; kernel_rfl; exact rfl; kernel_rfl; kernel_rfl) | (apply QL.nilc; (iterate 3 exact rfl)) | (apply WL.mapNew (B := 0) (w0 := w0) (a := (y, x)) tOk keyN; (iterate 6 exact rfl); assumption; exact hm; exact extA; exact hr.1; intro w9 hM9 hX9 hU9; replace hS := Sep.updMap (i := 3) rfl hU9 hM9 hS (Ext.refl _) (Below.size extA)) | (first | apply WL.nil | (refine WL.au (k := ?_))) | (first | apply QL.nil | (refine QL.au (k := ?_))) | (first | apply Z.tail | apply Z.tn) | (first | apply W.seq | apply W.region | apply W.ret))
  all_goals (refine Z.bd1 Try.results113 rfl fun m => ?_)
  all_goals (first
   | (rw [andF_no (fun hh => (by assumption : ¬ ∀ z ∈ [x, y], hasL N z) (by intro z hz; simp only [List.mem_cons, List.not_mem_nil, or_false] at hz; rcases hz with rfl | rfl; exact hh.2; exact hh.1))]; exact ⟨Ext.at extA m, a, cap, rfl, (Sep.ext hS extA).ext ((Ext.refl _).at m)⟩)
   | (have h9 := (by assumption : ∀ z ∈ [x, y], hasL N z); have h8 : hasL N y /\ hasL N x := ⟨h9 _ (by simp), h9 _ (by simp)⟩; first
    | (rw [andF_zero h8 (by omega)]; exact ⟨Ext.at extA m, a, cap, rfl, (Sep.ext hS extA).ext ((Ext.refl _).at m)⟩)
    | (rw [andF_one h8 (by omega) (by omega)]; exact ⟨Ext.at extA m, a, cap, rfl, (Sep.ext hS extA).ext ((Ext.refl _).at m)⟩)
    | (rw [andF_new h8 (by omega) (by omega) hm]; exact ⟨Ext.at extA m, a', cap', rfl, (Sep.tail hS).ext ((Ext.refl _).at m)⟩)))
 ·refine Spec.of _ Try.func113 rfl Try.ntmps113 (by kernel_rfl) rfl ?_
  repeat' (first | (apply WL.lit tOk; (iterate 6 exact rfl); kernel_rfl; exact rfl; intro gb w' hb hge hc hx; have hO := Own.of_block ([x, y]) eIk hb hge rfl) | (apply WL.callP (f := 111); (iterate 4 exact rfl); exact aig_has _ _ _ _ _ N [x, y] _ _ (Ext.heap (by assumption) hC0) (Own.row eIk (by assumption)) (by omega); intro w' hx) | (apply W.cKT; exact rfl; (focus (exact dTt (by omega)))) | (apply W.cKF; exact rfl; exact dFf (by omega)) | (apply WL.xor1; (iterate 4 exact rfl); (focus (have h9 := (by assumption : ∀ z ∈ [x, y], hasL N z); have h8 := h9 x (by simp); unfold hasL at h8; omega))) | (apply WL.build tOk; (iterate 7 exact rfl); kernel_rfl) | (apply WL.alloc tOk; (iterate 3 exact rfl); intro gb w' hb hge hx; replace hS := Sep.newCell (Sep.ext hS extA) hx hb hge (by (exact Below.size extA)); (try simp only [List.set_cons_zero, List.set_cons_succ] at hS); (try have hR2 := hS.row (i := 2) rfl); (try have hC0 := hS.cell (i := 0) rfl); (try have hD0 := (cHp hC0).1); (try have hE0 := (cHp hC0).2.1); (try have hC1 := hS.cell (i := 1) rfl); (try have hD1 := (cHp hC1).1); (try have hE1 := (cHp hC1).2.1); (try have hM3 := hS.map (i := 3) rfl)) | (apply WL.storeB (w0 := w0) tOk; (iterate 4 exact rfl); assumption; exact extA; (iterate 3 exact rfl); exact extA; ((focus (apply Nat.le_trans; rotate_left; assumption; exact Below.size extA; done))); intro w' hb hc hX' hU; have hcc := hc; obtain ⟨h1, h2, _⟩ := hc; replace hS := Sep.uCl (i := 0) rfl hU hb hS extA (by (exact Below.size extA)); (try simp only [List.set_cons_zero, List.set_cons_succ] at hS); (try have hR2 := hS.row (i := 2) rfl); (try have hC0 := hS.cell (i := 0) rfl); (try have hD0 := (cHp hC0).1); (try have hE0 := (cHp hC0).2.1); (try have hC1 := hS.cell (i := 1) rfl); (try have hD1 := (cHp hC1).1); (try have hE1 := (cHp hC1).2.1); (try have hM3 := hS.map (i := 3) rfl)) | (apply QL.nilc; (iterate 3 exact rfl)) | (apply QL.lookupSome (a := (y, x)) tOk keyN; (iterate 7 exact rfl); assumption; exact hm) | (first | apply WL.nil | (refine WL.au (k := ?_)) | (apply WL.gdF; exact rfl; exact rfl) | (apply WL.gD; exact rfl; exact rfl; all_goals intro _)) | (first | apply QL.nil | (refine QL.au (k := ?_))) | (first | apply Z.tn | apply Z.bkn | apply Z.tnr | apply Z.bkr) | (first | apply W.seq | apply W.region | apply W.block | apply W.skip | apply W.ret | (apply W.condT; exact rfl) | (apply W.condD; exact rfl; all_goals intro _) | (apply W.condN; exact rfl; all_goals intro _) | (apply W.rgD tMix; kernel_rfl)))
  all_goals (refine Z.bd1 Try.results113 rfl fun m => ?_)
  all_goals (first
   | (rw [andF_no (fun hh => (by assumption : ¬ ∀ z ∈ [x, y], hasL N z) (by intro z hz; simp only [List.mem_cons, List.not_mem_nil, or_false] at hz; rcases hz with rfl | rfl; exact hh.2; exact hh.1))]; exact ⟨Ext.at extA m, a, cap, rfl, (Sep.ext hS extA).ext ((Ext.refl _).at m)⟩)
   | (have h9 := (by assumption : ∀ z ∈ [x, y], hasL N z); have h8 : hasL N y /\ hasL N x := ⟨h9 _ (by simp), h9 _ (by simp)⟩; first
    | (rw [andF_zero h8 (by omega)]; exact ⟨Ext.at extA m, a, cap, rfl, (Sep.ext hS extA).ext ((Ext.refl _).at m)⟩)
    | (rw [andF_one h8 (by omega) (by omega)]; exact ⟨Ext.at extA m, a, cap, rfl, (Sep.ext hS extA).ext ((Ext.refl _).at m)⟩)
    | (rw [andF_old h8 (by omega) (by omega) hm]; exact ⟨Ext.at extA m, a, cap, rfl, (Sep.tail hS).ext ((Ext.refl _).at m)⟩)))

theorem mget_snoc {κ ν : Type} (p q : κ) (v : ν) : ∀ L : List (κ × ν), mget p (L ++ [(q, v)]) = match mget p L with | some u => some u | none => bif dec (p = q) then some v else none
 | [] => by simp [mget]
 | x :: r => by
  have ih := mget_snoc p q v r
  simp only [List.cons_append, mget]
  cases dec (p = x.1)
  ·exact ih
  ·rfl
theorem gm_app (N L : List (Int × Int)) : ∀ k, k <= N.length -> gm (N ++ L) k = gm N k
 | 0, _ => rfl
 | k + 1, h => by
  obtain ⟨x, hx⟩ := getI N (show k < N.length by omega)
  have ih := gm_app N L k (by omega)
  have hx' : (N ++ L)[k]? = some x := by rw [List.getElem?_append_left (by omega)]; exact hx
  rw [gm, gm, hx, hx', ih]
theorem gm_snoc_gate (N : List (Int × Int)) {x : Int × Int} (h : 0 <= x.1) : gm (N ++ [x]) (N ++ [x]).length = gm N N.length ++ [(x, 2 * ((N.length : Int) + 1))] := by
 rw [show (N ++ [x]).length = N.length + 1 by simp, gm]
 have hx : (N ++ [x])[N.length]? = some x := by simp
 rw [hx, gm_app N [x] _ (Nat.le_refl _)]
 exact if_pos h
theorem gm_snoc_in (N : List (Int × Int)) {x : Int × Int} (h : ¬ 0 <= x.1) : gm (N ++ [x]) (N ++ [x]).length = gm N N.length := by
 rw [show (N ++ [x]).length = N.length + 1 by simp, gm]
 have hx : (N ++ [x])[N.length]? = some x := by simp
 rw [hx, gm_app N [x] _ (Nat.le_refl _)]
 exact if_neg h
theorem gm_none {N : List (Int × Int)} {p : Int × Int} : ∀ k, (∀ j : Nat, j < k -> N[j]? ≠ some p) -> mget p (gm N k) = none
 | 0, _ => rfl
 | k + 1, h => by
  have ih := gm_none k (fun j hj => h j (by omega))
  rw [gm]
  cases hx : N[k]? with
  | none => exact ih
  | some x =>
   show mget p (if 0 <= x.1 then _ else _) = none
   split
   ·rw [mget_snoc, ih]
    show (bif dec (p = x) then _ else _) = _
    rw [dFf (fun hh => h k (by omega) (by rw [hx, hh]))]; rfl
   ·exact ih
theorem gm_some {N : List (Int × Int)} {p : Int × Int} (hp : 0 <= p.1) {i : Nat} (hi : N[i]? = some p) (h : ∀ j : Nat, j < i -> N[j]? ≠ some p) : ∀ k, i < k -> mget p (gm N k) = some (2 * ((i : Int) + 1))
 | 0, hk => by omega
 | k + 1, hk => by
  rw [gm]
  by_cases hik : i = k
  ·subst hik
   rw [hi]
   show mget p (if 0 <= p.1 then _ else _) = _
   rw [if_pos hp, mget_snoc, gm_none i h]
   show (bif dec (p = p) then _ else _) = _
   rw [dTt rfl]; rfl
  ·have ih := gm_some hp hi h k (by omega)
   cases hx : N[k]? with
   | none => exact ih
   | some x =>
    show mget p (if 0 <= x.1 then _ else _) = _
    split
    ·rw [mget_snoc, ih]
    ·exact ih
theorem first_of {N : List (Int × Int)} {p : Int × Int} : ∀ k, (∀ j : Nat, j < k -> N[j]? ≠ some p) ∨ ∃ i, i < k /\ N[i]? = some p /\ ∀ j : Nat, j < i -> N[j]? ≠ some p
 | 0 => .inl fun j h => by omega
 | k + 1 => by
  rcases first_of (N := N) (p := p) k with h | ⟨i, h1, h2, h3⟩
  ·by_cases hk : N[k]? = some p
   ·exact .inr ⟨k, by omega, hk, h⟩
   ·exact .inl fun j hj => by
     by_cases hjk : j = k
     ·subst hjk; exact hk
     ·exact h j (by omega)
  ·exact .inr ⟨i, by omega, h2, h3⟩

abbrev gmN (N : List (Int × Int)) : List ((Int × Int) × Int) := gm N N.length
abbrev stN (B gs : Nat) (a : Option Addr) (cap r : Nat) (N : List (Int × Int)) : List Piece := stP B gs a cap r N (gmN N)
noncomputable def andV (N : List (Int × Int)) (x y : Int) : Int × List (Int × Int) := if x <= y then ((andF N (gmN N) x y).v, (andF N (gmN N) x y).N) else ((andF N (gmN N) y x).v, (andF N (gmN N) y x).N)

theorem andF_ways {N : List (Int × Int)} {x y : Int} (hxy : x <= y) :
  (¬ (hasL N x /\ hasL N y) /\ andF N (gmN N) x y = ⟨-1, N, gmN N⟩) ∨
  ((hasL N x /\ hasL N y) /\ (x = 0 ∨ x = Lt.xor1 y) /\ andF N (gmN N) x y = ⟨0, N, gmN N⟩) ∨
  ((hasL N x /\ hasL N y) /\ ¬ (x = 0 ∨ x = Lt.xor1 y) /\ (x = 1 ∨ x = y) /\ andF N (gmN N) x y = ⟨y, N, gmN N⟩) ∨
  ((hasL N x /\ hasL N y) /\ (2 <= x /\ x / 2 < y / 2) /\ (∃ i : Nat, i < N.length /\ N[i]? = some (x, y) /\ (∀ j : Nat, j < i -> N[j]? ≠ some (x, y)) /\ andF N (gmN N) x y = ⟨2 * ((i : Int) + 1), N, gmN N⟩)) ∨
  ((hasL N x /\ hasL N y) /\ (2 <= x /\ x / 2 < y / 2) /\ (∀ j : Nat, N[j]? ≠ some (x, y)) /\ andF N (gmN N) x y = ⟨2 * ((N.length : Int) + 1), N ++ [(x, y)], gmN (N ++ [(x, y)])⟩) := by
 by_cases h : hasL N x /\ hasL N y
 ·by_cases h1 : x = 0 ∨ x = Lt.xor1 y
  ·exact .inr (.inl ⟨h, h1, andF_zero h h1⟩)
  ·by_cases h2 : x = 1 ∨ x = y
   ·exact .inr (.inr (.inl ⟨h, h1, h2, andF_one h h1 h2⟩))
   ·have hb : 2 <= x /\ x / 2 < y / 2 := by
     have := h.1.1
     have h3 : x ≠ Lt.xor1 y := fun hh => h1 (.inr hh)
     unfold Lt.xor1 at h3
     split at h3 <;> omega
    rcases first_of (N := N) (p := (x, y)) N.length with hn | ⟨i, i1, i2, i3⟩
    ·refine .inr (.inr (.inr (.inr ⟨h, hb, fun j => ?_, ?_⟩)))
     ·by_cases hj : j < N.length
      ·exact hn j hj
      ·rw [List.getElem?_eq_none (by omega)]; exact fun hh => by cases hh
     ·rw [andF_new h h1 h2 (gm_none _ hn)]
      show _ = AndR.mk _ _ (gm (N ++ [(x, y)]) (N ++ [(x, y)]).length)
      rw [gm_snoc_gate N (x := (x, y)) (by show 0 <= x; omega)]
    ·exact .inr (.inr (.inr (.inl ⟨h, hb, i, i1, i2, i3, andF_old h h1 h2 (gm_some (by show 0 <= x; omega) i2 i3 _ i1)⟩)))
 ·exact .inl ⟨h, andF_no h⟩
theorem andF_M {N : List (Int × Int)} {x y : Int} (hxy : x <= y) : (andF N (gmN N) x y).M = gmN (andF N (gmN N) x y).N := by
 rcases andF_ways (N := N) hxy with ⟨_, h⟩ | ⟨_, _, h⟩ | ⟨_, _, _, h⟩ | ⟨_, _, _, _, _, _, h⟩ | ⟨_, _, _, h⟩ <;> rw [h]

inductive Grow : List (Int × Int) -> List (Int × Int) -> Prop
 | refl (N) : Grow N N
 | input {N M} : Grow N M -> Grow N (M ++ [(-1, 0)])
 | gate {N M} (x y : Int) : Grow N M -> Grow N (andV M x y).2
theorem Grow.trans {N M K : List (Int × Int)} (h : Grow N M) (k : Grow M K) : Grow N K := by
 induction k with
 | refl => exact h
 | input _ ih => exact .input ih
 | gate x y _ ih => exact .gate x y ih
theorem andV_ways (N : List (Int × Int)) (x y : Int) : ∃ a b : Int, ((a = x /\ b = y) ∨ (a = y /\ b = x)) /\ a <= b /\
  ((¬ (hasL N a /\ hasL N b) /\ andV N x y = (-1, N)) ∨
  ((hasL N a /\ hasL N b) /\ (a = 0 ∨ a = Lt.xor1 b) /\ andV N x y = (0, N)) ∨
  ((hasL N a /\ hasL N b) /\ ¬ (a = 0 ∨ a = Lt.xor1 b) /\ (a = 1 ∨ a = b) /\ andV N x y = (b, N)) ∨
  ((hasL N a /\ hasL N b) /\ (2 <= a /\ a / 2 < b / 2) /\ (∃ i : Nat, i < N.length /\ N[i]? = some (a, b) /\ (∀ j : Nat, j < i -> N[j]? ≠ some (a, b)) /\ andV N x y = (2 * ((i : Int) + 1), N))) ∨
  ((hasL N a /\ hasL N b) /\ (2 <= a /\ a / 2 < b / 2) /\ (∀ j : Nat, N[j]? ≠ some (a, b)) /\ andV N x y = (2 * ((N.length : Int) + 1), N ++ [(a, b)]))) := by
 have key : ∀ a b : Int, a <= b -> andV N x y = ((andF N (gmN N) a b).v, (andF N (gmN N) a b).N) ->
  ((¬ (hasL N a /\ hasL N b) /\ andV N x y = (-1, N)) ∨
  ((hasL N a /\ hasL N b) /\ (a = 0 ∨ a = Lt.xor1 b) /\ andV N x y = (0, N)) ∨
  ((hasL N a /\ hasL N b) /\ ¬ (a = 0 ∨ a = Lt.xor1 b) /\ (a = 1 ∨ a = b) /\ andV N x y = (b, N)) ∨
  ((hasL N a /\ hasL N b) /\ (2 <= a /\ a / 2 < b / 2) /\ (∃ i : Nat, i < N.length /\ N[i]? = some (a, b) /\ (∀ j : Nat, j < i -> N[j]? ≠ some (a, b)) /\ andV N x y = (2 * ((i : Int) + 1), N))) ∨
  ((hasL N a /\ hasL N b) /\ (2 <= a /\ a / 2 < b / 2) /\ (∀ j : Nat, N[j]? ≠ some (a, b)) /\ andV N x y = (2 * ((N.length : Int) + 1), N ++ [(a, b)]))) := by
  intro a b hab he
  rcases andF_ways (N := N) hab with ⟨h0, h⟩ | ⟨h0, h1, h⟩ | ⟨h0, h1, h2, h⟩ | ⟨h0, h1, i, i1, i2, i3, h⟩ | ⟨h0, h1, h2, h⟩
  ·exact .inl ⟨h0, by rw [he, h]⟩
  ·exact .inr (.inl ⟨h0, h1, by rw [he, h]⟩)
  ·exact .inr (.inr (.inl ⟨h0, h1, h2, by rw [he, h]⟩))
  ·exact .inr (.inr (.inr (.inl ⟨h0, h1, i, i1, i2, i3, by rw [he, h]⟩)))
  ·exact .inr (.inr (.inr (.inr ⟨h0, h1, h2, by rw [he, h]⟩)))
 by_cases hxy : x <= y
 ·exact ⟨x, y, .inl ⟨rfl, rfl⟩, hxy, key x y hxy (by rw [andV, if_pos hxy])⟩
 ·exact ⟨y, x, .inr ⟨rfl, rfl⟩, by omega, key y x (by omega) (by rw [andV, if_neg hxy])⟩

theorem andV_len (N : List (Int × Int)) (x y : Int) : N.length <= (andV N x y).2.length /\ (andV N x y).2.length <= N.length + 1 := by
 obtain ⟨a, b, _, _, h⟩ := andV_ways N x y
 rcases h with ⟨_, h⟩ | ⟨_, _, h⟩ | ⟨_, _, _, h⟩ | ⟨_, _, _, _, _, _, h⟩ | ⟨_, _, _, h⟩ <;> rw [h] <;> simp
theorem andV_has {N : List (Int × Int)} {x y : Int} (hx : hasL N x) (hy : hasL N y) : hasL (andV N x y).2 (andV N x y).1 := by
 obtain ⟨a, b, hab, _, h⟩ := andV_ways N x y
 have hh : hasL N a /\ hasL N b := by rcases hab with ⟨rfl, rfl⟩ | ⟨rfl, rfl⟩; exact ⟨hx, hy⟩; exact ⟨hy, hx⟩
 rcases h with ⟨h1, _⟩ | ⟨_, _, h⟩ | ⟨_, _, _, h⟩ | ⟨_, _, i, hi, _, _, h⟩ | ⟨_, _, _, h⟩
 ·exact absurd hh h1
 ·rw [h]; unfold hasL; dsimp only; omega
 ·rw [h]; exact hh.2
 ·rw [h]; unfold hasL; dsimp only; omega
 ·rw [h]; unfold hasL; simp; omega
theorem Grow.len {N M : List (Int × Int)} (h : Grow N M) : N.length <= M.length := by
 induction h with
 | refl => exact Nat.le_refl _
 | input _ ih => simp; omega
 | gate x y _ ih => rename_i M' _; have := andV_len M' x y; omega
theorem Grow.pre {N M : List (Int × Int)} (h : Grow N M) : ∀ {i : Nat} {x}, N[i]? = some x -> M[i]? = some x := by
 induction h with
 | refl => exact fun h => h
 | input _ ih => intro i x hx; have := ih hx; rw [List.getElem?_append_left (lGt this)]; exact this
 | gate x y _ ih =>
  rename_i M' _
  intro i z hz
  have := ih hz
  obtain ⟨a, b, _, _, h⟩ := andV_ways M' x y
  rcases h with ⟨_, h⟩ | ⟨_, _, h⟩ | ⟨_, _, _, h⟩ | ⟨_, _, _, _, _, _, h⟩ | ⟨_, _, _, h⟩ <;> rw [h]
  all_goals first | exact this | (show (M' ++ _)[i]? = _; rw [List.getElem?_append_left (lGt this)]; exact this)
theorem hasL_mono {N M : List (Int × Int)} {x : Int} (h : hasL N x) (hl : N.length <= M.length) : hasL M x := by unfold hasL at h ⊢; omega
theorem Grow.has {N M : List (Int × Int)} {x : Int} (h : Grow N M) (hx : hasL N x) : hasL M x := hasL_mono hx h.len

structure Tidy (N : List (Int × Int)) : Prop where
 good : GNt N
 gate : ∀ i x, N[i]? = some x -> 0 <= x.1 -> 2 <= x.1 /\ x.1 / 2 < x.2 / 2 /\ ∀ k : Nat, k < i -> N[k]? ≠ some x
theorem get_snoc {α : Type} {N : List α} {x y : α} {i : Nat} (h : (N ++ [x])[i]? = some y) : N[i]? = some y ∨ (i = N.length /\ y = x) := by
 by_cases hi : i < N.length
 ·rw [List.getElem?_append_left hi] at h; exact .inl h
 ·have := lGt h
  simp only [List.length_append, List.length_cons, List.length_nil] at this
  have : i = N.length := by omega
  subst this
  simp at h; exact .inr ⟨rfl, h.symm⟩
theorem Tidy.nil : Tidy [] := ⟨fun i x h => by simp at h, fun i x h => by simp at h⟩
theorem Tidy.input {N : List (Int × Int)} (h : Tidy N) : Tidy (N ++ [(-1, 0)]) := by
 refine ⟨fun i x hx => ?_, fun i x hx h0 => ?_⟩
 ·rcases get_snoc hx with h1 | ⟨_, rfl⟩
  ·exact h.good i x h1
  ·unfold badNode; simp
 ·rcases get_snoc hx with h1 | ⟨_, rfl⟩
  ·obtain ⟨k1, k2, k3⟩ := h.gate i x h1 h0
   refine ⟨k1, k2, fun k hk hh => ?_⟩
   have := lGt h1
   rw [List.getElem?_append_left (by omega)] at hh
   exact k3 k hk hh
  ·simp at h0
theorem Tidy.and {N : List (Int × Int)} (h : Tidy N) (x y : Int) : Tidy (andV N x y).2 := by
 obtain ⟨a, b, _, _, hw⟩ := andV_ways N x y
 rcases hw with ⟨_, hw⟩ | ⟨_, _, hw⟩ | ⟨_, _, _, hw⟩ | ⟨_, _, _, _, _, _, hw⟩ | ⟨h0, h1, h2, hw⟩
 ·rw [hw]; exact h
 ·rw [hw]; exact h
 ·rw [hw]; exact h
 ·rw [hw]; exact h
 ·rw [hw]
  show Tidy (N ++ [(a, b)])
  refine ⟨fun i z hz => ?_, fun i z hz hz0 => ?_⟩
  ·rcases get_snoc hz with k | ⟨rfl, rfl⟩
   ·exact h.good i z k
   ·unfold badNode; unfold hasL at h0; dsimp only; omega
  ·rcases get_snoc hz with k | ⟨rfl, rfl⟩
   ·obtain ⟨k1, k2, k3⟩ := h.gate i z k hz0
    refine ⟨k1, k2, fun j hj hh => ?_⟩
    have := lGt k
    rw [List.getElem?_append_left (by omega)] at hh
    exact k3 j hj hh
   ·refine ⟨h1.1, h1.2, fun j hj hh => ?_⟩
    rw [List.getElem?_append_left (by omega)] at hh
    exact h2 j hh
theorem Grow.tidy {N M : List (Int × Int)} (h : Grow N M) (hN : Tidy N) : Tidy M := by
 induction h with
 | refl => exact hN
 | input _ ih => exact ih.input
 | gate x y _ ih => exact ih.and x y

theorem vto_app (N L : List (Int × Int)) (ins : List Bool) : ∀ k, k <= N.length -> vto (N ++ L) ins k = vto N ins k := by
 intro k hk
 unfold vto
 rw [List.take_append_of_le_length hk]
theorem values_pre {N M : List (Int × Int)} (h : ∀ {i : Nat} {x}, N[i]? = some x -> M[i]? = some x) (ins : List Bool) : ∀ k, k <= N.length -> vto M ins k = vto N ins k := by
 intro k hk
 have hl : N.length <= M.length := by
  by_cases h0 : N.length = 0
  ·omega
  ·obtain ⟨x, hx⟩ := getI N (show N.length - 1 < N.length by omega)
   have := lGt (h hx); omega
 have : M.take N.length = N := by
  apply List.ext_getElem?
  intro i
  by_cases hi : i < N.length
  ·obtain ⟨x, hx⟩ := getI N hi
   rw [List.getElem?_take, if_pos hi, hx, h hx]
  ·rw [List.getElem?_take, if_neg hi, List.getElem?_eq_none (by omega)]
 have e : M = M.take N.length ++ M.drop N.length := (List.take_append_drop _ _).symm
 rw [this] at e
 rw [e]; exact vto_app _ _ _ k hk
theorem Grow.of {N M : List (Int × Int)} (h : Grow N M) (ins : List Bool) {l : Int} (hl : hasL N l) : ofL (values M ins) l = ofL (values N ins) l := by
 unfold hasL at hl
 rw [<- vto_of M ins (k := N.length) (by omega) h.len, values_pre h.pre ins _ (Nat.le_refl _)]; rfl
theorem ofL_xor1 (v : List Bool) {l : Int} (h : 0 <= l) : ofL v (Lt.xor1 l) = !ofL v l := by
 unfold Lt.xor1 ofL
 split
 ·rw [show (l + 1) / 2 = l / 2 by omega, decide_eq_true (show (l + 1) % 2 = 1 by omega), decide_eq_false (show ¬ l % 2 = 1 by omega)]; simp
 ·rw [show (l - 1) / 2 = l / 2 by omega, decide_eq_false (show ¬ (l - 1) % 2 = 1 by omega), decide_eq_true (show l % 2 = 1 by omega)]; simp
theorem ofL_zero {N : List (Int × Int)} (ins : List Bool) : ofL (values N ins) 0 = false := by
 unfold ofL; rw [show ((0 : Int) / 2).toNat = 0 from rfl, values_zero]; rfl
theorem ofL_one {N : List (Int × Int)} (ins : List Bool) : ofL (values N ins) 1 = true := by
 unfold ofL; rw [show ((1 : Int) / 2).toNat = 0 from rfl, values_zero]; rfl
theorem ofL_gate {N : List (Int × Int)} (hg : GNt N) (ins : List Bool) {i : Nat} {x : Int × Int} (hx : N[i]? = some x) (h0 : 0 <= x.1) : ofL (values N ins) (2 * ((i : Int) + 1)) = (ofL (values N ins) x.1 && ofL (values N ins) x.2) := by
 conv => lhs; unfold ofL
 rw [show ((2 * ((i : Int) + 1)) / 2).toNat = i + 1 by omega, values_gate hg ins hx h0, decide_eq_false (by omega)]; simp
theorem andV_of {N : List (Int × Int)} (hT : Tidy N) (ins : List Bool) {x y : Int} (hx : hasL N x) (hy : hasL N y) : ofL (values (andV N x y).2 ins) (andV N x y).1 = (ofL (values N ins) x && ofL (values N ins) y) := by
 obtain ⟨a, b, hab, hle, hw⟩ := andV_ways N x y
 have hG : Grow N (andV N x y).2 := .gate x y (.refl N)
 have hT2 := hT.and x y
 have hh : hasL N a /\ hasL N b := by rcases hab with ⟨rfl, rfl⟩ | ⟨rfl, rfl⟩; exact ⟨hx, hy⟩; exact ⟨hy, hx⟩
 have he : (ofL (values N ins) x && ofL (values N ins) y) = (ofL (values N ins) a && ofL (values N ins) b) := by
  rcases hab with ⟨rfl, rfl⟩ | ⟨rfl, rfl⟩
  ·rfl
  ·exact Bool.and_comm _ _
 rw [he]
 rcases hw with ⟨h1, _⟩ | ⟨_, h1, hw⟩ | ⟨_, _, h1, hw⟩ | ⟨_, h1, i, i1, i2, i3, hw⟩ | ⟨h0, h1, h2, hw⟩
 ·exact absurd hh h1
 ·rw [hw]
  show ofL (values N ins) 0 = _
  rw [ofL_zero]
  rcases h1 with rfl | rfl
  ·rw [ofL_zero]; rfl
  ·rw [ofL_xor1 _ hh.2.1]; simp
 ·rw [hw]
  show ofL (values N ins) b = _
  rcases h1 with rfl | rfl
  ·rw [ofL_one]; rfl
  ·simp
 ·rw [hw]
  exact ofL_gate hT.good ins i2 (by show 0 <= a; omega)
 ·rw [hw] at hG hT2 ⊢
  have hx2 : (N ++ [(a, b)])[N.length]? = some (a, b) := by simp
  show ofL (values (N ++ [(a, b)]) ins) _ = _
  rw [ofL_gate hT2.good ins hx2 (by show 0 <= a; omega)]
  show (ofL (values (N ++ [(a, b)]) ins) a && ofL (values (N ++ [(a, b)]) ins) b) = _
  rw [Grow.of hG ins hh.1, Grow.of hG ins hh.2]

abbrev nB : List (Int × Int) := [(-1, 0), (-1, 0)]
abbrev nC : List (Int × Int) := [(-1, 0), (-1, 0), (2, 4)]
abbrev nD : List (Int × Int) := [(-1, 0), (-1, 0), (2, 4), (3, 5)]
abbrev mC : List ((Int × Int) × Int) := [((2, 4), 6)]
theorem F1 : andF nB [] 2 4 = ⟨6, nC, mC⟩ := andF_new (by unfold hasL; decide) (by decide) (by decide) rfl
theorem F2 : andF nC mC 2 4 = ⟨6, nC, mC⟩ := andF_old (by unfold hasL; decide) (by decide) (by decide) (by unfold mget; rw [dTt rfl]; rfl)

theorem slices_CloneI (a : Option Addr) (cap : Nat) (l : List Int) (w : World) (R : Row 1 encI w a l) (hna : a = none -> cap = 0) (hl : l.length <= 1048576) :
  Lt.Spec Try.prog 78 [.slice a l.length cap] w (IsFresh 1 encI 3 w l) := by
 by_cases ha : a = none
 ·subst ha
  have hl0 : l = [] := by
   cases l with
   | nil => rfl
   | cons x r => obtain ⟨b, off, h1, _⟩ := R.elem 0 x rfl; cases h1
  subst hl0
  refine Spec.of _ Try.func78 rfl Try.ntmps78 (by kernel_rfl) rfl ?_
  repeat' (first | (apply WL.eqSl tOk; (iterate 6 exact rfl)) | (apply W.cKT; exact rfl; exact dTt rfl) | (first | apply WL.nil | (refine WL.au (k := ?_))) | (first | apply Z.tn | apply Z.tnr) | (first | apply W.seq | apply W.region | apply W.ret))
  exact Z.bd1 Try.results78 rfl fun m => ⟨(Ext.refl _).at m, none, 0, rfl, Own.nil⟩
 ·refine Spec.of _ Try.func78 rfl Try.ntmps78 (by kernel_rfl) rfl ?_
  repeat' (first | (apply WL.eqSl tOk; (iterate 6 exact rfl)) | (apply W.cKF; exact rfl; exact dFf ha) | (apply WL.lit (len := 0) tOk; (iterate 6 exact rfl); kernel_rfl; exact rfl; intro gb w' hb hge hc hx; have hO0 := Own.ofB0 (enc := encI) (s := 1) hb hge) | (apply WL.appendS tOk eIk; (iterate 10 exact rfl); assumption; exact extA; exact rfl; assumption; exact extA; exact rfl; assumption; exact rfl; exact extA; ((simp; omega)); intro a' cap' w' hO hX' hU hF) | (first | apply WL.nil | (refine WL.au (k := ?_))) | apply Z.tn | (first | apply W.seq | apply W.region | apply W.skip | apply W.ret))
  exact Z.bd1 Try.results78 rfl fun m => ⟨Ext.at extA m, a', cap', by rw [List.nil_append], by rw [List.nil_append] at hO; exact hO⟩
theorem slices_CloneN (a : Option Addr) (cap : Nat) (l : List (Int × Int)) (w : World) (R : Row 2 encN w a l) (hna : a = none -> cap = 0) (hl : l.length <= 1048576) :
  Lt.Spec Try.prog 116 [.slice a l.length cap] w (IsFresh 2 encN 105 w l) := by
 by_cases ha : a = none
 ·subst ha
  have hl0 : l = [] := by
   cases l with
   | nil => rfl
   | cons x r => obtain ⟨b, off, h1, _⟩ := R.elem 0 x rfl; cases h1
  subst hl0
  refine Spec.of _ Try.func116 rfl Try.ntmps116 (by kernel_rfl) rfl ?_
  repeat' (first | (apply WL.eqSl tOk; (iterate 6 exact rfl)) | (apply W.cKT; exact rfl; exact dTt rfl) | (first | apply WL.nil | (refine WL.au (k := ?_))) | (first | apply Z.tn | apply Z.tnr) | (first | apply W.seq | apply W.region | apply W.ret))
  exact Z.bd1 Try.results116 rfl fun m => ⟨(Ext.refl _).at m, none, 0, rfl, Own.nil⟩
 ·refine Spec.of _ Try.func116 rfl Try.ntmps116 (by kernel_rfl) rfl ?_
  repeat' (first | (apply WL.eqSl tOk; (iterate 6 exact rfl)) | (apply W.cKF; exact rfl; exact dFf ha) | (apply WL.lit (len := 0) tOk; (iterate 6 exact rfl); kernel_rfl; exact rfl; intro gb w' hb hge hc hx; have hO0 := Own.ofB0 (enc := encN) (s := 2) hb hge) | (apply WL.appendS tOk encN_ok; (iterate 10 exact rfl); assumption; exact extA; exact rfl; assumption; exact extA; exact rfl; assumption; exact rfl; exact extA; ((simp; omega)); intro a' cap' w' hO hX' hU hF) | (first | apply WL.nil | (refine WL.au (k := ?_))) | apply Z.tn | (first | apply W.seq | apply W.region | apply W.skip | apply W.ret))
  exact Z.bd1 Try.results116 rfl fun m => ⟨Ext.at extA m, a', cap', by rw [List.nil_append], by rw [List.nil_append] at hO; exact hO⟩

abbrev AtSt (w0 : World) (gs r : Nat) (rest : List Piece) (q : Int × List (Int × Int)) (v : Value) (w' : World) : Prop :=
 Ext w0 w' /\ ∃ a' cap', v = .int .i64 q.1 /\ Sep w0.heap.size w' (stN w0.heap.size gs a' cap' r q.2 ++ rest)
abbrev Keeps (w0 : World) (gs r : Nat) (rest : List Piece) (p : World -> Prop) : Prop :=
 ∀ w' a' cap' N', Ext w0 w' -> Sep w0.heap.size w' (stN w0.heap.size gs a' cap' r N' ++ rest) -> p w'

theorem aig_And (gs r cap : Nat) (a : Option Addr) (N : List (Int × Int)) (x y : Int) (rest : List Piece) (w w0 : World) (hX : Ext w0 w) (hS : Sep w0.heap.size w (stN w0.heap.size gs a cap r N ++ rest)) (hN : N.length < 1048576) :
  Lt.Spec Try.prog 113 [.pointer (some ⟨gs, 0, none⟩), .int .i64 x, .int .i64 y] w (AtSt w0 gs r rest (andV N x y)) := by
 by_cases hxy : x <= y
 ·refine (aig_AndLe gs r cap a N (gmN N) x y rest w w0 hX hS hN hxy).mono ?_
  rintro v w' ⟨h1, a', cap', h2, h3⟩
  rw [andF_M hxy] at h3
  have e : andV N x y = ((andF N (gmN N) x y).v, (andF N (gmN N) x y).N) := if_pos hxy
  rw [e]
  exact ⟨h1, a', cap', h2, h3⟩
 ·refine (aig_AndGt gs r cap a N (gmN N) x y rest w w0 hX hS hN (by omega)).mono ?_
  rintro v w' ⟨h1, a', cap', h2, h3⟩
  rw [andF_M (by omega)] at h3
  have e : andV N x y = ((andF N (gmN N) y x).v, (andF N (gmN N) y x).N) := if_neg hxy
  rw [e]
  exact ⟨h1, a', cap', h2, h3⟩
theorem aig_InputV (gs r cap : Nat) (a : Option Addr) (N : List (Int × Int)) (rest : List Piece) (w w0 : World) (hX : Ext w0 w) (hS : Sep w0.heap.size w (stN w0.heap.size gs a cap r N ++ rest)) (hN : N.length < 1048576) :
  Lt.Spec Try.prog 90 [.pointer (some ⟨gs, 0, none⟩)] w (AtSt w0 gs r rest (2 * ((N.length : Int) + 1), N ++ [(-1, 0)])) := by
 refine (aig_Input gs r cap a N (gmN N) rest w w0 hX hS hN).mono ?_
 rintro v w' ⟨h1, a', cap', h2, h3⟩
 have e : gmN N = gmN (N ++ [(-1, 0)]) := (gm_snoc_in N (x := (-1, 0)) (by decide)).symm
 rw [e] at h3
 exact ⟨h1, a', cap', h2, h3⟩
theorem aig_NewV (w w0 : World) (rest : List Piece) (hX : Ext w0 w) (hS : Sep w0.heap.size w rest) :
  Lt.Spec Try.prog 54 [] w (fun v w' => Ext w w' /\ ∃ gs r, v = .pointer (some ⟨gs, 0, none⟩) /\ Sep w0.heap.size w' (stN w0.heap.size gs none 0 r [] ++ rest)) := by
 refine Spec.of _ Try.func54 rfl Try.ntmps54 (by kernel_rfl) rfl ?_
 repeat' (first | (apply WL.makeMap (kv := kvN) (vv := vvI); exact rfl; exact rfl; intro r w1 hM hge1 hx1) | (apply WL.build tOk; (iterate 7 exact rfl); kernel_rfl) | (apply WL.box; (iterate 3 exact rfl); intro gb w' hb hge hc hx; have hcc := hc; ((obtain ⟨h1, h2, h3, _⟩ := hc))) | (first | apply WL.nil | (refine WL.au (k := ?_))) | apply Z.tn | (first | apply W.seq | apply W.region | apply W.ret))
 have hB : w0.heap.size <= w.heap.size := hX.size
 have hS1 : Lt.Sep w0.heap.size w1 (pmap kvN vvI r [] :: rest) := Sep.newMap hS hx1 hM hge1 hB
 have hS2 : Lt.Sep w0.heap.size w1 (prow 2 encN 105 w0.heap.size none 0 [] :: pmap kvN vvI r [] :: rest) := Sep.newRow hS1 (Ext.refl _) Own.nil (fun k hk => by cases hk) (Nat.le_trans hB hx1.size)
 have hS : Lt.Sep w0.heap.size w' (stN w0.heap.size gb none 0 r [] ++ rest) := Sep.newCell hS2 hx hb hge (Nat.le_trans hB hx1.size)
 exact Z.bd1 Try.results54 rfl fun m => ⟨Ext.at extA m, gb, r, rfl, hS.ext ((Ext.refl _).at m)⟩


noncomputable def litI (l : List Int) (x : Int) : Int := xorI (l.getD (x / 2).toNat 0) (x % 2)
noncomputable def cstep (ins : List Int) (s : List Int × Nat × List (Int × Int)) (x : Int × Int) : List Int × Nat × List (Int × Int) :=
 if 0 <= x.1 then (s.1 ++ [(andV s.2.2 (litI s.1 x.1) (litI s.1 x.2)).1], s.2.1, (andV s.2.2 (litI s.1 x.1) (litI s.1 x.2)).2)
 else if s.2.1 < ins.length then (s.1 ++ [ins.getD s.2.1 0], s.2.1 + 1, s.2.2)
 else (s.1 ++ [2 * ((s.2.2.length : Int) + 1)], s.2.1 + 1, s.2.2 ++ [(-1, 0)])
noncomputable def cto (N n : List (Int × Int)) (ins : List Int) (k : Nat) : List Int × Nat × List (Int × Int) := (n.take k).foldl (cstep ins) ([0], 0, N)
noncomputable def copyV (N n : List (Int × Int)) (ins : List Int) : List Int × List (Int × Int) := bif dec (∀ z ∈ ins, hasL N z) then ((cto N n ins n.length).1, (cto N n ins n.length).2.2) else ([], N)
theorem cto_succ {N n : List (Int × Int)} {ins : List Int} {k : Nat} {x : Int × Int} (h : n[k]? = some x) : cto N n ins (k + 1) = cstep ins (cto N n ins k) x := by
 unfold cto; rw [tkS h, List.foldl_append]; rfl
theorem hasL_xor1 {N : List (Int × Int)} {x : Int} (h : hasL N x) : hasL N (Lt.xor1 x) := by
 unfold hasL at h ⊢
 unfold Lt.xor1
 split <;> omega
theorem hasL_litI {N : List (Int × Int)} {l : List Int} {x : Int} (h : ∀ z ∈ l, hasL N z) (hx : (x / 2).toNat < l.length) : hasL N (litI l x) := by
 obtain ⟨z, hz⟩ := getI l hx
 have := h z (List.mem_of_getElem? hz)
 unfold litI xorI
 rw [gDo hz]
 split
 ·exact hasL_xor1 this
 ·exact this
theorem cto_inv {N n : List (Int × Int)} {ins : List Int} (hg : GNt n) (h : ∀ z ∈ ins, hasL N z) : ∀ k, k <= n.length ->
  (cto N n ins k).1.length = k + 1 /\ (∀ z ∈ (cto N n ins k).1, hasL (cto N n ins k).2.2 z) /\ N.length <= (cto N n ins k).2.2.length /\ (cto N n ins k).2.2.length <= N.length + k /\ Grow N (cto N n ins k).2.2 /\ (cto N n ins k).2.1 <= k
 | 0, _ => by
  refine ⟨rfl, fun z hz => ?_, Nat.le_refl _, Nat.le_refl _, .refl N, Nat.le_refl _⟩
  obtain rfl : z = 0 := by simpa [cto] using hz
  unfold hasL; omega
 | k + 1, hk => by
  obtain ⟨x, hx⟩ := getI n (show k < n.length by omega)
  obtain ⟨i1, i2, i3, i4, i5, i6⟩ := cto_inv hg h k (by omega)
  rw [cto_succ hx]
  generalize cto N n ins k = s at i1 i2 i3 i4 i5 i6
  unfold cstep
  split
  ·rename_i h0
   have hgt := hg.gate hx h0
   have hl := andV_len s.2.2 (litI s.1 x.1) (litI s.1 x.2)
   have hv := andV_has (hasL_litI i2 (x := x.1) (by omega)) (hasL_litI i2 (x := x.2) (by omega))
   refine ⟨by simp [i1], fun z hz => ?_, by dsimp only; omega, by dsimp only; omega, .gate _ _ i5, by dsimp only; omega⟩
   rcases List.mem_append.1 hz with h1 | h1
   ·exact hasL_mono (i2 z h1) hl.1
   ·obtain rfl := List.mem_singleton.1 h1; exact hv
  ·split
   ·rename_i h0 h1
    refine ⟨by simp [i1], fun z hz => ?_, i3, by dsimp only; omega, i5, by dsimp only; omega⟩
    rcases List.mem_append.1 hz with h2 | h2
    ·exact i2 z h2
    ·obtain rfl := List.mem_singleton.1 h2
     obtain ⟨y, hy⟩ := getI ins h1
     rw [gDo hy]
     exact hasL_mono (h y (List.mem_of_getElem? hy)) i3
   ·refine ⟨by simp [i1], fun z hz => ?_, by simp; omega, by simp; omega, .input i5, by dsimp only; omega⟩
    rcases List.mem_append.1 hz with h2 | h2
    ·exact hasL_mono (i2 z h2) (by simp)
    ·obtain rfl := List.mem_singleton.1 h2
     unfold hasL; simp; omega

theorem Sep.back32 {B : Nat} {w : World} {p q a b c : Piece} {rs : List Piece} (hS : Sep B w (p :: q :: a :: b :: c :: rs)) : Sep B w (a :: b :: c :: p :: q :: rs) := by
 refine Sep.sub' (fun i => if i < 3 then i + 2 else if i < 5 then i - 3 else i) hS (fun i x h => ?_) (fun i j hi hj hne => ?_)
 ·match i, h with
  | 0, h => exact h
  | 1, h => exact h
  | 2, h => exact h
  | 3, h => exact h
  | 4, h => exact h
  | i + 5, h =>
   simp only [show ¬ i + 5 < 3 by omega, show ¬ i + 5 < 5 by omega, if_false]; exact h
 ·split <;> split <;> (try split) <;> (try split) <;> omega
theorem Sep.back31 {B : Nat} {w : World} {p a b c : Piece} {rs : List Piece} (hS : Sep B w (p :: a :: b :: c :: rs)) : Sep B w (a :: b :: c :: p :: rs) := by
 refine Sep.sub' (fun i => if i < 3 then i + 1 else if i < 4 then i - 3 else i) hS (fun i x h => ?_) (fun i j hi hj hne => ?_)
 ·match i, h with
  | 0, h => exact h
  | 1, h => exact h
  | 2, h => exact h
  | 3, h => exact h
  | i + 4, h =>
   simp only [show ¬ i + 4 < 3 by omega, show ¬ i + 4 < 4 by omega, if_false]; exact h
 ·split <;> split <;> (try split) <;> (try split) <;> omega
theorem Sep.drop34 {B : Nat} {w : World} {p q a b c : Piece} {rs : List Piece} (hS : Sep B w (a :: b :: c :: p :: q :: rs)) : Sep B w (a :: b :: c :: rs) := by
 refine Sep.sub' (fun i => if i < 3 then i else i + 2) hS (fun i x h => ?_) (fun i j hi hj hne => ?_)
 ·match i, h with
  | 0, h => exact h
  | 1, h => exact h
  | 2, h => exact h
  | i + 3, h => simp only [show ¬ i + 3 < 3 by omega, if_false]; exact h
 ·split <;> split <;> omega
theorem Sep.drop3 {B : Nat} {w : World} {p a b c : Piece} {rs : List Piece} (hS : Sep B w (a :: b :: c :: p :: rs)) : Sep B w (a :: b :: c :: rs) := by
 refine Sep.sub' (fun i => if i < 3 then i else i + 1) hS (fun i x h => ?_) (fun i j hi hj hne => ?_)
 ·match i, h with
  | 0, h => exact h
  | 1, h => exact h
  | 2, h => exact h
  | i + 3, h => simp only [show ¬ i + 3 < 3 by omega, if_false]; exact h
 ·split <;> split <;> omega

theorem aig_Copy1 (g7 lc : Nat) (la : Option Addr) (L : List Int) (x z : Int) (w : World) (hc : w.heap[g7]? = some (.cells #[.slice la L.length lc] 22 (0, 0))) (RL : Row 1 encI w la L) (hz : L[(x / 2).toNat]? = some z) (hx : 0 <= x /\ x <= 9223372036854775807) (hz0 : 0 <= z /\ z <= 9223372036854775806) :
  Still Try.prog 112 ([.int .i64 x] ++ [.pointer (some ⟨g7, 0, none⟩)]) w (.int .i64 (litI L x)) := by
 obtain ⟨h1, _⟩ := cHp hc
 have hl := RL.len
 rw [litI, gDo hz]
 refine Spec.of _ Try.func112 rfl Try.ntmps112 (by kernel_rfl) rfl ?_
 repeat' (first | (apply WL.and1; (iterate 4 exact rfl); omega) | (apply WL.xorI; (iterate 4 exact rfl); omega; omega) | (first | apply WL.nil | (refine WL.au (k := ?_)) | (apply WL.index tOk; (iterate 8 exact rfl); assumption; exact extA; exact rfl; omega; assumption; intro b off h; have hcc := h; first | (obtain ⟨h1, h2, h3, h4, h5, h6, _⟩ := h) | (obtain ⟨h1, h2, h3, _⟩ := h) | (obtain ⟨h1, h2, _⟩ := h) | (obtain ⟨h1, _⟩ := h))) | apply Z.tn | (first | apply W.seq | apply W.region | apply W.ret))
 exact Z.bd1 Try.results112 rfl fun m => ⟨rfl, m, rfl⟩

abbrev AtCopy (w0 : World) (gs r : Nat) (rest : List Piece) (q : List Int × List (Int × Int)) (v : Value) (w' : World) : Prop :=
 Ext w0 w' /\ ∃ a' cap' la lc, v = .slice la q.1.length lc /\ Sep w0.heap.size w' (stN w0.heap.size gs a' cap' r q.2 ++ (prow 1 encI 3 w0.heap.size la lc q.1 :: rest))

theorem aig_CopyV (gs r cap cn cl : Nat) (a an al : Option Addr) (N n : List (Int × Int)) (ins : List Int) (rest : List Piece) (w w0 : World) (hX : Ext w0 w) (hS : Sep w0.heap.size w (stN w0.heap.size gs a cap r N ++ rest)) (hN : N.length + n.length < 1048576) (hg : GNt n) (hcl : ins.length <= cl)
  (hn : Keeps w0 gs r rest (fun w' => Row 2 encN w' an n)) (hi : Keeps w0 gs r rest (fun w' => Row 1 encI w' al ins)) :
  Lt.Spec Try.prog 55 [.pointer (some ⟨gs, 0, none⟩), .slice an n.length cn, .slice al ins.length cl] w (AtCopy w0 gs r rest (copyV N n ins)) := by
 have hC0 := hS.cell (i := 0) rfl
 have RI := hi w a cap N hX hS
 have hli := RI.len
 by_cases hh : ∀ z ∈ ins, hasL N z
 ·have e : copyV N n ins = ((cto N n ins n.length).1, (cto N n ins n.length).2.2) := by unfold copyV; rw [dTt hh]; rfl
  rw [e]
  refine Spec.of _ Try.func55 rfl Try.ntmps55 (by kernel_rfl) rfl ?_
  repeat' (first | (apply WL.callP (f := 111); (iterate 4 exact rfl); exact aig_has _ _ _ _ _ N ins _ _ hC0 RI (by omega); intro w' hx) | (apply W.cKF; exact rfl; (focus ((rw [dTt hh]; rfl); done))) | (first | apply WL.nil | (refine WL.au (k := ?_))) | apply Z.tn | (first | apply W.seq | apply W.region | apply W.skip))
  have hx1 := hx
  obtain ⟨w1, rfl⟩ : ∃ x, x = w' := ⟨_, rfl⟩
  replace hS := hS.ext hx1
  have hX1 : Ext w0 w1 := hX.trans hx1
  repeat' (first | (apply WL.makeC (w0 := w0) (z := (0:Int)) tOk; (iterate 9 exact rfl); exact eIk; exact rfl; exact rfl; exact extA; omega; intro gb w' hO hge hx) | fail)
  obtain ⟨gl, rfl⟩ : ∃ x, x = gb := ⟨_, rfl⟩
  replace hS := Sep.newRow hS hx (hO : Own 1 encI 3 w0.heap.size w' _ _ [0]) (fun k hk => by cases hk; exact hge) hX1.size
  repeat' (first | (apply WL.alloc tOk; (iterate 3 exact rfl); intro gb w' hb hge hx; replace hS := Sep.newCell (Sep.ext hS extA) hx hb hge (by (exact Below.size extA)); (try simp only [List.set_cons_zero, List.set_cons_succ] at hS); (try have hR1 := hS.row (i := 1) rfl); (try have hR3 := hS.row (i := 3) rfl); (try have hC0 := hS.cell (i := 0) rfl); (try have hD0 := (cHp hC0).1); (try have hC2 := hS.cell (i := 2) rfl); (try have hD2 := (cHp hC2).1); (try have hE2 := (cHp hC2).2.1); (try have hM4 := hS.map (i := 4) rfl)) | (apply WL.storeB (w0 := w0) tOk; (iterate 4 exact rfl); assumption; exact extA; (iterate 3 exact rfl); exact extA; ((focus (apply Nat.le_trans; rotate_left; assumption; exact Below.size extA; done))); intro w' hb hc hX' hU; have hcc := hc; obtain ⟨h1, h2, _⟩ := hc; (replace hS := Sep.uCl (i := 0) rfl hU hb hS extA (by (exact Below.size extA))); (try simp only [List.set_cons_zero, List.set_cons_succ] at hS); (try have hR1 := hS.row (i := 1) rfl); (try have hR3 := hS.row (i := 3) rfl); (try have hC0 := hS.cell (i := 0) rfl); (try have hD0 := (cHp hC0).1); (try have hC2 := hS.cell (i := 2) rfl); (try have hD2 := (cHp hC2).1); (try have hE2 := (cHp hC2).2.1); (try have hM4 := hS.map (i := 4) rfl)) | (first | apply WL.nil | (refine WL.au (k := ?_))) | apply Z.tn | (first | apply W.seq | apply W.region | apply W.block))
  have hS0 := Sep.back32 hS
  obtain ⟨g7, rfl⟩ : ∃ x, x = gb := ⟨_, rfl⟩
  refine W.loopO2 n.length (fun k la lc bi bd w' => k <= n.length /\ Ext w0 w' /\ (∃ a' cap', Sep w0.heap.size w' (stN w0.heap.size gs a' cap' r (cto N n ins k).2.2 ++ (pcell g7 #[.slice la (cto N n ins k).1.length lc] 22 :: prow 1 encI 3 w0.heap.size la lc (cto N n ins k).1 :: rest))) /\ Keeps w0 gs r rest (fun w' => Row 1 encI w' bi (ins.drop (cto N n ins k).2.1)) /\ (ins.drop (cto N n ins k).2.1).length <= bd)
   (fun k la lc bi bd => [(0, .pointer (some ⟨gs, 0, none⟩)), (2, .slice bi (ins.drop (cto N n ins k).2.1).length bd), (7, .pointer (some ⟨g7, 0, none⟩)), (8, .func (.func 112) #[] #[.pointer (some ⟨g7, 0, none⟩)]), (21, .slice an n.length cn), (22, .int .i64 n.length), (23, .int .i64 k)])
   (some ⟨gl, 0, none⟩) _ al cl ⟨by omega, extA, ⟨a, cap, hS0⟩, hi, hcl⟩ (fun k la lc bi bd w' h => h.1) ⟨rfl, rfl, rfl, rfl, rfl, rfl, rfl, trivial⟩ ?_
  rintro k la lc bi bd w9 ⟨hk, hX9, ⟨a2, cap2, hS9⟩, hib, hbd⟩
  obtain ⟨i1, i2, i3, i4, i5, i6⟩ := cto_inv (N := N) hg hh k hk
  have Rn := hn _ _ _ _ hX9 (Sep.drop34 hS9)
  have Ri := hib _ _ _ _ hX9 (Sep.drop34 hS9)
  have hS := hS9
  by_cases hlt : k < n.length
  ·obtain ⟨x, hxn⟩ := getI n hlt
   have hs := cto_succ (N := N) (ins := ins) hxn
   by_cases hin : 0 <= x.1
   ·have hgt := hg.gate hxn hin
    obtain ⟨za, hza⟩ := getI (cto N n ins k).1 (show (x.1 / 2).toNat < (cto N n ins k).1.length by omega)
    obtain ⟨zb, hzb⟩ := getI (cto N n ins k).1 (show (x.2 / 2).toNat < (cto N n ins k).1.length by omega)
    have ba : 0 <= za /\ za <= 9223372036854775806 := by have := i2 za (List.mem_of_getElem? hza); unfold hasL at this; omega
    have bb : 0 <= zb /\ zb <= 9223372036854775806 := by have := i2 zb (List.mem_of_getElem? hzb); unfold hasL at this; omega
    have hv := andV_has (hasL_litI i2 (x := x.1) (by omega)) (hasL_litI i2 (x := x.2) (by omega))
    have q0 : ¬ (andV (cto N n ins k).2.2 (litI (cto N n ins k).1 x.1) (litI (cto N n ins k).1 x.2)).1 < 0 := by have := hv.1; omega
    have e1 : (cto N n ins (k + 1)).1 = (cto N n ins k).1 ++ [(andV (cto N n ins k).2.2 (litI (cto N n ins k).1 x.1) (litI (cto N n ins k).1 x.2)).1] := by rw [hs, cstep, if_pos hin]
    have e2 : (cto N n ins (k + 1)).2.1 = (cto N n ins k).2.1 := by rw [hs, cstep, if_pos hin]
    have e3 : (cto N n ins (k + 1)).2.2 = (andV (cto N n ins k).2.2 (litI (cto N n ins k).1 x.1) (litI (cto N n ins k).1 x.2)).2 := by rw [hs, cstep, if_pos hin]
    repeat' (first | (apply W.cKT; exact rfl; (focus (exact dTt (by omega)))) | (apply WL.alloc tOk; (iterate 3 exact rfl); intro gb w' hb hge hx; replace hS := Sep.newCell (Sep.ext hS extA) hx hb hge (by (exact Below.size extA)); (try simp only [List.set_cons_zero, List.set_cons_succ] at hS); (try have hR2 := hS.row (i := 2) rfl); (try have hC0 := hS.cell (i := 0) rfl); (try have hD0 := (cHp hC0).1); (try have hE0 := (cHp hC0).2.1); (try have hC1 := hS.cell (i := 1) rfl); (try have hD1 := (cHp hC1).1); (try have hE1 := (cHp hC1).2.1); (try have hD2 := (cHp hC2).1); (try have hE2 := (cHp hC2).2.1); (try have hC4 := hS.cell (i := 4) rfl); (try have hD4 := (cHp hC4).1); (try have hM3 := hS.map (i := 3) rfl)) | (apply WL.storeB (w0 := w0) tOk; (iterate 4 exact rfl); assumption; exact extA; (iterate 3 exact rfl); exact extA; ((focus (apply Nat.le_trans; rotate_left; assumption; exact Below.size extA; done))); intro w' hb hc hX' hU; have hcc := hc; obtain ⟨h1, h2, _⟩ := hc; (replace hS := Sep.uCl (i := 0) rfl hU hb hS extA (by (exact Below.size extA))); (try simp only [List.set_cons_zero, List.set_cons_succ] at hS); (try have hR2 := hS.row (i := 2) rfl); (try have hC0 := hS.cell (i := 0) rfl); (try have hD0 := (cHp hC0).1); (try have hE0 := (cHp hC0).2.1); (try have hC1 := hS.cell (i := 1) rfl); (try have hD1 := (cHp hC1).1); (try have hE1 := (cHp hC1).2.1); (try have hD2 := (cHp hC2).1); (try have hE2 := (cHp hC2).2.1); (try have hC4 := hS.cell (i := 4) rfl); (try have hD4 := (cHp hC4).1); (try have hM3 := hS.map (i := 3) rfl)) | (apply W.regionQS 9 tMix; kernel_rfl; exact rfl; kernel_rfl; kernel_rfl) | ((show QL _ _ _ _ (⟨_, .call ⟨.value (.tmp _), _, _⟩, _, _, _, _⟩ :: _) _ _); apply QL.callS; (iterate 4 exact rfl); exact aig_Copy1 g7 lc la (cto N n ins k).1 x.1 za _ (Ext.heap extA (hS.cell (i := 4) rfl)) (Row.ext (Own.row eIk (hS.row (i := 5) rfl)) extA) hza (by omega) ba) | ((show QL _ _ _ _ (⟨_, .call ⟨.value (.tmp _), _, _⟩, _, _, _, _⟩ :: _) _ _); apply QL.callS; (iterate 4 exact rfl); exact aig_Copy1 g7 lc la (cto N n ins k).1 x.2 zb _ (Ext.heap extA (hS.cell (i := 4) rfl)) (Row.ext (Own.row eIk (hS.row (i := 5) rfl)) extA) hzb (by omega) bb) | (first | apply WL.nil | (refine WL.au (k := ?_)) | (apply WL.index tOk; (iterate 8 exact rfl); assumption; exact extA; exact rfl; omega; assumption; intro b off h; have hcc := h; first | (obtain ⟨h1, h2, h3, h4, h5, h6, _⟩ := h) | (obtain ⟨h1, h2, h3, _⟩ := h) | (obtain ⟨h1, h2, _⟩ := h) | (obtain ⟨h1, _⟩ := h))) | (first | apply QL.nil | (refine QL.au (k := ?_))) | (first | apply Z.tail | apply Z.tn) | (first | apply W.seq | apply W.region | apply W.block | apply W.skip))
    repeat' (first | ((show WL _ _ _ (⟨_, .call ⟨.value (.func 113), _, _⟩, _, _, _, _⟩ :: _) _ _ _); have hS8 : Lt.Sep w0.heap.size _ (stN w0.heap.size gs a2 cap2 r (cto N n ins k).2.2 ++ (pcell g7 #[.slice la (cto N n ins k).1.length lc] 22 :: prow 1 encI 3 w0.heap.size la lc (cto N n ins k).1 :: rest)) := Sep.tail hS; apply WL.call; (iterate 4 exact rfl); exact aig_And gs r _ _ (cto N n ins k).2.2 _ _ (pcell g7 #[.slice la (cto N n ins k).1.length lc] 22 :: prow 1 encI 3 w0.heap.size la lc (cto N n ins k).1 :: rest) _ w0 extA hS8 (by omega); rintro v' w8 ⟨hX8, a8, cap8, rfl, hS⟩; (try simp only [List.set_cons_zero, List.set_cons_succ] at hS); (try have hR1 := hS.row (i := 1) rfl); (try have hR4 := hS.row (i := 4) rfl); (try have hC0 := hS.cell (i := 0) rfl); (try have hD0 := (cHp hC0).1); (try have hE0 := (cHp hC0).2.1); (try have hD1 := (cHp hC1).1); (try have hE1 := (cHp hC1).2.1); (try have hD2 := (cHp hC2).1); (try have hE2 := (cHp hC2).2.1); (try have hC3 := hS.cell (i := 3) rfl); (try have hD3 := (cHp hC3).1); (try have hD4 := (cHp hC4).1); (try have hM2 := hS.map (i := 2) rfl)) | (apply W.cKF; exact rfl; exact dFf q0) | (apply WL.lit tOk; (iterate 6 exact rfl); kernel_rfl; exact rfl; intro gb w' hb hge hc hx) | (apply WL.ap1 (z := ((andV (cto N n ins k).2.2 (litI (cto N n ins k).1 x.1) (litI (cto N n ins k).1 x.2)).1)) tOk eIk; (iterate 10 exact rfl); assumption; exact extA; exact rfl; assumption; exact rfl; exact rfl; exact extA; omega; intro a' cap' w' hO hX' hU hF; (replace hS := Sep.uRw (i := 4) rfl hU hO hF hS extA (by (exact Below.size extA))); (try simp only [List.set_cons_zero, List.set_cons_succ] at hS); (try have hR1 := hS.row (i := 1) rfl); (try have hR4 := hS.row (i := 4) rfl); (try have hC0 := hS.cell (i := 0) rfl); (try have hD0 := (cHp hC0).1); (try have hE0 := (cHp hC0).2.1); (try have hD1 := (cHp hC1).1); (try have hE1 := (cHp hC1).2.1); (try have hD2 := (cHp hC2).1); (try have hE2 := (cHp hC2).2.1); (try have hC3 := hS.cell (i := 3) rfl); (try have hD3 := (cHp hC3).1); (try have hD4 := (cHp hC4).1); (try have hM2 := hS.map (i := 2) rfl)) | (apply WL.storeB (w0 := w0) tOk; (iterate 4 exact rfl); assumption; exact extA; (iterate 3 exact rfl); exact extA; ((focus (apply Nat.le_trans; rotate_left; assumption; exact Below.size extA; done))); intro w' hb hc hX' hU; have hcc := hc; obtain ⟨h1, h2, _⟩ := hc; (replace hS := Sep.uCl (i := 3) rfl hU hb hS extA (by (exact Below.size extA))); (try simp only [List.set_cons_zero, List.set_cons_succ] at hS); (try have hR1 := hS.row (i := 1) rfl); (try have hR4 := hS.row (i := 4) rfl); (try have hC0 := hS.cell (i := 0) rfl); (try have hD0 := (cHp hC0).1); (try have hE0 := (cHp hC0).2.1); (try have hD1 := (cHp hC1).1); (try have hE1 := (cHp hC1).2.1); (try have hD2 := (cHp hC2).1); (try have hE2 := (cHp hC2).2.1); (try have hC3 := hS.cell (i := 3) rfl); (try have hD3 := (cHp hC3).1); (try have hD4 := (cHp hC4).1); (try have hM2 := hS.map (i := 2) rfl)) | (first | apply WL.nil | (refine WL.au (k := ?_))) | (first | apply Z.tn | apply Z.bkn) | (first | apply W.seq | apply W.region | apply W.skip))
    exact Z.againO2 a' cap' bi bd ⟨by omega, by assumption, ⟨a8, cap8, by rw [e3, e1]; exact hS⟩, by rw [e2]; exact hib, by rw [e2]; exact hbd⟩ (by repeat' first | exact trivial | (refine And.intro ?_ ?_) | exact rfl | (rw [e1]; exact rfl) | (rw [e2]; exact rfl))
   ·by_cases hki : (cto N n ins k).2.1 < ins.length
    ·obtain ⟨z, hz⟩ := getI ins hki
     have hz' : (ins.drop (cto N n ins k).2.1)[0]? = some z := by rw [List.getElem?_drop]; exact hz
     have hdl : 0 < (ins.drop (cto N n ins k).2.1).length := by rw [List.length_drop]; omega
     have hzh := hh z (List.mem_of_getElem? hz)
     have q0 : ¬ z < 0 := by have := hzh.1; omega
     have e1 : (cto N n ins (k + 1)).1 = (cto N n ins k).1 ++ [z] := by rw [hs, cstep, if_neg hin, if_pos hki, gDo hz]
     have e2 : (cto N n ins (k + 1)).2.1 = (cto N n ins k).2.1 + 1 := by rw [hs, cstep, if_neg hin, if_pos hki]
     have e3 : (cto N n ins (k + 1)).2.2 = (cto N n ins k).2.2 := by rw [hs, cstep, if_neg hin, if_pos hki]
     have e4 : (ins.drop (cto N n ins k).2.1).drop 1 = ins.drop (cto N n ins (k + 1)).2.1 := by rw [e2, List.drop_drop]
     have e7 : (ins.drop (cto N n ins (k + 1)).2.1).length = (ins.drop (cto N n ins k).2.1).length - Int.toNat 1 := by rw [<- e4, List.length_drop]; rfl
     repeat' (first | (apply W.cKT; exact rfl; (focus (exact dTt (by omega)))) | (apply W.cKF; exact rfl; (focus (exact dFf (by omega)))) | (apply WL.alloc tOk; (iterate 3 exact rfl); intro gb w' hb hge hx; replace hS := Sep.newCell (Sep.ext hS extA) hx hb hge (by (exact Below.size extA)); (try simp only [List.set_cons_zero, List.set_cons_succ] at hS); (try have hR2 := hS.row (i := 2) rfl); (try have hC0 := hS.cell (i := 0) rfl); (try have hD0 := (cHp hC0).1); (try have hE0 := (cHp hC0).2.1); (try have hC1 := hS.cell (i := 1) rfl); (try have hD1 := (cHp hC1).1); (try have hE1 := (cHp hC1).2.1); (try have hD2 := (cHp hC2).1); (try have hE2 := (cHp hC2).2.1); (try have hC4 := hS.cell (i := 4) rfl); (try have hD4 := (cHp hC4).1); (try have hM3 := hS.map (i := 3) rfl)) | (apply WL.storeB (w0 := w9) tOk; (iterate 4 exact rfl); assumption; exact extA; (iterate 3 exact rfl); exact extA; assumption; intro w' hb hc hX' hU; have hcc := hc; obtain ⟨h1, h2, _⟩ := hc; (replace hS := Sep.uCl (i := 0) rfl hU hb hS extA (by (exact Below.size extA))); (try simp only [List.set_cons_zero, List.set_cons_succ] at hS); (try have hR2 := hS.row (i := 2) rfl); (try have hC0 := hS.cell (i := 0) rfl); (try have hD0 := (cHp hC0).1); (try have hE0 := (cHp hC0).2.1); (try have hC1 := hS.cell (i := 1) rfl); (try have hD1 := (cHp hC1).1); (try have hE1 := (cHp hC1).2.1); (try have hD2 := (cHp hC2).1); (try have hE2 := (cHp hC2).2.1); (try have hC4 := hS.cell (i := 4) rfl); (try have hD4 := (cHp hC4).1); (try have hM3 := hS.map (i := 3) rfl)) | (show W _ _ (.region 13 _ _) _ _ _; apply W.regionGX (.fl true 0 (.fl true 1 (.fl true 3 (.fl true 4 (.fl false 2 (.fl true 5 (.fl true 6 .done))))))) [] tMix; kernel_rfl) | (apply FL.sliceL0 tOk; (iterate 8 exact rfl); omega) | (apply WL.lit tOk; (iterate 6 exact rfl); kernel_rfl; exact rfl; intro gb w' hb hge hc hx) | (first | (apply SX.done; intro w' hx) | (apply SX.fl0; exact rfl) | (apply SX.fl1; exact rfl; exact extA)) | (first | apply FL.nilX | (apply FL.loadE tOk; (iterate 5 exact rfl); ((focus (apply Ext.cell; rotate_left; assumption; exact extA; done)))) | (apply FL.indexE tOk; (iterate 8 exact rfl); assumption; exact rfl; omega; assumption; intro b off h; have hcc := h; first | (obtain ⟨h1, h2, h3, h4, h5, h6, _⟩ := h) | (obtain ⟨h1, h2, h3, _⟩ := h) | (obtain ⟨h1, h2, _⟩ := h) | (obtain ⟨h1, _⟩ := h))) | refine FL.au (k := ?_) | (first | apply WL.nil | (refine WL.au (k := ?_)) | (apply WL.index tOk; (iterate 8 exact rfl); assumption; exact extA; exact rfl; omega; assumption; intro b off h; have hcc := h; first | (obtain ⟨h1, h2, h3, h4, h5, h6, _⟩ := h) | (obtain ⟨h1, h2, h3, _⟩ := h) | (obtain ⟨h1, h2, _⟩ := h) | (obtain ⟨h1, _⟩ := h))) | (first | apply Z.tn | apply Z.bkn) | (first | apply W.seq | apply W.region | apply W.block | apply W.skip))
     replace hS := Sep.tail hS
     (try simp only [List.set_cons_zero, List.set_cons_succ] at hS); (try have hR1 := hS.row (i := 1) rfl); (try have hR4 := hS.row (i := 4) rfl); (try have hC0 := hS.cell (i := 0) rfl); (try have hD0 := (cHp hC0).1); (try have hE0 := (cHp hC0).2.1); (try have hD1 := (cHp hC1).1); (try have hE1 := (cHp hC1).2.1); (try have hD2 := (cHp hC2).1); (try have hE2 := (cHp hC2).2.1); (try have hC3 := hS.cell (i := 3) rfl); (try have hD3 := (cHp hC3).1); (try have hD4 := (cHp hC4).1); (try have hM2 := hS.map (i := 2) rfl)
     have hRd : Keeps w0 gs r rest (fun w' => Row 1 encI w' (subA bi bd 1 1) (ins.drop (cto N n ins (k + 1)).2.1)) := fun w' a' cap' N' h1 h2 => by rw [<- e4]; exact Row.dropAt (hib w' a' cap' N' h1 h2) 1 bd hbd
     repeat' (first | (apply WL.ap1 (z := (z)) tOk eIk; (iterate 10 exact rfl); assumption; exact extA; exact rfl; assumption; exact rfl; exact rfl; exact extA; omega; intro a' cap' w' hO hX' hU hF; (replace hS := Sep.uRw (i := 4) rfl hU hO hF hS extA (by (exact Below.size extA))); (try simp only [List.set_cons_zero, List.set_cons_succ] at hS); (try have hR1 := hS.row (i := 1) rfl); (try have hR4 := hS.row (i := 4) rfl); (try have hC0 := hS.cell (i := 0) rfl); (try have hD0 := (cHp hC0).1); (try have hE0 := (cHp hC0).2.1); (try have hD1 := (cHp hC1).1); (try have hE1 := (cHp hC1).2.1); (try have hD2 := (cHp hC2).1); (try have hE2 := (cHp hC2).2.1); (try have hC3 := hS.cell (i := 3) rfl); (try have hD3 := (cHp hC3).1); (try have hD4 := (cHp hC4).1); (try have hM2 := hS.map (i := 2) rfl)) | (apply WL.storeB (w0 := w0) tOk; (iterate 4 exact rfl); assumption; exact extA; (iterate 3 exact rfl); exact extA; ((focus (apply Nat.le_trans; rotate_left; assumption; exact Below.size extA; done))); intro w' hb hc hX' hU; have hcc := hc; obtain ⟨h1, h2, _⟩ := hc; (replace hS := Sep.uCl (i := 3) rfl hU hb hS extA (by (exact Below.size extA))); (try simp only [List.set_cons_zero, List.set_cons_succ] at hS); (try have hR1 := hS.row (i := 1) rfl); (try have hR4 := hS.row (i := 4) rfl); (try have hC0 := hS.cell (i := 0) rfl); (try have hD0 := (cHp hC0).1); (try have hE0 := (cHp hC0).2.1); (try have hD1 := (cHp hC1).1); (try have hE1 := (cHp hC1).2.1); (try have hD2 := (cHp hC2).1); (try have hE2 := (cHp hC2).2.1); (try have hC3 := hS.cell (i := 3) rfl); (try have hD3 := (cHp hC3).1); (try have hD4 := (cHp hC4).1); (try have hM2 := hS.map (i := 2) rfl)) | (first | apply WL.nil | (refine WL.au (k := ?_))) | (first | apply Z.tn | apply Z.bkn) | apply W.region)
     exact Z.againO2 a' cap' (subA bi bd 1 1) (bd - 1) ⟨by omega, by assumption, ⟨a2, cap2, by rw [e3, e1]; exact hS⟩, hRd, by rw [e7]; show _ <= bd - 1; omega⟩ (by repeat' first | exact trivial | (refine And.intro ?_ ?_) | exact rfl | (rw [e1]; exact rfl) | (rw [e7]; exact rfl))
    ·have hd0 : (ins.drop (cto N n ins k).2.1).length = 0 := by rw [List.length_drop]; omega
     have e1 : (cto N n ins (k + 1)).1 = (cto N n ins k).1 ++ [2 * (((cto N n ins k).2.2.length : Int) + 1)] := by rw [hs, cstep, if_neg hin, if_neg hki]
     have e2 : (cto N n ins (k + 1)).2.1 = (cto N n ins k).2.1 + 1 := by rw [hs, cstep, if_neg hin, if_neg hki]
     have e3 : (cto N n ins (k + 1)).2.2 = (cto N n ins k).2.2 ++ [(-1, 0)] := by rw [hs, cstep, if_neg hin, if_neg hki]
     have e4 : ins.drop (cto N n ins (k + 1)).2.1 = ins.drop (cto N n ins k).2.1 := by rw [e2, List.drop_eq_nil_of_le (by omega), List.drop_eq_nil_of_le (by omega)]
     repeat' (first | (apply W.cKT; exact rfl; (focus (exact dTt (by omega)))) | (apply W.cKF; exact rfl; exact dFf (by omega)) | (apply WL.alloc tOk; (iterate 3 exact rfl); intro gb w' hb hge hx; replace hS := Sep.newCell (Sep.ext hS extA) hx hb hge (by (exact Below.size extA)); (try simp only [List.set_cons_zero, List.set_cons_succ] at hS); (try have hR2 := hS.row (i := 2) rfl); (try have hC0 := hS.cell (i := 0) rfl); (try have hD0 := (cHp hC0).1); (try have hE0 := (cHp hC0).2.1); (try have hC1 := hS.cell (i := 1) rfl); (try have hD1 := (cHp hC1).1); (try have hE1 := (cHp hC1).2.1); (try have hD2 := (cHp hC2).1); (try have hE2 := (cHp hC2).2.1); (try have hC4 := hS.cell (i := 4) rfl); (try have hD4 := (cHp hC4).1); (try have hM3 := hS.map (i := 3) rfl)) | (apply WL.storeB (w0 := w0) tOk; (iterate 4 exact rfl); assumption; exact extA; (iterate 3 exact rfl); exact extA; ((focus (apply Nat.le_trans; rotate_left; assumption; exact Below.size extA; done))); intro w' hb hc hX' hU; have hcc := hc; obtain ⟨h1, h2, _⟩ := hc; (first | replace hS := Sep.uCl (i := 0) rfl hU hb hS extA (by (exact Below.size extA)) | replace hS := Sep.uCl (i := 3) rfl hU hb hS extA (by (exact Below.size extA))); (try simp only [List.set_cons_zero, List.set_cons_succ] at hS); (try have hR1 := hS.row (i := 1) rfl); (try have hR2 := hS.row (i := 2) rfl); (try have hR4 := hS.row (i := 4) rfl); (try have hC0 := hS.cell (i := 0) rfl); (try have hD0 := (cHp hC0).1); (try have hE0 := (cHp hC0).2.1); (try have hC1 := hS.cell (i := 1) rfl); (try have hD1 := (cHp hC1).1); (try have hE1 := (cHp hC1).2.1); (try have hD2 := (cHp hC2).1); (try have hE2 := (cHp hC2).2.1); (try have hC3 := hS.cell (i := 3) rfl); (try have hD3 := (cHp hC3).1); (try have hC4 := hS.cell (i := 4) rfl); (try have hD4 := (cHp hC4).1); (try have hM2 := hS.map (i := 2) rfl); (try have hM3 := hS.map (i := 3) rfl)) | ((show WL _ _ _ (⟨_, .call ⟨.value (.func 90), _, _⟩, _, _, _, _⟩ :: _) _ _ _); have hS8 : Lt.Sep w0.heap.size _ (stN w0.heap.size gs a2 cap2 r (cto N n ins k).2.2 ++ (pcell g7 #[.slice la (cto N n ins k).1.length lc] 22 :: prow 1 encI 3 w0.heap.size la lc (cto N n ins k).1 :: rest)) := Sep.tail hS; apply WL.call; (iterate 4 exact rfl); exact aig_InputV gs r _ _ (cto N n ins k).2.2 (pcell g7 #[.slice la (cto N n ins k).1.length lc] 22 :: prow 1 encI 3 w0.heap.size la lc (cto N n ins k).1 :: rest) _ w0 extA hS8 (by omega); rintro v' w8 ⟨hX8, a8, cap8, rfl, hS⟩; (try simp only [List.set_cons_zero, List.set_cons_succ] at hS); (try have hR1 := hS.row (i := 1) rfl); (try have hR4 := hS.row (i := 4) rfl); (try have hC0 := hS.cell (i := 0) rfl); (try have hD0 := (cHp hC0).1); (try have hE0 := (cHp hC0).2.1); (try have hD1 := (cHp hC1).1); (try have hE1 := (cHp hC1).2.1); (try have hD2 := (cHp hC2).1); (try have hE2 := (cHp hC2).2.1); (try have hC3 := hS.cell (i := 3) rfl); (try have hD3 := (cHp hC3).1); (try have hD4 := (cHp hC4).1); (try have hM2 := hS.map (i := 2) rfl)) | (apply WL.lit tOk; (iterate 6 exact rfl); kernel_rfl; exact rfl; intro gb w' hb hge hc hx) | (apply WL.ap1 (z := (2 * (((cto N n ins k).2.2.length : Int) + 1))) tOk eIk; (iterate 10 exact rfl); assumption; exact extA; exact rfl; assumption; exact rfl; exact rfl; exact extA; omega; intro a' cap' w' hO hX' hU hF; (replace hS := Sep.uRw (i := 4) rfl hU hO hF hS extA (by (exact Below.size extA))); (try simp only [List.set_cons_zero, List.set_cons_succ] at hS); (try have hR1 := hS.row (i := 1) rfl); (try have hR4 := hS.row (i := 4) rfl); (try have hC0 := hS.cell (i := 0) rfl); (try have hD0 := (cHp hC0).1); (try have hE0 := (cHp hC0).2.1); (try have hD1 := (cHp hC1).1); (try have hE1 := (cHp hC1).2.1); (try have hD2 := (cHp hC2).1); (try have hE2 := (cHp hC2).2.1); (try have hC3 := hS.cell (i := 3) rfl); (try have hD3 := (cHp hC3).1); (try have hD4 := (cHp hC4).1); (try have hM2 := hS.map (i := 2) rfl)) | (first | apply WL.nil | (refine WL.au (k := ?_)) | (apply WL.index tOk; (iterate 8 exact rfl); assumption; exact extA; exact rfl; omega; assumption; intro b off h; have hcc := h; first | (obtain ⟨h1, h2, h3, h4, h5, h6, _⟩ := h) | (obtain ⟨h1, h2, h3, _⟩ := h) | (obtain ⟨h1, h2, _⟩ := h) | (obtain ⟨h1, _⟩ := h))) | (first | apply Z.tn | apply Z.bkn) | (first | apply W.seq | apply W.region | apply W.block | apply W.skip))
     exact Z.againO2 a' cap' bi bd ⟨by omega, by assumption, ⟨a8, cap8, by rw [e3, e1]; exact hS⟩, by rw [e4]; exact hib, by rw [e4]; exact hbd⟩ (by repeat' first | exact trivial | (refine And.intro ?_ ?_) | exact rfl | (rw [e1]; exact rfl) | (rw [e4]; exact rfl))
  ·obtain rfl : k = n.length := by omega
   have hl7 := (cHp (hS9.cell (i := 3) rfl)).1
   repeat' (first | (apply W.cKF; exact rfl; exact dFf (by omega)) | (first | apply WL.nil | (refine WL.au (k := ?_))) | (first | apply Z.tn | apply Z.tnx | apply Z.bkx) | (first | apply W.seq | apply W.region | apply W.ret | apply W.exit))
   exact Z.bd1 Try.results55 rfl fun m => ⟨hX9.at m, a2, cap2, la, lc, rfl, (Sep.drop3 hS9).ext ((Ext.refl _).at m)⟩
 ·have e : copyV N n ins = ([], N) := by unfold copyV; rw [dFf hh]; rfl
  rw [e]
  refine Spec.of _ Try.func55 rfl Try.ntmps55 (by kernel_rfl) rfl ?_
  repeat' (first | (apply WL.callP (f := 111); (iterate 4 exact rfl); exact aig_has _ _ _ _ _ N ins _ _ hC0 RI (by omega); intro w' hx) | (apply W.cKT; exact rfl; (focus ((rw [dFf hh]; rfl); done))) | (first | apply WL.nil | (refine WL.au (k := ?_))) | (first | apply Z.tn | apply Z.tnr) | (first | apply W.seq | apply W.region | apply W.ret))
  have hS1 := hS.ext hx
  have hX1 := hX.trans hx
  have hS3 : Lt.Sep w0.heap.size w' (stN w0.heap.size gs a cap r N ++ (prow 1 encI 3 w0.heap.size none 0 [] :: rest)) := Sep.back31 (Sep.newRow hS1 (Ext.refl _) Own.nil (fun k hk => by cases hk) hX1.size)
  exact Z.bd1 Try.results55 rfl fun m => ⟨hX1.at m, a, cap, none, 0, rfl, hS3.ext ((Ext.refl _).at m)⟩

abbrev NA := List (Int × Int) × List Int
noncomputable def cput (s : NA) (l : Int) (x : Int × Int) : NA := (s.1 ++ [x], s.2.set (l / 2).toNat (2 * ((s.1.length : Int) + 1)))
noncomputable def cIn (s : NA) (ls : List Int) : NA := ls.foldl (fun s l => cput s l (-1, 0)) s
abbrev gAt (gs : List G3) (i : Nat) : G3 := gs.getD i (0, 0, 0)
noncomputable def cGate (gs : List G3) (s : NA) (i : Nat) : NA := cput s (gAt gs i).1 (litI s.2 (gAt gs i).2.1, litI s.2 (gAt gs i).2.2)
noncomputable def cGates (gs : List G3) (s : NA) (L : List Nat) : NA := L.foldl (cGate gs) s
def cAt0 (m : Int) : List Int := 0 :: List.replicate m.toNat (-1)
noncomputable def cNet (c : CirT) : NA := cGates c.gates (cIn ([], cAt0 c.max) (c.ins ++ c.lat.map (·.1))) (ordL c.gates)
theorem cIn_snoc (s : NA) (ls : List Int) (l : Int) : cIn s (ls ++ [l]) = cput (cIn s ls) l (-1, 0) := by unfold cIn; rw [List.foldl_append]; rfl
theorem cGates_snoc (gs : List G3) (s : NA) (L : List Nat) (i : Nat) : cGates gs s (L ++ [i]) = cGate gs (cGates gs s L) i := by unfold cGates; rw [List.foldl_append]; rfl

structure PutOk (s : NA) (q : List Int) (m : Nat) : Prop where
 len1 : s.1.length = q.length
 len2 : s.2.length = m + 1
 zero : s.2[0]? = some 0
 has : ∀ (i : Nat) (l : Int), q[i]? = some l -> s.2[(l / 2).toNat]? = some (2 * ((i : Int) + 1))
 not : ∀ v : Nat, 1 <= v -> v <= m -> (∀ l ∈ q, (l / 2).toNat ≠ v) -> s.2[v]? = some (-1)
theorem PutOk.start (m : Nat) : PutOk ([], cAt0 (m : Int)) [] m := by
 refine ⟨rfl, by simp [cAt0], rfl, fun i l h => by simp at h, fun v h1 h2 _ => ?_⟩
 show (0 :: List.replicate (m : Int).toNat (-1 : Int))[v]? = _
 obtain ⟨u, rfl⟩ : ∃ u, v = u + 1 := ⟨v - 1, by omega⟩
 rw [List.getElem?_cons_succ, List.getElem?_replicate, if_pos (by omega)]
theorem PutOk.push {s : NA} {q : List Int} {m : Nat} (h : PutOk s q m) {l : Int} (hl : 2 <= l /\ l % 2 = 0 /\ l <= 2 * (m : Int)) (hq : ∀ y ∈ q, 2 <= y /\ y % 2 = 0) (hn : l ∉ q) (x : Int × Int) : PutOk (cput s l x) (q ++ [l]) m := by
 have hlen := h.len2
 have hs : ∀ y ∈ q, (l / 2).toNat ≠ (y / 2).toNat := fun y hy he => hn (by have := hq y hy; rw [show l = y by omega]; exact hy)
 refine ⟨by simp [cput, h.len1], by simp [cput, h.len2], ?_, fun i y hy => ?_, fun v h1 h2 h3 => ?_⟩
 ·show (s.2.set _ _)[0]? = _
  rw [List.getElem?_set_ne (by omega)]; exact h.zero
 ·show (s.2.set _ _)[(y / 2).toNat]? = _
  by_cases hi : i < q.length
  ·rw [List.getElem?_append_left hi] at hy
   rw [List.getElem?_set_ne (hs y (List.mem_of_getElem? hy))]
   exact h.has i y hy
  ·rw [List.getElem?_append_right (by omega)] at hy
   have h0 : i - q.length = 0 := by have := lGt hy; simpa using this
   obtain rfl : i = q.length := by omega
   simp at hy; subst hy
   rw [List.getElem?_set_self (by omega), h.len1]
 ·show (s.2.set _ _)[v]? = _
  rw [List.getElem?_set_ne (h3 l (by simp))]
  exact h.not v h1 h2 fun y hy => h3 y (by simp [hy])
theorem PutOk.ge {s : NA} {q : List Int} {m : Nat} (h : PutOk s q m) {l : Int} (hl : l / 2 = 0 ∨ ∃ y ∈ q, y / 2 = l / 2) : ∃ z, s.2[(l / 2).toNat]? = some z /\ 0 <= z /\ z % 2 = 0 /\ z <= 2 * (s.1.length : Int) := by
 rcases hl with hl | ⟨y, hy, he⟩
 ·exact ⟨0, by rw [hl]; exact h.zero, by decide, by decide, by omega⟩
 ·obtain ⟨i, hi⟩ := List.mem_iff_getElem?.1 hy
  have h1 := h.has i y hi
  rw [he] at h1
  have h2 := lGt hi
  have := h.len1
  exact ⟨_, h1, by omega, by omega, by omega⟩
theorem litI_some {l : List Int} {x z : Int} (hz : l[(x / 2).toNat]? = some z) : litI l x = xorI z (x % 2) := by unfold litI; rw [gDo hz]
theorem cIn_ok {m : Nat} : ∀ (ls : List Int) (s : NA) (q : List Int), PutOk s q m -> (∀ y ∈ q, 2 <= y /\ y % 2 = 0) -> (∀ l ∈ ls, 2 <= l /\ l % 2 = 0 /\ l <= 2 * (m : Int)) -> (q ++ ls).Nodup -> GNt s.1 -> PutOk (cIn s ls) (q ++ ls) m /\ GNt (cIn s ls).1
 | [], s, q, h, _, _, _, hg => by rw [List.append_nil]; exact ⟨h, hg⟩
 | l :: ls, s, q, h, hq, hl, hn, hg => by
  have hl1 := hl l (by simp)
  have hnl : l ∉ q := fun hm => by
   rw [List.nodup_append] at hn
   exact hn.2.2 l hm l (by simp) rfl
  have h1 := h.push hl1 hq hnl (-1, 0)
  have h2 := cIn_ok ls (cput s l (-1, 0)) (q ++ [l]) h1 (fun y hy => by
   rcases List.mem_append.1 hy with hy | hy
   ·exact hq y hy
   ·rw [List.mem_singleton.1 hy]; exact ⟨hl1.1, hl1.2.1⟩) (fun y hy => hl y (by simp [hy])) (by simpa using hn) (fun i x hx => ?_)
  ·have e : q ++ [l] ++ ls = q ++ l :: ls := by simp
   rw [e] at h2
   exact h2
  ·have hx' : (s.1 ++ [((-1, 0) : Int × Int)])[i]? = some x := hx
   by_cases hi : i < s.1.length
   ·rw [List.getElem?_append_left hi] at hx'; exact hg i x hx'
   ·rw [List.getElem?_append_right (by omega)] at hx'
    have h0 : i - s.1.length = 0 := by have := lGt hx'; simpa using this
    rw [h0] at hx'
    simp at hx'; subst hx'
    unfold badNode; simp

noncomputable abbrev CirT.seq (c : CirT) : List Int := c.ins ++ c.lat.map (·.1) ++ (ordL c.gates).map (fun i => (gAt c.gates i).1)
abbrev CirT.inl (c : CirT) : List Int := c.ins ++ c.lat.map (·.1)
theorem gAt_of {gs : List G3} {i : Nat} {g : G3} (h : gs[i]? = some g) : gAt gs i = g := gDo h
theorem GoodC'.gate {c : CirT} (h : GoodC' c) {i : Nat} {g : G3} (hg : c.gates[i]? = some g) : (2 <= g.1 /\ g.1 % 2 = 0 /\ g.1 <= 2 * c.max) /\ (0 <= g.2.1 /\ g.2.1 <= 2 * c.max + 1) /\ (0 <= g.2.2 /\ g.2.2 <= 2 * c.max + 1) := by
 have hm := List.mem_of_getElem? hg
 refine ⟨h.own _ (List.mem_append_right _ (List.mem_map.2 ⟨g, hm, rfl⟩)), h.used _ (List.mem_append_right _ (List.mem_flatMap.2 ⟨g, hm, by simp⟩)), h.used _ (List.mem_append_right _ (List.mem_flatMap.2 ⟨g, hm, by simp⟩))⟩
theorem used_put {c : CirT} (h : GoodC' c) {l : Int} (hl : l ∈ c.used) {T : List Nat} (hT : ∀ (j : Nat) (x : G3), c.gates[j]? = some x -> j ∉ T -> x.1 / 2 ≠ l / 2) : l / 2 = 0 ∨ ∃ y ∈ c.inl ++ T.map (fun i => (gAt c.gates i).1), y / 2 = l / 2 := by
 have h0 := h.used l hl
 rcases Int.lt_or_le 1 l with h1 | h1
 ·right
  have h2 := h.has l hl h1
  rcases List.mem_append.1 h2 with h3 | h3
  ·exact ⟨_, List.mem_append_left _ h3, by omega⟩
  ·obtain ⟨g, hg, he⟩ := List.mem_map.1 h3
   obtain ⟨j, hj⟩ := List.mem_iff_getElem?.1 hg
   have hjT : j ∈ T := Classical.byContradiction fun hn => hT j g hj hn (by omega)
   exact ⟨g.1, List.mem_append_right _ (List.mem_map.2 ⟨j, hjT, by rw [gAt_of hj]⟩), by omega⟩
 ·left; omega
theorem inl_once {c : CirT} (h : GoodC' c) : c.inl.Nodup := by
 have := h.once
 rw [List.nodup_append] at this
 exact this.1
theorem gate_new {c : CirT} (h : GoodC' c) {i : Nat} {g : G3} (hg : c.gates[i]? = some g) {T : List Nat} (hT : ∀ j ∈ T, j < c.gates.length) (hi : i ∉ T) : g.1 ∉ c.inl ++ T.map (fun i => (gAt c.gates i).1) := by
 intro hm
 have ho := h.once
 rw [List.nodup_append] at ho
 rcases List.mem_append.1 hm with h1 | h1
 ·exact ho.2.2 _ h1 _ (List.mem_map.2 ⟨g, List.mem_of_getElem? hg, rfl⟩) rfl
 ·obtain ⟨j, hj, he⟩ := List.mem_map.1 h1
  obtain ⟨x, hx⟩ := getI c.gates (hT j hj)
  rw [gAt_of hx] at he
  have hp := List.pairwise_iff_getElem.1 (List.nodup_iff_pairwise_ne.1 ho.2.1)
  have li : i < (c.gates.map (·.1)).length := by rw [List.length_map]; exact lGt hg
  have lj : j < (c.gates.map (·.1)).length := by rw [List.length_map]; exact lGt hx
  have ei : (c.gates.map (·.1))[i] = g.1 := by have := (List.getElem?_eq_some_iff.1 hg).2; simp [this]
  have ej : (c.gates.map (·.1))[j] = x.1 := by have := (List.getElem?_eq_some_iff.1 hx).2; simp [this]
  have hne : i ≠ j := fun e => hi (by rw [e]; exact hj)
  rcases Nat.lt_or_gt_of_ne hne with h2 | h2
  ·exact hp i j li lj h2 (by rw [ei, ej, he])
  ·exact hp j i lj li h2 (by rw [ei, ej, he])
theorem net_to {c : CirT} (h : GoodC' c) : ∀ k, k <= (ordL c.gates).length ->
  PutOk (cGates c.gates (cIn ([], cAt0 c.max) c.inl) ((ordL c.gates).take k)) (c.inl ++ ((ordL c.gates).take k).map (fun i => (gAt c.gates i).1)) c.max.toNat /\ GNt (cGates c.gates (cIn ([], cAt0 c.max) c.inl) ((ordL c.gates).take k)).1 := by
 have hm : ((c.max.toNat : Nat) : Int) = c.max := by have := h.max; omega
 intro k
 induction k with
 | zero =>
  intro _
  have h1 := cIn_ok (m := c.max.toNat) c.inl ([], cAt0 c.max) [] (by have := PutOk.start c.max.toNat; rwa [hm] at this) (fun y hy => by cases hy) (fun l hl => by rw [hm]; exact h.own l (List.mem_append_left _ hl)) (by rw [List.nil_append]; exact inl_once h) (fun i x hx => by simp at hx)
  simpa [cGates] using h1
 | succ k ih =>
  intro hk
  obtain ⟨i, hi⟩ := getI (ordL c.gates) (show k < _ by omega)
  obtain ⟨h1, h2⟩ := ih (by omega)
  have hO := (ordL_is c.gates).1
  obtain ⟨g, hg, hn, hr⟩ := (hO k i hi).1
  have hgg := h.gate hg
  have hm' := List.mem_of_getElem? hg
  have ua : g.2.1 ∈ c.used := List.mem_append_right _ (List.mem_flatMap.2 ⟨g, hm', by simp⟩)
  have ub : g.2.2 ∈ c.used := List.mem_append_right _ (List.mem_flatMap.2 ⟨g, hm', by simp⟩)
  have pa := h1.ge (used_put h ua fun j x hx hj => (hr j x hx hj).1)
  have pb := h1.ge (used_put h ub fun j x hx hj => (hr j x hx hj).2)
  have hlt : ∀ j ∈ (ordL c.gates).take k, j < c.gates.length := fun j hj => hO.lt j (List.mem_of_mem_take hj)
  rw [tkS hi, cGates_snoc, List.map_append, <- List.append_assoc]
  have eg : gAt c.gates i = g := gAt_of hg
  have hsq : ∀ y ∈ c.inl ++ ((ordL c.gates).take k).map (fun i => (gAt c.gates i).1), 2 <= y /\ y % 2 = 0 := fun y hy => by
   have : y ∈ c.own := by
    rcases List.mem_append.1 hy with hy | hy
    ·exact List.mem_append_left _ hy
    ·obtain ⟨j, hj, rfl⟩ := List.mem_map.1 hy
     obtain ⟨x, hx⟩ := getI c.gates (hlt j hj)
     exact List.mem_append_right _ (List.mem_map.2 ⟨x, List.mem_of_getElem? hx, by rw [gAt_of hx]⟩)
   exact ⟨(h.own y this).1, (h.own y this).2.1⟩
  have hp := h1.push (l := g.1) (by rw [hm]; exact hgg.1) hsq (gate_new h hg hlt hn)
  refine ⟨?_, ?_⟩
  ·unfold cGate; rw [List.map_singleton, eg]; exact hp _
  ·unfold cGate; rw [eg]
   intro j x hx
   have hx' : ((cGates c.gates (cIn ([], cAt0 c.max) c.inl) ((ordL c.gates).take k)).1 ++ [_])[j]? = some x := hx
   obtain ⟨za, a1, a2, a3, a4⟩ := pa
   obtain ⟨zb, b1, b2, b3, b4⟩ := pb
   rw [litI_some a1, litI_some b1] at hx'
   by_cases hj : j < (cGates c.gates (cIn ([], cAt0 c.max) c.inl) ((ordL c.gates).take k)).1.length
   ·rw [List.getElem?_append_left hj] at hx'; exact h2 j x hx'
   ·rw [List.getElem?_append_right (by omega)] at hx'
    have h0 : j - (cGates c.gates (cIn ([], cAt0 c.max) c.inl) ((ordL c.gates).take k)).1.length = 0 := by have := lGt hx'; simpa using this
    rw [h0] at hx'
    simp only [List.getElem?_cons_zero, Option.some.injEq] at hx'
    subst hx'
    have ka : 0 <= xorI za (g.2.1 % 2) /\ xorI za (g.2.1 % 2) <= za + 1 := by unfold xorI Lt.xor1; split <;> (try split) <;> omega
    have kb : 0 <= xorI zb (g.2.2 % 2) /\ xorI zb (g.2.2 % 2) <= zb + 1 := by unfold xorI Lt.xor1; split <;> (try split) <;> omega
    unfold badNode
    dsimp only
    omega
theorem cNet_ok {c : CirT} (h : GoodC' c) : PutOk (cNet c) c.seq c.max.toNat /\ GNt (cNet c).1 := by
 have h1 := net_to h _ (Nat.le_refl _)
 rw [List.take_length] at h1
 exact h1
theorem ord_all {c : CirT} (h : GoodC' c) {i : Nat} (hi : i < c.gates.length) : i ∈ ordL c.gates := by
 refine Classical.byContradiction fun hn => ?_
 have hO := (ordL_is c.gates).1
 have h1 := nodup_le c.gates.length (i :: ordL c.gates) (List.nodup_cons.2 ⟨hn, hO.nodup⟩) (fun j hj => by
  rcases List.mem_cons.1 hj with rfl | hj
  ·exact hi
  ·exact hO.lt j hj)
 have := h.ord
 simp only [List.length_cons] at h1
 omega
theorem seq_all {c : CirT} (h : GoodC' c) {l : Int} (hl : l ∈ c.own) : l ∈ c.seq := by
 rcases List.mem_append.1 hl with h1 | h1
 ·exact List.mem_append_left _ h1
 ·obtain ⟨g, hg, rfl⟩ := List.mem_map.1 h1
  obtain ⟨i, hi⟩ := List.mem_iff_getElem?.1 hg
  exact List.mem_append_right _ (List.mem_map.2 ⟨i, ord_all h (lGt hi), by rw [gAt_of hi]⟩)

noncomputable def rnk (P : Nat -> Prop) (k : Nat) : Nat := (sel (k + 1) P).length
theorem rnk_yes {P : Nat -> Prop} {k : Nat} (h : P (k + 1)) : rnk P (k + 1) = rnk P k + 1 := by rw [rnk, sel_yes h, List.length_append]; rfl
theorem rnk_no {P : Nat -> Prop} {k : Nat} (h : ¬ P (k + 1)) : rnk P (k + 1) = rnk P k := by rw [rnk, sel_no h]; rfl
theorem rnk_le (P : Nat -> Prop) (k : Nat) : rnk P k <= k + 1 := sel_le _ _
open Classical in
noncomputable def atv (P : Nat -> Prop) (v : Nat) : Int := if v = 0 then 0 else if P v then 2 * (rnk P v : Nat) else -1
noncomputable def atL (P : Nat -> Prop) (l : Int) : Int := atv P (l / 2).toNat + l % 2
noncomputable def nodeC (n : List (Int × Int)) (P : Nat -> Prop) (k : Nat) : Int × Int :=
 match n[k]? with
 | some x => if x.1 < 0 then (-1, 0) else (atL P x.1, atL P x.2)
 | none => (0, 0)
open Classical in
noncomputable def outTo (n : List (Int × Int)) (P : Nat -> Prop) : Nat -> List (Int × Int)
 | 0 => []
 | k + 1 => if P (k + 1) then outTo n P k ++ [nodeC n P k] else outTo n P k
theorem outTo_yes {n : List (Int × Int)} {P : Nat -> Prop} {k : Nat} (h : P (k + 1)) : outTo n P (k + 1) = outTo n P k ++ [nodeC n P k] := if_pos h
theorem outTo_no {n : List (Int × Int)} {P : Nat -> Prop} {k : Nat} (h : ¬ P (k + 1)) : outTo n P (k + 1) = outTo n P k := if_neg h
theorem outTo_len (n : List (Int × Int)) {P : Nat -> Prop} (h0 : ¬ P 0) : ∀ k, (outTo n P k).length = rnk P k
 | 0 => by rw [rnk, sel_no h0]; rfl
 | k + 1 => by
  by_cases h : P (k + 1)
  ·rw [outTo_yes h, rnk_yes h, List.length_append, outTo_len n h0 k]; rfl
  ·rw [outTo_no h, rnk_no h, outTo_len n h0 k]
noncomputable def atT (n : List (Int × Int)) (P : Nat -> Prop) (k : Nat) : List Int := tab (n.length + 1) (fun u => if u < k then atv P u else 0)
theorem atT_len (n : List (Int × Int)) (P : Nat -> Prop) (k : Nat) : (atT n P k).length = n.length + 1 := tab_len _ _
theorem atT_get {n : List (Int × Int)} {P : Nat -> Prop} {k u : Nat} (h : u < k) (hu : u <= n.length) : (atT n P k)[u]? = some (atv P u) := by rw [atT, tab_get _ (by omega), if_pos h]
theorem atT_set {n : List (Int × Int)} {P : Nat -> Prop} {k : Nat} {y : Int} (h : y = atv P k) : (atT n P k).set k y = atT n P (k + 1) := by
 refine tab_set fun u hu => ?_
 by_cases huk : u = k
 ·rw [if_pos huk, if_pos (by omega), huk, h]
 ·rw [if_neg huk]
  by_cases h1 : u < k
  ·rw [if_pos h1, if_pos (by omega)]
  ·rw [if_neg h1, if_neg (by omega)]
theorem atT_one (n : List (Int × Int)) (P : Nat -> Prop) : atT n P 1 = atT n P 0 := tab_congr fun u hu => by
 by_cases h : u = 0
 ·subst h; simp [atv]
 ·rw [if_neg (by omega), if_neg (by omega)]
theorem atv_even (P : Nat -> Prop) {v : Nat} (h : v = 0 ∨ P v) (hv : v <= 1048576) : 0 <= atv P v /\ atv P v % 2 = 0 /\ atv P v <= 4194304 := by
 have := rnk_le P v
 unfold atv
 by_cases h0 : v = 0
 ·rw [if_pos h0]; omega
 ·rw [if_neg h0, if_pos (h.resolve_left h0)]; omega
theorem xorb_eq (a b : Int) (h : 0 <= a /\ a % 2 = 0 /\ a <= 9223372036854775806) (hb : b = 0 ∨ b = 1) : IntKind.i64.wrap (BitVec.ofInt IntKind.i64.bits a ^^^ BitVec.ofInt IntKind.i64.bits b).toNat = a + b := by
 rcases hb with rfl | rfl
 ·show IntKind.i64.wrap (BitVec.ofInt 64 a ^^^ BitVec.ofInt 64 0).toNat = a + 0
  rw [show BitVec.ofInt 64 0 = 0#64 from rfl, BitVec.xor_zero, toNat_ofInt64 a h.1 (by omega), IntWalk.i64_in _ (by omega)]
  omega
 ·rw [xor1_eq a ⟨h.1, h.2.2⟩, xor1, if_pos h.2.1]

theorem of_kid {n : List (Int × Int)} (hg : GNt n) {l : List Int} {v c : Nat} (h : OfP n l v) (hk : Kid n v c) : c = 0 ∨ OfP n l c := by
 by_cases hc : c = 0
 ·exact .inl hc
 ·obtain ⟨h1, x, hx, h2, h3, h4, h5, h6⟩ := h
  have := hk.lt hg
  rw [Int.toNat_natCast] at h6
  exact .inr ⟨by omega, x, hx, h2, h3, by omega, by omega, by rw [Int.toNat_natCast]; exact h6.snoc hk⟩

theorem cone_Cut1 (n : List (Int × Int)) (P : Nat -> Prop) (ga g7 k B : Nat) (x : Int) (w : World) (hA : Own 1 encI 3 B w (some ⟨ga, 0, none⟩) (n.length + 1) (atT n P k)) (h7 : w.heap[g7]? = some (.cells #[.slice (some ⟨ga, 0, none⟩) (n.length + 1) (n.length + 1)] 22 (0, 0)))
  (hx : 0 <= x) (hxk : (x / 2).toNat < k) (hkn : k <= n.length + 1) (hn : n.length <= 1048576) (hP : (x / 2).toNat = 0 ∨ P (x / 2).toNat) :
  Still Try.prog 128 ([.int .i64 x] ++ [.pointer (some ⟨g7, 0, none⟩)]) w (.int .i64 (atL P x)) := by
 have hget := atT_get (n := n) (P := P) hxk (by omega)
 have hlen := atT_len n P k
 have hev := atv_even P hP (by omega)
 obtain ⟨h1, _⟩ := cHp h7
 refine Spec.of _ Try.func128 rfl Try.ntmps128 (by kernel_rfl) rfl ?_
 repeat' (first | (apply WL.indexO tOk; (iterate 8 exact rfl); assumption; exact extA; exact eIk; ((focus (simp [*]; done))); omega; assumption; intro gb ha hc; cases ha; have hcc := hc; first | (obtain ⟨h1, h2, h3, _⟩ := hc) | (obtain ⟨h1, h2, _⟩ := hc) | (obtain ⟨h1, _⟩ := hc)) | (apply WL.and1; (iterate 4 exact rfl); omega) | (first | apply WL.nil | (refine WL.au (k := ?_))) | apply Z.tn | (first | apply W.seq | apply W.region | apply W.ret))
 refine Z.bd1 Try.results128 rfl fun m => ⟨congrArg (Value.int .i64) ?_, m, rfl⟩
 rw [atL]
 exact xorb_eq _ _ ⟨hev.1, hev.2.1, by omega⟩ (by omega)

def IsFresh2 {α β : Type} (s : Nat) (enc : α -> List Value) (el : TypeId) (t : Nat) (encb : β -> List Value) (elb : TypeId) (w : World) (L : List α) (M : List β) (v : Value) (w' : World) : Prop :=
 Ext w w' /\ ∃ a cap b cb, v = .tuple #[.slice a L.length cap, .slice b M.length cb] /\ Own s enc el w.heap.size w' a cap L /\ Own t encb elb w.heap.size w' b cb M

theorem cone_Cut (a b : Option Addr) (cap cb : Nat) (n : List (Int × Int)) (l : List Int) (w : World) (R : Row 2 encN w a n) (Rb : Row 1 encI w b l) (hg : GNt n) (hn : n.length <= 1048576) (hl : ∀ x ∈ l, inI64 x) :
  Lt.Spec Try.prog 79 [.slice a n.length cap, .slice b l.length cb] w (IsFresh2 2 encN 105 1 encI 3 w (outTo n (OfP n l) n.length) (atT n (OfP n l) (n.length + 1))) := by
 have hP0 : ¬ OfP n l 0 := fun h => by have := h.1; omega
 refine Spec.of _ Try.func79 rfl Try.ntmps79 (by kernel_rfl) rfl ?_
 repeat' (first | (apply WL.make (w0 := w) tOk; (iterate 9 exact rfl); exact eIk; exact rfl; exact rfl; exact extA; omega; intro gb w' hO hge hx) | (first | apply WL.nil | (refine WL.au (k := ?_))) | apply Z.tn | (first | apply W.seq | apply W.region))
 have en : ((n.length : Int) + 1).toNat = n.length + 1 := by omega
 have e0l : (List.replicate (n.length + 1) (0 : Int)).length = n.length + 1 := List.length_replicate
 have e0 : List.replicate (n.length + 1) (0 : Int) = atT n (OfP n l) 0 := by rw [tab_rep]; exact tab_congr fun u hu => (if_neg (by omega)).symm
 rw [en] at hO ⊢
 obtain ⟨ga, rfl⟩ : ∃ x, x = gb := ⟨_, rfl⟩
 rw [e0] at hO
 have hS : Sep w.heap.size w' [prow 1 encI 3 w.heap.size (some ⟨ga, 0, none⟩) (n.length + 1) (atT n (OfP n l) 0)] := Sep.none'.newRow' hx hO (Nat.le_refl _)
 have hxa := hx
 repeat' (first | (apply WL.alloc tOk; (iterate 3 exact rfl); intro gb w' hb hge hx) | fail)
 obtain ⟨g7, rfl⟩ : ∃ x, x = gb := ⟨_, rfl⟩
 have hS := hS.newCell hx hb hge (Below.size hxa)
 repeat' (first | (apply WL.storeB (w0 := w) tOk; (iterate 4 exact rfl); assumption; exact extA; (iterate 3 exact rfl); exact extA; ((focus (apply Nat.le_trans; rotate_left; assumption; exact Below.size extA; done))); intro w' hb hc hX' hU; have hcc := hc; obtain ⟨h1, h2, _⟩ := hc) | (first | apply WL.nil | (refine WL.au (k := ?_))) | apply Z.tn | (first | apply W.seq | apply W.region))
 have hS := Sep.uCl (i := 0) rfl hU hb hS (Ext.refl _) (Below.size (show Ext w _ from extA))
 simp only [List.set_cons_zero] at hS
 rw [e0l] at hS ⊢
 obtain ⟨w3, rfl⟩ : ∃ x, x = w' := ⟨_, rfl⟩
 have hx3 : Ext w w3 := extA
 repeat' (first | (apply WL.call (f := 129); (iterate 4 exact rfl); exact cone_marked _ _ _ _ n l _ (R.ext hx3) (Rb.ext hx3) hg hn hl; rintro v' w' ⟨hx, a', cap', rfl, hO⟩) | (first | apply WL.nil | (refine WL.au (k := ?_))) | apply Z.tn | apply W.block)
 have hS := hS.newRow' hx hO (Below.size hx3)
 have hS := hS.newRow (Ext.refl _) (s := 2) (enc := encN) (el := 105) (a := none) (cap := 0) (l := []) Own.nil (fun k hk => by cases hk) (Below.size (show Ext w _ from extA))
 obtain ⟨mk, rfl⟩ : ∃ x, x = a' := ⟨_, rfl⟩; obtain ⟨cmk, rfl⟩ : ∃ x, x = cap' := ⟨_, rfl⟩
 have hml : (markL n l).length = n.length + 1 := tab_len _ _
 refine W.loopO (n.length + 1) (fun k c cp w' => k <= n.length + 1 /\ Ext w w' /\ Sep w.heap.size w' [prow 2 encN 105 w.heap.size c cp (outTo n (OfP n l) (k - 1)), prow 1 encB 4 w.heap.size mk cmk (markL n l), pcell g7 #[.slice (some ⟨ga, 0, none⟩) (n.length + 1) (n.length + 1)] 22, prow 1 encI 3 w.heap.size (some ⟨ga, 0, none⟩) (n.length + 1) (atT n (OfP n l) k)])
  (fun k c cp => [(0, .slice a n.length cap), (6, .slice c (outTo n (OfP n l) (k - 1)).length cp), (7, .pointer (some ⟨g7, 0, none⟩)), (8, fnv 128 [.pointer (some ⟨g7, 0, none⟩)]), (18, .slice mk (markL n l).length cmk), (19, .int .i64 (n.length + 1 : Nat)), (20, .int .i64 k)]) none 0 ⟨by omega, extA, hS⟩ (fun k c cp w' h => h.1) (by repeat' first | exact trivial | (refine And.intro ?_ ?_) | exact rfl | (rw [hml]; exact rfl)) ?_
 clear hS hO
 rintro k c cp w' ⟨hk, hx', hS⟩
 have hR0 := hS.row (i := 0) rfl
 have hR1 := hS.row (i := 1) rfl
 have hC2 := hS.cell (i := 2) rfl
 have hR3 := hS.row (i := 3) rfl
 have hal := atT_len n (OfP n l) k
 have hol := outTo_len n hP0 (k - 1)
 have hrk := rnk_le (OfP n l) (k - 1)
 have RM := Own.row eBk hR1
 by_cases hlt : k < n.length + 1
 ·have hmk : (markL n l)[k]? = some (dec (OfP n l k)) := tab_get _ hlt
  have hak : (atT n (OfP n l) k)[k]? = some 0 := by rw [atT, tab_get _ hlt, if_neg (by omega)]
  obtain ⟨h7c, _⟩ := cHp hC2
  by_cases hk0 : k = 0
  ·subst hk0
   repeat' (first | (apply W.cKT; exact rfl; exact dTt (by omega)) | (first | apply WL.nil | (refine WL.au (k := ?_)) | (apply WL.index tOk; (iterate 8 exact rfl); assumption; exact extA; exact rfl; omega; assumption; intro b off h; have hcc := h; first | (obtain ⟨h1, h2, h3, h4, h5, h6, _⟩ := h) | (obtain ⟨h1, h2, h3, _⟩ := h) | (obtain ⟨h1, h2, _⟩ := h) | (obtain ⟨h1, _⟩ := h))) | (first | apply Z.tn | apply Z.tnx | apply Z.bkx | (apply Z.block_other; exact rfl)) | (first | apply W.seq | apply W.region | apply W.block | apply W.skip | apply W.exit))
   exact Z.agO c cp ⟨by omega, hx', by rw [atT_one]; exact hS⟩ ⟨rfl, rfl, rfl, rfl, rfl, rfl, rfl, trivial⟩
  ·obtain ⟨j, rfl⟩ : ∃ j, k = j + 1 := ⟨k - 1, by omega⟩
   obtain ⟨x, hxn⟩ := getI n (show j < n.length by omega)
   have hxn1 : n[(((j + 1 : Nat) : Int) - 1).toNat]? = some x := by rw [show (((j + 1 : Nat) : Int) - 1).toNat = j by omega]; exact hxn
   have ej : j + 1 + 1 - 1 = j + 1 := rfl
   simp only [Nat.add_sub_cancel] at hS hR0 hol hrk ⊢
   by_cases hy : OfP n l (j + 1)
   ·have hol2 := outTo_len n hP0 (j + 1)
    have hrk2 := rnk_le (OfP n l) (j + 1)
    have e1 := outTo_yes (n := n) hy
    have eat : atv (OfP n l) (j + 1) = 2 * (rnk (OfP n l) (j + 1) : Nat) := by rw [atv, if_neg (by omega), if_pos hy]
    by_cases hin : x.1 < 0
    ·have e2 : nodeC n (OfP n l) j = (-1, 0) := by rw [nodeC, hxn]; exact if_pos hin
     rw [e2] at e1
     rw [e1] at hol2
     repeat' (first | (apply W.cKT; exact rfl; (focus (exact dTt (by omega)))) | (apply W.cKF; exact rfl; (focus (first | exact dFf (by omega) | (rw [dTt hy]; rfl); done))) | (apply WL.build tOk; (iterate 7 exact rfl); kernel_rfl) | (apply WL.lit tOk; (iterate 6 exact rfl); kernel_rfl; exact rfl; intro gb w' hb hge hc hx) | (apply WL.ap1 tOk encN_ok; (iterate 10 exact rfl); assumption; exact extA; exact rfl; assumption; (exact (rfl : encN (_, _) = _)); exact rfl; exact extA; omega; intro a' cap' w' hO hX' hU hF; (replace hS := Sep.uRw (i := 0) rfl hU hO hF hS extA (by (exact Below.size extA))); (try simp only [List.set_cons_zero, List.set_cons_succ] at hS); (try have hR0 := hS.row (i := 0) rfl); (try have hR1 := hS.row (i := 1) rfl); (try have hR3 := hS.row (i := 3) rfl); (try have hC2 := hS.cell (i := 2) rfl); (try have hD2 := (cHp hC2).1)) | (apply WL.indexO tOk; (iterate 8 exact rfl); assumption; exact extA; exact eIk; ((focus (simp [*]; done))); omega; assumption; intro gb ha hc; cases ha; have hcc := hc; first | (obtain ⟨h1, h2, h3, _⟩ := hc) | (obtain ⟨h1, h2, _⟩ := hc) | (obtain ⟨h1, _⟩ := hc)) | (apply WL.storeO tOk; (iterate 4 exact rfl); assumption; exact extA; (iterate 3 exact rfl); exact eIk; assumption; exact rfl; exact extA; intro w' hO hX' hU; (replace hS := Sep.uRw (i := 3) rfl hU hO (.inl rfl) hS extA (by (exact Below.size extA))); (try simp only [List.set_cons_zero, List.set_cons_succ] at hS); (try have hR0 := hS.row (i := 0) rfl); (try have hR1 := hS.row (i := 1) rfl); (try have hR3 := hS.row (i := 3) rfl); (try have hC2 := hS.cell (i := 2) rfl); (try have hD2 := (cHp hC2).1)) | (first | apply WL.nil | (refine WL.au (k := ?_)) | (apply WL.index tOk; (iterate 8 exact rfl); assumption; exact extA; exact rfl; omega; assumption; intro b off h; have hcc := h; first | (obtain ⟨h1, h2, h3, h4, h5, h6, _⟩ := h) | (obtain ⟨h1, h2, h3, _⟩ := h) | (obtain ⟨h1, h2, _⟩ := h) | (obtain ⟨h1, _⟩ := h))) | (first | apply Z.tn | apply Z.bkn) | (first | apply W.seq | apply W.region | apply W.block | apply W.skip))
     rw [Int.toNat_natCast, hol2, atT_set eat.symm] at hS
     exact Z.agO a' cap' ⟨by omega, by assumption, by rw [ej, e1]; exact hS⟩ (by repeat' first | exact trivial | (refine And.intro ?_ ?_) | exact rfl | (rw [ej, e1]; exact rfl))
    ·have h0 : 0 <= x.1 := by omega
     have hgt := hg.gate hxn h0
     have hk1 := of_kid hg hy ⟨j, x, rfl, hxn, h0, .inl rfl⟩
     have hk2 := of_kid hg hy ⟨j, x, rfl, hxn, h0, .inr rfl⟩
     have e2 : nodeC n (OfP n l) j = (atL (OfP n l) x.1, atL (OfP n l) x.2) := by rw [nodeC, hxn]; exact if_neg hin
     have hBC : ∀ k, blk c = some k -> w.heap.size <= k := fun k hk => (hR0.blk_lt k hk).1
     rw [e2] at e1
     rw [e1] at hol2
     repeat' (first | (apply W.cKT; exact rfl; (focus (exact dTt (by omega)))) | (apply W.cKF; exact rfl; (focus (first | exact dFf (by omega) | (rw [dTt hy]; rfl); done))) | (apply W.regionF [0, 1, 2, 3, 4, 5, 6, 7, 9, 10, 11, 12, 13, 14, 15] [8, 16, 17, 18, 19] [20] (But _ (blk c)) tMix; kernel_rfl; (iterate 3 exact rfl); exact fun m => But.at _ _ m) | ((show WL _ _ _ (⟨_, .call ⟨.value (.tmp _), _, _⟩, _, _, _, _⟩ :: _) _ _ _); apply WL.callS; (iterate 4 exact rfl); exact cone_Cut1 n (OfP n l) ga g7 (j + 1) _ x.1 _ hR3 hC2 h0 (by omega) (by omega) hn hk1) | ((show WL _ _ _ (⟨_, .call ⟨.value (.tmp _), _, _⟩, _, _, _, _⟩ :: _) _ _ _); apply WL.callS; (iterate 4 exact rfl); exact cone_Cut1 n (OfP n l) ga g7 (j + 1) _ x.2 _ hR3 hC2 hgt.2.1 (by omega) (by omega) hn hk2) | (apply WL.build tOk; (iterate 7 exact rfl); kernel_rfl) | (apply WL.lit tOk; (iterate 6 exact rfl); kernel_rfl; exact rfl; intro gb w' hb hge hc hx) | (apply WL.ap1 (z := ((atL (OfP n l) x.1, atL (OfP n l) x.2))) tOk encN_ok; (iterate 10 exact rfl); assumption; exact extA; exact rfl; assumption; exact rfl; exact rfl; exact extA; omega; intro a' cap' w' hO hX' hU hF; (replace hS := Sep.uRw (i := 0) rfl hU hO hF hS extA (by (exact Below.size extA))); (try simp only [List.set_cons_zero, List.set_cons_succ] at hS); (try have hR0 := hS.row (i := 0) rfl); (try have hR1 := hS.row (i := 1) rfl); (try have hR3 := hS.row (i := 3) rfl); (try have hC2 := hS.cell (i := 2) rfl); (try have hD2 := (cHp hC2).1)) | (apply WL.indexO tOk; (iterate 8 exact rfl); assumption; exact extA; exact eIk; ((focus (simp [*]; done))); omega; assumption; intro gb ha hc; cases ha; have hcc := hc; first | (obtain ⟨h1, h2, h3, _⟩ := hc) | (obtain ⟨h1, h2, _⟩ := hc) | (obtain ⟨h1, _⟩ := hc)) | (apply WL.storeO tOk; (iterate 4 exact rfl); assumption; exact extA; (iterate 3 exact rfl); exact eIk; assumption; exact rfl; exact extA; intro w' hO hX' hU; (replace hS := Sep.uRw (i := 3) rfl hU hO (.inl rfl) hS extA (by (exact Below.size extA))); (try simp only [List.set_cons_zero, List.set_cons_succ] at hS); (try have hR0 := hS.row (i := 0) rfl); (try have hR1 := hS.row (i := 1) rfl); (try have hR3 := hS.row (i := 3) rfl); (try have hC2 := hS.cell (i := 2) rfl); (try have hD2 := (cHp hC2).1)) | (first | apply WL.nil | (refine WL.au (k := ?_)) | (apply WL.index tOk; (iterate 8 exact rfl); assumption; exact extA; exact rfl; omega; assumption; intro b off h; have hcc := h; first | (obtain ⟨h1, h2, h3, h4, h5, h6, _⟩ := h) | (obtain ⟨h1, h2, h3, _⟩ := h) | (obtain ⟨h1, h2, _⟩ := h) | (obtain ⟨h1, _⟩ := h))) | (first | apply FL.nil | (refine FL.au (k := ?_)) | (apply FL.load tOk; (iterate 5 exact rfl); assumption; ((focus (intro h; have h9 := hBC _ h; (try simp only at h9); omega)))) | (apply FL.index tOk; (iterate 8 exact rfl); assumption; exact extA; exact rfl; omega; assumption; exact List.cons_ne_nil _ _; intro b off h hbl; have hcc := h; first | (obtain ⟨h1, h2, h3, h4, h5, h6, _⟩ := h) | (obtain ⟨h1, h2, h3, _⟩ := h) | (obtain ⟨h1, h2, _⟩ := h) | (obtain ⟨h1, _⟩ := h))) | (first | apply CL.nil | apply CL.cons) | (first | apply Z.only | (apply Z.early; (focus (intro m; apply But.of_at; first | exact But.upd (by assumption) | exact But.ext extA | (refine But.trans ?_ (But.upd (by assumption)); exact But.ext extA) | exact But.at _ _ _; done)))) | (first | apply Z.tn | apply Z.bkn) | (first | apply W.seq | apply W.region | apply W.block | apply W.skip))
     rw [Int.toNat_natCast, hol2, atT_set eat.symm] at hS
     exact Z.agO a' cap' ⟨by omega, by assumption, by rw [ej, e1]; exact hS⟩ (by repeat' first | exact trivial | (refine And.intro ?_ ?_) | exact rfl | (rw [ej, e1]; exact rfl))
   ·have e1 := outTo_no (n := n) hy
    have eat : (-1 : Int) = atv (OfP n l) (j + 1) := by rw [atv, if_neg (by omega), if_neg hy]
    repeat' (first | (apply W.cKT; exact rfl; (focus (first | exact dTt (by omega) | (rw [dFf hy]; rfl); done))) | (apply W.cKF; exact rfl; (focus (exact dFf (by omega)))) | (apply WL.indexO tOk; (iterate 8 exact rfl); assumption; exact extA; exact eIk; ((focus (simp [*]; done))); omega; assumption; intro gb ha hc; cases ha; have hcc := hc; first | (obtain ⟨h1, h2, h3, _⟩ := hc) | (obtain ⟨h1, h2, _⟩ := hc) | (obtain ⟨h1, _⟩ := hc)) | (apply WL.storeO tOk; (iterate 4 exact rfl); assumption; exact extA; (iterate 3 exact rfl); exact eIk; assumption; exact rfl; exact extA; intro w' hO hX' hU; (replace hS := Sep.uRw (i := 3) rfl hU hO (.inl rfl) hS extA (by (exact Below.size extA))); (try simp only [List.set_cons_zero, List.set_cons_succ] at hS); (try have hR0 := hS.row (i := 0) rfl); (try have hR1 := hS.row (i := 1) rfl); (try have hR3 := hS.row (i := 3) rfl); (try have hC2 := hS.cell (i := 2) rfl); (try have hD2 := (cHp hC2).1)) | (first | apply WL.nil | (refine WL.au (k := ?_)) | (apply WL.index tOk; (iterate 8 exact rfl); assumption; exact extA; exact rfl; omega; assumption; intro b off h; have hcc := h; first | (obtain ⟨h1, h2, h3, h4, h5, h6, _⟩ := h) | (obtain ⟨h1, h2, h3, _⟩ := h) | (obtain ⟨h1, h2, _⟩ := h) | (obtain ⟨h1, _⟩ := h))) | (first | apply Z.tn | apply Z.tnx | apply Z.bkx | (apply Z.block_other; exact rfl)) | (first | apply W.seq | apply W.region | apply W.block | apply W.skip | apply W.exit))
    rw [Int.toNat_natCast, atT_set eat] at hS
    exact Z.agO c cp ⟨by omega, by assumption, by rw [ej, e1]; exact hS⟩ (by repeat' first | exact trivial | (refine And.intro ?_ ?_) | exact rfl | (rw [ej, e1]; exact rfl))
 ·obtain rfl : k = n.length + 1 := by omega
  obtain ⟨h7c, _⟩ := cHp hC2
  repeat' (first | (apply W.cKF; exact rfl; exact dFf (by omega)) | (first | apply WL.nil | (refine WL.au (k := ?_))) | (first | apply QL.nil | (refine QL.au (k := ?_))) | (first | apply Z.tn | apply Z.tnx | apply Z.bkx) | (first | apply W.seq | apply W.region | apply W.ret | apply W.exit | (apply W.rgD tMix; kernel_rfl)))
  exact Z.body2 Try.results79 rfl rfl fun m => ⟨hx'.at m, c, cp, some ⟨ga, 0, none⟩, n.length + 1, by rw [hal]; rfl, hR0.ext ((Ext.refl _).at m), hR3.ext ((Ext.refl _).at m)⟩

theorem ref11_lit (a : Option Addr) (cap : Nat) (A : List Int) (l z : Int) (w : World) (R : Row 1 encI w a A) (h0 : 0 <= l) (hl : l <= 4294967296) (hz : A[(l / 2).toNat]? = some z) (hz0 : 0 <= z /\ z <= 4294967296) :
  Still Try.prog 117 [.slice a A.length cap, .int .i64 l] w (.int .i64 (litI A l)) := by
 have hlt := lGt hz
 have e0 : litI A l = xorI z (l % 2) := by unfold litI; rw [gDo hz]
 by_cases h : l % 2 = 1
 ·refine Spec.of _ Try.func117 rfl Try.ntmps117 (by kernel_rfl) rfl ?_
  repeat' (first | (apply W.cKT; exact rfl; exact dTt h) | (first | apply WL.nil | (refine WL.au (k := ?_))) | (first | apply QL.nil | (refine QL.au (k := ?_)) | (apply QL.index tOk; (iterate 8 exact rfl); assumption; exact extA; exact rfl; omega; assumption; intro b off h; have hcc := h; first | (obtain ⟨h1, h2, h3, h4, h5, h6, _⟩ := h) | (obtain ⟨h1, h2, h3, _⟩ := h) | (obtain ⟨h1, h2, _⟩ := h) | (obtain ⟨h1, _⟩ := h))) | (first | apply Z.tn | apply Z.tnr) | (first | apply W.seq | apply W.region | apply W.ret | (apply W.rgD tMix; kernel_rfl)))
  exact Z.bd1 Try.results117 rfl fun m => ⟨by rw [e0, h]; congr 1; unfold xorI Lt.xor1; split <;> (try split) <;> omega, m, rfl⟩
 ·refine Spec.of _ Try.func117 rfl Try.ntmps117 (by kernel_rfl) rfl ?_
  repeat' (first | (apply W.cKF; exact rfl; exact dFf h) | (first | apply WL.nil | (refine WL.au (k := ?_)) | (apply WL.index tOk; (iterate 8 exact rfl); assumption; exact extA; exact rfl; omega; assumption; intro b off h; have hcc := h; first | (obtain ⟨h1, h2, h3, h4, h5, h6, _⟩ := h) | (obtain ⟨h1, h2, h3, _⟩ := h) | (obtain ⟨h1, h2, _⟩ := h) | (obtain ⟨h1, _⟩ := h))) | apply Z.tn | (first | apply W.seq | apply W.region | apply W.skip | apply W.ret))
  exact Z.bd1 Try.results117 rfl fun m => ⟨by rw [e0]; congr 1; unfold xorI Lt.xor1; split <;> (try split) <;> omega, m, rfl⟩

theorem cIn_len (s : NA) (ls : List Int) : (cIn s ls).1.length = s.1.length + ls.length /\ (cIn s ls).2.length = s.2.length := by
 induction ls generalizing s with
 | nil => exact ⟨rfl, rfl⟩
 | cons l ls ih =>
  have := ih (cput s l (-1, 0))
  refine ⟨?_, ?_⟩
  ·show (cIn (cput s l (-1, 0)) ls).1.length = _
   rw [this.1]; simp [cput]; omega
  ·show (cIn (cput s l (-1, 0)) ls).2.length = _
   rw [this.2]; simp [cput]
theorem cIn_take (s : NA) {ls : List Int} {k : Nat} {x : Int} (h : ls[k]? = some x) : cIn s (ls.take (k + 1)) = cput (cIn s (ls.take k)) x (-1, 0) := by rw [tkS h, cIn_snoc]
theorem at_snoc (k : Nat) : (0 :: List.replicate k (-1 : Int)) ++ [-1] = 0 :: List.replicate (k + 1) (-1) := by rw [List.replicate_succ', List.cons_append]

noncomputable def cS1 (c : CirT) (k : Nat) : NA := cIn ([], cAt0 c.max) (c.ins.take k)
noncomputable def cS2 (c : CirT) (k : Nat) : NA := cIn (cS1 c c.ins.length) ((c.lat.map (·.1)).take k)
noncomputable def cS3 (c : CirT) (k : Nat) : NA := cGates c.gates (cS2 c c.lat.length) ((ordL c.gates).take k)
theorem cS1_0 (c : CirT) : cS1 c 0 = ([], cAt0 c.max) := by unfold cS1; rw [List.take_zero]; rfl
theorem cS1_s {c : CirT} {k : Nat} {x : Int} (h : c.ins[k]? = some x) : cS1 c (k + 1) = cput (cS1 c k) x (-1, 0) := cIn_take _ h
theorem cS1_len (c : CirT) {k : Nat} (h : k <= c.ins.length) : (cS1 c k).1.length = k /\ (cS1 c k).2.length = c.max.toNat + 1 := by
 have := cIn_len ([], cAt0 c.max) (c.ins.take k)
 refine ⟨by unfold cS1; rw [this.1, List.length_take]; simp; omega, by unfold cS1; rw [this.2]; simp [cAt0]⟩
theorem cS2_0 (c : CirT) : cS2 c 0 = cS1 c c.ins.length := by unfold cS2; rw [List.take_zero]; rfl
theorem cS2_s {c : CirT} {k : Nat} {x : T3} (h : c.lat[k]? = some x) : cS2 c (k + 1) = cput (cS2 c k) x.1 (-1, 0) := cIn_take _ (by rw [List.getElem?_map, h]; rfl)
theorem cS2_len (c : CirT) {k : Nat} (h : k <= c.lat.length) : (cS2 c k).1.length = c.ins.length + k /\ (cS2 c k).2.length = c.max.toNat + 1 := by
 have := cIn_len (cS1 c c.ins.length) ((c.lat.map (·.1)).take k)
 have h1 := cS1_len c (Nat.le_refl c.ins.length)
 refine ⟨by unfold cS2; rw [this.1, h1.1, List.length_take, List.length_map]; omega, by unfold cS2; rw [this.2, h1.2]⟩
theorem cS2_all (c : CirT) : cS2 c c.lat.length = cIn ([], cAt0 c.max) c.inl := by
 unfold cS2 cS1
 rw [List.take_length, show c.lat.length = (c.lat.map (·.1)).length from (List.length_map _).symm, List.take_length]
 unfold cIn; rw [<- List.foldl_append]
theorem cS3_0 (c : CirT) : cS3 c 0 = cS2 c c.lat.length := by unfold cS3; rw [List.take_zero]; rfl
theorem cS3_s {c : CirT} {k i : Nat} (h : (ordL c.gates)[k]? = some i) : cS3 c (k + 1) = cGate c.gates (cS3 c k) i := by unfold cS3; rw [tkS h, cGates_snoc]
theorem cS3_len (c : CirT) {k : Nat} (h : k <= (ordL c.gates).length) : (cS3 c k).1.length = c.ins.length + c.lat.length + k /\ (cS3 c k).2.length = c.max.toNat + 1 := by
 induction k with
 | zero => rw [cS3_0]; exact cS2_len c (Nat.le_refl _)
 | succ k ih =>
  obtain ⟨i, hi⟩ := getI (ordL c.gates) (show k < _ by omega)
  have := ih (by omega)
  rw [cS3_s hi]
  refine ⟨?_, ?_⟩
  ·show (_ ++ [_]).length = _
   rw [List.length_append, this.1, List.length_singleton]; omega
  ·show (List.set _ _ _).length = _
   rw [List.length_set, this.2]
theorem cS3_all (c : CirT) : cS3 c (ordL c.gates).length = cNet c := by unfold cS3 cNet; rw [List.take_length, cS2_all]
theorem cS3_get {c : CirT} (h : GoodC' c) {k i : Nat} (hi : (ordL c.gates)[k]? = some i) : ∃ g za zb, c.gates[i]? = some g /\ (cS3 c k).2[(g.2.1 / 2).toNat]? = some za /\ (cS3 c k).2[(g.2.2 / 2).toNat]? = some zb /\ (0 <= za /\ za <= 2 * ((cS3 c k).1.length : Int)) /\ (0 <= zb /\ zb <= 2 * ((cS3 c k).1.length : Int)) := by
 have hO := (ordL_is c.gates).1
 obtain ⟨g, hg, hn, hr⟩ := (hO k i hi).1
 have h1 := (net_to h k (Nat.le_of_lt (lGt hi))).1
 have e : cGates c.gates (cIn ([], cAt0 c.max) c.inl) ((ordL c.gates).take k) = cS3 c k := by unfold cS3; rw [cS2_all]
 rw [e] at h1
 have hm' := List.mem_of_getElem? hg
 have ua : g.2.1 ∈ c.used := List.mem_append_right _ (List.mem_flatMap.2 ⟨g, hm', by simp⟩)
 have ub : g.2.2 ∈ c.used := List.mem_append_right _ (List.mem_flatMap.2 ⟨g, hm', by simp⟩)
 obtain ⟨za, a1, a2, _, a3⟩ := h1.ge (used_put h ua fun j x hx hj => (hr j x hx hj).1)
 obtain ⟨zb, b1, b2, _, b3⟩ := h1.ge (used_put h ub fun j x hx hj => (hr j x hx hj).2)
 exact ⟨g, za, zb, hg, a1, b1, ⟨a2, a3⟩, ⟨b2, b3⟩⟩

theorem ref11_Net (c : Circ) (w : World) (hC : CAt w c) (hg : GoodC' c.t) (hz : SzC c.t 100000) :
  Lt.Spec Try.prog 63 [c.val] w (IsFresh2 2 encN 105 1 encI 3 w (cNet c.t).1 (cNet c.t).2) := by
 have z1 : c.ins.2.2.length <= 100000 := hz.1
 have z2 : c.lat.2.2.length <= 100000 := hz.2.1
 have z6 : c.gates.2.2.length <= 100000 := hz.2.2.2.2.2
 have hm : 0 <= c.max /\ c.max <= 16777216 := hg.max
 have hown : ∀ x ∈ c.t.own, 2 <= x /\ x % 2 = 0 /\ x <= 2 * c.max := hg.own
 have hused : ∀ x ∈ c.t.used, 0 <= x /\ x <= 2 * c.max + 1 := hg.used
 refine Spec.of _ Try.func63 rfl Try.ntmps63 (by kernel_rfl) rfl ?_
 repeat' (first | (apply WL.box; (iterate 3 exact rfl); intro gc wc hb hge hc hxc; have hcc := hc; ((obtain ⟨h1, h2, h3, _⟩ := hc)); (have hcells := hcc; obtain ⟨y0, y1, y2, y3, y4, y5, y6, _⟩ := hcc)) | (apply WL.lit (len := 0) tOk; (iterate 6 exact rfl); kernel_rfl; exact rfl; intro g0 w0 hb hge hc hx0; have hO0 := Own.ofB0 (enc := encN) (s := 2) hb hge; (have hS1 : Lt.Sep wc.heap.size w0 [prow 2 encN 105 wc.heap.size (some ⟨g0, 0, none⟩) 0 []] := Sep.none'.newRow' hx0 hO0 (Nat.le_refl _))) | (apply WL.lit tOk; (iterate 6 exact rfl); kernel_rfl; exact rfl; intro g1 w1 hb hge hc hx1; have hO := Own.of_block ([(0 : Int)]) eIk hb hge rfl; (have hS2 := hS1.newRow' (s := 1) (enc := encI) (el := 3) (cap := 1) (l := [0]) hx1 hO (Below.size hx0))) | (first | apply WL.nil | (refine WL.au (k := ?_))) | apply Z.tn | (first | apply W.seq | apply W.region | apply W.block))
 have hX1 : Ext w w1 := extA
 have Ri := hC.ins.row.ext hxc
 have Rl := hC.lat.row.ext hxc
 have Rg := hC.gates.row.ext hxc
 refine W.loopO c.max.toNat (fun k d dp w' => k <= c.max.toNat /\ Ext wc w' /\ Lt.Sep wc.heap.size w' [prow 1 encI 3 wc.heap.size d dp (0 :: List.replicate k (-1 : Int)), prow 2 encN 105 wc.heap.size (some ⟨g0, 0, none⟩) 0 []]) (fun k d dp => [(1, .pointer (some ⟨gc, 0, none⟩)), (4, .slice (some ⟨g0, 0, none⟩) 0 0), (5, .slice d (0 :: List.replicate k (-1 : Int)).length dp), (6, .int .i64 ((k : Int) + 1))]) (some ⟨g1, 0, none⟩) 1 ⟨Nat.zero_le _, extA, hS2⟩ (fun k d dp w' h => h.1) ⟨rfl, rfl, rfl, rfl, trivial⟩ ?_
 rintro k d dp w2 ⟨hk, hX2, hS⟩
 have hlk : (0 :: List.replicate k (-1 : Int)).length = k + 1 := by simp
 have hR0 := hS.row (i := 0) rfl
 have hR1 := hS.row (i := 1) rfl
 by_cases hlt : k < c.max.toNat
 ·repeat' (first | (apply W.cKT; exact rfl; exact dTt (by omega)) | (apply WL.lit tOk; (iterate 6 exact rfl); kernel_rfl; exact rfl; intro gb w' hb hge hc hx) | (apply WL.ap1 (z := ((-1 : Int))) tOk eIk; (iterate 10 exact rfl); assumption; exact extA; exact rfl; assumption; exact rfl; exact rfl; exact extA; omega; intro a' cap' w' hO hX' hU hF; (replace hS := Sep.uRw (i := 0) rfl hU hO hF hS extA (by (exact Below.size extA))); (try simp only [List.set_cons_zero, List.set_cons_succ] at hS); (try have hR0 := hS.row (i := 0) rfl); (try have hR1 := hS.row (i := 1) rfl)) | (first | apply WL.nil | (refine WL.au (k := ?_))) | (first | apply Z.tn | apply Z.bkn) | (first | apply W.seq | apply W.region | apply W.block | apply W.skip))
  exact Z.agO a' cap' ⟨by omega, extA, by rw [<- at_snoc]; exact hS⟩ ⟨rfl, rfl, by rw [<- at_snoc]; exact rfl, rfl, trivial⟩
 obtain rfl : k = c.max.toNat := by omega
 repeat' (first | (apply W.cKF; exact rfl; exact dFf (by omega)) | (first | apply WL.nil | (refine WL.au (k := ?_))) | (first | apply Z.tn | apply Z.tnx | apply Z.bkx) | (first | apply W.seq | apply W.region | apply W.block | apply W.exit))
 have hown1 : ∀ x ∈ c.ins.2.2, 2 <= x /\ x % 2 = 0 /\ x <= 2 * c.max := fun x hx => hown x (List.mem_append_left _ (List.mem_append_left _ hx))
 have hown2 : ∀ x ∈ c.lat.2.2, 2 <= x.1 /\ x.1 % 2 = 0 /\ x.1 <= 2 * c.max := fun x hx => hown x.1 (List.mem_append_left _ (List.mem_append_right _ (List.mem_map.2 ⟨x, hx, rfl⟩)))
 have e10 := cS1_0 c.t
 refine W.loopO2 c.ins.2.2.length (fun k a cp d dp w' => k <= c.ins.2.2.length /\ Ext wc w' /\ Lt.Sep wc.heap.size w' [prow 1 encI 3 wc.heap.size d dp (cS1 c.t k).2, prow 2 encN 105 wc.heap.size a cp (cS1 c.t k).1]) (fun k a cp d dp => [(1, .pointer (some ⟨gc, 0, none⟩)), (4, .slice a (cS1 c.t k).1.length cp), (5, .slice d (cS1 c.t k).2.length dp), (7, .int .i64 k)]) (some ⟨g0, 0, none⟩) 0 d dp ⟨Nat.zero_le _, hX2, by rw [e10]; exact hS⟩ (fun k a cp d dp w' h => h.1) (by rw [e10]; exact ⟨rfl, rfl, rfl, rfl, trivial⟩) ?_
 clear hS hR0 hR1 hX2
 rintro k a cp d dp w2 ⟨hk, hX2, hS⟩
 have hR0 := hS.row (i := 0) rfl
 have hR1 := hS.row (i := 1) rfl
 have hl1 : (cS1 c.t k).1.length = k /\ (cS1 c.t k).2.length = c.max.toNat + 1 := cS1_len c.t hk
 by_cases hlt : k < c.ins.2.2.length
 ·obtain ⟨x, hgx⟩ := getI c.ins.2.2 hlt
  have hxo := hown1 x (List.mem_of_getElem? hgx)
  have e1 := cS1_s (c := c.t) hgx
  obtain ⟨yv, hgy⟩ := getI (cS1 c.t k).2 (show (x / 2).toNat < _ by omega)
  repeat' (first | (apply W.cKT; exact rfl; exact dTt (by omega)) | (apply WL.build tOk; (iterate 7 exact rfl); kernel_rfl) | (apply WL.lit tOk; (iterate 6 exact rfl); kernel_rfl; exact rfl; intro gb w' hb hge hc hx) | (apply WL.ap1 (z := (((-1 : Int), (0 : Int)))) tOk encN_ok; (iterate 10 exact rfl); assumption; exact extA; exact rfl; assumption; exact rfl; exact rfl; exact extA; omega; intro a' cap' w' hO hX' hU hF; (replace hS := Sep.uRw (i := 1) rfl hU hO hF hS extA (by (exact Below.size extA))); (try simp only [List.set_cons_zero, List.set_cons_succ] at hS); (try have hR0 := hS.row (i := 0) rfl); (try have hR1 := hS.row (i := 1) rfl)) | (first | apply WL.nil | (refine WL.au (k := ?_)) | (apply WL.index tOk; (iterate 8 exact rfl); assumption; exact extA; exact rfl; omega; assumption; intro b off h; have hcc := h; first | (obtain ⟨h1, h2, h3, h4, h5, h6, _⟩ := h) | (obtain ⟨h1, h2, h3, _⟩ := h) | (obtain ⟨h1, h2, _⟩ := h) | (obtain ⟨h1, _⟩ := h))) | apply Z.tn | (first | apply W.seq | apply W.region | apply W.block | apply W.skip))
  have le3 : ((cS1 c.t k).1 ++ [((-1 : Int), (0 : Int))]).length = k + 1 := by rw [List.length_append, hl1.1]; rfl
  have le5 : 2 * (((cS1 c.t k).1 ++ [((-1 : Int), (0 : Int))]).length : Int) = 2 * (((cS1 c.t k).1.length : Int) + 1) := by rw [le3, hl1.1]; rfl
  obtain ⟨a2, rfl⟩ : ∃ x, x = a' := ⟨_, rfl⟩; obtain ⟨cp2, rfl⟩ : ∃ x, x = cap' := ⟨_, rfl⟩
  repeat' (first | (apply WL.storeO (z' := (2 * (((cS1 c.t k).1 ++ [((-1 : Int), (0 : Int))]).length : Int))) tOk; (iterate 4 exact rfl); assumption; exact extA; (iterate 3 exact rfl); exact eIk; assumption; exact rfl; exact extA; intro w' hO hX' hU; (replace hS := Sep.uRw (i := 0) rfl hU hO (.inl rfl) hS extA (by (exact Below.size extA))); (try simp only [List.set_cons_zero, List.set_cons_succ] at hS); (try have hR0 := hS.row (i := 0) rfl); (try have hR1 := hS.row (i := 1) rfl)) | (apply WL.indexO tOk; (iterate 8 exact rfl); assumption; exact extA; exact eIk; exact rfl; omega; assumption; intro gb ha hc; cases ha; have hcc := hc; first | (obtain ⟨h1, h2, h3, _⟩ := hc) | (obtain ⟨h1, h2, _⟩ := hc) | (obtain ⟨h1, _⟩ := hc)) | (first | apply WL.nil | (refine WL.au (k := ?_))) | (first | apply Z.tn | apply Z.bkn) | apply W.region)
  rw [le5] at hS
  exact Z.againO2 a2 cp2 (some ⟨gb, 0, none⟩) dp ⟨by omega, extA, by rw [e1]; exact hS⟩ (by repeat' first | exact trivial | (refine And.intro ?_ ?_) | exact rfl | (rw [e1]; exact rfl) | (rw [e1]; show _ = some (Value.slice _ (List.set _ _ _).length _); rw [List.length_set]; exact rfl))
 obtain rfl : k = c.ins.2.2.length := by omega
 repeat' (first | (apply W.cKF; exact rfl; exact dFf (by omega)) | (first | apply WL.nil | (refine WL.au (k := ?_))) | (first | apply Z.tn | apply Z.tnx | apply Z.bkx) | (first | apply W.seq | apply W.region | apply W.block | apply W.exit))
 have e20 := cS2_0 c.t
 have e20 : cS2 c.t 0 = cS1 c.t c.ins.2.2.length := e20
 refine W.loopO2 c.lat.2.2.length (fun k a cp d dp w' => k <= c.lat.2.2.length /\ Ext wc w' /\ Lt.Sep wc.heap.size w' [prow 1 encI 3 wc.heap.size d dp (cS2 c.t k).2, prow 2 encN 105 wc.heap.size a cp (cS2 c.t k).1]) (fun k a cp d dp => [(1, .pointer (some ⟨gc, 0, none⟩)), (4, .slice a (cS2 c.t k).1.length cp), (5, .slice d (cS2 c.t k).2.length dp), (8, .int .i64 k)]) a cp d dp ⟨Nat.zero_le _, hX2, by rw [e20]; exact hS⟩ (fun k a cp d dp w' h => h.1) (by rw [e20]; exact ⟨rfl, rfl, rfl, rfl, trivial⟩) ?_
 clear hS hR0 hR1 hX2 hl1 hk
 rintro k a cp d dp w2 ⟨hk, hX2, hS⟩
 have hR0 := hS.row (i := 0) rfl
 have hR1 := hS.row (i := 1) rfl
 have hl1 : (cS2 c.t k).1.length = c.ins.2.2.length + k /\ (cS2 c.t k).2.length = c.max.toNat + 1 := cS2_len c.t hk
 by_cases hlt : k < c.lat.2.2.length
 ·obtain ⟨x, hgx⟩ := getI c.lat.2.2 hlt
  have hxo := hown2 x (List.mem_of_getElem? hgx)
  have e1 := cS2_s (c := c.t) hgx
  obtain ⟨yv, hgy⟩ := getI (cS2 c.t k).2 (show (x.1 / 2).toNat < _ by omega)
  have le3 : ((cS2 c.t k).1 ++ [((-1 : Int), (0 : Int))]).length = c.ins.2.2.length + k + 1 := by rw [List.length_append, hl1.1]; rfl
  have le5 : 2 * (((cS2 c.t k).1 ++ [((-1 : Int), (0 : Int))]).length : Int) = 2 * (((cS2 c.t k).1.length : Int) + 1) := by rw [le3, hl1.1]; rfl
  repeat' (first | (apply W.cKT; exact rfl; exact dTt (by omega)) | (apply WL.build tOk; (iterate 7 exact rfl); kernel_rfl) | (apply WL.lit tOk; (iterate 6 exact rfl); kernel_rfl; exact rfl; intro gb w' hb hge hc hx) | (apply WL.ap1 (z := (((-1 : Int), (0 : Int)))) tOk encN_ok; (iterate 10 exact rfl); assumption; exact extA; exact rfl; assumption; exact rfl; exact rfl; exact extA; omega; intro a' cap' w' hO hX' hU hF; (replace hS := Sep.uRw (i := 1) rfl hU hO hF hS extA (by (exact Below.size extA))); (try simp only [List.set_cons_zero, List.set_cons_succ] at hS); (try have hR0 := hS.row (i := 0) rfl); (try have hR1 := hS.row (i := 1) rfl)) | (first | apply WL.nil | (refine WL.au (k := ?_)) | (apply WL.index tOk; (iterate 8 exact rfl); assumption; exact extA; exact rfl; omega; assumption; intro b off h; have hcc := h; first | (obtain ⟨h1, h2, h3, h4, h5, h6, _⟩ := h) | (obtain ⟨h1, h2, h3, _⟩ := h) | (obtain ⟨h1, h2, _⟩ := h) | (obtain ⟨h1, _⟩ := h))) | apply Z.tn | (first | apply W.seq | apply W.region | apply W.block | apply W.skip))
  obtain ⟨a2, rfl⟩ : ∃ x, x = a' := ⟨_, rfl⟩; obtain ⟨cp2, rfl⟩ : ∃ x, x = cap' := ⟨_, rfl⟩
  repeat' (first | (apply WL.storeO (z' := (2 * (((cS2 c.t k).1 ++ [((-1 : Int), (0 : Int))]).length : Int))) tOk; (iterate 4 exact rfl); assumption; exact extA; (iterate 3 exact rfl); exact eIk; assumption; exact rfl; exact extA; intro w' hO hX' hU; (replace hS := Sep.uRw (i := 0) rfl hU hO (.inl rfl) hS extA (by (exact Below.size extA))); (try simp only [List.set_cons_zero, List.set_cons_succ] at hS); (try have hR0 := hS.row (i := 0) rfl); (try have hR1 := hS.row (i := 1) rfl)) | (apply WL.indexO tOk; (iterate 8 exact rfl); assumption; exact extA; exact eIk; exact rfl; omega; assumption; intro gb ha hc; cases ha; have hcc := hc; first | (obtain ⟨h1, h2, h3, _⟩ := hc) | (obtain ⟨h1, h2, _⟩ := hc) | (obtain ⟨h1, _⟩ := hc)) | (first | apply WL.nil | (refine WL.au (k := ?_))) | (first | apply Z.tn | apply Z.bkn) | apply W.region)
  rw [le5] at hS
  exact Z.againO2 a2 cp2 (some ⟨gb, 0, none⟩) dp ⟨by omega, extA, by rw [e1]; exact hS⟩ (by repeat' first | exact trivial | (refine And.intro ?_ ?_) | exact rfl | (rw [e1]; exact rfl) | (rw [e1]; show _ = some (Value.slice _ (List.set _ _ _).length _); rw [List.length_set]; exact rfl))
 obtain rfl : k = c.lat.2.2.length := by omega
 have hgm : ∀ g ∈ c.gates.2.2, g.1 ∈ c.t.own /\ g.2.1 ∈ c.t.used /\ g.2.2 ∈ c.t.used := fun g hg =>
  ⟨List.mem_append.2 (.inr (List.mem_map.2 ⟨g, hg, rfl⟩)), List.mem_append.2 (.inr (List.mem_flatMap.2 ⟨g, hg, by simp⟩)), List.mem_append.2 (.inr (List.mem_flatMap.2 ⟨g, hg, by simp⟩))⟩
 have hok : gsOk c.gates.2.2 := fun g hg => by
  obtain ⟨r1, r2, r3⟩ := hgm g hg
  have := hown _ r1
  have := hused _ r2
  have := hused _ r3
  omega
 have hcells2 := hcells.ext hX2
 repeat' (first | (apply W.cKF; exact rfl; exact dFf (by omega)) | (apply WL.call (f := 103); (iterate 4 exact rfl); exact ref11_Order c _ (Rg.ext extA) hok (by omega); rintro v' wd ⟨hxd, ad, cd, rfl, hOd⟩) | (first | apply WL.nil | (refine WL.au (k := ?_))) | (first | apply Z.tn | apply Z.tnx | apply Z.bkx) | (first | apply W.seq | apply W.region | apply W.block | apply W.exit))
 have hS := hS.newRow' hxd hOd (Below.size hX2)
 have hXd : Ext wc wd := extA
 have e30 : cS3 c.t 0 = cS2 c.t c.lat.2.2.length := cS3_0 c.t
 have hnl : (natI (ordL c.gates.2.2)).length = (ordL c.gates.2.2).length := by simp [natI]
 refine W.loopO2 (ordL c.gates.2.2).length (fun k a cp d dp w' => k <= (ordL c.gates.2.2).length /\ Ext wc w' /\ Lt.Sep wc.heap.size w' [prow 1 encI 3 wc.heap.size ad cd (natI (ordL c.gates.2.2)), prow 1 encI 3 wc.heap.size d dp (cS3 c.t k).2, prow 2 encN 105 wc.heap.size a cp (cS3 c.t k).1]) (fun k a cp d dp => [(1, .pointer (some ⟨gc, 0, none⟩)), (4, .slice a (cS3 c.t k).1.length cp), (5, .slice d (cS3 c.t k).2.length dp), (9, .slice ad (natI (ordL c.gates.2.2)).length cd), (10, .int .i64 k)]) a cp d dp ⟨Nat.zero_le _, hXd, by rw [e30]; exact hS⟩ (fun k a cp d dp w' h => h.1) (by rw [e30]; exact ⟨rfl, rfl, rfl, rfl, rfl, trivial⟩) ?_
 have hol : (ordL c.gates.2.2).length <= c.gates.2.2.length := (ordL_is c.gates.2.2).1.le
 clear hS hR0 hR1 hX2 hl1 hk hXd
 rintro k a cp d dp w2 ⟨hk, hX2, hS⟩
 have hR0 := hS.row (i := 0) rfl
 have hR1 := hS.row (i := 1) rfl
 have hR2 := hS.row (i := 2) rfl
 have RO := Own.row eIk hR0
 have hl1 : (cS3 c.t k).1.length = c.ins.2.2.length + c.lat.2.2.length + k /\ (cS3 c.t k).2.length = c.max.toNat + 1 := cS3_len c.t hk
 by_cases hlt : k < (ordL c.gates.2.2).length
 ·obtain ⟨i, hi⟩ := getI (ordL c.gates.2.2) hlt
  obtain ⟨g, za, zb, hgg, hza, hzb, ka, kb⟩ := cS3_get hg (c := c.t) hi
  have hgg : c.gates.2.2[i]? = some g := hgg
  have hgo := hok g (List.mem_of_getElem? hgg)
  have hgw := hown g.1 (hgm g (List.mem_of_getElem? hgg)).1
  have hgl := lGt hgg
  have hni : (natI (ordL c.gates.2.2))[k]? = some (i : Int) := by rw [natI, List.getElem?_map, hi]; rfl
  obtain ⟨yv, hgy⟩ := getI (cS3 c.t k).2 (show (g.1 / 2).toNat < _ by omega)
  have e1 : cS3 c.t (k + 1) = cput (cS3 c.t k) g.1 (litI (cS3 c.t k).2 g.2.1, litI (cS3 c.t k).2 g.2.2) := by rw [cS3_s (c := c.t) hi]; unfold cGate; rw [gAt_of hgg]
  have le3 : ((cS3 c.t k).1 ++ [(litI (cS3 c.t k).2 g.2.1, litI (cS3 c.t k).2 g.2.2)]).length = c.ins.2.2.length + c.lat.2.2.length + k + 1 := by rw [List.length_append, hl1.1]; rfl
  have le5 : 2 * (((cS3 c.t k).1 ++ [(litI (cS3 c.t k).2 g.2.1, litI (cS3 c.t k).2 g.2.2)]).length : Int) = 2 * (((cS3 c.t k).1.length : Int) + 1) := by rw [le3, hl1.1]; rfl
  have y6w : w2.cell? ⟨gc, 0 + 1 + 1 + 1 + 1 + 1 + 1, none⟩ = some (rowVal c.gates) := (hcells.ext hX2).2.2.2.2.2.2.1
  have Rg2 := Rg.ext hX2
  repeat' (first | (apply W.cKT; exact rfl; exact dTt (by omega)) | (show W _ _ (.region 20 _ _) _ _ _; apply W.regionGX (.fl true 0 (.fl true 2 (.fl true 3 (.fl true 4 (.fl false 1 (.fl false 5 (.fl true 6 (.fl false 7 (.br 8 (.br 9 .done .stop) .stop))))))))) [5, 7, 8] tMix; kernel_rfl) | (apply WL.alloc tOk; (iterate 3 exact rfl); intro gb w' hb hge hx; replace hS := Sep.newCell (Sep.ext hS extA) hx hb hge (by (exact Below.size extA)); (try simp only [List.set_cons_zero, List.set_cons_succ] at hS); (try have hR1 := hS.row (i := 1) rfl); (try have hR2 := hS.row (i := 2) rfl); (try have hR3 := hS.row (i := 3) rfl); (try have hC0 := hS.cell (i := 0) rfl); (try have hD0 := (cHp hC0).1); (try have hE0 := (cHp hC0).2.1); (try have hF0 := (cHp hC0).2.2.1)) | (apply WL.storeB (w0 := wc) tOk; (iterate 4 exact rfl); assumption; exact extA; (iterate 3 exact rfl); exact extA; ((focus (apply Nat.le_trans; rotate_left; assumption; exact Below.size extA; done))); intro w' hb hc hX' hU; have hcc := hc; obtain ⟨h1, h2, _⟩ := hc; replace hS := Sep.uCl (i := 0) rfl hU hb hS extA (by (exact Below.size extA)); (try simp only [List.set_cons_zero, List.set_cons_succ] at hS); (try have hR1 := hS.row (i := 1) rfl); (try have hR2 := hS.row (i := 2) rfl); (try have hR3 := hS.row (i := 3) rfl); (try have hC0 := hS.cell (i := 0) rfl); (try have hD0 := (cHp hC0).1); (try have hE0 := (cHp hC0).2.1); (try have hF0 := (cHp hC0).2.2.1)) | (first | (apply SX.done; intro w' hx) | (apply SX.fl0; exact rfl) | (apply SX.fl1; exact rfl; exact extA) | (apply SX.br1; exact rfl; intro w' hx)) | (first | apply FL.nilX | (apply FL.loadE tOk; (iterate 5 exact rfl); assumption) | (apply FL.loadAE tOk; (iterate 5 exact rfl); assumption; exact rfl) | (apply FL.indexE tOk; (iterate 8 exact rfl); assumption; exact rfl; omega; assumption; intro b off h; have hcc := h; first | (obtain ⟨h1, h2, h3, h4, h5, h6, _⟩ := h) | (obtain ⟨h1, h2, h3, _⟩ := h) | (obtain ⟨h1, h2, _⟩ := h) | (obtain ⟨h1, _⟩ := h))) | refine FL.au (k := ?_) | (first | (apply Z.sxL; exact rfl) | (apply Z.sxE; exact extA)) | (first | apply WL.nil | (refine WL.au (k := ?_))) | apply Z.tn | (first | apply W.seq | apply W.region | apply W.block | apply W.skip))
  replace hS := hS.ext hx
  (try simp only [List.set_cons_zero, List.set_cons_succ] at hS); (try have hR1 := hS.row (i := 1) rfl); (try have hR2 := hS.row (i := 2) rfl); (try have hR3 := hS.row (i := 3) rfl); (try have hC0 := hS.cell (i := 0) rfl); (try have hD0 := (cHp hC0).1); (try have hE0 := (cHp hC0).2.1); (try have hF0 := (cHp hC0).2.2.1)
  obtain ⟨w3, rfl⟩ : ∃ x, x = w' := ⟨_, rfl⟩
  have hX3 : Ext wc w3 := extA
  repeat' (first | (apply FL.build tOk; (iterate 7 exact rfl); kernel_rfl) | (show W _ _ (.region 21 _ _) _ _ _; apply W.regionGB (.fl true 0 (.fl true 1 (.fl true 2 (.fl true 5 (.fl true 6 (.br 3 (.br 4 (.br 7 (.br 8 (.fl true 9 (.br 10 (.br 11 (.fl true 12 .done) .stop) .stop)) .stop) .stop) (.br 7 (.br 4 (.br 8 (.fl true 9 (.br 10 (.br 11 (.fl true 12 .done) .stop) .stop)) .stop) .stop) .stop)) (.br 7 (.br 3 (.br 4 (.br 8 (.fl true 9 (.br 10 (.br 11 (.fl true 12 .done) .stop) .stop)) .stop) .stop) .stop) .stop))))))) [] (none) tMix; kernel_rfl) | (apply WL.callS (f := 117); (iterate 4 exact rfl); exact ref11_lit _ _ (cS3 c.t k).2 g.2.1 _ _ ((Own.row eIk hR2).ext extA) (by omega) (by omega) hza (by omega)) | (apply WL.callS (f := 117); (iterate 4 exact rfl); exact ref11_lit _ _ (cS3 c.t k).2 g.2.2 _ _ ((Own.row eIk hR2).ext extA) (by omega) (by omega) hzb (by omega)) | (apply WL.lit tOk; (iterate 6 exact rfl); kernel_rfl; exact rfl; intro gb w' hb hge hc hx) | (apply WL.ap1 (z := ((litI (cS3 c.t k).2 g.2.1, litI (cS3 c.t k).2 g.2.2))) tOk encN_ok; (iterate 10 exact rfl); assumption; exact extA; exact rfl; assumption; exact rfl; exact rfl; exact extA; omega; intro a2 cp2 w' hO hX' hU hF; (replace hS := Sep.uRw (i := 3) rfl hU hO hF hS extA (by (exact Below.size extA))); (try simp only [List.set_cons_zero, List.set_cons_succ] at hS); (try have hR1 := hS.row (i := 1) rfl); (try have hR2 := hS.row (i := 2) rfl); (try have hR3 := hS.row (i := 3) rfl); (try have hC0 := hS.cell (i := 0) rfl); (try have hD0 := (cHp hC0).1); (try have hE0 := (cHp hC0).2.1); (try have hF0 := (cHp hC0).2.2.1)) | (apply WL.storeO (z' := (2 * (((cS3 c.t k).1 ++ [(litI (cS3 c.t k).2 g.2.1, litI (cS3 c.t k).2 g.2.2)]).length : Int))) tOk; (iterate 4 exact rfl); assumption; exact extA; (iterate 3 exact rfl); exact eIk; assumption; exact rfl; exact extA; intro w' hO hX' hU; (replace hS := Sep.uRw (i := 2) rfl hU hO (.inl rfl) hS extA (by (exact Below.size extA))); (try simp only [List.set_cons_zero, List.set_cons_succ] at hS); (try have hR1 := hS.row (i := 1) rfl); (try have hR2 := hS.row (i := 2) rfl); (try have hR3 := hS.row (i := 3) rfl); (try have hC0 := hS.cell (i := 0) rfl); (try have hD0 := (cHp hC0).1); (try have hE0 := (cHp hC0).2.1); (try have hF0 := (cHp hC0).2.2.1)) | (apply WL.indexO tOk; (iterate 8 exact rfl); assumption; exact extA; exact eIk; exact rfl; omega; assumption; intro gb ha hc; cases ha; have hcc := hc; first | (obtain ⟨h1, h2, h3, _⟩ := hc) | (obtain ⟨h1, h2, _⟩ := hc) | (obtain ⟨h1, _⟩ := hc)) | (first | apply WL.nil | (refine WL.au (k := ?_))) | (first | apply SG.done | (apply SG.fl0; exact rfl) | (apply SG.br1; exact rfl) | (apply SG.br; exact rfl)) | (first | apply FL.nilS | (refine FL.au (k := ?_))) | (apply Z.sgL; exact rfl) | (first | apply Z.tn | apply Z.bkn) | apply W.region)
  all_goals
   rw [le5] at hS
   exact Z.againO2 a2 cp2 (some ⟨gb, 0, none⟩) dp ⟨by omega, extA, by rw [e1]; exact hS.drop 1⟩ (by repeat' first | exact trivial | (refine And.intro ?_ ?_) | exact rfl | (rw [e1]; exact rfl) | (rw [e1]; show _ = some (Value.slice _ (List.set _ _ _).length _); rw [List.length_set]; exact rfl))
 obtain rfl : k = (ordL c.gates.2.2).length := by omega
 repeat' (first | (apply W.cKF; exact rfl; exact dFf (by omega)) | (first | apply WL.nil | (refine WL.au (k := ?_))) | (first | apply Z.tn | apply Z.tnx | apply Z.bkx) | (first | apply W.seq | apply W.region | apply W.ret | apply W.exit))
 have e39 : cS3 c.t (ordL c.gates.2.2).length = cNet c.t := cS3_all c.t
 rw [e39] at hR1 hR2
 have hwc := Below.size hxc
 exact Z.body2 Try.results63 rfl rfl fun m => ⟨Ext.at extA m, a, cp, d, dp, by rw [e39], (hR2.base hwc).ext ((Ext.refl _).at m), (hR1.base hwc).ext ((Ext.refl _).at m)⟩

def brV (l : List Bool) (m : Nat) : List Bool := (List.range m).map fun i => l.getD i false
theorem brV_len (l : List Bool) (m : Nat) : (brV l m).length = m := by simp [brV]
theorem brV_get (l : List Bool) {m i : Nat} (h : i < m) : (brV l m)[i]? = some (l.getD i false) := by
 unfold brV; rw [List.getElem?_map, List.getElem?_range h]; rfl
theorem brV_succ (l : List Bool) (m : Nat) : brV l (m + 1) = brV l m ++ [l.getD m false] := by
 unfold brV; rw [List.range_succ, List.map_append]; rfl
theorem brV_self (l : List Bool) : brV l l.length = l := by
 apply List.ext_getElem?
 intro i
 by_cases h : i < l.length
 ·rw [brV_get l h, List.getD, List.getElem?_eq_getElem h]; rfl
 ·rw [List.getElem?_eq_none (by rw [brV_len]; omega), List.getElem?_eq_none (by omega)]
noncomputable def insV (c : CirT) (s i : List Bool) : List Bool := brV i c.ins.length ++ brV s c.lat.length
noncomputable def stepV (c : CirT) (s i : List Bool) : List Bool := values (cNet c).1 (insV c s i)
noncomputable def litV (c : CirT) (s i : List Bool) (l : Int) : Bool := ofL (stepV c s i) (litI (cNet c).2 l)
noncomputable def nextV (c : CirT) (s i : List Bool) : List Bool := c.lat.map fun x => litV c s i x.2.1
theorem nextV_len (c : CirT) (s i : List Bool) : (nextV c s i).length = c.lat.length := by simp [nextV]
def StartsP (c : CirT) (s : List Bool) : Prop := s.length = c.lat.length /\ ∀ (k : Nat) x b, c.lat[k]? = some x -> s[k]? = some b -> ¬ (x.2.2 = 0 /\ b = true) /\ ¬ (x.2.2 = 1 /\ b = false)
def HoldsP (c : CirT) (s i : List Bool) : Prop := ∀ l ∈ c.cons, litV c s i l = true
def BadP (c : CirT) (s i : List Bool) (p : Int) : Prop := 0 <= p /\ ∃ l, c.bads[p.toNat]? = some l /\ litV c s i l = true
noncomputable def stateV (c : CirT) (s : List Bool) (r : List (List Bool)) : Nat -> List Bool
 | 0 => brV s c.lat.length
 | k + 1 => nextV c (stateV c s r k) (r.getD k [])
theorem stateV_len (c : CirT) (s : List Bool) (r : List (List Bool)) : ∀ k, (stateV c s r k).length = c.lat.length
 | 0 => brV_len _ _
 | _ + 1 => nextV_len _ _ _
noncomputable def statesV (c : CirT) (s : List Bool) (r : List (List Bool)) : List (List Bool) := (List.range r.length).map (stateV c s r)
theorem statesV_len (c : CirT) (s : List Bool) (r : List (List Bool)) : (statesV c s r).length = r.length := by simp [statesV]
theorem statesV_get (c : CirT) (s : List Bool) (r : List (List Bool)) {k : Nat} (h : k < r.length) : (statesV c s r)[k]? = some (stateV c s r k) := by
 unfold statesV; rw [List.getElem?_map, List.getElem?_range h]; rfl
theorem net_lit {c : CirT} (h : GoodC' c) {l : Int} (hl : l ∈ c.used) : ∃ z, (cNet c).2[(l / 2).toNat]? = some z /\ 0 <= z /\ z % 2 = 0 /\ z <= 2 * ((cNet c).1.length : Int) := by
 have h0 := (cNet_ok h).1
 refine h0.ge ?_
 have h1 := h.used l hl
 rcases Int.lt_or_le 1 l with h2 | h2
 ·exact .inr ⟨_, seq_all h (h.has l hl h2), by omega⟩
 ·left; omega
theorem litI_range {c : CirT} (h : GoodC' c) {l : Int} (hl : l ∈ c.used) : 0 <= litI (cNet c).2 l /\ litI (cNet c).2 l <= 2 * ((cNet c).1.length : Int) + 1 := by
 obtain ⟨z, h1, h2, h3, h4⟩ := net_lit h hl
 rw [litI_some h1]
 unfold xorI Lt.xor1
 split <;> (try split) <;> omega
theorem litV_ref {A : List Int} {V : List Bool} {l z : Int} (h1 : A[(l / 2).toNat]? = some z) (h2 : 0 <= z) : (ofL V z != decide (l % 2 = 1)) = ofL V (litI A l) := by
 rw [litI_some h1]
 unfold xorI
 by_cases h : l % 2 = 1
 ·rw [if_pos h, ofL_xor1 _ h2, decide_eq_true h]; simp
 ·rw [if_neg h, decide_eq_false h]; simp
theorem used_next {c : CirT} {x : T3} (h : x ∈ c.lat) : x.2.1 ∈ c.used := List.mem_append_left _ (List.mem_append_right _ (List.mem_map.2 ⟨x, h, rfl⟩))
theorem used_bad {c : CirT} {l : Int} (h : l ∈ c.bads) : l ∈ c.used := List.mem_append_left _ (List.mem_append_left _ (List.mem_append_left _ (List.mem_append_right _ h)))
theorem used_con {c : CirT} {l : Int} (h : l ∈ c.cons) : l ∈ c.used := List.mem_append_left _ (List.mem_append_left _ (List.mem_append_right _ h))
theorem net_len {c : CirT} (h : GoodC' c) (hz : SzC c 100000) : (cNet c).1.length <= 300000 := by
 rw [(cNet_ok h).1.len1]
 have h2 := (ordL_is c.gates).1.le
 obtain ⟨z1, z2, z3, z4, z5, z6⟩ := hz
 show (c.ins ++ c.lat.map (·.1) ++ (ordL c.gates).map (fun i => (gAt c.gates i).1)).length <= _
 simp; omega

structure OnlyG (m : Nat) (N : List (Int × Int)) : Prop where
 le : m <= N.length
 inp : ∀ i x, N[i]? = some x -> i < m -> x = (-1, 0)
 gate : ∀ i x, N[i]? = some x -> m <= i -> 0 <= x.1
theorem OnlyG.start (m : Nat) : OnlyG m (List.replicate m (-1, 0)) := by
 refine ⟨by simp, fun i x h hm => ?_, fun i x h hm => ?_⟩
 ·rw [List.getElem?_replicate, if_pos hm] at h
  exact (Option.some.inj h).symm
 ·have := lGt h; simp at this; omega
def evenL (a n : Nat) : List Int := (List.range n).map fun i => 2 * (((a + i : Nat) : Int) + 1)
theorem evenL_len (a n : Nat) : (evenL a n).length = n := by simp [evenL]
theorem evenL_get (a n : Nat) {i : Nat} (h : i < n) : (evenL a n)[i]? = some (2 * (((a + i : Nat) : Int) + 1)) := by
 unfold evenL; rw [List.getElem?_map, List.getElem?_range h]; rfl
theorem evenL_succ (a n : Nat) : evenL a (n + 1) = evenL a n ++ [2 * (((a + n : Nat) : Int) + 1)] := by
 unfold evenL; rw [List.range_succ, List.map_append]; rfl
theorem evenL_app (a n m : Nat) : evenL a n ++ evenL (a + n) m = evenL a (n + m) := by
 induction m with
 | zero => simp [evenL]
 | succ m ih => rw [evenL_succ, <- List.append_assoc, ih, show n + (m + 1) = (n + m) + 1 by omega, evenL_succ, Nat.add_assoc]
theorem evenL_mem {a n : Nat} {x : Int} : x ∈ evenL a n ↔ x % 2 = 0 /\ 2 * ((a : Int) + 1) <= x /\ x <= 2 * ((a : Int) + n) := by
 unfold evenL
 rw [List.mem_map]
 constructor
 ·rintro ⟨i, hi, rfl⟩
  have := List.mem_range.1 hi
  omega
 ·rintro ⟨h1, h2, h3⟩
  exact ⟨(x / 2 - 1 - a).toNat, List.mem_range.2 (by omega), by omega⟩
theorem evenL_nodup (a n : Nat) : (evenL a n).Nodup := by
 unfold evenL
 rw [List.nodup_iff_pairwise_ne, List.pairwise_map]
 refine (List.nodup_iff_pairwise_ne.1 (List.nodup_range (n := n))).imp fun h he => h (by omega)
def gateG (i : Nat) (x : Int × Int) : T3 := (2 * ((i : Int) + 1), max x.1 x.2, min x.1 x.2)
def gatesG (N : List (Int × Int)) (m k : Nat) : List T3 := (List.range k).map fun i => gateG (m + i) (N.getD (m + i) (0, 0))
def latsG (a : Nat) (next reset : List Int) : List T3 := (List.range next.length).map fun i => (2 * (((a + i : Nat) : Int) + 1), next.getD i 0, reset.getD i 0)
theorem gatesG_len (N : List (Int × Int)) (m k : Nat) : (gatesG N m k).length = k := by simp [gatesG]
theorem latsG_len (a : Nat) (next reset : List Int) : (latsG a next reset).length = next.length := by simp [latsG]
theorem gatesG_get {N : List (Int × Int)} {m k i : Nat} {x : Int × Int} (h : i < k) (hx : N[m + i]? = some x) : (gatesG N m k)[i]? = some (gateG (m + i) x) := by
 unfold gatesG; rw [List.getElem?_map, List.getElem?_range h]; show some (gateG _ (N.getD _ _)) = _; rw [gDo hx]
theorem latsG_get {a : Nat} {next reset : List Int} {i : Nat} (h : i < next.length) : (latsG a next reset)[i]? = some (2 * (((a + i : Nat) : Int) + 1), next.getD i 0, reset.getD i 0) := by
 unfold latsG; rw [List.getElem?_map, List.getElem?_range h]; rfl
theorem latsG_fst (a : Nat) (next reset : List Int) : (latsG a next reset).map (·.1) = evenL a next.length := by
 unfold latsG evenL; rw [List.map_map]; rfl
theorem gatesG_fst (N : List (Int × Int)) (m k : Nat) : (gatesG N m k).map (·.1) = evenL m k := by
 unfold gatesG evenL; rw [List.map_map]; rfl
structure Rest where
 outs : List Int
 bads : List Int
 cons : List Int
 syms : List Sy
 com : ByteArray
def genC (nin : Nat) (next reset : List Int) (bad : Rest) (N : List (Int × Int)) : CirT :=
 ⟨N.length, evenL 0 nin, latsG nin next reset, bad.outs, bad.bads, bad.cons, gatesG N (nin + next.length) (N.length - (nin + next.length)), bad.syms, bad.com⟩
structure GenOk (nin : Nat) (next reset : List Int) (bad : Rest) (N : List (Int × Int)) : Prop where
 good : GNt N
 only : OnlyG (nin + next.length) N
 len : N.length <= 16777216
 nexts : ∀ z ∈ next, hasL N z
 resets : ∀ i, i < next.length -> reset.getD i 0 = 0 ∨ reset.getD i 0 = 1 ∨ reset.getD i 0 = 2 * (((nin + i : Nat) : Int) + 1)
 outs : ∀ z ∈ bad.outs, hasL N z
 bads : ∀ z ∈ bad.bads, hasL N z
 cons : ∀ z ∈ bad.cons, hasL N z
section
variable {nin : Nat} {next reset : List Int} {bad : Rest} {N : List (Int × Int)}
theorem genC_own (h : GenOk nin next reset bad N) : (genC nin next reset bad N).own = evenL 0 N.length := by
 show evenL 0 nin ++ (latsG nin next reset).map (·.1) ++ (gatesG N (nin + next.length) (N.length - (nin + next.length))).map (·.1) = _
 have e1 := evenL_app 0 nin next.length
 rw [Nat.zero_add] at e1
 have e2 := evenL_app 0 (nin + next.length) (N.length - (nin + next.length))
 rw [Nat.zero_add] at e2
 rw [latsG_fst, gatesG_fst, e1, e2]
 have := h.only.le
 rw [show nin + next.length + (N.length - (nin + next.length)) = N.length by omega]
theorem genC_gate (h : GenOk nin next reset bad N) {i : Nat} {g : T3} (hi : (genC nin next reset bad N).gates[i]? = some g) : ∃ x, N[nin + next.length + i]? = some x /\ (0 <= x.1 /\ 0 <= x.2) /\ x.1 / 2 <= ((nin + next.length + i : Nat) : Int) /\ x.2 / 2 <= ((nin + next.length + i : Nat) : Int) /\ g = (2 * (((nin + next.length + i : Nat) : Int) + 1), max x.1 x.2, min x.1 x.2) := by
 have hl := lGt hi
 have hl' : i < N.length - (nin + next.length) := by have : (genC nin next reset bad N).gates.length = _ := gatesG_len N _ _; omega
 obtain ⟨x, hx⟩ := getI N (show nin + next.length + i < N.length by omega)
 have h0 := h.only.gate _ _ hx (by omega)
 have hgt := h.good.gate hx h0
 have e : (genC nin next reset bad N).gates[i]? = some (gateG (nin + next.length + i) x) := gatesG_get hl' hx
 rw [e] at hi; cases hi
 exact ⟨x, hx, ⟨h0, hgt.2.1⟩, by omega, by omega, rfl⟩
theorem genC_used (h : GenOk nin next reset bad N) {x : Int} (hx : x ∈ (genC nin next reset bad N).used) : hasL N x := by
 rcases List.mem_append.1 hx with hx | hx
 ·rcases List.mem_append.1 hx with hx | hx
  ·rcases List.mem_append.1 hx with hx | hx
   ·rcases List.mem_append.1 hx with hx | hx
    ·exact h.outs x hx
    ·exact h.bads x hx
   ·exact h.cons x hx
  ·obtain ⟨y, hy, rfl⟩ := List.mem_map.1 hx
   obtain ⟨i, hi⟩ := List.mem_iff_getElem?.1 hy
   have hl := lGt hi
   have hl' : i < next.length := by have : (genC nin next reset bad N).lat.length = _ := latsG_len nin next reset; omega
   have e : (genC nin next reset bad N).lat[i]? = _ := latsG_get (a := nin) (reset := reset) hl'
   rw [e] at hi; cases hi
   obtain ⟨z, hz⟩ := getI next hl'
   show hasL N (next.getD i 0)
   rw [gDo hz]; exact h.nexts z (List.mem_of_getElem? hz)
 ·obtain ⟨g, hg, hm⟩ := List.mem_flatMap.1 hx
  obtain ⟨i, hi⟩ := List.mem_iff_getElem?.1 hg
  obtain ⟨y, hy, y1, y2, y3, rfl⟩ := genC_gate h hi
  have hlt := lGt hy
  simp only [List.mem_cons, List.not_mem_nil, or_false] at hm
  unfold hasL
  rcases hm with rfl | rfl <;> omega
theorem genC_ordIs (h : GenOk nin next reset bad N) : IsOrd (genC nin next reset bad N).gates (List.range (genC nin next reset bad N).gates.length) := by
 have hfst : ∀ (j : Nat) (x : G3), (genC nin next reset bad N).gates[j]? = some x -> x.1 / 2 = ((nin + next.length + j : Nat) : Int) + 1 := fun j x hj => by
  obtain ⟨y, _, _, _, _, rfl⟩ := genC_gate h hj
  show (2 * (((nin + next.length + j : Nat) : Int) + 1)) / 2 = _
  omega
 refine ⟨fun k i hk => ?_, fun i hi => ?_⟩
 ·have hkl := lGt hk
  rw [List.length_range] at hkl
  rw [List.getElem?_range hkl] at hk
  cases hk
  have ht : (List.range (genC nin next reset bad N).gates.length).take k = List.range k := by rw [List.take_range, Nat.min_eq_left (by omega)]
  rw [ht]
  refine ⟨?_, fun j hj => ?_⟩
  ·obtain ⟨g, hg⟩ := getI (genC nin next reset bad N).gates hkl
   refine ⟨g, hg, by simp, fun j x hj hn => ?_⟩
   obtain ⟨y, hy, y1, y2, y3, rfl⟩ := genC_gate h hg
   have h1 := hfst j x hj
   have h2 : ¬ j < k := fun hh => hn (List.mem_range.2 hh)
   dsimp only
   omega
  ·obtain ⟨_, _, hn, _⟩ := hj
   exact Nat.le_of_not_lt fun hh => hn (List.mem_range.2 hh)
 ·obtain ⟨g, hg, hn, _⟩ := hi
  exact hn (List.mem_range.2 (lGt hg))
theorem genC_ord (h : GenOk nin next reset bad N) : ordL (genC nin next reset bad N).gates = List.range (genC nin next reset bad N).gates.length := (genC_ordIs h).ord.symm
theorem genC_good (h : GenOk nin next reset bad N) : GoodC' (genC nin next reset bad N) := by
 have hl := h.len
 refine ⟨?_, fun x hx => ?_, fun x hx => ?_, fun x hx => ?_, ?_, fun x hx h1 => ?_, ?_⟩
 ·show 0 <= (N.length : Int) /\ (N.length : Int) <= 16777216; omega
 ·rw [genC_own h, evenL_mem] at hx
  show 2 <= x /\ x % 2 = 0 /\ x <= 2 * (N.length : Int)
  omega
 ·have := genC_used h hx
  show 0 <= x /\ x <= 2 * (N.length : Int) + 1
  unfold hasL at this; omega
 ·obtain ⟨i, hi⟩ := List.mem_iff_getElem?.1 hx
  have hl := lGt hi
  have hl' : i < next.length := by have : (genC nin next reset bad N).lat.length = _ := latsG_len nin next reset; omega
  have e : (genC nin next reset bad N).lat[i]? = _ := latsG_get (a := nin) (reset := reset) hl'
  rw [e] at hi; cases hi
  exact h.resets i hl'
 ·rw [genC_own h]; exact evenL_nodup _ _
 ·have := genC_used h hx
  rw [genC_own h, evenL_mem]
  unfold hasL at this; omega
 ·rw [genC_ord h, List.length_range]
def sw (x : Int × Int) : Int × Int := if 0 <= x.1 then (max x.1 x.2, min x.1 x.2) else x
theorem cIn_fst (ls : List Int) : ∀ s : NA, (cIn s ls).1 = s.1 ++ List.replicate ls.length (-1, 0) := by
 induction ls with
 | nil => intro s; simp [cIn]
 | cons l ls ih =>
  intro s
  show (cIn (cput s l (-1, 0)) ls).1 = _
  rw [ih]; show (s.1 ++ [(-1, 0)]) ++ _ = _
  simp [List.replicate_succ]
theorem genC_seq (h : GenOk nin next reset bad N) {k : Nat} (hk : k <= (genC nin next reset bad N).gates.length) : (genC nin next reset bad N).inl ++ ((ordL (genC nin next reset bad N).gates).take k).map (fun i => (gAt (genC nin next reset bad N).gates i).1) = evenL 0 (nin + next.length + k) := by
 have e0 : (genC nin next reset bad N).inl = evenL 0 (nin + next.length) := by
  show evenL 0 nin ++ (latsG nin next reset).map (·.1) = _
  have e1 := evenL_app 0 nin next.length
  rw [Nat.zero_add] at e1
  rw [latsG_fst, e1]
 have e1 := evenL_app 0 (nin + next.length) k
 rw [Nat.zero_add] at e1
 rw [e0, <- e1, genC_ord h, List.take_range, Nat.min_eq_left hk]
 congr 1
 unfold evenL
 refine List.map_congr_left fun i hi => ?_
 obtain ⟨g, hg⟩ := getI (genC nin next reset bad N).gates (show i < _ by have := List.mem_range.1 hi; omega)
 obtain ⟨y, _, _, _, _, rfl⟩ := genC_gate h hg
 rw [gAt_of hg]
theorem genC_at (h : GenOk nin next reset bad N) {k : Nat} (hk : k <= (genC nin next reset bad N).gates.length) {l : Int} (hl : 0 <= l /\ l / 2 <= ((nin + next.length + k : Nat) : Int)) : litI (cGates (genC nin next reset bad N).gates (cIn ([], cAt0 (genC nin next reset bad N).max) (genC nin next reset bad N).inl) ((ordL (genC nin next reset bad N).gates).take k)).2 l = l := by
 have hp := (net_to (genC_good h) k (by rw [genC_ord h, List.length_range]; exact hk)).1
 rw [genC_seq h hk] at hp
 have hz : (cGates (genC nin next reset bad N).gates (cIn ([], cAt0 (genC nin next reset bad N).max) (genC nin next reset bad N).inl) ((ordL (genC nin next reset bad N).gates).take k)).2[(l / 2).toNat]? = some (2 * (l / 2)) := by
  by_cases h0 : l / 2 = 0
  ·rw [h0]; exact hp.zero
  ·have := hp.has ((l / 2).toNat - 1) _ (evenL_get 0 _ (show (l / 2).toNat - 1 < nin + next.length + k by omega))
   rw [show ((2 * (((0 + ((l / 2).toNat - 1) : Nat) : Int) + 1)) / 2).toNat = (l / 2).toNat by omega] at this
   rw [this]; congr 1; omega
 rw [litI_some hz]
 unfold xorI Lt.xor1
 split
 ·rw [if_pos (by omega)]; omega
 ·omega
theorem genC_to (h : GenOk nin next reset bad N) : ∀ k, k <= (genC nin next reset bad N).gates.length ->
  (cGates (genC nin next reset bad N).gates (cIn ([], cAt0 (genC nin next reset bad N).max) (genC nin next reset bad N).inl) ((ordL (genC nin next reset bad N).gates).take k)).1 = (N.take (nin + next.length + k)).map sw
 | 0, _ => by
  have e0 : (genC nin next reset bad N).inl.length = nin + next.length := by
   show (evenL 0 nin ++ (latsG nin next reset).map (·.1)).length = _
   rw [List.length_append, evenL_len, List.length_map, latsG_len]
  show (cIn ([], cAt0 (genC nin next reset bad N).max) (genC nin next reset bad N).inl).1 = _
  rw [cIn_fst, e0, List.nil_append]
  apply List.ext_getElem?
  intro i
  have hle := h.only.le
  by_cases hi : i < nin + next.length
  ·obtain ⟨x, hx⟩ := getI N (show i < N.length by omega)
   have hx0 := h.only.inp i x hx hi
   rw [List.getElem?_replicate, if_pos hi, List.getElem?_map, List.getElem?_take, if_pos (by omega), hx, hx0]; rfl
  ·rw [List.getElem?_replicate, if_neg hi, List.getElem?_map, List.getElem?_take, if_neg (by omega)]; rfl
 | k + 1, hk => by
  have ih := genC_to h k (by omega)
  have ho : (ordL (genC nin next reset bad N).gates)[k]? = some k := by rw [genC_ord h, List.getElem?_range (by omega)]
  obtain ⟨g, hg⟩ := getI (genC nin next reset bad N).gates (show k < _ by omega)
  obtain ⟨y, hy, y1, y2, y3, hge⟩ := genC_gate h hg
  rw [tkS ho, cGates_snoc]
  unfold cGate cput
  rw [gAt_of hg, hge]
  show _ ++ [(litI _ (max y.1 y.2), litI _ (min y.1 y.2))] = _
  rw [genC_at h (by omega) (by omega), genC_at h (by omega) (by omega), ih, show nin + next.length + (k + 1) = (nin + next.length + k) + 1 by omega, tkS hy, List.map_append]
  congr 1
  show _ = [sw y]
  unfold sw; rw [if_pos (by omega)]
theorem genC_net (h : GenOk nin next reset bad N) : (cNet (genC nin next reset bad N)).1 = N.map sw /\ ∀ l, hasL N l -> litI (cNet (genC nin next reset bad N)).2 l = l := by
 have hlen : (genC nin next reset bad N).gates.length = N.length - (nin + next.length) := gatesG_len N _ _
 have hle := h.only.le
 have e : cNet (genC nin next reset bad N) = cGates (genC nin next reset bad N).gates (cIn ([], cAt0 (genC nin next reset bad N).max) (genC nin next reset bad N).inl) ((ordL (genC nin next reset bad N).gates).take (genC nin next reset bad N).gates.length) := by
  rw [List.take_of_length_le (by rw [genC_ord h, List.length_range]; exact Nat.le_refl _)]; rfl
 rw [e]
 refine ⟨?_, fun l hl => ?_⟩
 ·rw [genC_to h _ (Nat.le_refl _), List.take_of_length_le (by omega)]
 ·refine genC_at h (Nat.le_refl _) ?_
  unfold hasL at hl; omega
end
theorem vto_sw {N : List (Int × Int)} (hg : GNt N) (ins : List Bool) : ∀ k, k <= N.length -> vto (N.map sw) ins k = vto N ins k
 | 0, _ => rfl
 | k + 1, h => by
  obtain ⟨x, hx⟩ := getI N (show k < N.length by omega)
  have hx' : (N.map sw)[k]? = some (sw x) := by rw [List.getElem?_map, hx]; rfl
  rw [vto_succ ins hx, vto_succ ins hx', vto_sw hg ins k (by omega)]
  unfold vstep sw
  by_cases h0 : 0 <= x.1
  ·have h1 := (hg.gate hx h0).2.1
   rw [if_pos h0]
   rw [if_neg (show ¬ x.1 < 0 by omega), if_neg (show ¬ max x.1 x.2 < 0 by omega)]
   by_cases h2 : x.1 <= x.2
   ·rw [show max x.1 x.2 = x.2 by omega, show min x.1 x.2 = x.1 by omega]
    simp only [Bool.and_comm]
   ·rw [show max x.1 x.2 = x.1 by omega, show min x.1 x.2 = x.2 by omega]
  ·rw [if_neg h0]
theorem values_sw {N : List (Int × Int)} (hg : GNt N) (ins : List Bool) : values (N.map sw) ins = values N ins := by
 unfold values; rw [List.length_map, vto_sw hg ins _ (Nat.le_refl _)]
theorem genC_step {nin : Nat} {next reset : List Int} {bad : Rest} {N : List (Int × Int)} (h : GenOk nin next reset bad N) (s i : List Bool) : stepV (genC nin next reset bad N) s i = values N (brV i nin ++ brV s next.length) := by
 unfold stepV insV
 rw [(genC_net h).1, values_sw h.good]
 show values N (brV i (evenL 0 nin).length ++ brV s (latsG nin next reset).length) = _
 rw [evenL_len, latsG_len]
theorem genC_lit {nin : Nat} {next reset : List Int} {bad : Rest} {N : List (Int × Int)} (h : GenOk nin next reset bad N) (s i : List Bool) {l : Int} (hl : hasL N l) : litV (genC nin next reset bad N) s i l = ofL (values N (brV i nin ++ brV s next.length)) l := by
 unfold litV
 rw [genC_step h, (genC_net h).2 l hl]

def tin (ins : List Int) (c : Nat) : Int := val3 (ins.getD c 2)
noncomputable def tstep (ins : List Int) (s : List Int × Nat) (x : Int × Int) : List Int × Nat :=
 if 0 <= x.1 then (s.1 ++ [and3 (lit3 s.1 x.1) (lit3 s.1 x.2)], s.2) else (s.1 ++ [tin ins s.2], s.2 + 1)
noncomputable def tto (n : List (Int × Int)) (ins : List Int) (k : Nat) : List Int × Nat := (n.take k).foldl (tstep ins) ([0], 0)
noncomputable def tvals (n : List (Int × Int)) (ins : List Int) : List Int := (tto n ins n.length).1
theorem tto_succ {n : List (Int × Int)} {k : Nat} {x : Int × Int} (ins : List Int) (h : n[k]? = some x) : tto n ins (k + 1) = tstep ins (tto n ins k) x := by
 unfold tto; rw [tkS h, List.foldl_append]; rfl
theorem tto_len (n : List (Int × Int)) (ins : List Int) : ∀ k, k <= n.length -> (tto n ins k).1.length = k + 1 /\ (tto n ins k).2 <= k
 | 0, _ => by simp [tto]
 | k + 1, h => by
  obtain ⟨x, hx⟩ := getI n (show k < n.length by omega)
  have ih := tto_len n ins k (by omega)
  rw [tto_succ ins hx]; unfold tstep
  split <;> simp <;> omega

theorem tern_value (v : Int) (w : World) : Still Try.prog 131 [.int .i64 v] w (.int .i64 (val3 v)) := by
 refine Spec.of _ Try.func131 rfl Try.ntmps131 (by kernel_rfl) rfl ?_
 repeat' (first | (apply WL.callS (f := 135); (iterate 4 exact rfl); exact tri_Not _ _) | (first | apply WL.nil | (refine WL.au (k := ?_))) | apply Z.tn | (first | apply W.seq | apply W.region | apply W.ret))
 refine Z.bd1 Try.results131 rfl fun m => ⟨?_, m, rfl⟩
 congr 1; grind [not3, val3]

theorem tern_Eval (a b : Option Addr) (cap cb : Nat) (n : List (Int × Int)) (ins : List Int) (w : World) (R : Row 2 encN w a n) (Rb : Row 1 encI w b ins) (hcb : ins.length <= cb) (hg : GNt n) (hn : n.length <= 1048576) :
  Lt.Spec Try.prog 85 [.slice a n.length cap, .slice b ins.length cb] w (IsFresh 1 encI 3 w (tvals n ins)) := by
 have hlen := Rb.len
 refine Spec.of _ Try.func85 rfl Try.ntmps85 (by kernel_rfl) rfl ?_
 repeat' (first | (apply WL.makeC (w0 := w) (z := (0:Int)) tOk; (iterate 9 exact rfl); exact eIk; exact rfl; exact rfl; exact extA; omega; intro gb w' hO hge hx) | (first | apply WL.nil | (refine WL.au (k := ?_))) | apply Z.tn | (first | apply W.seq | apply W.region | apply W.block))
 refine W.loopO2 n.length (fun k c cp b dp w' => k <= n.length /\ Ext w w' /\ Own 1 encI 3 w.heap.size w' c cp (tto n ins k).1 /\ Row 1 encI w b (ins.drop (tto n ins k).2) /\ (ins.drop (tto n ins k).2).length <= dp)
  (fun k c cp b dp => [(0, .slice a n.length cap), (1, .slice b (ins.drop (tto n ins k).2).length dp), (5, .slice c (tto n ins k).1.length cp), (13, .slice a n.length cap), (14, .int .i64 n.length), (15, .int .i64 k)])
  (some ⟨gb, 0, none⟩) _ b cb ⟨by omega, hx, hO, Rb, hcb⟩ (fun k c cp b dp w' h => h.1) ⟨rfl, rfl, rfl, rfl, rfl, rfl, trivial⟩ ?_
 rintro k c cp ba dp w' ⟨hk, hx', hO', Rb', hdp⟩
 have hvl := tto_len n ins k hk
 by_cases hlt : k < n.length
 ·obtain ⟨x, hxn⟩ := getI n hlt
  have hs := tto_succ ins hxn
  by_cases hin : 0 <= x.1
  ·have hgt := hg.gate hxn hin
   have e2 : (tto n ins (k + 1)).2 = (tto n ins k).2 := by rw [hs, tstep, if_pos hin]
   have e1 : (tto n ins (k + 1)).1 = (tto n ins k).1 ++ [and3 (lit3 (tto n ins k).1 x.1) (lit3 (tto n ins k).1 x.2)] := by rw [hs, tstep, if_pos hin]
   repeat' (first | (apply W.cKT; exact rfl; (focus (exact dTt (by omega)))) | (apply WL.alloc tOk; (iterate 3 exact rfl); intro gb w' hb hge hx) | (apply WL.storeB (w0 := w) tOk; (iterate 4 exact rfl); assumption; exact extA; (iterate 3 exact rfl); exact extA; ((focus (apply Nat.le_trans; rotate_left; assumption; exact Below.size extA; done))); intro w' hb hc hX' hU; have hcc := hc; obtain ⟨h1, h2, _⟩ := hc; have hO3 := Upd.own hU (Own.ext hO' hx) (Own.blk_ne hO' hge)) | (apply QL.callS (f := 86); (iterate 4 exact rfl); exact tri_Lit _ _ (tto n ins k).1 x.1 _ (Own.row eIk (by assumption))) | (apply QL.callS (f := 86); (iterate 4 exact rfl); exact tri_Lit _ _ (tto n ins k).1 x.2 _ (Own.row eIk (by assumption))) | (apply QL.callS (f := 130); (iterate 4 exact rfl); exact tri_And _ _ _) | (apply WL.lit tOk; (iterate 6 exact rfl); kernel_rfl; exact rfl; intro gb w' hb hge hc hx) | (apply WL.ap1 (z := (and3 (lit3 (tto n ins k).1 x.1) (lit3 (tto n ins k).1 x.2))) tOk eIk; (iterate 10 exact rfl); assumption; exact extA; exact rfl; assumption; exact rfl; exact rfl; exact extA; omega; intro a' cap' w' hO hX' hU hF) | (first | apply WL.nil | (refine WL.au (k := ?_)) | (apply WL.index tOk; (iterate 8 exact rfl); assumption; exact extA; exact rfl; omega; assumption; intro b off h; have hcc := h; first | (obtain ⟨h1, h2, h3, h4, h5, h6, _⟩ := h) | (obtain ⟨h1, h2, h3, _⟩ := h) | (obtain ⟨h1, h2, _⟩ := h) | (obtain ⟨h1, _⟩ := h))) | (first | apply QL.nil | (refine QL.au (k := ?_))) | (first | apply Z.tn | apply Z.bkn) | (first | apply W.seq | apply W.region | apply W.block | apply W.skip | (apply W.rgD tMix; kernel_rfl)))
   exact Z.againO2 a' cap' ba dp ⟨by omega, hX', by rw [e1]; exact hO, by rw [e2]; exact Rb', by rw [e2]; exact hdp⟩ (by repeat' first | exact trivial | (refine And.intro ?_ ?_) | exact rfl | (rw [e1]; exact rfl) | (rw [e2]; exact rfl))
  ·have e2 : (tto n ins (k + 1)).2 = (tto n ins k).2 + 1 := by rw [hs, tstep, if_neg hin]
   have e1 : (tto n ins (k + 1)).1 = (tto n ins k).1 ++ [tin ins (tto n ins k).2] := by rw [hs, tstep, if_neg hin]
   by_cases hki : (tto n ins k).2 < ins.length
   ·obtain ⟨z, hz⟩ := getI ins hki
    have hz' : (ins.drop (tto n ins k).2)[0]? = some z := by rw [List.getElem?_drop]; exact hz
    have hdl : 0 < (ins.drop (tto n ins k).2).length := by rw [List.length_drop]; omega
    rw [tin, gDo hz] at e1
    have e3 : (ins.drop (tto n ins k).2).drop 1 = ins.drop (tto n ins (k + 1)).2 := by rw [e2, List.drop_drop]
    repeat' (first | (apply W.cKT; exact rfl; (focus (exact dTt (by omega)))) | (apply W.cKF; exact rfl; exact dFf (by omega)) | (apply WL.alloc tOk; (iterate 3 exact rfl); intro gb w' hb hge hx) | (apply WL.storeB (w0 := w) tOk; (iterate 4 exact rfl); assumption; exact extA; (iterate 3 exact rfl); exact extA; ((focus (apply Nat.le_trans; rotate_left; assumption; exact Below.size extA; done))); intro w' hb hc hX' hU; have hcc := hc; obtain ⟨h1, h2, _⟩ := hc; have hO3 := Upd.own hU (Own.ext hO' hx) (Own.blk_ne hO' hge)) | (apply QL.sliceL tOk; (iterate 8 exact rfl); assumption; exact rfl; assumption; omega; intro as' cs' hR hcs) | (apply QL.callS (f := 131); (iterate 4 exact rfl); exact tern_value _ _) | (apply WL.lit tOk; (iterate 6 exact rfl); kernel_rfl; exact rfl; intro gb w' hb hge hc hx) | (apply WL.ap1 (z := (val3 z)) tOk eIk; (iterate 10 exact rfl); assumption; exact extA; exact rfl; assumption; exact rfl; exact rfl; exact extA; omega; intro a' cap' w' hO hX' hU hF) | (first | apply WL.nil | (refine WL.au (k := ?_)) | (apply WL.index tOk; (iterate 8 exact rfl); assumption; exact extA; exact rfl; omega; assumption; intro b off h; have hcc := h; first | (obtain ⟨h1, h2, h3, h4, h5, h6, _⟩ := h) | (obtain ⟨h1, h2, h3, _⟩ := h) | (obtain ⟨h1, h2, _⟩ := h) | (obtain ⟨h1, _⟩ := h))) | (first | apply QL.nil | (refine QL.au (k := ?_)) | (apply QL.index tOk; (iterate 8 exact rfl); assumption; exact extA; exact rfl; omega; assumption; intro b off h; have hcc := h; first | (obtain ⟨h1, h2, h3, h4, h5, h6, _⟩ := h) | (obtain ⟨h1, h2, h3, _⟩ := h) | (obtain ⟨h1, h2, _⟩ := h) | (obtain ⟨h1, _⟩ := h))) | (first | apply Z.tn | apply Z.bkn) | (first | apply W.seq | apply W.region | apply W.block | apply W.skip | (apply W.rgD tMix; kernel_rfl)))
    exact Z.againO2 a' cap' as' cs' ⟨by omega, hX', by rw [e1]; exact hO, by rw [<- e3]; exact hR, by rw [<- e3]; exact hcs⟩ (by repeat' first | exact trivial | (refine And.intro ?_ ?_) | exact rfl | (rw [e1]; exact rfl) | (rw [<-e3]; exact rfl))
   ·have hd0 : (ins.drop (tto n ins k).2).length = 0 := by rw [List.length_drop]; omega
    have e4 : ins.drop (tto n ins (k + 1)).2 = ins.drop (tto n ins k).2 := by rw [e2, List.drop_eq_nil_of_le (by omega), List.drop_eq_nil_of_le (by omega)]
    have e5 : tin ins (tto n ins k).2 = 2 := by rw [tin, List.getD, List.getElem?_eq_none (by omega)]; rfl
    rw [e5] at e1
    repeat' (first | (apply W.cKT; exact rfl; (focus (exact dTt (by omega)))) | (apply W.cKF; exact rfl; exact dFf (by omega)) | (apply WL.alloc tOk; (iterate 3 exact rfl); intro gb w' hb hge hx) | (apply WL.storeB (w0 := w) tOk; (iterate 4 exact rfl); assumption; exact extA; (iterate 3 exact rfl); exact extA; ((focus (apply Nat.le_trans; rotate_left; assumption; exact Below.size extA; done))); intro w' hb hc hX' hU; have hcc := hc; obtain ⟨h1, h2, _⟩ := hc; have hO3 := Upd.own hU (Own.ext hO' hx) (Own.blk_ne hO' hge)) | (apply WL.lit tOk; (iterate 6 exact rfl); kernel_rfl; exact rfl; intro gb w' hb hge hc hx) | (apply WL.ap1 (z := ((2 : Int))) tOk eIk; (iterate 10 exact rfl); assumption; exact extA; exact rfl; assumption; exact rfl; exact rfl; exact extA; omega; intro a' cap' w' hO hX' hU hF) | (first | apply WL.nil | (refine WL.au (k := ?_)) | (apply WL.index tOk; (iterate 8 exact rfl); assumption; exact extA; exact rfl; omega; assumption; intro b off h; have hcc := h; first | (obtain ⟨h1, h2, h3, h4, h5, h6, _⟩ := h) | (obtain ⟨h1, h2, h3, _⟩ := h) | (obtain ⟨h1, h2, _⟩ := h) | (obtain ⟨h1, _⟩ := h))) | (first | apply Z.tn | apply Z.bkn) | (first | apply W.seq | apply W.region | apply W.block | apply W.skip))
    exact Z.againO2 a' cap' ba dp ⟨by omega, hX', by rw [e1]; exact hO, by rw [e4]; exact Rb', by rw [e4]; exact hdp⟩ (by repeat' first | exact trivial | (refine And.intro ?_ ?_) | exact rfl | (rw [e1]; exact rfl) | (rw [e4]; exact rfl))
 ·repeat' (first | (apply W.cKF; exact rfl; exact dFf (by omega)) | (first | apply WL.nil | (refine WL.au (k := ?_))) | (first | apply Z.tn | apply Z.tnx | apply Z.bkx) | (first | apply W.seq | apply W.region | apply W.ret | apply W.exit))
  obtain rfl : k = n.length := by omega
  exact Z.bd1 Try.results85 rfl fun m => ⟨hx'.at m, c, cp, rfl, hO'⟩


theorem tvals_len (n : List (Int × Int)) (ins : List Int) : (tvals n ins).length = n.length + 1 := (tto_len n ins n.length (Nat.le_refl _)).1
theorem tto_cnt (n : List (Int × Int)) (ins : List Int) : ∀ k, k <= n.length -> (tto n ins k).2 = cnt n k
 | 0, _ => rfl
 | k + 1, h => by
  obtain ⟨x, hx⟩ := getI n (show k < n.length by omega)
  rw [tto_succ ins hx, tstep]
  split
  ·rw [cnt_gate hx (by omega), <- tto_cnt n ins k (by omega)]
  ·rw [cnt_in hx (by omega), <- tto_cnt n ins k (by omega)]
theorem tto_pre (n : List (Int × Int)) (ins : List Int) {j : Nat} : ∀ {k}, j <= k -> k <= n.length -> (tto n ins k).1.getD j 0 = (tto n ins j).1.getD j 0
  | 0, h, _ => by obtain rfl : j = 0 := by omega
                  rfl
  | k + 1, h, hk => by
    by_cases hjk : j = k + 1
    · subst hjk; rfl
    · obtain ⟨x, hx⟩ := getI n (show k < n.length by omega)
      rw [<- tto_pre n ins (show j <= k by omega) (by omega), tto_succ ins hx]
      have hl := (tto_len n ins k (by omega)).1
      unfold tstep
      split <;> (simp only [List.getD]; rw [List.getElem?_append_left (by omega)])
theorem tto_val (n : List (Int × Int)) (ins : List Int) {j k : Nat} (h : j <= k) (hk : k <= n.length) : (tto n ins k).1.getD j 0 = (tvals n ins).getD j 0 := by
 rw [tto_pre n ins h hk, tvals, tto_pre n ins (show j <= n.length by omega) (Nat.le_refl _)]
theorem tvals_zero (n : List (Int × Int)) (ins : List Int) : (tvals n ins).getD 0 0 = 0 := by
 rw [<- tto_val n ins (Nat.le_refl 0) (Nat.zero_le _)]; rfl
theorem tvals_in {n : List (Int × Int)} {k : Nat} {x : Int × Int} (ins : List Int) (h : n[k]? = some x) (hx : x.1 < 0) : (tvals n ins).getD (k + 1) 0 = tin ins (cnt n k) := by
 have hk := lGt h
 have hl := (tto_len n ins k (by omega)).1
 rw [<- tto_val n ins (Nat.le_refl (k + 1)) (by omega), tto_succ ins h, tstep, if_neg (by omega), tto_cnt n ins k (by omega)]
 simp only [List.getD]
 rw [List.getElem?_append_right (by omega), hl]; simp
def tl (s : List Int) (x : Int) : Int := if x % 2 = 1 then not3 (val3 (s.getD (x / 2).toNat 0)) else val3 (s.getD (x / 2).toNat 0)
theorem lit3_tl {s : List Int} (h0 : s.getD 0 0 = 0) {x : Int} (hx : 0 <= x) (hl : (x / 2).toNat < s.length) (hm : x <= 33554433) : lit3 s x = tl s x := by
 have hg : goodL x := ⟨hx, hm⟩
 have hv : varL x = x / 2 := by unfold varL; rw [if_pos hg]
 have hb : lit3v s x = val3 (s.getD (x / 2).toNat 0) := by
  unfold lit3v
  rw [hv]
  by_cases h : x / 2 = 0
  ·rw [if_pos h, show (x / 2).toNat = 0 by omega, h0]; rfl
  ·rw [if_neg h, if_pos (by omega)]
 unfold lit3 tl
 by_cases h1 : x % 2 = 1
 ·rw [if_pos ⟨hg, h1⟩, if_pos h1, hb]
 ·rw [if_neg (fun h => h1 h.2), if_neg h1, hb]
theorem tvals_gate {n : List (Int × Int)} (hg : GNt n) (hn : n.length <= 1048576) {k : Nat} {x : Int × Int} (ins : List Int) (h : n[k]? = some x) (hx : 0 <= x.1) : (tvals n ins).getD (k + 1) 0 = and3 (tl (tvals n ins) x.1) (tl (tvals n ins) x.2) := by
 have hk := lGt h
 have hl := (tto_len n ins k (by omega)).1
 have hgt := hg.gate h hx
 have e : ∀ y : Int, 0 <= y -> y <= 2 * k + 1 -> lit3 (tto n ins k).1 y = tl (tvals n ins) y := by
  intro y h1 h2
  rw [lit3_tl (by rw [tto_val n ins (Nat.zero_le _) (by omega), tvals_zero]) h1 (by omega) (by omega)]
  unfold tl
  rw [tto_val n ins (by omega) (by omega)]
 rw [<- tto_val n ins (Nat.le_refl (k + 1)) (by omega), tto_succ ins h, tstep, if_pos hx, e _ hx hgt.1, e _ hgt.2.1 hgt.2.2]
 simp only [List.getD]
 rw [List.getElem?_append_right (by omega), hl]; simp
theorem tvals_three {n : List (Int × Int)} (hg : GNt n) (hn : n.length <= 1048576) (ins : List Int) (v : Nat) : val3 ((tvals n ins).getD v 0) = (tvals n ins).getD v 0 := by
 by_cases hv : v <= n.length
 ·match v, hv with
  | 0, _ => rw [tvals_zero]; rfl
  | k + 1, hv =>
   obtain ⟨x, hx⟩ := getI n (show k < n.length by omega)
   by_cases hin : x.1 < 0
   ·rw [tvals_in ins hx hin, tin]; grind [val3]
   ·rw [tvals_gate hg hn ins hx (by omega)]; grind [and3, val3]
 ·rw [List.getD, List.getElem?_eq_none (by rw [tvals_len]; omega)]; rfl

def le3 (a b : Int) : Prop := a = 2 ∨ a = b
theorem tern_sound {n : List (Int × Int)} (hg : GNt n) (hn : n.length <= 1048576) {ins : List Int} {full : List Bool} (h : ∀ k x, n[k]? = some x -> x.1 < 0 -> (tin ins (cnt n k) = 0 -> full.getD (cnt n k) false = false) /\ (tin ins (cnt n k) = 1 -> full.getD (cnt n k) false = true)) :
  ∀ v, v <= n.length -> ((tvals n ins).getD v 0 = 0 -> (values n full).getD v false = false) /\ ((tvals n ins).getD v 0 = 1 -> (values n full).getD v false = true) := by
 intro v
 induction v using Nat.strongRecOn with
 | _ v ih =>
  intro hv
  match v, ih, hv with
  | 0, _, _ => rw [values_zero, tvals_zero]; exact ⟨fun _ => rfl, fun h => by omega⟩
  | k + 1, ih, hv =>
   obtain ⟨x, hx⟩ := getI n (show k < n.length by omega)
   by_cases hin : x.1 < 0
   ·rw [tvals_in ins hx hin, values_in full hx hin]
    exact h k x hx hin
   ·have hgt := hg.gate hx (by omega)
    rw [tvals_gate hg hn ins hx (by omega), values_gate hg full hx (by omega)]
    have e : ∀ y : Int, 0 <= y -> y <= 2 * k + 1 -> (tl (tvals n ins) y = 0 -> ofL (values n full) y = false) /\ (tl (tvals n ins) y = 1 -> ofL (values n full) y = true) := by
     intro y h1 h2
     have := ih (y / 2).toNat (by omega) (by omega)
     unfold tl ofL
     rw [tvals_three hg hn]
     by_cases hy : y % 2 = 1
     ·rw [if_pos hy, decide_eq_true hy]
      unfold not3
      constructor
      ·intro h3; rw [this.2 (by split at h3 <;> (try split at h3) <;> omega)]; rfl
      ·intro h3; rw [this.1 (by split at h3 <;> (try split at h3) <;> omega)]; rfl
     ·rw [if_neg hy, decide_eq_false hy]
      exact ⟨fun h3 => by rw [this.1 h3]; rfl, fun h3 => by rw [this.2 h3]; rfl⟩
    have e1 := e x.1 (by omega) hgt.1
    have e2 := e x.2 hgt.2.1 hgt.2.2
    unfold and3
    constructor
    ·intro h3
     have : tl (tvals n ins) x.1 = 0 ∨ tl (tvals n ins) x.2 = 0 := by
      split at h3
      ·assumption
      ·split at h3 <;> omega
     rcases this with h4 | h4
     ·rw [e1.1 h4]; rfl
     ·rw [e2.1 h4, Bool.and_false]
    ·intro h3
     have : tl (tvals n ins) x.1 = 1 /\ tl (tvals n ins) x.2 = 1 := by
      split at h3
      ·omega
      ·split at h3
       ·assumption
       ·omega
     rw [e1.2 this.1, e2.2 this.2]; rfl


noncomputable abbrev cl (c : CirT) (l : Int) : Int := litI (cNet c).2 l
def stk0 (c : CirT) : List Int := c.lat.map fun t => min t.2.2 2
noncomputable def stkE (c : CirT) (v : List Int) : List Int := tvals (cNet c).1 (List.replicate c.ins.length 2 ++ v)
open Classical in
noncomputable def stkF (c : CirT) (v : List Int) (i : Nat) : Int := if v.getD i 0 ≠ 2 /\ lit3 (stkE c v) (cl c (c.lat.getD i (0, 0, 0)).2.1) ≠ v.getD i 0 then 2 else v.getD i 0
noncomputable def stkS (c : CirT) (v : List Int) : List Int := tab c.lat.length (stkF c v)
noncomputable def stkI (c : CirT) : Nat -> List Int
 | 0 => stk0 c
 | k + 1 => stkS c (stkI c k)
noncomputable def skV (c : CirT) : List Int := stkI c c.lat.length
section
variable {c : CirT}
theorem stkS_len (v : List Int) : (stkS c v).length = c.lat.length := tab_len _ _
theorem stkI_len : ∀ k, (stkI c k).length = c.lat.length
 | 0 => List.length_map _
 | _ + 1 => stkS_len _
theorem stkF_or (v : List Int) (i : Nat) : stkF c v i = 2 ∨ stkF c v i = v.getD i 0 := by unfold stkF; split <;> simp
theorem stkS_get (v : List Int) {i : Nat} (h : i < c.lat.length) : (stkS c v).getD i 0 = stkF c v i := tab_getD _ _ h
theorem min_two {r o : Int} (h : r = 0 ∨ r = 1 ∨ r = o) (ho : 2 <= o) : (min r 2 = 0 /\ r = 0) ∨ (min r 2 = 1 /\ r = 1) ∨ (min r 2 = 2 /\ r = o) := by omega
theorem stk0_get {i : Nat} {t : T3} (h : c.lat[i]? = some t) : (stk0 c).getD i 0 = min t.2.2 2 := by
 unfold stk0
 exact gDo (by rw [List.getElem?_map, h]; rfl)
theorem lat_own (hg : GoodC' c) {t : T3} (h : t ∈ c.lat) : 2 <= t.1 := (hg.own t.1 (List.mem_append_left _ (List.mem_append_right _ (List.mem_map.2 ⟨t, h, rfl⟩)))).1
theorem stkI_three (hg : GoodC' c) : ∀ k i, i < c.lat.length -> (stkI c k).getD i 0 = 0 ∨ (stkI c k).getD i 0 = 1 ∨ (stkI c k).getD i 0 = 2
 | 0, i, hi => by
  obtain ⟨t, ht⟩ := getI c.lat hi
  have hm := List.mem_of_getElem? ht
  show (stk0 c).getD i 0 = 0 ∨ _
  rw [show stkI c 0 = stk0 c from rfl, stk0_get ht]
  rcases min_two (hg.res t hm) (lat_own hg hm) with ⟨e, _⟩ | ⟨e, _⟩ | ⟨e, _⟩ <;> rw [e] <;> simp
 | k + 1, i, hi => by
  have e : (stkI c (k + 1)).getD i 0 = stkF c (stkI c k) i := stkS_get _ hi
  rw [e]
  rcases stkF_or (c := c) (stkI c k) i with e | e
  ·rw [e]; simp
  ·rw [e]; exact stkI_three hg k i hi
def opn (v : List Int) : Nat := v.countP fun x => decide (x = 2)
theorem opn_le (v : List Int) : opn v <= v.length := List.countP_le_length
theorem opn_up : ∀ {v u : List Int}, v.length = u.length -> (∀ i, i < v.length -> u.getD i 0 = 2 ∨ u.getD i 0 = v.getD i 0) -> u ≠ v -> opn v < opn u
 | [], [], _, _, hne => absurd rfl hne
 | x :: v, y :: u, hl, h, hne => by
  have h0 := h 0 (by simp)
  simp only [List.getD_cons_zero] at h0
  have hr : ∀ i, i < v.length -> u.getD i 0 = 2 ∨ u.getD i 0 = v.getD i 0 := fun i hi => by
   have := h (i + 1) (by simp; omega)
   simpa using this
  have hl' : v.length = u.length := by simpa using hl
  have hle : opn v <= opn u := by
   by_cases e : u = v
   ·rw [e]; exact Nat.le_refl _
   ·exact Nat.le_of_lt (opn_up hl' hr e)
  have e1 : opn (x :: v) = opn v + (if x = 2 then 1 else 0) := by unfold opn; rw [List.countP_cons]; simp
  have e2 : opn (y :: u) = opn u + (if y = 2 then 1 else 0) := by unfold opn; rw [List.countP_cons]; simp
  rw [e1, e2]
  rcases h0 with h0 | h0
  ·subst h0
   by_cases hx : x = 2
   ·subst hx
    have : u ≠ v := fun e => hne (by rw [e])
    have := opn_up hl' hr this
    simp; omega
   ·rw [if_neg hx]; simp; omega
  ·subst h0
   have : u ≠ v := fun e => hne (by rw [e])
   have := opn_up hl' hr this
   omega
theorem stk_up {v : List Int} (hl : v.length = c.lat.length) (h : stkS c v ≠ v) : opn v < opn (stkS c v) :=
 opn_up (by rw [stkS_len, hl]) (fun i hi => by rw [stkS_get _ (by omega)]; exact stkF_or _ _) h
theorem stk_stays {k : Nat} (h : stkS c (stkI c k) = stkI c k) : ∀ m, stkI c (k + m) = stkI c k
 | 0 => rfl
 | m + 1 => by
  show stkS c (stkI c (k + m)) = _
  rw [stk_stays h m, h]
theorem stk_long {k : Nat} (h : ∀ j, j < k -> stkS c (stkI c j) ≠ stkI c j) : k <= opn (stkI c k) := by
 induction k with
 | zero => exact Nat.zero_le _
 | succ k ih =>
  have h1 := ih fun j hj => h j (by omega)
  have h2 := stk_up (stkI_len k) (h k (by omega))
  show k + 1 <= opn (stkS c (stkI c k))
  omega
theorem stk_short {k : Nat} (h : ∀ j, j < k -> stkS c (stkI c j) ≠ stkI c j) : k <= c.lat.length := by
 have h1 := stk_long h
 have h2 := opn_le (stkI c k)
 rw [stkI_len] at h2
 omega
theorem stk_done {k : Nat} (hk : k <= c.lat.length) (h : stkS c (stkI c k) = stkI c k) : stkI c k = skV c := by
 unfold skV
 have := stk_stays h (c.lat.length - k)
 rw [show k + (c.lat.length - k) = c.lat.length by omega] at this
 exact this.symm
theorem stuck_fix : stkS c (skV c) = skV c := by
 apply Classical.byContradiction
 intro hne
 have hall : ∀ j, j < c.lat.length + 1 -> stkS c (stkI c j) ≠ stkI c j := fun j hj e => by
  have h1 := stk_done (by omega) e
  rw [h1] at e; exact hne e
 have := stk_short hall
 omega
theorem stuck_len : (skV c).length = c.lat.length := stkI_len _
theorem stuck_three (hg : GoodC' c) {i : Nat} (h : i < c.lat.length) : (skV c).getD i 0 = 0 ∨ (skV c).getD i 0 = 1 ∨ (skV c).getD i 0 = 2 := stkI_three hg _ i h
theorem stuck_reset {t : T3} {i : Nat} (ht : c.lat[i]? = some t) : ∀ k, (stkI c k).getD i 0 ≠ 2 -> (stkI c k).getD i 0 = min t.2.2 2
 | 0, _ => stk0_get ht
 | k + 1, h => by
  have e : (stkI c (k + 1)).getD i 0 = stkF c (stkI c k) i := stkS_get _ (lGt ht)
  rw [e] at h ⊢
  rcases stkF_or (c := c) (stkI c k) i with e1 | e1
  ·exact absurd e1 h
  ·rw [e1] at h ⊢; exact stuck_reset ht k h
theorem stuck_next {t : T3} {i : Nat} (ht : c.lat[i]? = some t) (h : (skV c).getD i 0 ≠ 2) : lit3 (stkE c (skV c)) (cl c t.2.1) = (skV c).getD i 0 := by
 have e : (stkS c (skV c)).getD i 0 = (skV c).getD i 0 := by rw [stuck_fix]
 rw [stkS_get _ (lGt ht)] at e
 unfold stkF at e
 rw [gDo ht] at e
 apply Classical.byContradiction
 intro hne
 rw [if_pos ⟨h, hne⟩] at e
 exact h e.symm
end
def StkAt (c : CirT) (s : List Bool) : Prop := ∀ i, i < c.lat.length -> ((skV c).getD i 0 = 0 -> s.getD i false = false) /\ ((skV c).getD i 0 = 1 -> s.getD i false = true)
theorem lit3_sound {n : List (Int × Int)} (hn : n.length <= 1048576) {ins : List Int} {full : List Bool} (h : ∀ v, v <= n.length -> ((tvals n ins).getD v 0 = 0 -> (values n full).getD v false = false) /\ ((tvals n ins).getD v 0 = 1 -> (values n full).getD v false = true)) {x : Int} (hx : 0 <= x) (hl : x <= 2 * (n.length : Int) + 1) : (lit3 (tvals n ins) x = 0 -> ofL (values n full) x = false) /\ (lit3 (tvals n ins) x = 1 -> ofL (values n full) x = true) := by
 rw [lit3_tl (tvals_zero n ins) hx (by rw [tvals_len]; omega) (by omega)]
 obtain ⟨h1, h2⟩ := h (x / 2).toNat (by omega)
 unfold tl ofL
 generalize (tvals n ins).getD (x / 2).toNat 0 = a at h1 h2
 generalize (values n full).getD (x / 2).toNat false = b at h1 h2
 by_cases hp : x % 2 = 1
 ·rw [if_pos hp, decide_eq_true hp]
  unfold not3 val3
  by_cases a0 : a = 0
  ·rw [h1 a0]; simp [a0]
  ·by_cases a1 : a = 1
   ·rw [h2 a1]; simp [a1]
   ·simp [a0, a1]
 ·rw [if_neg hp, decide_eq_false hp]
  unfold val3
  by_cases a0 : a = 0
  ·rw [h1 a0]; simp [a0]
  ·by_cases a1 : a = 1
   ·rw [h2 a1]; simp [a1]
   ·simp [a0, a1]
section
variable {c : CirT}
theorem stk_ins {v : List Int} {s i : List Bool} (hv : v.length = c.lat.length) (h : ∀ j, j < c.lat.length -> (v.getD j 0 = 0 -> s.getD j false = false) /\ (v.getD j 0 = 1 -> s.getD j false = true)) (q : Nat) :
  (tin (List.replicate c.ins.length 2 ++ v) q = 0 -> (insV c s i).getD q false = false) /\ (tin (List.replicate c.ins.length 2 ++ v) q = 1 -> (insV c s i).getD q false = true) := by
 unfold tin
 by_cases h1 : q < c.ins.length
 ·have e : (List.replicate c.ins.length (2 : Int) ++ v).getD q 2 = 2 := by
   rw [List.getD_eq_getElem?_getD, List.getElem?_append_left (by simpa using h1), List.getElem?_replicate, if_pos h1]; rfl
  rw [e]; simp [val3]
 ·by_cases h2 : q < c.ins.length + c.lat.length
  ·obtain ⟨z, hz⟩ := getI v (show q - c.ins.length < v.length by omega)
   have e : (List.replicate c.ins.length (2 : Int) ++ v).getD q 2 = z := by
    rw [List.getD_eq_getElem?_getD, List.getElem?_append_right (by simp; omega), List.length_replicate, hz]; rfl
   have e2 : (insV c s i).getD q false = s.getD (q - c.ins.length) false := by
    unfold insV
    rw [List.getD_eq_getElem?_getD, List.getElem?_append_right (by rw [brV_len]; omega), brV_len, brV_get _ (by omega)]; rfl
   have h3 := h (q - c.ins.length) (by omega)
   rw [gDo hz] at h3
   rw [e, e2]
   unfold val3
   by_cases a0 : z = 0
   ·subst a0; simpa using h3
   ·by_cases a1 : z = 1
    ·subst a1; simpa using h3
    ·simp [a0, a1]
  ·have e : (List.replicate c.ins.length (2 : Int) ++ v).getD q 2 = 2 := by
    rw [List.getD_eq_getElem?_getD, List.getElem?_eq_none (by simp; omega)]; rfl
   rw [e]; simp [val3]
theorem stk_step (hg : GoodC' c) (hz : SzC c 100000) {s i : List Bool} (h : StkAt c s) : StkAt c (nextV c s i) := fun j hj => by
 obtain ⟨t, ht⟩ := getI c.lat hj
 have e : (nextV c s i).getD j false = litV c s i t.2.1 := gDo (by unfold nextV; rw [List.getElem?_map, ht]; rfl)
 have hn : (cNet c).1.length <= 1048576 := by have := net_len hg hz; omega
 have hr := litI_range hg (used_next (List.mem_of_getElem? ht))
 have h1 := lit3_sound hn (tern_sound (cNet_ok hg).2 hn (ins := List.replicate c.ins.length 2 ++ skV c) (full := insV c s i) (fun k x _ _ => stk_ins stuck_len h _)) hr.1 hr.2
 rw [e]
 constructor
 ·intro h0
  exact h1.1 ((stuck_next ht (by omega)).trans h0)
 ·intro h0
  exact h1.2 ((stuck_next ht (by omega)).trans h0)
theorem stk_start (hg : GoodC' c) {s : List Bool} (h : StartsP c s) : StkAt c s := fun j hj => by
 obtain ⟨t, ht⟩ := getI c.lat hj
 obtain ⟨b, hb⟩ := getI s (show j < s.length by rw [h.1]; exact hj)
 obtain ⟨h1, h2⟩ := h.2 j t b ht hb
 have hm := List.mem_of_getElem? ht
 have hr := min_two (hg.res t hm) (lat_own hg hm)
 rw [gDo hb]
 constructor
 ·intro h0
  have e := stuck_reset ht c.lat.length (show (skV c).getD j 0 ≠ 2 by omega)
  rw [show stkI c c.lat.length = skV c from rfl, h0] at e
  cases b
  ·rfl
  ·exact absurd ⟨by omega, rfl⟩ h1
 ·intro h0
  have e := stuck_reset ht c.lat.length (show (skV c).getD j 0 ≠ 2 by omega)
  rw [show stkI c c.lat.length = skV c from rfl, h0] at e
  cases b
  ·exact absurd ⟨by omega, rfl⟩ h2
  ·rfl
theorem stk_state (hg : GoodC' c) (hz : SzC c 100000) {s : List Bool} (h : StartsP c s) (r : List (List Bool)) : ∀ k, StkAt c (stateV c s r k)
 | 0 => by
  show StkAt c (brV s c.lat.length)
  rw [<- h.1, brV_self]; exact stk_start hg h
 | k + 1 => stk_step hg hz (stk_state hg hz h r k)
end

def KnL (c : CirT) (l : Int) : Prop := 0 <= l /\ (1 < l -> l - l % 2 ∈ c.own)
theorem kLu {c : CirT} (h : GoodC' c) {l : Int} (hl : l ∈ c.used) : KnL c l := ⟨(h.used l hl).1, h.has l hl⟩
theorem knL_lit {c : CirT} (h : GoodC' c) {l : Int} (hl : KnL c l) : ∃ z, (cNet c).2[(l / 2).toNat]? = some z /\ 0 <= z /\ z % 2 = 0 /\ z <= 2 * ((cNet c).1.length : Int) := by
 have h0 := (cNet_ok h).1
 refine h0.ge ?_
 rcases Int.lt_or_le 1 l with h2 | h2
 ·exact .inr ⟨_, seq_all h (hl.2 h2), by omega⟩
 ·left; have := hl.1; omega
theorem knL_max {c : CirT} (h : GoodC' c) {l : Int} (hl : KnL c l) : l <= 2 * c.max + 1 := by
 have hm := h.max
 by_cases h1 : 1 < l
 ·have := h.own _ (hl.2 h1); omega
 ·omega
theorem knL_range {c : CirT} (h : GoodC' c) {l : Int} (hl : KnL c l) : 0 <= litI (cNet c).2 l /\ litI (cNet c).2 l <= 2 * ((cNet c).1.length : Int) + 1 := by
 obtain ⟨z, h1, h2, h3, h4⟩ := knL_lit h hl
 rw [litI_some h1]
 unfold xorI Lt.xor1
 split <;> (try split) <;> omega
theorem cIn_nodes : ∀ (ls : List Int) (s : NA), (cIn s ls).1 = s.1 ++ ls.map (fun _ => ((-1, 0) : Int × Int))
 | [], s => by simp [cIn]
 | l :: ls, s => by
  have ih := cIn_nodes ls (cput s l (-1, 0))
  show (cIn (cput s l (-1, 0)) ls).1 = _
  rw [ih]
  simp [cput]
theorem net_nodes {c : CirT} (h : GoodC' c) : ∀ k, k <= (ordL c.gates).length ->
  ∀ (j : Nat) x, (cGates c.gates (cIn ([], cAt0 c.max) c.inl) ((ordL c.gates).take k)).1[j]? = some x -> (x.1 < 0 ↔ j < c.inl.length) := by
 intro k
 induction k with
 | zero =>
  intro _ j x hx
  have e : (cGates c.gates (cIn ([], cAt0 c.max) c.inl) ((ordL c.gates).take 0)).1 = c.inl.map (fun _ => ((-1, 0) : Int × Int)) := by
   show (cIn ([], cAt0 c.max) c.inl).1 = _
   rw [cIn_nodes]; rfl
  rw [e, List.getElem?_map] at hx
  cases hl : c.inl[j]? with
  | none => rw [hl] at hx; cases hx
  | some y =>
   rw [hl] at hx
   rw [<- Option.some.inj hx]
   exact ⟨fun _ => lGt hl, fun _ => (show (-1 : Int) < 0 by decide)⟩
 | succ k ih =>
  intro hk j x hx
  obtain ⟨i, hi⟩ := getI (ordL c.gates) (show k < _ by omega)
  have ih' := ih (by omega)
  have h1 := (net_to h k (by omega)).1
  have hO := (ordL_is c.gates).1
  obtain ⟨g, hg, hn, hr⟩ := (hO k i hi).1
  have hm' := List.mem_of_getElem? hg
  have ua : g.2.1 ∈ c.used := List.mem_append_right _ (List.mem_flatMap.2 ⟨g, hm', by simp⟩)
  obtain ⟨za, a1, a2, a3, a4⟩ := h1.ge (used_put h ua fun j x hx hj => (hr j x hx hj).1)
  have eg : gAt c.gates i = g := gAt_of hg
  rw [tkS hi, cGates_snoc] at hx
  unfold cGate at hx
  rw [eg] at hx
  have hx' : ((cGates c.gates (cIn ([], cAt0 c.max) c.inl) ((ordL c.gates).take k)).1 ++ [_])[j]? = some x := hx
  rw [litI_some a1] at hx'
  have hlen := h1.len1
  rw [List.length_append] at hlen
  by_cases hj : j < (cGates c.gates (cIn ([], cAt0 c.max) c.inl) ((ordL c.gates).take k)).1.length
  ·rw [List.getElem?_append_left hj] at hx'; exact ih' j x hx'
  ·rw [List.getElem?_append_right (by omega)] at hx'
   have h0 : j - (cGates c.gates (cIn ([], cAt0 c.max) c.inl) ((ordL c.gates).take k)).1.length = 0 := by have := lGt hx'; simpa using this
   rw [h0] at hx'
   simp only [List.getElem?_cons_zero, Option.some.injEq] at hx'
   subst hx'
   have ka : 0 <= xorI za (g.2.1 % 2) := by unfold xorI Lt.xor1; split <;> (try split) <;> omega
   constructor
   ·intro hh; dsimp only at hh; omega
   ·intro hh; omega
theorem net_in {c : CirT} (h : GoodC' c) {j : Nat} {x : Int × Int} (hx : (cNet c).1[j]? = some x) : x.1 < 0 ↔ j < c.inl.length := by
 have := net_nodes h (ordL c.gates).length (Nat.le_refl _) j x
 rw [List.take_length] at this
 exact this hx
theorem inl_len (c : CirT) : c.inl.length = c.ins.length + c.lat.length := by show (c.ins ++ c.lat.map (·.1)).length = _; simp
theorem net_cnt {c : CirT} (h : GoodC' c) : ∀ k, k <= (cNet c).1.length -> cnt (cNet c).1 k = min k c.inl.length
 | 0, _ => by simp [cnt]
 | k + 1, hk => by
  obtain ⟨x, hx⟩ := getI (cNet c).1 (show k < _ by omega)
  have ih := net_cnt h k (by omega)
  have hi := net_in h hx
  by_cases hin : x.1 < 0
  ·have := hi.1 hin
   rw [cnt_in hx hin, ih]; omega
  ·have : ¬ k < c.inl.length := fun hh => hin (hi.2 hh)
   rw [cnt_gate hx hin, ih]; omega
def b3 (b : Bool) : Int := if b = true then 1 else 0
section
variable {c : CirT} {s i : List Bool} {want : List Int}
end

structure UnV where
 N : List (Int × Int)
 ins : List (List Int)
 own : List (List Int)
 st : List (List Int)
open Classical in
noncomputable def fstep (free : Bool) (s : List Int × List (Int × Int)) (t : T3) : List Int × List (Int × Int) :=
 if free = true ∨ 1 < t.2.2 then (s.1 ++ [2 * ((s.2.length : Int) + 1)], s.2 ++ [(-1, 0)]) else (s.1 ++ [t.2.2], s.2)
noncomputable def firstTo (c : CirT) (free : Bool) (k : Nat) : List Int × List (Int × Int) := (c.lat.take k).foldl (fstep free) ([], [])
def signs (own : List Int) (a : Int) : Int × Int := if 0 <= a then (own.getD (a / 2).toNat 0, Lt.xor1 (own.getD (a / 2).toNat 0)) else (-1, -1)
noncomputable def signsL (c : CirT) (own : List Int) : List (Int × Int) := (cNet c).2.map (signs own)
def pickS (p : Int × Int) (l : Int) : Int := if l % 2 = 1 then p.2 else p.1
noncomputable def uLit (c : CirT) (own : List Int) (l : Int) : Int :=
 if 0 <= l /\ l <= 2 * c.max + 1 then pickS (signs own ((cNet c).2.getD (l / 2).toNat 0)) l else -1
theorem uLit_known {c : CirT} (hg : GoodC' c) (own : List Int) (h0 : ∀ z ∈ own, 0 <= z) (hl : own.length = (cNet c).1.length + 1) {l : Int} (hk : KnL c l) : uLit c own l = litI own (litI (cNet c).2 l) := by
 obtain ⟨z, z1, z2, z3, z4⟩ := knL_lit hg hk
 have hm := knL_max hg hk
 unfold uLit
 rw [if_pos ⟨hk.1, hm⟩, gDo z1, litI_some z1]
 unfold signs pickS
 rw [if_pos z2]
 have e : xorI z (l % 2) = z + l % 2 := by
  unfold xorI Lt.xor1
  split <;> (try split) <;> omega
 rw [e]
 obtain ⟨y, hy⟩ := getI own (show (z / 2).toNat < own.length by omega)
 have hp : (z + l % 2) % 2 = l % 2 := by omega
 rw [litI_some (x := z + l % 2) (z := y) (by rw [show (z + l % 2) / 2 = z / 2 by omega]; exact hy), gDo hy, hp]
 unfold xorI
 rfl
theorem uLit_has {c : CirT} (hg : GoodC' c) {N : List (Int × Int)} {own : List Int} (ho : ∀ z ∈ own, hasL N z) (hl : own.length = (cNet c).1.length + 1) {l : Int} (hk : KnL c l) : hasL N (uLit c own l) := by
 rw [uLit_known hg own (fun z hz => (ho z hz).1) hl hk]
 have hr := knL_range hg hk
 exact hasL_litI ho (by omega)
noncomputable def nextU (c : CirT) (own : List Int) : List Int := c.lat.map fun t => uLit c own t.2.1
noncomputable def newU (c : CirT) (free : Bool) : UnV := ⟨(firstTo c free c.lat.length).2, [], [], [(firstTo c free c.lat.length).1]⟩
structure UOk (c : CirT) (u : UnV) : Prop where
 li : u.ins.length = u.own.length
 ls : u.st.length = u.own.length + 1
 st : ∀ s ∈ u.st, s.length = c.lat.length /\ ∀ z ∈ s, hasL u.N z
 own : ∀ o ∈ u.own, o.length = (cNet c).1.length + 1 /\ ∀ z ∈ o, hasL u.N z
 ins : ∀ s ∈ u.ins, s.length = c.ins.length /\ ∀ z ∈ s, hasL u.N z
 tidy : Tidy u.N
theorem copyV_yes {N n : List (Int × Int)} {ins : List Int} (hh : ∀ z ∈ ins, hasL N z) : copyV N n ins = ((cto N n ins n.length).1, (cto N n ins n.length).2.2) := by unfold copyV; rw [dTt hh]; rfl
def pickL (l : List Int) (i : Int) : Int := if 0 <= i /\ i < (l.length : Int) then l.getD i.toNat 0 else -1
def rowU (ls : List (List Int)) (k : Int) : List Int := if 0 <= k /\ k < (ls.length : Int) then ls.getD k.toNat [] else []
noncomputable def UnV.lit (c : CirT) (u : UnV) (k l : Int) : Int := if 0 <= k /\ k < (u.own.length : Int) then uLit c (u.own.getD k.toNat []) l else -1
noncomputable def UnV.bad (c : CirT) (u : UnV) (k p : Int) : Int := u.lit c k (pickL c.bads p)
noncomputable def UnV.cons (c : CirT) (u : UnV) (k : Int) : List Int := if 0 <= k /\ k < (u.own.length : Int) then c.cons.map (fun x => u.lit c k x) else []
end Go.Proofs.Yteidpnpbfagaeaa
namespace Go.Lt
open Go.RowKit

section arr
variable {P : Program} {T : Tab} {e : Env} {dd : Option Tmp} {t tt ty : TypeId} {x y : Operand} {ps : String} {af : Array Edge} {g : Option (Nat × Bool)}
end arr
section rules
variable {P : Program} {N : Nat} {e : Env} {w : World} {Q : Exit -> Act -> World -> Prop} {C : World -> Prop} {ops : List Oper} {l : List Oper} {T : Tab}
 {d : Nat} {tt t ty : TypeId} {ps : String} {af : Array Edge} {g : Option (Nat × Bool)} {x y : Operand}
end rules

section lift
variable {H : Type} {enc : TypeId × Value -> H} {P : Program} {w : World} {base : Nat} {spare : Nat -> Bool} {held : Bool}
end lift
open Go.ChangeShapes Go.WideShapes Go.ChangeAt Go.RowKit Go.Deep

abbrev CellC (g : Nat) (cs : Array Value) (t : Nat) (w : World) : Prop := w.heap[g]? = some (.cells cs t (0, 0))
section
variable {P : Program} {T : Tab} {N d : Nat} {e : Env} {w : World} {ops l : List Oper} {Kf : Act -> Prop} {tt t ty ct : TypeId} {ps : String} {af : Array Edge} {g : Option (Nat × Bool)} {x y : Operand}
theorem FL.loadC {gb off : Nat} {cs : Array Value} {v : Value} {i : TI} (hT : OkTab P T) (hg : gate ops e g = some true) (hd : Nat.blt d N = true) (hx : ev e x = some (.pointer (some ⟨gb, off, none⟩))) (ht : tget T t = some i) (ha : isAggD i.desc = false) (hv : cs[off]? = some v)
  (k : FL P N ops.toArray (CellC gb cs ct) l ((d, v) :: e) w Kf) : FL P N ops.toArray (CellC gb cs ct) (⟨some d, .load t x, tt, ps, af, g⟩ :: l) e w Kf := by
 refine FL.step hg hd ?_ k
 intro ρ hρ w' hw'
 have h1 := run_isAgg' (hT.at ht); rw [ha] at h1
 have h2 : w'.cell? ⟨gb, off, none⟩ = some v := by
  have hc := cHp hw'
  have key : ∀ (l : List Value) (o q : Nat) (u : Value), Cells w' gb o l -> l[q]? = some u -> w'.cell? ⟨gb, o + q, none⟩ = some u := by
   intro l
   induction l with
   | nil => intro o q u _ h; simp at h
   | cons a r ih =>
    intro o q u hl h
    obtain ⟨h3, h4⟩ := hl
    cases q with
    | zero => simp at h; subst h; exact h3
    | succ q =>
     have := ih (o + 1) q u h4 (by simpa using h)
     rw [show o + (q + 1) = o + 1 + q by omega]; exact this
  have := key _ 0 off v hc (by simpa using hv)
  simpa using this
 simp [execOp, hρ _ _ hx, Instr.loadAt, Instr.sureAddr, loadVar, h1, h2]
end

section
variable {P : Program} {T : Tab} {N : Nat} {e : Env} {w : World} {Q : Exit -> Act -> World -> Prop} {ops : List Oper} {l : List Oper}
 {d : Nat} {tt t ty kt et : TypeId} {ps : String} {af : Array Edge} {g : Option (Nat × Bool)} {x y : Operand} {i : TI} {dd : Option Tmp}
end
end Go.Lt
namespace Go.Proofs.Yteidpnpbfagaeaa
open Go Go.Lt Go.RowKit

theorem aig_NetV (gs r cap : Nat) (a : Option Addr) (N : List (Int × Int)) (rest : List Piece) (w w0 : World) (hS : Sep w0.heap.size w (stN w0.heap.size gs a cap r N ++ rest)) (hN : N.length <= 1048576) :
  Lt.Spec Try.prog 62 [.pointer (some ⟨gs, 0, none⟩)] w (IsFresh 2 encN 105 w N) := by
 have hC0 := hS.cell (i := 0) rfl
 have hR1 := hS.row (i := 1) rfl
 obtain ⟨hD0, _⟩ := cHp hC0
 refine Spec.of _ Try.func62 rfl Try.ntmps62 (by kernel_rfl) rfl ?_
 repeat' (first | (apply WL.nilc; (iterate 3 exact rfl)) | (apply WL.eqNilS tOk; (iterate 6 exact rfl)) | (apply WL.call (f := 116); (iterate 4 exact rfl); exact slices_CloneN _ _ N _ (Own.row encN_ok hR1) (Own.nCp hR1) hN; rintro v' w' ⟨hx, a', cap', rfl, hO⟩) | (first | apply WL.nil | (refine WL.au (k := ?_))) | apply Z.tn | (first | apply W.seq | apply W.region | apply W.skip | apply W.ret | (apply W.condF; exact rfl)))
 exact Z.bd1 Try.results62 rfl fun m => ⟨Ext.at extA m, a', cap', rfl, hO⟩

theorem copy_semG {N n : List (Int × Int)} (hg : GNt n) (hT : Tidy N) {L : List Int} (hL : ∀ z ∈ L, hasL N z) (hin : cnt n n.length <= L.length) (ins : List Bool) : ∀ k, k <= n.length ->
  Tidy (cto N n L k).2.2 /\ (cto N n L k).2.1 = cnt n k /\ ∀ i z, (cto N n L k).1[i]? = some z -> ofL (values (cto N n L k).2.2 ins) z = (values n (L.map (ofL (values N ins)))).getD i false
 | 0, _ => by
  refine ⟨hT, rfl, fun i z hz => ?_⟩
  have hz' : [(0 : Int)][i]? = some z := hz
  have hi := lGt hz'
  simp at hi
  subst hi
  simp at hz'
  subst hz'
  rw [values_zero, ofL_zero]
 | k + 1, hk => by
  obtain ⟨x, hx⟩ := getI n (show k < n.length by omega)
  obtain ⟨h1, h2, h3⟩ := copy_semG hg hT hL hin ins k (by omega)
  obtain ⟨i1, i2, i3, i4, i5, i6⟩ := cto_inv (N := N) (ins := L) hg hL k (by omega)
  rw [cto_succ hx]
  generalize cto N n L k = s at h1 h2 h3 i1 i2 i3 i4 i5 i6
  unfold cstep
  by_cases h0 : 0 <= x.1
  ·rw [if_pos h0]
   have hgt := hg.gate hx h0
   have ha := hasL_litI i2 (x := x.1) (by omega)
   have hb := hasL_litI i2 (x := x.2) (by omega)
   have hG : Grow s.2.2 (andV s.2.2 (litI s.1 x.1) (litI s.1 x.2)).2 := .gate _ _ (.refl _)
   have hl : ∀ y : Int, 0 <= y -> (y / 2).toNat < s.1.length -> ofL (values s.2.2 ins) (litI s.1 y) = ofL (values n (L.map (ofL (values N ins)))) y := by
    intro y hy0 hy
    obtain ⟨z, hz⟩ := getI s.1 hy
    have hzv := h3 _ z hz
    have hz0 := (i2 z (List.mem_of_getElem? hz)).1
    unfold litI xorI
    rw [gDo hz]
    by_cases hp : y % 2 = 1
    ·rw [if_pos hp, ofL_xor1 _ hz0, hzv, ofL, decide_eq_true hp]; simp
    ·rw [if_neg hp, hzv, ofL, decide_eq_false hp]; simp
   refine ⟨h1.and _ _, by rw [h2, cnt_gate hx (by omega)], fun i z hz => ?_⟩
   rcases get_snoc hz with hz1 | ⟨rfl, rfl⟩
   ·rw [hG.of ins (i2 z (List.mem_of_getElem? hz1))]; exact h3 i z hz1
   ·rw [andV_of h1 ins ha hb, hl _ h0 (by omega), hl _ (by omega) (by omega), i1, values_gate hg _ hx h0]
  ·have hx0 : x.1 < 0 := by omega
   have hc1 := cnt_in hx hx0
   have hc2 := cnt_mono n (i := k + 1) (k := n.length) (by omega)
   have hlt : s.2.1 < L.length := by omega
   rw [if_neg h0, if_pos hlt]
   obtain ⟨q, hq⟩ := getI L hlt
   refine ⟨h1, by dsimp only; rw [h2, hc1], fun i z hz => ?_⟩
   rcases get_snoc hz with hz1 | ⟨rfl, rfl⟩
   ·exact h3 i z hz1
   ·rw [gDo hq, i5.of ins (hL q (List.mem_of_getElem? hq)), i1, values_in _ hx hx0, <- h2]
    have e : (L.map (ofL (values N ins)))[s.2.1]? = some (ofL (values N ins) q) := by rw [List.getElem?_map, hq]; rfl
    rw [gDo e]
theorem litI_of_copy {own : List Int} {V W : List Bool} {N : List (Int × Int)} (h : ∀ (i : Nat) z, own[i]? = some z -> ofL V z = W.getD i false) (h0 : ∀ z ∈ own, hasL N z) {y : Int} (hy : (y / 2).toNat < own.length) : ofL V (litI own y) = ofL W y := by
 obtain ⟨z, hz⟩ := getI own hy
 have hzv := h _ z hz
 have hz0 := (h0 z (List.mem_of_getElem? hz)).1
 unfold litI xorI
 rw [gDo hz]
 by_cases hp : y % 2 = 1
 ·rw [if_pos hp, ofL_xor1 _ hz0, hzv, ofL, decide_eq_true hp]; simp
 ·rw [if_neg hp, hzv, ofL, decide_eq_false hp]; simp
section
variable {c : CirT} (hg : GoodC' c)
include hg
structure USem (c : CirT) (u : UnV) (I : List Bool) : Prop where
 lit : ∀ (k : Nat) o i s, u.own[k]? = some o -> u.ins[k]? = some i -> u.st[k]? = some s -> ∀ l, KnL c l -> ofL (values u.N I) (uLit c o l) = litV c (s.map (ofL (values u.N I))) (i.map (ofL (values u.N I))) l
 next : ∀ (k : Nat) o s, u.own[k]? = some o -> u.st[k + 1]? = some s -> s = nextU c o
theorem USem.up {u : UnV} {I : List Bool} (h : USem c u I) (hU : UOk c u) {M : List (Int × Int)} (hM : Grow u.N M) : USem c { u with N := M } I := by
 refine ⟨fun k o i s h1 h2 h3 l hl => ?_, h.next⟩
 have e1 : s.map (ofL (values M I)) = s.map (ofL (values u.N I)) := List.map_congr_left fun z hz => hM.of I ((hU.st s (List.mem_of_getElem? h3)).2 z hz)
 have e2 : i.map (ofL (values M I)) = i.map (ofL (values u.N I)) := List.map_congr_left fun z hz => hM.of I ((hU.ins i (List.mem_of_getElem? h2)).2 z hz)
 have ho := hU.own o (List.mem_of_getElem? h1)
 show ofL (values M I) _ = litV c (s.map (ofL (values M I))) (i.map (ofL (values M I))) l
 rw [e1, e2, hM.of I (uLit_has hg ho.2 ho.1 hl)]
 exact h.lit k o i s h1 h2 h3 l hl
omit hg in
theorem USem.new (free : Bool) (I : List Bool) : USem c (newU c free) I := ⟨fun k o i s h1 => by simp [newU] at h1, fun k o s h1 => by simp [newU] at h1⟩
theorem USem.states {u : UnV} {I : List Bool} (h : USem c u I) (hU : UOk c u) {s0 : List Int} (h0 : u.st[0]? = some s0) : ∀ (k : Nat) s, u.st[k]? = some s -> stateV c (s0.map (ofL (values u.N I))) (u.ins.map fun l => l.map (ofL (values u.N I))) k = s.map (ofL (values u.N I))
 | 0, s, hs => by
  rw [h0] at hs; cases hs
  show brV _ _ = _
  have := brV_self (s0.map (ofL (values u.N I)))
  rw [List.length_map, (hU.st s0 (List.mem_of_getElem? h0)).1] at this; exact this
 | k + 1, s, hs => by
  have hl := lGt hs
  have hls := hU.ls
  have hli := hU.li
  obtain ⟨o, ho⟩ := getI u.own (show k < _ by omega)
  obtain ⟨i, hi⟩ := getI u.ins (show k < _ by omega)
  obtain ⟨s1, hs1⟩ := getI u.st (show k < _ by omega)
  have ih := USem.states h hU h0 k s1 hs1
  have hi' : (u.ins.map fun l => l.map (ofL (values u.N I)))[k]? = some (i.map (ofL (values u.N I))) := by rw [List.getElem?_map, hi]; rfl
  show nextV c _ _ = _
  rw [ih, gDo hi', h.next k o s ho hs]
  unfold nextV nextU
  rw [List.map_map]
  exact List.map_congr_left fun t ht => (h.lit k o i s1 ho hi hs1 t.2.1 (kLu hg (used_next ht))).symm
omit hg in
end

theorem OnlyG.and {m : Nat} {N : List (Int × Int)} (h : OnlyG m N) (x y : Int) : OnlyG m (andV N x y).2 := by
 obtain ⟨a, b, _, _, hw⟩ := andV_ways N x y
 rcases hw with ⟨_, hw⟩ | ⟨_, _, hw⟩ | ⟨_, _, _, hw⟩ | ⟨_, _, _, _, _, _, hw⟩ | ⟨h0, h1, h2, hw⟩ <;> rw [hw]
 ·exact h
 ·exact h
 ·exact h
 ·exact h
 ·refine ⟨by have := h.le; simp; omega, fun i z hz hi => ?_, fun i z hz hi => ?_⟩
  ·rcases get_snoc hz with k | ⟨rfl, rfl⟩
   ·exact h.inp i z k hi
   ·have := h.le; omega
  ·rcases get_snoc hz with k | ⟨rfl, rfl⟩
   ·exact h.gate i z k hi
   ·show 0 <= a; omega
inductive GrowG : List (Int × Int) -> List (Int × Int) -> Prop
 | refl (N) : GrowG N N
 | gate {N M} (x y : Int) : GrowG N M -> GrowG N (andV M x y).2
theorem GrowG.trans {N M K : List (Int × Int)} (h : GrowG N M) (k : GrowG M K) : GrowG N K := by
 induction k with
 | refl => exact h
 | gate x y _ ih => exact .gate x y ih
theorem GrowG.only {m : Nat} {N M : List (Int × Int)} (h : GrowG N M) (hN : OnlyG m N) : OnlyG m M := by
 induction h with
 | refl => exact hN
 | gate x y _ ih => exact ih.and x y

theorem cnt_only {m : Nat} {N : List (Int × Int)} (h : OnlyG m N) : ∀ k, k <= m -> cnt N k = k
 | 0, _ => rfl
 | k + 1, hk => by
  have hle := h.le
  obtain ⟨x, hx⟩ := getI N (show k < N.length by omega)
  rw [cnt_in hx (by rw [h.inp k x hx (by omega)]; decide), cnt_only h k (by omega)]
theorem ofL_even (V : List Bool) (k : Nat) : ofL V (2 * ((k : Int) + 1)) = V.getD (k + 1) false := by
 unfold ofL
 rw [show (2 * ((k : Int) + 1) / 2).toNat = k + 1 by omega, decide_eq_false (show ¬ 2 * ((k : Int) + 1) % 2 = 1 by omega)]
 simp

theorem sel_split {P : Nat -> Prop} {k : Nat} : ∀ {m}, k <= m -> ∃ r, sel m P = sel k P ++ r /\ ∀ x ∈ r, (k : Int) <= x
  | 0, h => by obtain rfl : k = 0 := by omega
               exact ⟨[], by simp, by simp⟩
  | m + 1, h => by
    by_cases hk : k = m + 1
    · subst hk; exact ⟨[], by simp, by simp⟩
    · obtain ⟨r, h1, h2⟩ := sel_split (P := P) (show k <= m by omega)
      by_cases hp : P m
      · refine ⟨r ++ [(m : Int)], by rw [sel_yes hp, h1, List.append_assoc], fun x hx => ?_⟩
        rcases List.mem_append.1 hx with hx | hx
        · exact h2 x hx
        · rw [List.mem_singleton.1 hx]; omega
      · exact ⟨r, by rw [sel_no hp, h1], h2⟩
theorem of_at {P : Nat -> Prop} {m k : Nat} (h : P (k + 1)) (hk : k + 1 < m) : (sel m P)[rnk P k]? = some ((k + 1 : Nat) : Int) := by
 obtain ⟨r, h1, _⟩ := sel_split (P := P) (show k + 2 <= m by omega)
 rw [h1, sel_yes h, rnk, List.append_assoc, List.getElem?_append_right (Nat.le_refl _), Nat.sub_self]; rfl

theorem rnk_mono {P : Nat -> Prop} {j k : Nat} (h : j <= k) : rnk P j <= rnk P k := by
 obtain ⟨r, h1, _⟩ := sel_split (P := P) (show j + 1 <= k + 1 by omega)
 rw [rnk, rnk, h1, List.length_append]; omega
open Classical in
noncomputable def fewTo (n : List (Int × Int)) (P : Nat -> Prop) (ins : List Bool) : Nat -> List Bool
 | 0 => []
 | k + 1 => match n[k]? with
  | some x => if x.1 < 0 /\ P (k + 1) then fewTo n P ins k ++ [ins.getD (cnt n k) false] else fewTo n P ins k
  | none => fewTo n P ins k
theorem fewTo_yes {n : List (Int × Int)} {P : Nat -> Prop} {ins : List Bool} {k : Nat} {x : Int × Int} (hx : n[k]? = some x) (h : x.1 < 0 /\ P (k + 1)) : fewTo n P ins (k + 1) = fewTo n P ins k ++ [ins.getD (cnt n k) false] := by rw [fewTo, hx]; exact if_pos h
theorem fewTo_no {n : List (Int × Int)} {P : Nat -> Prop} {ins : List Bool} {k : Nat} {x : Int × Int} (hx : n[k]? = some x) (h : ¬ (x.1 < 0 /\ P (k + 1))) : fewTo n P ins (k + 1) = fewTo n P ins k := by rw [fewTo, hx]; exact if_neg h
section cut
variable {n : List (Int × Int)} {P : Nat -> Prop}
theorem outTo_get (h0 : ¬ P 0) {k : Nat} (h : P (k + 1)) : ∀ {M}, k < M -> (outTo n P M)[rnk P k]? = some (nodeC n P k)
 | M + 1, hM => by
  by_cases hkM : k = M
  ·subst hkM
   rw [outTo_yes h, List.getElem?_append_right (by rw [outTo_len n h0]; exact Nat.le_refl _), outTo_len n h0, Nat.sub_self]; rfl
  ·have ih := outTo_get h0 h (show k < M by omega)
   by_cases hP : P (M + 1)
   ·rw [outTo_yes hP, List.getElem?_append_left (lGt ih)]; exact ih
   ·rw [outTo_no hP]; exact ih
theorem outTo_all (h0 : ¬ P 0) {i : Nat} {x : Int × Int} : ∀ {M}, (outTo n P M)[i]? = some x -> ∃ k, k < M /\ P (k + 1) /\ i = rnk P k /\ x = nodeC n P k
 | 0, h => by simp [outTo] at h
 | M + 1, h => by
  by_cases hP : P (M + 1)
  ·rw [outTo_yes hP] at h
   by_cases hi : i < (outTo n P M).length
   ·rw [List.getElem?_append_left hi] at h
    obtain ⟨k, h1, h2⟩ := outTo_all h0 h
    exact ⟨k, by omega, h2⟩
   ·rw [List.getElem?_append_right (by omega)] at h
    have hl := lGt h
    simp only [List.length_cons, List.length_nil] at hl
    have hi2 : i = (outTo n P M).length := by omega
    rw [hi2, Nat.sub_self] at h
    exact ⟨M, by omega, hP, by rw [hi2, outTo_len n h0], (Option.some.inj h).symm⟩
  ·rw [outTo_no hP] at h
   obtain ⟨k, h1, h2⟩ := outTo_all h0 h
   exact ⟨k, by omega, h2⟩
theorem atL_bound {l : Int} {k : Nat} (hl : 0 <= l) (hlk : l <= 2 * k + 1) (hc : (l / 2).toNat = 0 ∨ P (l / 2).toNat) : 0 <= atL P l /\ atL P l <= 2 * (rnk P k : Nat) + 1 /\ atL P l % 2 = l % 2 /\ (atL P l / 2).toNat = if (l / 2).toNat = 0 then 0 else rnk P (l / 2).toNat := by
 unfold atL atv
 by_cases h : (l / 2).toNat = 0
 ·rw [if_pos h, if_pos h]; omega
 ·have := rnk_mono (P := P) (show (l / 2).toNat <= k by omega)
  rw [if_neg h, if_pos (hc.resolve_left h), if_neg h]; omega
theorem node_gate (hk : ∀ v c, P v -> Kid n v c -> c = 0 ∨ P c) {k : Nat} {x : Int × Int} (hx : n[k]? = some x) (h : P (k + 1)) (h1 : 0 <= x.1) : nodeC n P k = (atL P x.1, atL P x.2) /\ ((x.1 / 2).toNat = 0 ∨ P (x.1 / 2).toNat) /\ ((x.2 / 2).toNat = 0 ∨ P (x.2 / 2).toNat) :=
 ⟨by rw [nodeC, hx]; exact if_neg (by omega), hk _ _ h ⟨k, x, rfl, hx, h1, .inl rfl⟩, hk _ _ h ⟨k, x, rfl, hx, h1, .inr rfl⟩⟩
theorem good_out (hg : GNt n) (h0 : ¬ P 0) (hk : ∀ v c, P v -> Kid n v c -> c = 0 ∨ P c) {M : Nat} (hM : M <= n.length) : GNt (outTo n P M) := by
 intro i y hy
 obtain ⟨k, h1, h2, rfl, rfl⟩ := outTo_all h0 hy
 obtain ⟨x, hx⟩ := getI n (show k < n.length by omega)
 by_cases hin : x.1 < 0
 ·have : nodeC n P k = (-1, 0) := by rw [nodeC, hx]; exact if_pos hin
  rw [this]; unfold badNode; omega
 ·have hgt := hg.gate hx (by omega)
  obtain ⟨e, c1, c2⟩ := node_gate hk hx h2 (by omega)
  have b1 := atL_bound (P := P) (k := k) (by omega) hgt.1 c1
  have b2 := atL_bound (P := P) (k := k) hgt.2.1 hgt.2.2 c2
  rw [e]; unfold badNode; omega
theorem few_cnt (hg : GNt n) (h0 : ¬ P 0) (hk : ∀ v c, P v -> Kid n v c -> c = 0 ∨ P c) (ins : List Bool) {M : Nat} (hM : M <= n.length) : ∀ k, k <= M -> cnt (outTo n P M) (rnk P k) = (fewTo n P ins k).length
 | 0, _ => by rw [rnk, sel_no h0]; rfl
 | k + 1, h => by
  have ih := few_cnt hg h0 hk ins hM k (by omega)
  obtain ⟨x, hx⟩ := getI n (show k < n.length by omega)
  by_cases hP : P (k + 1)
  ·have hget := outTo_get (n := n) h0 hP (show k < M by omega)
   rw [rnk_yes hP]
   by_cases hin : x.1 < 0
   ·have e : nodeC n P k = (-1, 0) := by rw [nodeC, hx]; exact if_pos hin
    rw [e] at hget
    rw [cnt_in hget (by decide), fewTo_yes hx ⟨hin, hP⟩, List.length_append, ih]; rfl
   ·have hgt := hg.gate hx (by omega)
    obtain ⟨e, c1, c2⟩ := node_gate hk hx hP (by omega)
    have b1 := atL_bound (P := P) (k := k) (by omega) hgt.1 c1
    rw [e] at hget
    rw [cnt_gate hget (by show ¬ atL P x.1 < 0; omega), fewTo_no hx (fun h => hin h.1), ih]
  ·rw [rnk_no hP, fewTo_no hx (fun h => hP h.2), ih]
theorem few_get {ins : List Bool} {k : Nat} {x : Int × Int} (hx : n[k]? = some x) (h : x.1 < 0 /\ P (k + 1)) : ∀ {M}, k < M -> (fewTo n P ins M)[(fewTo n P ins k).length]? = some (ins.getD (cnt n k) false)
 | M + 1, hM => by
  by_cases hkM : k = M
  ·subst hkM
   rw [fewTo_yes hx h, List.getElem?_append_right (Nat.le_refl _), Nat.sub_self]; rfl
  ·have ih := few_get (ins := ins) hx h (show k < M by omega)
   cases hy : n[M]? with
   | none => rw [fewTo, hy]; exact ih
   | some y =>
    by_cases hM' : y.1 < 0 /\ P (M + 1)
    ·rw [fewTo_yes hy hM', List.getElem?_append_left (lGt ih)]; exact ih
    ·rw [fewTo_no hy hM']; exact ih
theorem cut_val (hg : GNt n) (h0 : ¬ P 0) (hk : ∀ v c, P v -> Kid n v c -> c = 0 ∨ P c) (ins : List Bool) : ∀ v, v <= n.length -> P v -> (values (outTo n P n.length) (fewTo n P ins n.length)).getD (rnk P v) false = (values n ins).getD v false := by
 intro v
 induction v using Nat.strongRecOn with
 | _ v ih =>
  intro hv hP
  match v, ih, hv, hP with
  | 0, _, _, hP => exact absurd hP h0
  | k + 1, ih, hv, hP =>
   obtain ⟨x, hx⟩ := getI n (show k < n.length by omega)
   have hget := outTo_get (n := n) h0 hP (show k < n.length by omega)
   have hgo := good_out hg h0 hk (Nat.le_refl n.length)
   rw [rnk_yes hP]
   by_cases hin : x.1 < 0
   ·have e : nodeC n P k = (-1, 0) := by rw [nodeC, hx]; exact if_pos hin
    rw [e] at hget
    rw [values_in _ hget (by decide), few_cnt hg h0 hk ins (Nat.le_refl _) k (by omega), gDo (few_get hx ⟨hin, hP⟩ (show k < n.length by omega)), values_in ins hx hin]
   ·have hgt := hg.gate hx (by omega)
    obtain ⟨e, c1, c2⟩ := node_gate hk hx hP (by omega)
    have b1 := atL_bound (P := P) (k := k) (by omega) hgt.1 c1
    have b2 := atL_bound (P := P) (k := k) hgt.2.1 hgt.2.2 c2
    rw [e] at hget
    have hof : ∀ l : Int, 0 <= l -> l <= 2 * k + 1 -> ((l / 2).toNat = 0 ∨ P (l / 2).toNat) -> ofL (values (outTo n P n.length) (fewTo n P ins n.length)) (atL P l) = ofL (values n ins) l := by
     intro l hl0 hl1 hc
     have b := atL_bound (P := P) (k := k) hl0 hl1 hc
     unfold ofL
     rw [b.2.2.1, b.2.2.2]
     by_cases hz : (l / 2).toNat = 0
     ·rw [if_pos hz, hz, values_zero, values_zero]
     ·rw [if_neg hz, ih _ (by omega) (by omega) (hc.resolve_left hz)]
    rw [values_gate hgo _ hget (by show 0 <= atL P x.1; omega), values_gate hg ins hx (by omega), hof _ (by omega) hgt.1 c1, hof _ hgt.2.1 hgt.2.2 c2]
theorem cut_of (hg : GNt n) (h0 : ¬ P 0) (hk : ∀ v c, P v -> Kid n v c -> c = 0 ∨ P c) (ins : List Bool) {v : Nat} (hv : v <= n.length) (ha : 0 <= atv P v) : ofL (values (outTo n P n.length) (fewTo n P ins n.length)) (atv P v) = (values n ins).getD v false := by
 unfold atv at ha ⊢
 by_cases hv0 : v = 0
 ·rw [if_pos hv0, hv0, values_zero]
  unfold ofL
  rw [show ((0 : Int) / 2).toNat = 0 from rfl, values_zero]; rfl
 ·rw [if_neg hv0] at ha ⊢
  by_cases hP : P v
  ·rw [if_pos hP]
   unfold ofL
   rw [show (2 * ((rnk P v : Nat) : Int) / 2).toNat = rnk P v by omega, cut_val hg h0 hk ins v hv hP, decide_eq_false (by omega)]; simp
  ·rw [if_neg hP] at ha; omega
end cut

def putFC (off : Nat) (s : List Int × Nat) (i : Int) : List Int × Nat := (s.1.set (off + i.toNat) (2 * ((s.2 : Int) + 1)), s.2 + 1)
def fill1 (m : Nat) (inp : List Int) (k : Nat) : List Int × Nat := (inp.take k).foldl (putFC 0) (List.replicate m 0, 0)
def fill2 (I m : Nat) (inp la : List Int) (k : Nat) : List Int × Nat := (la.take k).foldl (putFC I) (fill1 m inp inp.length)
def stkP (I : Nat) (st : List Int) (l : List Int) (i : Nat) : List Int := if st.getD i 0 ≠ 2 then l.set (I + i) (st.getD i 0) else l
def fill3 (I : Nat) (st l : List Int) (k : Nat) : List Int := (List.range k).foldl (stkP I st) l
theorem fill1_succ {m : Nat} {inp : List Int} {k : Nat} {z : Int} (h : inp[k]? = some z) : fill1 m inp (k + 1) = putFC 0 (fill1 m inp k) z := by
 unfold fill1; rw [tkS h, List.foldl_append]; rfl
theorem fill2_succ {I m : Nat} {inp la : List Int} {k : Nat} {z : Int} (h : la[k]? = some z) : fill2 I m inp la (k + 1) = putFC I (fill2 I m inp la k) z := by
 unfold fill2; rw [tkS h, List.foldl_append]; rfl
theorem fill3_succ (I : Nat) (st l : List Int) (k : Nat) : fill3 I st l (k + 1) = stkP I st (fill3 I st l k) k := by
 unfold fill3; rw [List.range_succ, List.foldl_append]; rfl
def fillC (c : CirT) (st la inp : List Int) : List Int := fill3 c.ins.length st (fill2 c.ins.length (c.ins.length + c.lat.length) inp la la.length).1 c.lat.length
abbrev foldN (la inp : List Int) : List (Int × Int) := List.replicate (inp.length + la.length) (-1, 0)
noncomputable def foldV (c : CirT) (st la inp : List Int) : List Int × List (Int × Int) := copyV (foldN la inp) (cNet c).1 (fillC c st la inp)
noncomputable def foldL (c : CirT) (st la inp : List Int) (l : Int) : Int := litI (foldV c st la inp).1 (cl c l)
theorem getD_setC {l : List Int} {i p : Nat} {x d : Int} : (l.set i x).getD p d = if p = i /\ i < l.length then x else l.getD p d := by
 rw [List.getD_eq_getElem?_getD, List.getElem?_set, List.getD_eq_getElem?_getD]
 by_cases h : i = p
 ·subst h
  rw [if_pos rfl]
  by_cases h2 : i < l.length
  ·rw [if_pos h2, if_pos ⟨rfl, h2⟩]; rfl
  ·rw [if_neg h2, if_neg (fun h => h2 h.2), List.getElem?_eq_none (by omega)]
 ·rw [if_neg h, if_neg (fun h2 => h h2.1.symm)]
theorem mem_take_succ {l : List Int} {k : Nat} {z : Int} (h : l[k]? = some z) (x : Int) : x ∈ l.take (k + 1) ↔ x ∈ l.take k ∨ x = z := by
 rw [tkS h, List.mem_append, List.mem_singleton]
section fill
variable {I L : Nat} {inp la st : List Int} {V : List Bool} {f g : Int -> Bool}
theorem fill1_ok (hI : I <= L) (h0 : ofL V 0 = false) (hp : ∀ z ∈ inp, 0 <= z /\ z < (I : Int)) (hf : ∀ (k : Nat) z, inp[k]? = some z -> ofL V (2 * ((k : Int) + 1)) = f z) : ∀ k, k <= inp.length ->
  (fill1 L inp k).2 = k /\ (fill1 L inp k).1.length = L /\ ∀ p, p < L -> ofL V ((fill1 L inp k).1.getD p 0) = (if (p : Int) ∈ inp.take k then f p else false)
 | 0, _ => by
  refine ⟨rfl, by simp [fill1], fun p hp => ?_⟩
  rw [List.take_zero, if_neg (by simp)]
  show ofL V ((List.replicate L (0 : Int)).getD p 0) = _
  rw [List.getD_eq_getElem?_getD, List.getElem?_replicate, if_pos hp]; exact h0
 | k + 1, hk => by
  obtain ⟨z, hz⟩ := getI inp (show k < _ by omega)
  obtain ⟨i1, i2, i3⟩ := fill1_ok hI h0 hp hf k (by omega)
  have hzb := hp z (List.mem_of_getElem? hz)
  rw [fill1_succ hz]
  unfold putFC
  dsimp only
  refine ⟨by omega, by rw [List.length_set]; exact i2, fun p hp' => ?_⟩
  rw [getD_setC, i2, Nat.zero_add, i1]
  have hm := mem_take_succ hz (p : Int)
  by_cases e : p = z.toNat
  ·have e2 : (p : Int) = z := by omega
   rw [if_pos ⟨e, by omega⟩, if_pos (hm.2 (.inr e2)), hf k z hz, e2]
  ·have e2 : ¬ (p : Int) = z := by omega
   rw [if_neg (fun h => e h.1), i3 p hp']
   by_cases h3 : (p : Int) ∈ inp.take k
   ·rw [if_pos h3, if_pos (hm.2 (.inl h3))]
   ·rw [if_neg h3, if_neg (fun h => (hm.1 h).elim h3 e2)]
theorem fill2_ok (h0 : ofL V 0 = false) (hp : ∀ z ∈ inp, 0 <= z /\ z < (I : Int)) (hq : ∀ z ∈ la, 0 <= z /\ z < (L : Int)) (hf : ∀ (k : Nat) z, inp[k]? = some z -> ofL V (2 * ((k : Int) + 1)) = f z) (hg : ∀ (k : Nat) z, la[k]? = some z -> ofL V (2 * (((inp.length + k : Nat) : Int) + 1)) = g z) : ∀ k, k <= la.length ->
  (fill2 I (I + L) inp la k).2 = inp.length + k /\ (fill2 I (I + L) inp la k).1.length = I + L /\ (∀ p, p < I -> ofL V ((fill2 I (I + L) inp la k).1.getD p 0) = (if (p : Int) ∈ inp then f p else false)) /\
   ∀ j, j < L -> ofL V ((fill2 I (I + L) inp la k).1.getD (I + j) 0) = (if (j : Int) ∈ la.take k then g j else false)
 | 0, _ => by
  obtain ⟨i1, i2, i3⟩ := fill1_ok (I := I) (L := I + L) (inp := inp) (V := V) (f := f) (by omega) h0 hp hf inp.length (Nat.le_refl _)
  refine ⟨i1, i2, fun p hp' => ?_, fun j hj => ?_⟩
  ·have := i3 p (by omega); rw [List.take_length] at this; exact this
  ·have := i3 (I + j) (by omega)
   rw [List.take_length, if_neg (fun h => by have := (hp _ h).2; omega)] at this
   rw [List.take_zero, if_neg (by simp)]; exact this
 | k + 1, hk => by
  obtain ⟨z, hz⟩ := getI la (show k < _ by omega)
  obtain ⟨i1, i2, i3, i4⟩ := fill2_ok h0 hp hq hf hg k (by omega)
  have hzb := hq z (List.mem_of_getElem? hz)
  rw [fill2_succ hz]
  unfold putFC
  dsimp only
  refine ⟨by omega, by rw [List.length_set]; exact i2, fun p hp' => ?_, fun j hj => ?_⟩
  ·rw [getD_setC, if_neg (fun h => by omega)]; exact i3 p hp'
  ·have hm := mem_take_succ hz (j : Int)
   rw [getD_setC, i2, i1]
   by_cases e : j = z.toNat
   ·have e2 : (j : Int) = z := by omega
    rw [if_pos ⟨by omega, by omega⟩, if_pos (hm.2 (.inr e2)), hg k z hz, e2]
   ·have e2 : ¬ (j : Int) = z := by omega
    rw [if_neg (fun h => by omega), i4 j hj]
    by_cases h3 : (j : Int) ∈ la.take k
    ·rw [if_pos h3, if_pos (hm.2 (.inl h3))]
    ·rw [if_neg h3, if_neg (fun h => (hm.1 h).elim h3 e2)]
theorem fill3_len (I : Nat) (st l : List Int) : ∀ k, (fill3 I st l k).length = l.length
 | 0 => rfl
 | k + 1 => by
  rw [fill3_succ]
  unfold stkP
  split
  ·rw [List.length_set]; exact fill3_len I st l k
  ·exact fill3_len I st l k
theorem fill3_get (I : Nat) (st l : List Int) : ∀ k, I + k <= l.length -> (∀ p, p < I -> (fill3 I st l k).getD p 0 = l.getD p 0) /\ ∀ j, (fill3 I st l k).getD (I + j) 0 = (if j < k /\ st.getD j 0 ≠ 2 then st.getD j 0 else l.getD (I + j) 0)
 | 0, _ => ⟨fun _ _ => rfl, fun j => by rw [if_neg (fun h => by omega)]; rfl⟩
 | k + 1, hk => by
  obtain ⟨i1, i2⟩ := fill3_get I st l k (by omega)
  have hl := fill3_len I st l k
  rw [fill3_succ]
  unfold stkP
  refine ⟨fun p hp => ?_, fun j => ?_⟩
  ·split
   ·rw [getD_setC, if_neg (fun h => by omega)]; exact i1 p hp
   ·exact i1 p hp
  ·by_cases hs : st.getD k 0 ≠ 2
   ·rw [if_pos hs, getD_setC, hl]
    by_cases e : j = k
    ·subst e
     rw [if_pos ⟨rfl, by omega⟩, if_pos ⟨by omega, hs⟩]
    ·rw [if_neg (fun h => by omega), i2 j]
     by_cases h3 : j < k /\ st.getD j 0 ≠ 2
     ·rw [if_pos h3, if_pos ⟨by omega, h3.2⟩]
     ·rw [if_neg h3, if_neg (fun h => h3 ⟨by omega, h.2⟩)]
   ·rw [if_neg hs, i2 j]
    by_cases h3 : j < k /\ st.getD j 0 ≠ 2
    ·rw [if_pos h3, if_pos ⟨by omega, h3.2⟩]
    ·rw [if_neg h3, if_neg (fun h => h3 ⟨by
      rcases Nat.lt_or_ge j k with h4 | h4
      ·exact h4
      ·have : j = k := by omega
       subst this; exact absurd h.2 hs, h.2⟩)]
end fill
def mIn (n : Nat) (inp : List Int) (i : List Bool) : List Bool := tab n fun p => if (p : Int) ∈ inp then i.getD p false else false
def mSt (n : Nat) (st la : List Int) (s : List Bool) : List Bool := tab n fun j => if st.getD j 0 ≠ 2 then decide (st.getD j 0 = 1) else if (j : Int) ∈ la then s.getD j false else false
def tookL (la : List Int) (s : List Bool) : List Bool := la.map fun z => s.getD z.toNat false
theorem tidy_rep : ∀ m, Tidy (List.replicate m ((-1 : Int), (0 : Int)))
 | 0 => Tidy.nil
 | m + 1 => by rw [List.replicate_succ']; exact (tidy_rep m).input
theorem only_litQ {m : Nat} {N : List (Int × Int)} (h : OnlyG m N) (E : List Bool) {k : Nat} (hk : k < m) : ofL (values N E) (2 * ((k : Int) + 1)) = E.getD k false := by
 have hle := h.le
 obtain ⟨x, hx⟩ := getI N (show k < N.length by omega)
 have hxe := h.inp k x hx hk
 rw [ofL_even, values_in E hx (by rw [hxe]; decide), cnt_only h k (by omega)]
structure FoldOk (c : CirT) (st la inp : List Int) : Prop where
 st : st.length = c.lat.length /\ ∀ j, j < c.lat.length -> st.getD j 0 = 0 ∨ st.getD j 0 = 1 ∨ st.getD j 0 = 2
 la : ∀ z ∈ la, 0 <= z /\ z < (c.lat.length : Int)
 inp : ∀ z ∈ inp, 0 <= z /\ z < (c.ins.length : Int)
section
variable {c : CirT} {st la inp : List Int}
theorem fillC_len (h : FoldOk c st la inp) : (fillC c st la inp).length = c.ins.length + c.lat.length := by
 unfold fillC
 rw [fill3_len]
 have V : ofL (values ([] : List (Int × Int)) []) 0 = false := ofL_zero []
 unfold fill2 fill1
 have key : ∀ (off : Nat) (l : List Int) (s : List Int × Nat), (l.foldl (putFC off) s).1.length = s.1.length := by
  intro off l
  induction l with
  | nil => intro s; rfl
  | cons x r ih => intro s; rw [List.foldl_cons, ih]; unfold putFC; rw [List.length_set]
 rw [key, key, List.length_replicate]
theorem fillC_has (h : FoldOk c st la inp) : ∀ z ∈ fillC c st la inp, hasL (foldN la inp) z := by
 have h0 : hasL (foldN la inp) 0 := by unfold hasL; omega
 have key : ∀ (off : Nat) (l : List Int) (s : List Int × Nat), (∀ z ∈ s.1, hasL (foldN la inp) z) -> s.2 + l.length <= inp.length + la.length -> (∀ z ∈ (l.foldl (putFC off) s).1, hasL (foldN la inp) z) /\ (l.foldl (putFC off) s).2 = s.2 + l.length := by
  intro off l
  induction l with
  | nil => intro s h1 _; exact ⟨h1, rfl⟩
  | cons x r ih =>
   intro s h1 h2
   rw [List.foldl_cons]
   have h3 := ih (putFC off s x) (fun z hz => by
    unfold putFC at hz
    rcases List.mem_or_eq_of_mem_set hz with hz | hz
    ·exact h1 z hz
    ·rw [hz]; unfold hasL; simp at h2 ⊢; omega) (by unfold putFC; simp at h2 ⊢; omega)
   refine ⟨h3.1, ?_⟩
   rw [h3.2]; unfold putFC; simp; omega
 have k1 := key 0 (inp.take inp.length) (List.replicate (c.ins.length + c.lat.length) 0, 0) (fun z hz => by rw [List.eq_of_mem_replicate hz]; exact h0) (by simp)
 have k2 := key c.ins.length (la.take la.length) (fill1 (c.ins.length + c.lat.length) inp inp.length) k1.1 (by
  have : (fill1 (c.ins.length + c.lat.length) inp inp.length).2 = 0 + (inp.take inp.length).length := k1.2
  rw [this]; simp)
 have k3 : ∀ k, k <= c.lat.length -> ∀ z ∈ fill3 c.ins.length st (fill2 c.ins.length (c.ins.length + c.lat.length) inp la la.length).1 k, hasL (foldN la inp) z := by
  intro k
  induction k with
  | zero => intro _; exact k2.1
  | succ k ih =>
   intro hk z hz
   rw [fill3_succ] at hz
   unfold stkP at hz
   split at hz
   ·rename_i h2
    rcases List.mem_or_eq_of_mem_set hz with hz | hz
    ·exact ih (by omega) z hz
    ·rw [hz]; unfold hasL
     rcases h.st.2 k (by omega) with e | e | e
     ·rw [e]; omega
     ·rw [e]; omega
     ·exact absurd e h2
   ·exact ih (by omega) z hz
 exact k3 _ (Nat.le_refl _)
theorem fillC_val (h : FoldOk c st la inp) (s i : List Bool) : (fillC c st la inp).map (ofL (values (foldN la inp) (tookL inp i ++ tookL la s))) = insV c (mSt c.lat.length st la s) (mIn c.ins.length inp i) := by
 obtain ⟨V, hV⟩ : ∃ V, V = values (foldN la inp) (tookL inp i ++ tookL la s) := ⟨_, rfl⟩
 have h0 : ofL V 0 = false := by rw [hV]; exact ofL_zero _
 have h1 : ofL V 1 = true := by rw [hV]; exact ofL_one _
 have hlit : ∀ k, k < inp.length + la.length -> ofL V (2 * ((k : Int) + 1)) = (tookL inp i ++ tookL la s).getD k false := fun k hk => by
  rw [hV]; exact only_litQ (OnlyG.start _) _ hk
 have hf : ∀ (k : Nat) z, inp[k]? = some z -> ofL V (2 * ((k : Int) + 1)) = i.getD z.toNat false := fun k z hz => by
  have hk := lGt hz
  rw [hlit k (by omega), List.getD_eq_getElem?_getD, List.getElem?_append_left (by unfold tookL; rw [List.length_map]; exact hk)]
  unfold tookL
  rw [List.getElem?_map, hz]; rfl
 have hg : ∀ (k : Nat) z, la[k]? = some z -> ofL V (2 * (((inp.length + k : Nat) : Int) + 1)) = s.getD z.toNat false := fun k z hz => by
  have hk := lGt hz
  rw [hlit (inp.length + k) (by omega), List.getD_eq_getElem?_getD, List.getElem?_append_right (by unfold tookL; rw [List.length_map]; omega)]
  unfold tookL
  rw [List.length_map, Nat.add_sub_cancel_left, List.getElem?_map, hz]; rfl
 obtain ⟨_, j2, j3, j4⟩ := fill2_ok (f := fun z => i.getD z.toNat false) (g := fun z => s.getD z.toNat false) h0 h.inp h.la hf hg la.length (Nat.le_refl _)
 rw [List.take_length] at j4
 obtain ⟨m1, m2⟩ := fill3_get c.ins.length st (fill2 c.ins.length (c.ins.length + c.lat.length) inp la la.length).1 c.lat.length (by omega)
 rw [<- hV]
 have e1 : insV c (mSt c.lat.length st la s) (mIn c.ins.length inp i) = mIn c.ins.length inp i ++ mSt c.lat.length st la s := by
  unfold insV
  have a1 := brV_self (mIn c.ins.length inp i)
  have a2 := brV_self (mSt c.lat.length st la s)
  rw [show (mIn c.ins.length inp i).length = c.ins.length from tab_len _ _] at a1
  rw [show (mSt c.lat.length st la s).length = c.lat.length from tab_len _ _] at a2
  rw [a1, a2]
 rw [e1]
 apply List.ext_getElem?
 intro p
 have hfl := fillC_len h
 have hml : (mIn c.ins.length inp i).length = c.ins.length := tab_len _ _
 by_cases hp : p < c.ins.length
 ·obtain ⟨z, hz⟩ := getI (fillC c st la inp) (show p < _ by omega)
  have ez : (fillC c st la inp).getD p 0 = z := gDo hz
  rw [List.getElem?_map, hz, List.getElem?_append_left (by omega)]
  unfold mIn
  rw [tab_get _ hp]
  show some (ofL V z) = _
  rw [<- ez]
  unfold fillC
  rw [m1 p hp, j3 p hp]; rfl
 ·by_cases hp2 : p < c.ins.length + c.lat.length
  ·obtain ⟨j, rfl⟩ : ∃ j, p = c.ins.length + j := ⟨p - c.ins.length, by omega⟩
   obtain ⟨z, hz⟩ := getI (fillC c st la inp) (show c.ins.length + j < _ by omega)
   have ez : (fillC c st la inp).getD (c.ins.length + j) 0 = z := gDo hz
   rw [List.getElem?_map, hz, List.getElem?_append_right (by omega), hml, Nat.add_sub_cancel_left]
   unfold mSt
   rw [tab_get _ (show j < c.lat.length by omega)]
   show some (ofL V z) = _
   rw [<- ez]
   unfold fillC
   rw [m2 j]
   by_cases h2 : st.getD j 0 ≠ 2
   ·rw [if_pos ⟨by omega, h2⟩, if_pos h2]
    rcases h.st.2 j (by omega) with e | e | e
    ·rw [e, h0]; rfl
    ·rw [e, h1]; rfl
    ·exact absurd e h2
   ·rw [if_neg (fun hh => h2 hh.2), if_neg h2, j4 j (by omega)]; rfl
  ·rw [List.getElem?_eq_none (by rw [List.length_map]; omega), List.getElem?_eq_none (by rw [List.length_append, hml]; unfold mSt; rw [tab_len]; omega)]
theorem fold_yes (h : FoldOk c st la inp) : foldV c st la inp = ((cto (foldN la inp) (cNet c).1 (fillC c st la inp) (cNet c).1.length).1, (cto (foldN la inp) (cNet c).1 (fillC c st la inp) (cNet c).1.length).2.2) := copyV_yes (fillC_has h)
theorem fold_inv (hg : GoodC' c) (h : FoldOk c st la inp) : (foldV c st la inp).1.length = (cNet c).1.length + 1 /\ (∀ z ∈ (foldV c st la inp).1, hasL (foldV c st la inp).2 z) /\ inp.length + la.length <= (foldV c st la inp).2.length /\ (foldV c st la inp).2.length <= inp.length + la.length + (cNet c).1.length /\ Tidy (foldV c st la inp).2 := by
 have h1 := cto_inv (cNet_ok hg).2 (fillC_has h) (cNet c).1.length (Nat.le_refl _)
 rw [fold_yes h]
 obtain ⟨a1, a2, a3, a4, a5, _⟩ := h1
 rw [List.length_replicate] at a3 a4
 exact ⟨a1, a2, a3, a4, a5.tidy (tidy_rep _)⟩
theorem fold_lit (hg : GoodC' c) (h : FoldOk c st la inp) (s i : List Bool) {l : Int} (hl : KnL c l) : ofL (values (foldV c st la inp).2 (tookL inp i ++ tookL la s)) (foldL c st la inp l) = litV c (mSt c.lat.length st la s) (mIn c.ins.length inp i) l := by
 obtain ⟨a1, a2, _⟩ := fold_inv hg h
 have hcn := net_cnt hg (cNet c).1.length (Nat.le_refl _)
 have hcs := (copy_semG (cNet_ok hg).2 (tidy_rep _) (fillC_has h) (by rw [hcn, fillC_len h, inl_len]; exact Nat.min_le_right _ _) (tookL inp i ++ tookL la s) (cNet c).1.length (Nat.le_refl _)).2.2
 have hr := knL_range hg hl
 unfold litV stepV foldL
 rw [<- fillC_val h s i]
 refine litI_of_copy (N := (foldV c st la inp).2) (fun k z hz => ?_) a2 (by unfold cl; omega)
 rw [fold_yes h] at hz ⊢
 exact hcs k z hz
theorem foldL_has (hg : GoodC' c) (h : FoldOk c st la inp) {l : Int} (hl : KnL c l) : hasL (foldV c st la inp).2 (foldL c st la inp l) := by
 obtain ⟨a1, a2, _⟩ := fold_inv hg h
 have hr := knL_range hg hl
 exact hasL_litI a2 (by unfold cl; omega)
end
end Go.Proofs.Yteidpnpbfagaeaa
