/- Part 3 of what the claim CoiExtends needs: lemmas and contracts. No conditions. -/
import Derived.Test.YteidpnpbfagaeaaGreatRows
import Derived.Lib.SmallJoins
import Derived.KernelRfl
import Derived.WalkKit
import Derived.ProofKit
import Derived.Deep.Quiet
import Derived.Deep.LoopGhost
import Derived.StillTail
import Derived.Test.YteidpnpbfagaeaaGreatProg
import Derived.OpenShut
import Derived.ShutString
import Derived.ChangeOld
import Derived.Deep.Slices
import Derived.SizedLaws
import Derived.Laws.StructEq
import Derived.Laws.Externs
import Derived.MapKept
import Derived.Laws.CopyRow
import Derived.Laws.IdiomCopy
import Derived.Test.YteidpnpbfagaeaaGreatCoiExtendsP2
set_option linter.unusedVariables false
set_option linter.unusedSimpArgs false
set_option maxRecDepth 20000
set_option maxHeartbeats 32000000
namespace Go.Proofs.YteidpnpbfagaeaaGreat
open Go Go.Lt Go.RowKit

theorem Sep.sub' {B : Nat} {w : World} {ps qs : List Piece} (f : Nat -> Nat) (hS : Sep B w ps) (hf : ∀ i p, qs[i]? = some p -> ps[f i]? = some p) (hi : ∀ i j, i < qs.length -> j < qs.length -> i ≠ j -> f i ≠ f j) : Sep B w qs := by
 refine ⟨fun i p h => hS.holds _ _ (hf i p h), fun i j p q h1 h2 hne => hS.apart _ _ _ _ (hf i p h1) (hf j q h2) (hi i j ?_ ?_ hne)⟩
 ·exact (List.getElem?_eq_some_iff.1 h1).1
 ·exact (List.getElem?_eq_some_iff.1 h2).1
theorem Sep.rot {B : Nat} {w : World} {p : Piece} {ps : List Piece} (hS : Sep B w (p :: ps)) : Sep B w (ps ++ [p]) := by
 refine Sep.sub' (fun i => if i < ps.length then i + 1 else 0) hS (fun i q h => ?_) (fun i j hi hj hne => ?_)
 ·by_cases h1 : i < ps.length
  ·simp only [if_pos h1]; rw [List.getElem?_append_left h1] at h; simpa using h
  ·simp only [if_neg h1]
   have h2 := (List.getElem?_eq_some_iff.1 h).1
   simp only [List.length_append, List.length_cons, List.length_nil] at h2
   have : i = ps.length := by omega
   subst this; simp at h; subst h; rfl
 ·simp only [List.length_append, List.length_cons, List.length_nil] at hi hj
  show (if i < ps.length then i + 1 else 0) ≠ (if j < ps.length then j + 1 else 0)
  split <;> split <;> omega
theorem Sep.rotBack {B : Nat} {w : World} {p : Piece} {ps : List Piece} (hS : Sep B w (ps ++ [p])) : Sep B w (p :: ps) := by
 refine Sep.sub' (fun i => if i = 0 then ps.length else i - 1) hS (fun i q h => ?_) (fun i j hi hj hne => ?_)
 ·cases i with
  | zero => simp at h; subst h; simp
  | succ i =>
   have h2 := (List.getElem?_eq_some_iff.1 h).1
   simp only [List.length_cons] at h2
   simp only [Nat.add_one_ne_zero, if_false, Nat.add_sub_cancel]
   rw [List.getElem?_append_left (by omega)]; simpa using h
 ·simp only [List.length_cons] at hi hj
  show (if i = 0 then ps.length else i - 1) ≠ (if j = 0 then ps.length else j - 1)
  split <;> split <;> omega
theorem Sep.tail {B : Nat} {w : World} {p : Piece} {ps : List Piece} (hS : Sep B w (p :: ps)) : Sep B w ps := hS.drop 1

structure AndR where
 v : Int
 N : List (Int × Int)
 M : List ((Int × Int) × Int)
noncomputable def andF (N : List (Int × Int)) (M : List ((Int × Int) × Int)) (x y : Int) : AndR :=
 bif dec (¬ (hasL N x /\ hasL N y)) then ⟨-1, N, M⟩ else
 bif dec (x = 0 ∨ x = xor1 y) then ⟨0, N, M⟩ else
 bif dec (x = 1 ∨ x = y) then ⟨y, N, M⟩ else
 match mget (x, y) M with
 | some v => ⟨v, N, M⟩
 | none => ⟨2 * ((N.length : Int) + 1), N ++ [(x, y)], M ++ [((x, y), 2 * ((N.length : Int) + 1))]⟩

section
variable {N : List (Int × Int)} {M : List ((Int × Int) × Int)} {x y : Int}
theorem andF_no (h : ¬ (hasL N x /\ hasL N y)) : andF N M x y = ⟨-1, N, M⟩ := by unfold andF; rw [dTt h]; rfl
theorem andF_zero (h : hasL N x /\ hasL N y) (h1 : x = 0 ∨ x = xor1 y) : andF N M x y = ⟨0, N, M⟩ := by unfold andF; rw [dFf (fun hh => hh h), dTt h1]; rfl
theorem andF_one (h : hasL N x /\ hasL N y) (h1 : ¬ (x = 0 ∨ x = xor1 y)) (h2 : x = 1 ∨ x = y) : andF N M x y = ⟨y, N, M⟩ := by unfold andF; rw [dFf (fun hh => hh h), dFf h1, dTt h2]; rfl
theorem andF_old {v : Int} (h : hasL N x /\ hasL N y) (h1 : ¬ (x = 0 ∨ x = xor1 y)) (h2 : ¬ (x = 1 ∨ x = y)) (hm : mget (x, y) M = some v) : andF N M x y = ⟨v, N, M⟩ := by unfold andF; rw [dFf (fun hh => hh h), dFf h1, dFf h2, hm]; rfl
theorem andF_new (h : hasL N x /\ hasL N y) (h1 : ¬ (x = 0 ∨ x = xor1 y)) (h2 : ¬ (x = 1 ∨ x = y)) (hm : mget (x, y) M = none) : andF N M x y = ⟨2 * ((N.length : Int) + 1), N ++ [(x, y)], M ++ [((x, y), 2 * ((N.length : Int) + 1))]⟩ := by unfold andF; rw [dFf (fun hh => hh h), dFf h1, dFf h2, hm]; rfl
end

theorem aig_AndLe (gs r cap : Nat) (a : Option Addr) (N : List (Int × Int)) (M : List ((Int × Int) × Int)) (x y : Int) (rest : List Piece) (w w0 : World) (hX : Ext w0 w) (hS : Sep w0.heap.size w (stP w0.heap.size gs a cap r N M ++ rest)) (hN : N.length < 1048576) (hxy : x <= y) :
  Lt.Spec Tryz.prog 152 [.pointer (some ⟨gs, 0, none⟩), .int .i64 x, .int .i64 y] w (fun v w' => Ext w0 w' /\ ∃ a' cap', v = .int .i64 (andF N M x y).v /\ Sep w0.heap.size w' (stP w0.heap.size gs a' cap' r (andF N M x y).N (andF N M x y).M ++ rest)) := by
 have hC0 := hS.cell (i := 0) rfl
 have hM0 := hS.map (i := 2) rfl
 have hgs := (hS.lt (i := 0) rfl rfl)
 have hr := (hS.lt (i := 2) rfl rfl)
 obtain ⟨hD0, hD1, _⟩ := cHp hC0
 have hall : dec (∀ z ∈ [x, y], hasL N z) = dec (hasL N x /\ hasL N y) := dCg (by simp)
 rcases hm : mget (x, y) M with _ | v
 ·refine Spec.of _ Tryz.func152 rfl Tryz.ntmps152 (by kernel_rfl) rfl ?_
  repeat' (first | (apply WL.lit tOk; (iterate 6 exact rfl); kernel_rfl; exact rfl; intro gb w' hb hge hc hx; have hO := Own.of_block ([x, y]) eIk hb hge rfl) | (apply WL.callP (f := 150); (iterate 4 exact rfl); exact aig_has _ _ _ _ _ N [x, y] _ _ (Ext.heap (by assumption) hC0) (Own.row eIk (by assumption)) (by omega); intro w' hx) | (apply W.cKF; exact rfl; exact dFf (by omega)) | (apply WL.xor1; (iterate 4 exact rfl); (focus (have h9 := (by assumption : ∀ z ∈ [x, y], hasL N z); have h8 := h9 y (by simp); unfold hasL at h8; omega))) | (apply WL.build tOk; (iterate 7 exact rfl); kernel_rfl) | (apply WL.alloc tOk; (iterate 3 exact rfl); intro gb w' hb hge hx; replace hS := Sep.newCell (Sep.ext hS extA) hx hb hge (by (exact Below.size extA)); (try simp only [List.set_cons_zero, List.set_cons_succ] at hS); (try have hR2 := hS.row (i := 2) rfl); (try have hC0 := hS.cell (i := 0) rfl); (try have hD0 := (cHp hC0).1); (try have hE0 := (cHp hC0).2.1); (try have hC1 := hS.cell (i := 1) rfl); (try have hD1 := (cHp hC1).1); (try have hE1 := (cHp hC1).2.1); (try have hM3 := hS.map (i := 3) rfl)) | (apply WL.storeB (w0 := w0) tOk; (iterate 4 exact rfl); assumption; exact extA; (iterate 3 exact rfl); exact extA; ((focus (apply Nat.le_trans; rotate_left; assumption; exact Below.size extA; done))); intro w' hb hc hX' hU; have hcc := hc; obtain ⟨h1, h2, _⟩ := hc; replace hS := Sep.uCl (i := 0) rfl hU hb hS extA (by (exact Below.size extA)); (try simp only [List.set_cons_zero, List.set_cons_succ] at hS); (try have hR2 := hS.row (i := 2) rfl); (try have hC0 := hS.cell (i := 0) rfl); (try have hD0 := (cHp hC0).1); (try have hE0 := (cHp hC0).2.1); (try have hC1 := hS.cell (i := 1) rfl); (try have hD1 := (cHp hC1).1); (try have hE1 := (cHp hC1).2.1); (try have hM3 := hS.map (i := 3) rfl)) | (apply QL.nilc; (iterate 3 exact rfl)) | (apply QL.lookupNone (a := (x, y)) tOk keyN; (iterate 7 exact rfl); assumption; exact hm) | (first | apply WL.nil | refine WL.au (k := ?_) | (apply WL.gdF; exact rfl; exact rfl) | (apply WL.gD; exact rfl; exact rfl; all_goals intro _)) | (first | apply QL.nil | refine QL.au (k := ?_)) | (first | apply Z.tn | apply Z.bkn | apply Z.tnr | apply Z.bkr) | (first | apply W.seq | apply W.region | apply W.block | apply W.skip | apply W.ret | (apply W.condT; exact rfl) | (apply W.condF; exact rfl) | (apply W.condD; exact rfl; all_goals intro _) | (apply W.condN; exact rfl; all_goals intro _) | (apply W.rgD tMix; kernel_rfl)))
  repeat' (first | ((show WL _ _ _ (⟨_, .call ⟨.value (.func 117), _, _⟩, _, _, _, _⟩ :: _) _ _ _); have hS9 : Lt.Sep w0.heap.size _ (stP w0.heap.size gs a cap r N M ++ (rest ++ [pcell gb _ 84])) := Sep.rot hS; apply WL.call; (iterate 4 exact rfl); exact aig_put gs r cap a N M (x, y) _ _ w0 extA hS9 hN; rintro v' w'' ⟨hX2, a', cap', rfl, hS2⟩; replace hS := Sep.rotBack (ps := stP w0.heap.size gs a' cap' r (N ++ [(x, y)]) M ++ rest) hS2; (try simp only [List.set_cons_zero, List.set_cons_succ] at hS); (try have hR2 := hS.row (i := 2) rfl); (try have hC0 := hS.cell (i := 0) rfl); (try have hD0 := (cHp hC0).1); (try have hE0 := (cHp hC0).2.1); (try have hC1 := hS.cell (i := 1) rfl); (try have hD1 := (cHp hC1).1); (try have hE1 := (cHp hC1).2.1); (try have hM3 := hS.map (i := 3) rfl); have hcc2 := cHp (hS.cell (i := 0) rfl)) | (apply W.cKT; exact rfl; exact dTt (by omega)) | (apply W.regionQS 6 tMix; kernel_rfl; exact rfl; kernel_rfl; kernel_rfl) | (apply QL.nilc; (iterate 3 exact rfl)) | (apply WL.mapNew (B := 0) (w0 := w0) (a := (x, y)) tOk keyN; (iterate 6 exact rfl); assumption; exact hm; exact extA; exact hr.1; intro w9 hM9 hX9 hU9; replace hS := Sep.updMap (i := 3) rfl hU9 hM9 hS (Ext.refl _) (Below.size extA)) | (first | apply WL.nil | refine WL.au (k := ?_)) | (first | apply QL.nil | refine QL.au (k := ?_)) | (first | apply Z.tail | apply Z.tn) | (first | apply W.seq | apply W.region | apply W.ret))
  all_goals (refine Z.bd1 Tryz.results152 rfl fun m => ?_)
  all_goals (first
   | (rw [andF_no (fun hh => (by assumption : ¬ ∀ z ∈ [x, y], hasL N z) (by intro z hz; simp only [List.mem_cons, List.not_mem_nil, or_false] at hz; rcases hz with rfl | rfl; exact hh.1; exact hh.2))]; exact ⟨Ext.at extA m, a, cap, rfl, (Sep.ext hS extA).ext ((Ext.refl _).at m)⟩)
   | (have h9 := (by assumption : ∀ z ∈ [x, y], hasL N z); have h8 : hasL N x /\ hasL N y := ⟨h9 _ (by simp), h9 _ (by simp)⟩; first
    | (rw [andF_zero h8 (by omega)]; exact ⟨Ext.at extA m, a, cap, rfl, (Sep.ext hS extA).ext ((Ext.refl _).at m)⟩)
    | (rw [andF_one h8 (by omega) (by omega)]; exact ⟨Ext.at extA m, a, cap, rfl, (Sep.ext hS extA).ext ((Ext.refl _).at m)⟩)
    | (rw [andF_new h8 (by omega) (by omega) hm]; exact ⟨Ext.at extA m, a', cap', rfl, (Sep.tail hS).ext ((Ext.refl _).at m)⟩)))
 ·refine Spec.of _ Tryz.func152 rfl Tryz.ntmps152 (by kernel_rfl) rfl ?_
  repeat' (first | (apply WL.lit tOk; (iterate 6 exact rfl); kernel_rfl; exact rfl; intro gb w' hb hge hc hx; have hO := Own.of_block ([x, y]) eIk hb hge rfl) | (apply WL.callP (f := 150); (iterate 4 exact rfl); exact aig_has _ _ _ _ _ N [x, y] _ _ (Ext.heap (by assumption) hC0) (Own.row eIk (by assumption)) (by omega); intro w' hx) | (apply W.cKF; exact rfl; exact dFf (by omega)) | (apply WL.xor1; (iterate 4 exact rfl); (focus (have h9 := (by assumption : ∀ z ∈ [x, y], hasL N z); have h8 := h9 y (by simp); unfold hasL at h8; omega))) | (apply WL.build tOk; (iterate 7 exact rfl); kernel_rfl) | (apply WL.alloc tOk; (iterate 3 exact rfl); intro gb w' hb hge hx; replace hS := Sep.newCell (Sep.ext hS extA) hx hb hge (by (exact Below.size extA)); (try simp only [List.set_cons_zero, List.set_cons_succ] at hS); (try have hR2 := hS.row (i := 2) rfl); (try have hC0 := hS.cell (i := 0) rfl); (try have hD0 := (cHp hC0).1); (try have hE0 := (cHp hC0).2.1); (try have hC1 := hS.cell (i := 1) rfl); (try have hD1 := (cHp hC1).1); (try have hE1 := (cHp hC1).2.1); (try have hM3 := hS.map (i := 3) rfl)) | (apply WL.storeB (w0 := w0) tOk; (iterate 4 exact rfl); assumption; exact extA; (iterate 3 exact rfl); exact extA; ((focus (apply Nat.le_trans; rotate_left; assumption; exact Below.size extA; done))); intro w' hb hc hX' hU; have hcc := hc; obtain ⟨h1, h2, _⟩ := hc; replace hS := Sep.uCl (i := 0) rfl hU hb hS extA (by (exact Below.size extA)); (try simp only [List.set_cons_zero, List.set_cons_succ] at hS); (try have hR2 := hS.row (i := 2) rfl); (try have hC0 := hS.cell (i := 0) rfl); (try have hD0 := (cHp hC0).1); (try have hE0 := (cHp hC0).2.1); (try have hC1 := hS.cell (i := 1) rfl); (try have hD1 := (cHp hC1).1); (try have hE1 := (cHp hC1).2.1); (try have hM3 := hS.map (i := 3) rfl)) | (apply QL.nilc; (iterate 3 exact rfl)) | (apply QL.lookupSome (a := (x, y)) tOk keyN; (iterate 7 exact rfl); assumption; exact hm) | (first | apply WL.nil | refine WL.au (k := ?_) | (apply WL.gdF; exact rfl; exact rfl) | (apply WL.gD; exact rfl; exact rfl; all_goals intro _)) | (first | apply QL.nil | refine QL.au (k := ?_)) | (first | apply Z.tn | apply Z.bkn | apply Z.tnr | apply Z.bkr) | (first | apply W.seq | apply W.region | apply W.block | apply W.skip | apply W.ret | (apply W.condT; exact rfl) | (apply W.condD; exact rfl; all_goals intro _) | (apply W.condN; exact rfl; all_goals intro _) | (apply W.rgD tMix; kernel_rfl)))
  all_goals (refine Z.bd1 Tryz.results152 rfl fun m => ?_)
  all_goals (first
   | (rw [andF_no (fun hh => (by assumption : ¬ ∀ z ∈ [x, y], hasL N z) (by intro z hz; simp only [List.mem_cons, List.not_mem_nil, or_false] at hz; rcases hz with rfl | rfl; exact hh.1; exact hh.2))]; exact ⟨Ext.at extA m, a, cap, rfl, (Sep.ext hS extA).ext ((Ext.refl _).at m)⟩)
   | (have h9 := (by assumption : ∀ z ∈ [x, y], hasL N z); have h8 : hasL N x /\ hasL N y := ⟨h9 _ (by simp), h9 _ (by simp)⟩; first
    | (rw [andF_zero h8 (by omega)]; exact ⟨Ext.at extA m, a, cap, rfl, (Sep.ext hS extA).ext ((Ext.refl _).at m)⟩)
    | (rw [andF_one h8 (by omega) (by omega)]; exact ⟨Ext.at extA m, a, cap, rfl, (Sep.ext hS extA).ext ((Ext.refl _).at m)⟩)
    | (rw [andF_old h8 (by omega) (by omega) hm]; exact ⟨Ext.at extA m, a, cap, rfl, (Sep.tail hS).ext ((Ext.refl _).at m)⟩)))

theorem aig_AndGt (gs r cap : Nat) (a : Option Addr) (N : List (Int × Int)) (M : List ((Int × Int) × Int)) (x y : Int) (rest : List Piece) (w w0 : World) (hX : Ext w0 w) (hS : Sep w0.heap.size w (stP w0.heap.size gs a cap r N M ++ rest)) (hN : N.length < 1048576) (hxy : y < x) :
  Lt.Spec Tryz.prog 152 [.pointer (some ⟨gs, 0, none⟩), .int .i64 x, .int .i64 y] w (fun v w' => Ext w0 w' /\ ∃ a' cap', v = .int .i64 (andF N M y x).v /\ Sep w0.heap.size w' (stP w0.heap.size gs a' cap' r (andF N M y x).N (andF N M y x).M ++ rest)) := by
 have hC0 := hS.cell (i := 0) rfl
 have hM0 := hS.map (i := 2) rfl
 have hgs := (hS.lt (i := 0) rfl rfl)
 have hr := (hS.lt (i := 2) rfl rfl)
 obtain ⟨hD0, hD1, _⟩ := cHp hC0
 have hall : dec (∀ z ∈ [x, y], hasL N z) = dec (hasL N y /\ hasL N x) := dCg (by simp; exact and_comm)
 rcases hm : mget (y, x) M with _ | v
 ·refine Spec.of _ Tryz.func152 rfl Tryz.ntmps152 (by kernel_rfl) rfl ?_
  repeat' (first | (apply WL.lit tOk; (iterate 6 exact rfl); kernel_rfl; exact rfl; intro gb w' hb hge hc hx; have hO := Own.of_block ([x, y]) eIk hb hge rfl) | (apply WL.callP (f := 150); (iterate 4 exact rfl); exact aig_has _ _ _ _ _ N [x, y] _ _ (Ext.heap (by assumption) hC0) (Own.row eIk (by assumption)) (by omega); intro w' hx) | (apply W.cKT; exact rfl; (focus (exact dTt (by omega)))) | (apply W.cKF; exact rfl; exact dFf (by omega)) | (apply WL.xor1; (iterate 4 exact rfl); (focus (have h9 := (by assumption : ∀ z ∈ [x, y], hasL N z); have h8 := h9 x (by simp); unfold hasL at h8; omega))) | (apply WL.build tOk; (iterate 7 exact rfl); kernel_rfl) | (apply WL.alloc tOk; (iterate 3 exact rfl); intro gb w' hb hge hx; replace hS := Sep.newCell (Sep.ext hS extA) hx hb hge (by (exact Below.size extA)); (try simp only [List.set_cons_zero, List.set_cons_succ] at hS); (try have hR2 := hS.row (i := 2) rfl); (try have hC0 := hS.cell (i := 0) rfl); (try have hD0 := (cHp hC0).1); (try have hE0 := (cHp hC0).2.1); (try have hC1 := hS.cell (i := 1) rfl); (try have hD1 := (cHp hC1).1); (try have hE1 := (cHp hC1).2.1); (try have hM3 := hS.map (i := 3) rfl)) | (apply WL.storeB (w0 := w0) tOk; (iterate 4 exact rfl); assumption; exact extA; (iterate 3 exact rfl); exact extA; ((focus (apply Nat.le_trans; rotate_left; assumption; exact Below.size extA; done))); intro w' hb hc hX' hU; have hcc := hc; obtain ⟨h1, h2, _⟩ := hc; replace hS := Sep.uCl (i := 0) rfl hU hb hS extA (by (exact Below.size extA)); (try simp only [List.set_cons_zero, List.set_cons_succ] at hS); (try have hR2 := hS.row (i := 2) rfl); (try have hC0 := hS.cell (i := 0) rfl); (try have hD0 := (cHp hC0).1); (try have hE0 := (cHp hC0).2.1); (try have hC1 := hS.cell (i := 1) rfl); (try have hD1 := (cHp hC1).1); (try have hE1 := (cHp hC1).2.1); (try have hM3 := hS.map (i := 3) rfl)) | (apply QL.nilc; (iterate 3 exact rfl)) | (apply QL.lookupNone (a := (y, x)) tOk keyN; (iterate 7 exact rfl); assumption; exact hm) | (first | apply WL.nil | refine WL.au (k := ?_) | (apply WL.gdF; exact rfl; exact rfl) | (apply WL.gD; exact rfl; exact rfl; all_goals intro _)) | (first | apply QL.nil | refine QL.au (k := ?_)) | (first | apply Z.tn | apply Z.bkn | apply Z.tnr | apply Z.bkr) | (first | apply W.seq | apply W.region | apply W.block | apply W.skip | apply W.ret | (apply W.condT; exact rfl) | (apply W.condF; exact rfl) | (apply W.condD; exact rfl; all_goals intro _) | (apply W.condN; exact rfl; all_goals intro _) | (apply W.rgD tMix; kernel_rfl)))
  repeat' (first | ((show WL _ _ _ (⟨_, .call ⟨.value (.func 117), _, _⟩, _, _, _, _⟩ :: _) _ _ _); have hS9 : Lt.Sep w0.heap.size _ (stP w0.heap.size gs a cap r N M ++ (rest ++ [pcell gb _ 84])) := Sep.rot hS; apply WL.call; (iterate 4 exact rfl); exact aig_put gs r cap a N M (y, x) _ _ w0 extA hS9 hN; rintro v' w'' ⟨hX2, a', cap', rfl, hS2⟩; replace hS := Sep.rotBack (ps := stP w0.heap.size gs a' cap' r (N ++ [(y, x)]) M ++ rest) hS2; (try simp only [List.set_cons_zero, List.set_cons_succ] at hS); (try have hR2 := hS.row (i := 2) rfl); (try have hC0 := hS.cell (i := 0) rfl); (try have hD0 := (cHp hC0).1); (try have hE0 := (cHp hC0).2.1); (try have hC1 := hS.cell (i := 1) rfl); (try have hD1 := (cHp hC1).1); (try have hE1 := (cHp hC1).2.1); (try have hM3 := hS.map (i := 3) rfl); have hcc2 := cHp (hS.cell (i := 0) rfl)) | (apply W.cKT; exact rfl; exact dTt (by omega)) | (apply W.regionQS 6 tMix; kernel_rfl; exact rfl; kernel_rfl; kernel_rfl) | (apply QL.nilc; (iterate 3 exact rfl)) | (apply WL.mapNew (B := 0) (w0 := w0) (a := (y, x)) tOk keyN; (iterate 6 exact rfl); assumption; exact hm; exact extA; exact hr.1; intro w9 hM9 hX9 hU9; replace hS := Sep.updMap (i := 3) rfl hU9 hM9 hS (Ext.refl _) (Below.size extA)) | (first | apply WL.nil | refine WL.au (k := ?_)) | (first | apply QL.nil | refine QL.au (k := ?_)) | (first | apply Z.tail | apply Z.tn) | (first | apply W.seq | apply W.region | apply W.ret))
  all_goals (refine Z.bd1 Tryz.results152 rfl fun m => ?_)
  all_goals (first
   | (rw [andF_no (fun hh => (by assumption : ¬ ∀ z ∈ [x, y], hasL N z) (by intro z hz; simp only [List.mem_cons, List.not_mem_nil, or_false] at hz; rcases hz with rfl | rfl; exact hh.2; exact hh.1))]; exact ⟨Ext.at extA m, a, cap, rfl, (Sep.ext hS extA).ext ((Ext.refl _).at m)⟩)
   | (have h9 := (by assumption : ∀ z ∈ [x, y], hasL N z); have h8 : hasL N y /\ hasL N x := ⟨h9 _ (by simp), h9 _ (by simp)⟩; first
    | (rw [andF_zero h8 (by omega)]; exact ⟨Ext.at extA m, a, cap, rfl, (Sep.ext hS extA).ext ((Ext.refl _).at m)⟩)
    | (rw [andF_one h8 (by omega) (by omega)]; exact ⟨Ext.at extA m, a, cap, rfl, (Sep.ext hS extA).ext ((Ext.refl _).at m)⟩)
    | (rw [andF_new h8 (by omega) (by omega) hm]; exact ⟨Ext.at extA m, a', cap', rfl, (Sep.tail hS).ext ((Ext.refl _).at m)⟩)))
 ·refine Spec.of _ Tryz.func152 rfl Tryz.ntmps152 (by kernel_rfl) rfl ?_
  repeat' (first | (apply WL.lit tOk; (iterate 6 exact rfl); kernel_rfl; exact rfl; intro gb w' hb hge hc hx; have hO := Own.of_block ([x, y]) eIk hb hge rfl) | (apply WL.callP (f := 150); (iterate 4 exact rfl); exact aig_has _ _ _ _ _ N [x, y] _ _ (Ext.heap (by assumption) hC0) (Own.row eIk (by assumption)) (by omega); intro w' hx) | (apply W.cKT; exact rfl; (focus (exact dTt (by omega)))) | (apply W.cKF; exact rfl; exact dFf (by omega)) | (apply WL.xor1; (iterate 4 exact rfl); (focus (have h9 := (by assumption : ∀ z ∈ [x, y], hasL N z); have h8 := h9 x (by simp); unfold hasL at h8; omega))) | (apply WL.build tOk; (iterate 7 exact rfl); kernel_rfl) | (apply WL.alloc tOk; (iterate 3 exact rfl); intro gb w' hb hge hx; replace hS := Sep.newCell (Sep.ext hS extA) hx hb hge (by (exact Below.size extA)); (try simp only [List.set_cons_zero, List.set_cons_succ] at hS); (try have hR2 := hS.row (i := 2) rfl); (try have hC0 := hS.cell (i := 0) rfl); (try have hD0 := (cHp hC0).1); (try have hE0 := (cHp hC0).2.1); (try have hC1 := hS.cell (i := 1) rfl); (try have hD1 := (cHp hC1).1); (try have hE1 := (cHp hC1).2.1); (try have hM3 := hS.map (i := 3) rfl)) | (apply WL.storeB (w0 := w0) tOk; (iterate 4 exact rfl); assumption; exact extA; (iterate 3 exact rfl); exact extA; ((focus (apply Nat.le_trans; rotate_left; assumption; exact Below.size extA; done))); intro w' hb hc hX' hU; have hcc := hc; obtain ⟨h1, h2, _⟩ := hc; replace hS := Sep.uCl (i := 0) rfl hU hb hS extA (by (exact Below.size extA)); (try simp only [List.set_cons_zero, List.set_cons_succ] at hS); (try have hR2 := hS.row (i := 2) rfl); (try have hC0 := hS.cell (i := 0) rfl); (try have hD0 := (cHp hC0).1); (try have hE0 := (cHp hC0).2.1); (try have hC1 := hS.cell (i := 1) rfl); (try have hD1 := (cHp hC1).1); (try have hE1 := (cHp hC1).2.1); (try have hM3 := hS.map (i := 3) rfl)) | (apply QL.nilc; (iterate 3 exact rfl)) | (apply QL.lookupSome (a := (y, x)) tOk keyN; (iterate 7 exact rfl); assumption; exact hm) | (first | apply WL.nil | refine WL.au (k := ?_) | (apply WL.gdF; exact rfl; exact rfl) | (apply WL.gD; exact rfl; exact rfl; all_goals intro _)) | (first | apply QL.nil | refine QL.au (k := ?_)) | (first | apply Z.tn | apply Z.bkn | apply Z.tnr | apply Z.bkr) | (first | apply W.seq | apply W.region | apply W.block | apply W.skip | apply W.ret | (apply W.condT; exact rfl) | (apply W.condD; exact rfl; all_goals intro _) | (apply W.condN; exact rfl; all_goals intro _) | (apply W.rgD tMix; kernel_rfl)))
  all_goals (refine Z.bd1 Tryz.results152 rfl fun m => ?_)
  all_goals (first
   | (rw [andF_no (fun hh => (by assumption : ¬ ∀ z ∈ [x, y], hasL N z) (by intro z hz; simp only [List.mem_cons, List.not_mem_nil, or_false] at hz; rcases hz with rfl | rfl; exact hh.2; exact hh.1))]; exact ⟨Ext.at extA m, a, cap, rfl, (Sep.ext hS extA).ext ((Ext.refl _).at m)⟩)
   | (have h9 := (by assumption : ∀ z ∈ [x, y], hasL N z); have h8 : hasL N y /\ hasL N x := ⟨h9 _ (by simp), h9 _ (by simp)⟩; first
    | (rw [andF_zero h8 (by omega)]; exact ⟨Ext.at extA m, a, cap, rfl, (Sep.ext hS extA).ext ((Ext.refl _).at m)⟩)
    | (rw [andF_one h8 (by omega) (by omega)]; exact ⟨Ext.at extA m, a, cap, rfl, (Sep.ext hS extA).ext ((Ext.refl _).at m)⟩)
    | (rw [andF_old h8 (by omega) (by omega) hm]; exact ⟨Ext.at extA m, a, cap, rfl, (Sep.tail hS).ext ((Ext.refl _).at m)⟩)))

theorem mget_snoc {κ ν : Type} (p q : κ) (v : ν) : ∀ L : List (κ × ν), mget p (L ++ [(q, v)]) = match mget p L with | some u => some u | none => bif dec (p = q) then some v else none
 | [] => by simp [mget]
 | x :: r => by
  have ih := mget_snoc p q v r
  simp only [List.cons_append, mget]
  cases dec (p = x.1)
  ·exact ih
  ·rfl
theorem gm_app (N L : List (Int × Int)) : ∀ k, k <= N.length -> gm (N ++ L) k = gm N k
 | 0, _ => rfl
 | k + 1, h => by
  obtain ⟨x, hx⟩ := getI N (show k < N.length by omega)
  have ih := gm_app N L k (by omega)
  have hx' : (N ++ L)[k]? = some x := by rw [List.getElem?_append_left (by omega)]; exact hx
  rw [gm, gm, hx, hx', ih]
theorem gm_snoc_gate (N : List (Int × Int)) {x : Int × Int} (h : 0 <= x.1) : gm (N ++ [x]) (N ++ [x]).length = gm N N.length ++ [(x, 2 * ((N.length : Int) + 1))] := by
 rw [show (N ++ [x]).length = N.length + 1 by simp, gm]
 have hx : (N ++ [x])[N.length]? = some x := by simp
 rw [hx, gm_app N [x] _ (Nat.le_refl _)]
 exact if_pos h
theorem gm_snoc_in (N : List (Int × Int)) {x : Int × Int} (h : ¬ 0 <= x.1) : gm (N ++ [x]) (N ++ [x]).length = gm N N.length := by
 rw [show (N ++ [x]).length = N.length + 1 by simp, gm]
 have hx : (N ++ [x])[N.length]? = some x := by simp
 rw [hx, gm_app N [x] _ (Nat.le_refl _)]
 exact if_neg h
theorem gm_none {N : List (Int × Int)} {p : Int × Int} : ∀ k, (∀ j : Nat, j < k -> N[j]? ≠ some p) -> mget p (gm N k) = none
 | 0, _ => rfl
 | k + 1, h => by
  have ih := gm_none k (fun j hj => h j (by omega))
  rw [gm]
  cases hx : N[k]? with
  | none => exact ih
  | some x =>
   show mget p (if 0 <= x.1 then _ else _) = none
   split
   ·rw [mget_snoc, ih]
    show (bif dec (p = x) then _ else _) = _
    rw [dFf (fun hh => h k (by omega) (by rw [hx, hh]))]; rfl
   ·exact ih
theorem gm_some {N : List (Int × Int)} {p : Int × Int} (hp : 0 <= p.1) {i : Nat} (hi : N[i]? = some p) (h : ∀ j : Nat, j < i -> N[j]? ≠ some p) : ∀ k, i < k -> mget p (gm N k) = some (2 * ((i : Int) + 1))
 | 0, hk => by omega
 | k + 1, hk => by
  rw [gm]
  by_cases hik : i = k
  ·subst hik
   rw [hi]
   show mget p (if 0 <= p.1 then _ else _) = _
   rw [if_pos hp, mget_snoc, gm_none i h]
   show (bif dec (p = p) then _ else _) = _
   rw [dTt rfl]; rfl
  ·have ih := gm_some hp hi h k (by omega)
   cases hx : N[k]? with
   | none => exact ih
   | some x =>
    show mget p (if 0 <= x.1 then _ else _) = _
    split
    ·rw [mget_snoc, ih]
    ·exact ih
theorem first_of {N : List (Int × Int)} {p : Int × Int} : ∀ k, (∀ j : Nat, j < k -> N[j]? ≠ some p) ∨ ∃ i, i < k /\ N[i]? = some p /\ ∀ j : Nat, j < i -> N[j]? ≠ some p
 | 0 => .inl fun j h => by omega
 | k + 1 => by
  rcases first_of (N := N) (p := p) k with h | ⟨i, h1, h2, h3⟩
  ·by_cases hk : N[k]? = some p
   ·exact .inr ⟨k, by omega, hk, h⟩
   ·exact .inl fun j hj => by
     by_cases hjk : j = k
     ·subst hjk; exact hk
     ·exact h j (by omega)
  ·exact .inr ⟨i, by omega, h2, h3⟩

abbrev gmN (N : List (Int × Int)) : List ((Int × Int) × Int) := gm N N.length
abbrev stN (B gs : Nat) (a : Option Addr) (cap r : Nat) (N : List (Int × Int)) : List Piece := stP B gs a cap r N (gmN N)
noncomputable def andV (N : List (Int × Int)) (x y : Int) : Int × List (Int × Int) := if x <= y then ((andF N (gmN N) x y).v, (andF N (gmN N) x y).N) else ((andF N (gmN N) y x).v, (andF N (gmN N) y x).N)

theorem andF_ways {N : List (Int × Int)} {x y : Int} (hxy : x <= y) :
  (¬ (hasL N x /\ hasL N y) /\ andF N (gmN N) x y = ⟨-1, N, gmN N⟩) ∨
  ((hasL N x /\ hasL N y) /\ (x = 0 ∨ x = Lt.xor1 y) /\ andF N (gmN N) x y = ⟨0, N, gmN N⟩) ∨
  ((hasL N x /\ hasL N y) /\ ¬ (x = 0 ∨ x = Lt.xor1 y) /\ (x = 1 ∨ x = y) /\ andF N (gmN N) x y = ⟨y, N, gmN N⟩) ∨
  ((hasL N x /\ hasL N y) /\ (2 <= x /\ x / 2 < y / 2) /\ (∃ i : Nat, i < N.length /\ N[i]? = some (x, y) /\ (∀ j : Nat, j < i -> N[j]? ≠ some (x, y)) /\ andF N (gmN N) x y = ⟨2 * ((i : Int) + 1), N, gmN N⟩)) ∨
  ((hasL N x /\ hasL N y) /\ (2 <= x /\ x / 2 < y / 2) /\ (∀ j : Nat, N[j]? ≠ some (x, y)) /\ andF N (gmN N) x y = ⟨2 * ((N.length : Int) + 1), N ++ [(x, y)], gmN (N ++ [(x, y)])⟩) := by
 by_cases h : hasL N x /\ hasL N y
 ·by_cases h1 : x = 0 ∨ x = Lt.xor1 y
  ·exact .inr (.inl ⟨h, h1, andF_zero h h1⟩)
  ·by_cases h2 : x = 1 ∨ x = y
   ·exact .inr (.inr (.inl ⟨h, h1, h2, andF_one h h1 h2⟩))
   ·have hb : 2 <= x /\ x / 2 < y / 2 := by
     have := h.1.1
     have h3 : x ≠ Lt.xor1 y := fun hh => h1 (.inr hh)
     unfold Lt.xor1 at h3
     split at h3 <;> omega
    rcases first_of (N := N) (p := (x, y)) N.length with hn | ⟨i, i1, i2, i3⟩
    ·refine .inr (.inr (.inr (.inr ⟨h, hb, fun j => ?_, ?_⟩)))
     ·by_cases hj : j < N.length
      ·exact hn j hj
      ·rw [List.getElem?_eq_none (by omega)]; exact fun hh => by cases hh
     ·rw [andF_new h h1 h2 (gm_none _ hn)]
      show _ = AndR.mk _ _ (gm (N ++ [(x, y)]) (N ++ [(x, y)]).length)
      rw [gm_snoc_gate N (x := (x, y)) (by show 0 <= x; omega)]
    ·exact .inr (.inr (.inr (.inl ⟨h, hb, i, i1, i2, i3, andF_old h h1 h2 (gm_some (by show 0 <= x; omega) i2 i3 _ i1)⟩)))
 ·exact .inl ⟨h, andF_no h⟩
theorem andF_M {N : List (Int × Int)} {x y : Int} (hxy : x <= y) : (andF N (gmN N) x y).M = gmN (andF N (gmN N) x y).N := by
 rcases andF_ways (N := N) hxy with ⟨_, h⟩ | ⟨_, _, h⟩ | ⟨_, _, _, h⟩ | ⟨_, _, _, _, _, _, h⟩ | ⟨_, _, _, h⟩ <;> rw [h]

inductive Grow : List (Int × Int) -> List (Int × Int) -> Prop
 | refl (N) : Grow N N
 | input {N M} : Grow N M -> Grow N (M ++ [(-1, 0)])
 | gate {N M} (x y : Int) : Grow N M -> Grow N (andV M x y).2
theorem andV_ways (N : List (Int × Int)) (x y : Int) : ∃ a b : Int, ((a = x /\ b = y) ∨ (a = y /\ b = x)) /\ a <= b /\
  ((¬ (hasL N a /\ hasL N b) /\ andV N x y = (-1, N)) ∨
  ((hasL N a /\ hasL N b) /\ (a = 0 ∨ a = Lt.xor1 b) /\ andV N x y = (0, N)) ∨
  ((hasL N a /\ hasL N b) /\ ¬ (a = 0 ∨ a = Lt.xor1 b) /\ (a = 1 ∨ a = b) /\ andV N x y = (b, N)) ∨
  ((hasL N a /\ hasL N b) /\ (2 <= a /\ a / 2 < b / 2) /\ (∃ i : Nat, i < N.length /\ N[i]? = some (a, b) /\ (∀ j : Nat, j < i -> N[j]? ≠ some (a, b)) /\ andV N x y = (2 * ((i : Int) + 1), N))) ∨
  ((hasL N a /\ hasL N b) /\ (2 <= a /\ a / 2 < b / 2) /\ (∀ j : Nat, N[j]? ≠ some (a, b)) /\ andV N x y = (2 * ((N.length : Int) + 1), N ++ [(a, b)]))) := by
 have key : ∀ a b : Int, a <= b -> andV N x y = ((andF N (gmN N) a b).v, (andF N (gmN N) a b).N) ->
  ((¬ (hasL N a /\ hasL N b) /\ andV N x y = (-1, N)) ∨
  ((hasL N a /\ hasL N b) /\ (a = 0 ∨ a = Lt.xor1 b) /\ andV N x y = (0, N)) ∨
  ((hasL N a /\ hasL N b) /\ ¬ (a = 0 ∨ a = Lt.xor1 b) /\ (a = 1 ∨ a = b) /\ andV N x y = (b, N)) ∨
  ((hasL N a /\ hasL N b) /\ (2 <= a /\ a / 2 < b / 2) /\ (∃ i : Nat, i < N.length /\ N[i]? = some (a, b) /\ (∀ j : Nat, j < i -> N[j]? ≠ some (a, b)) /\ andV N x y = (2 * ((i : Int) + 1), N))) ∨
  ((hasL N a /\ hasL N b) /\ (2 <= a /\ a / 2 < b / 2) /\ (∀ j : Nat, N[j]? ≠ some (a, b)) /\ andV N x y = (2 * ((N.length : Int) + 1), N ++ [(a, b)]))) := by
  intro a b hab he
  rcases andF_ways (N := N) hab with ⟨h0, h⟩ | ⟨h0, h1, h⟩ | ⟨h0, h1, h2, h⟩ | ⟨h0, h1, i, i1, i2, i3, h⟩ | ⟨h0, h1, h2, h⟩
  ·exact .inl ⟨h0, by rw [he, h]⟩
  ·exact .inr (.inl ⟨h0, h1, by rw [he, h]⟩)
  ·exact .inr (.inr (.inl ⟨h0, h1, h2, by rw [he, h]⟩))
  ·exact .inr (.inr (.inr (.inl ⟨h0, h1, i, i1, i2, i3, by rw [he, h]⟩)))
  ·exact .inr (.inr (.inr (.inr ⟨h0, h1, h2, by rw [he, h]⟩)))
 by_cases hxy : x <= y
 ·exact ⟨x, y, .inl ⟨rfl, rfl⟩, hxy, key x y hxy (by rw [andV, if_pos hxy])⟩
 ·exact ⟨y, x, .inr ⟨rfl, rfl⟩, by omega, key y x (by omega) (by rw [andV, if_neg hxy])⟩

theorem andV_len (N : List (Int × Int)) (x y : Int) : N.length <= (andV N x y).2.length /\ (andV N x y).2.length <= N.length + 1 := by
 obtain ⟨a, b, _, _, h⟩ := andV_ways N x y
 rcases h with ⟨_, h⟩ | ⟨_, _, h⟩ | ⟨_, _, _, h⟩ | ⟨_, _, _, _, _, _, h⟩ | ⟨_, _, _, h⟩ <;> rw [h] <;> simp
theorem andV_has {N : List (Int × Int)} {x y : Int} (hx : hasL N x) (hy : hasL N y) : hasL (andV N x y).2 (andV N x y).1 := by
 obtain ⟨a, b, hab, _, h⟩ := andV_ways N x y
 have hh : hasL N a /\ hasL N b := by rcases hab with ⟨rfl, rfl⟩ | ⟨rfl, rfl⟩; exact ⟨hx, hy⟩; exact ⟨hy, hx⟩
 rcases h with ⟨h1, _⟩ | ⟨_, _, h⟩ | ⟨_, _, _, h⟩ | ⟨_, _, i, hi, _, _, h⟩ | ⟨_, _, _, h⟩
 ·exact absurd hh h1
 ·rw [h]; unfold hasL; dsimp only; omega
 ·rw [h]; exact hh.2
 ·rw [h]; unfold hasL; dsimp only; omega
 ·rw [h]; unfold hasL; simp; omega
theorem andV_no {N : List (Int × Int)} {x y : Int} (h : ¬ (hasL N x /\ hasL N y)) : andV N x y = (-1, N) := by
 obtain ⟨a, b, hab, _, hw⟩ := andV_ways N x y
 have hh : ¬ (hasL N a /\ hasL N b) := by rcases hab with ⟨rfl, rfl⟩ | ⟨rfl, rfl⟩; exact h; exact fun k => h k.symm
 rcases hw with ⟨_, h⟩ | ⟨h0, _⟩ | ⟨h0, _⟩ | ⟨h0, _⟩ | ⟨h0, _⟩
 ·exact h
 all_goals exact absurd h0 hh
theorem Grow.len {N M : List (Int × Int)} (h : Grow N M) : N.length <= M.length := by
 induction h with
 | refl => exact Nat.le_refl _
 | input _ ih => simp; omega
 | gate x y _ ih => rename_i M' _; have := andV_len M' x y; omega
theorem Grow.pre {N M : List (Int × Int)} (h : Grow N M) : ∀ {i : Nat} {x}, N[i]? = some x -> M[i]? = some x := by
 induction h with
 | refl => exact fun h => h
 | input _ ih => intro i x hx; have := ih hx; rw [List.getElem?_append_left (lGt this)]; exact this
 | gate x y _ ih =>
  rename_i M' _
  intro i z hz
  have := ih hz
  obtain ⟨a, b, _, _, h⟩ := andV_ways M' x y
  rcases h with ⟨_, h⟩ | ⟨_, _, h⟩ | ⟨_, _, _, h⟩ | ⟨_, _, _, _, _, _, h⟩ | ⟨_, _, _, h⟩ <;> rw [h]
  all_goals first | exact this | (show (M' ++ _)[i]? = _; rw [List.getElem?_append_left (lGt this)]; exact this)
theorem hasL_mono {N M : List (Int × Int)} {x : Int} (h : hasL N x) (hl : N.length <= M.length) : hasL M x := by unfold hasL at h ⊢; omega
structure Tidy (N : List (Int × Int)) : Prop where
 good : GNt N
 gate : ∀ i x, N[i]? = some x -> 0 <= x.1 -> 2 <= x.1 /\ x.1 / 2 < x.2 / 2 /\ ∀ k : Nat, k < i -> N[k]? ≠ some x
theorem get_snoc {α : Type} {N : List α} {x y : α} {i : Nat} (h : (N ++ [x])[i]? = some y) : N[i]? = some y ∨ (i = N.length /\ y = x) := by
 by_cases hi : i < N.length
 ·rw [List.getElem?_append_left hi] at h; exact .inl h
 ·have := lGt h
  simp only [List.length_append, List.length_cons, List.length_nil] at this
  have : i = N.length := by omega
  subst this
  simp at h; exact .inr ⟨rfl, h.symm⟩
theorem Tidy.nil : Tidy [] := ⟨fun i x h => by simp at h, fun i x h => by simp at h⟩
theorem Tidy.input {N : List (Int × Int)} (h : Tidy N) : Tidy (N ++ [(-1, 0)]) := by
 refine ⟨fun i x hx => ?_, fun i x hx h0 => ?_⟩
 ·rcases get_snoc hx with h1 | ⟨_, rfl⟩
  ·exact h.good i x h1
  ·unfold badNode; simp
 ·rcases get_snoc hx with h1 | ⟨_, rfl⟩
  ·obtain ⟨k1, k2, k3⟩ := h.gate i x h1 h0
   refine ⟨k1, k2, fun k hk hh => ?_⟩
   have := lGt h1
   rw [List.getElem?_append_left (by omega)] at hh
   exact k3 k hk hh
  ·simp at h0
theorem Tidy.and {N : List (Int × Int)} (h : Tidy N) (x y : Int) : Tidy (andV N x y).2 := by
 obtain ⟨a, b, _, _, hw⟩ := andV_ways N x y
 rcases hw with ⟨_, hw⟩ | ⟨_, _, hw⟩ | ⟨_, _, _, hw⟩ | ⟨_, _, _, _, _, _, hw⟩ | ⟨h0, h1, h2, hw⟩
 ·rw [hw]; exact h
 ·rw [hw]; exact h
 ·rw [hw]; exact h
 ·rw [hw]; exact h
 ·rw [hw]
  show Tidy (N ++ [(a, b)])
  refine ⟨fun i z hz => ?_, fun i z hz hz0 => ?_⟩
  ·rcases get_snoc hz with k | ⟨rfl, rfl⟩
   ·exact h.good i z k
   ·unfold badNode; unfold hasL at h0; dsimp only; omega
  ·rcases get_snoc hz with k | ⟨rfl, rfl⟩
   ·obtain ⟨k1, k2, k3⟩ := h.gate i z k hz0
    refine ⟨k1, k2, fun j hj hh => ?_⟩
    have := lGt k
    rw [List.getElem?_append_left (by omega)] at hh
    exact k3 j hj hh
   ·refine ⟨h1.1, h1.2, fun j hj hh => ?_⟩
    rw [List.getElem?_append_left (by omega)] at hh
    exact h2 j hh
theorem Grow.tidy {N M : List (Int × Int)} (h : Grow N M) (hN : Tidy N) : Tidy M := by
 induction h with
 | refl => exact hN
 | input _ ih => exact ih.input
 | gate x y _ ih => exact ih.and x y

theorem vto_app (N L : List (Int × Int)) (ins : List Bool) : ∀ k, k <= N.length -> vto (N ++ L) ins k = vto N ins k := by
 intro k hk
 unfold vto
 rw [List.take_append_of_le_length hk]
theorem values_pre {N M : List (Int × Int)} (h : ∀ {i : Nat} {x}, N[i]? = some x -> M[i]? = some x) (ins : List Bool) : ∀ k, k <= N.length -> vto M ins k = vto N ins k := by
 intro k hk
 have hl : N.length <= M.length := by
  by_cases h0 : N.length = 0
  ·omega
  ·obtain ⟨x, hx⟩ := getI N (show N.length - 1 < N.length by omega)
   have := lGt (h hx); omega
 have : M.take N.length = N := by
  apply List.ext_getElem?
  intro i
  by_cases hi : i < N.length
  ·obtain ⟨x, hx⟩ := getI N hi
   rw [List.getElem?_take, if_pos hi, hx, h hx]
  ·rw [List.getElem?_take, if_neg hi, List.getElem?_eq_none (by omega)]
 have e : M = M.take N.length ++ M.drop N.length := (List.take_append_drop _ _).symm
 rw [this] at e
 rw [e]; exact vto_app _ _ _ k hk
theorem Grow.of {N M : List (Int × Int)} (h : Grow N M) (ins : List Bool) {l : Int} (hl : hasL N l) : ofL (values M ins) l = ofL (values N ins) l := by
 unfold hasL at hl
 rw [<- vto_of M ins (k := N.length) (by omega) h.len, values_pre h.pre ins _ (Nat.le_refl _)]; rfl
theorem ofL_xor1 (v : List Bool) {l : Int} (h : 0 <= l) : ofL v (Lt.xor1 l) = !ofL v l := by
 unfold Lt.xor1 ofL
 split
 ·rw [show (l + 1) / 2 = l / 2 by omega, decide_eq_true (show (l + 1) % 2 = 1 by omega), decide_eq_false (show ¬ l % 2 = 1 by omega)]; simp
 ·rw [show (l - 1) / 2 = l / 2 by omega, decide_eq_false (show ¬ (l - 1) % 2 = 1 by omega), decide_eq_true (show l % 2 = 1 by omega)]; simp
theorem ofL_zero {N : List (Int × Int)} (ins : List Bool) : ofL (values N ins) 0 = false := by
 unfold ofL; rw [show ((0 : Int) / 2).toNat = 0 from rfl, values_zero]; rfl
theorem ofL_one {N : List (Int × Int)} (ins : List Bool) : ofL (values N ins) 1 = true := by
 unfold ofL; rw [show ((1 : Int) / 2).toNat = 0 from rfl, values_zero]; rfl
theorem ofL_gate {N : List (Int × Int)} (hg : GNt N) (ins : List Bool) {i : Nat} {x : Int × Int} (hx : N[i]? = some x) (h0 : 0 <= x.1) : ofL (values N ins) (2 * ((i : Int) + 1)) = (ofL (values N ins) x.1 && ofL (values N ins) x.2) := by
 conv => lhs; unfold ofL
 rw [show ((2 * ((i : Int) + 1)) / 2).toNat = i + 1 by omega, values_gate hg ins hx h0, decide_eq_false (by omega)]; simp
theorem andV_of {N : List (Int × Int)} (hT : Tidy N) (ins : List Bool) {x y : Int} (hx : hasL N x) (hy : hasL N y) : ofL (values (andV N x y).2 ins) (andV N x y).1 = (ofL (values N ins) x && ofL (values N ins) y) := by
 obtain ⟨a, b, hab, hle, hw⟩ := andV_ways N x y
 have hG : Grow N (andV N x y).2 := .gate x y (.refl N)
 have hT2 := hT.and x y
 have hh : hasL N a /\ hasL N b := by rcases hab with ⟨rfl, rfl⟩ | ⟨rfl, rfl⟩; exact ⟨hx, hy⟩; exact ⟨hy, hx⟩
 have he : (ofL (values N ins) x && ofL (values N ins) y) = (ofL (values N ins) a && ofL (values N ins) b) := by
  rcases hab with ⟨rfl, rfl⟩ | ⟨rfl, rfl⟩
  ·rfl
  ·exact Bool.and_comm _ _
 rw [he]
 rcases hw with ⟨h1, _⟩ | ⟨_, h1, hw⟩ | ⟨_, _, h1, hw⟩ | ⟨_, h1, i, i1, i2, i3, hw⟩ | ⟨h0, h1, h2, hw⟩
 ·exact absurd hh h1
 ·rw [hw]
  show ofL (values N ins) 0 = _
  rw [ofL_zero]
  rcases h1 with rfl | rfl
  ·rw [ofL_zero]; rfl
  ·rw [ofL_xor1 _ hh.2.1]; simp
 ·rw [hw]
  show ofL (values N ins) b = _
  rcases h1 with rfl | rfl
  ·rw [ofL_one]; rfl
  ·simp
 ·rw [hw]
  exact ofL_gate hT.good ins i2 (by show 0 <= a; omega)
 ·rw [hw] at hG hT2 ⊢
  have hx2 : (N ++ [(a, b)])[N.length]? = some (a, b) := by simp
  show ofL (values (N ++ [(a, b)]) ins) _ = _
  rw [ofL_gate hT2.good ins hx2 (by show 0 <= a; omega)]
  show (ofL (values (N ++ [(a, b)]) ins) a && ofL (values (N ++ [(a, b)]) ins) b) = _
  rw [Grow.of hG ins hh.1, Grow.of hG ins hh.2]

abbrev nD : List (Int × Int) := [(-1, 0), (-1, 0), (2, 4), (3, 5)]

theorem slices_CloneI (a : Option Addr) (cap : Nat) (l : List Int) (w : World) (R : Row 1 encI w a l) (hna : a = none -> cap = 0) (hl : l.length <= 1048576) :
  Lt.Spec Tryz.prog 78 [.slice a l.length cap] w (IsFresh 1 encI 3 w l) := by
 by_cases ha : a = none
 ·subst ha
  have hl0 : l = [] := by
   cases l with
   | nil => rfl
   | cons x r => obtain ⟨b, off, h1, _⟩ := R.elem 0 x rfl; cases h1
  subst hl0
  refine Spec.of _ Tryz.func78 rfl Tryz.ntmps78 (by kernel_rfl) rfl ?_
  repeat' (first | (apply WL.eqSl tOk; (iterate 6 exact rfl)) | (apply W.cKT; exact rfl; exact dTt rfl) | (first | apply WL.nil | refine WL.au (k := ?_)) | (first | apply Z.tn | apply Z.tnr) | (first | apply W.seq | apply W.region | apply W.ret))
  exact Z.bd1 Tryz.results78 rfl fun m => ⟨(Ext.refl _).at m, none, 0, rfl, Own.nil⟩
 ·refine Spec.of _ Tryz.func78 rfl Tryz.ntmps78 (by kernel_rfl) rfl ?_
  repeat' (first | (apply WL.eqSl tOk; (iterate 6 exact rfl)) | (apply W.cKF; exact rfl; exact dFf ha) | (apply WL.lit (len := 0) tOk; (iterate 6 exact rfl); kernel_rfl; exact rfl; intro gb w' hb hge hc hx; have hO0 := Own.ofB0 (enc := encI) (s := 1) hb hge) | (apply WL.appendS tOk eIk; (iterate 10 exact rfl); assumption; exact extA; exact rfl; assumption; exact extA; exact rfl; assumption; exact rfl; exact extA; ((simp; omega)); intro a' cap' w' hO hX' hU hF) | (first | apply WL.nil | refine WL.au (k := ?_)) | apply Z.tn | (first | apply W.seq | apply W.region | apply W.skip | apply W.ret))
  exact Z.bd1 Tryz.results78 rfl fun m => ⟨Ext.at extA m, a', cap', by rw [List.nil_append], by rw [List.nil_append] at hO; exact hO⟩
theorem slices_CloneN (a : Option Addr) (cap : Nat) (l : List (Int × Int)) (w : World) (R : Row 2 encN w a l) (hna : a = none -> cap = 0) (hl : l.length <= 1048576) :
  Lt.Spec Tryz.prog 127 [.slice a l.length cap] w (IsFresh 2 encN 84 w l) := by
 by_cases ha : a = none
 ·subst ha
  have hl0 : l = [] := by
   cases l with
   | nil => rfl
   | cons x r => obtain ⟨b, off, h1, _⟩ := R.elem 0 x rfl; cases h1
  subst hl0
  refine Spec.of _ Tryz.func127 rfl Tryz.ntmps127 (by kernel_rfl) rfl ?_
  repeat' (first | (apply WL.eqSl tOk; (iterate 6 exact rfl)) | (apply W.cKT; exact rfl; exact dTt rfl) | (first | apply WL.nil | refine WL.au (k := ?_)) | (first | apply Z.tn | apply Z.tnr) | (first | apply W.seq | apply W.region | apply W.ret))
  exact Z.bd1 Tryz.results127 rfl fun m => ⟨(Ext.refl _).at m, none, 0, rfl, Own.nil⟩
 ·refine Spec.of _ Tryz.func127 rfl Tryz.ntmps127 (by kernel_rfl) rfl ?_
  repeat' (first | (apply WL.eqSl tOk; (iterate 6 exact rfl)) | (apply W.cKF; exact rfl; exact dFf ha) | (apply WL.lit (len := 0) tOk; (iterate 6 exact rfl); kernel_rfl; exact rfl; intro gb w' hb hge hc hx; have hO0 := Own.ofB0 (enc := encN) (s := 2) hb hge) | (apply WL.appendS tOk encN_ok; (iterate 10 exact rfl); assumption; exact extA; exact rfl; assumption; exact extA; exact rfl; assumption; exact rfl; exact extA; ((simp; omega)); intro a' cap' w' hO hX' hU hF) | (first | apply WL.nil | refine WL.au (k := ?_)) | apply Z.tn | (first | apply W.seq | apply W.region | apply W.skip | apply W.ret))
  exact Z.bd1 Tryz.results127 rfl fun m => ⟨Ext.at extA m, a', cap', by rw [List.nil_append], by rw [List.nil_append] at hO; exact hO⟩

abbrev AtSt (w0 : World) (gs r : Nat) (rest : List Piece) (q : Int × List (Int × Int)) (v : Value) (w' : World) : Prop :=
 Ext w0 w' /\ ∃ a' cap', v = .int .i64 q.1 /\ Sep w0.heap.size w' (stN w0.heap.size gs a' cap' r q.2 ++ rest)
abbrev Keeps (w0 : World) (gs r : Nat) (rest : List Piece) (p : World -> Prop) : Prop :=
 ∀ w' a' cap' N', Ext w0 w' -> Sep w0.heap.size w' (stN w0.heap.size gs a' cap' r N' ++ rest) -> p w'

theorem aig_And (gs r cap : Nat) (a : Option Addr) (N : List (Int × Int)) (x y : Int) (rest : List Piece) (w w0 : World) (hX : Ext w0 w) (hS : Sep w0.heap.size w (stN w0.heap.size gs a cap r N ++ rest)) (hN : N.length < 1048576) :
  Lt.Spec Tryz.prog 152 [.pointer (some ⟨gs, 0, none⟩), .int .i64 x, .int .i64 y] w (AtSt w0 gs r rest (andV N x y)) := by
 by_cases hxy : x <= y
 ·refine (aig_AndLe gs r cap a N (gmN N) x y rest w w0 hX hS hN hxy).mono ?_
  rintro v w' ⟨h1, a', cap', h2, h3⟩
  rw [andF_M hxy] at h3
  have e : andV N x y = ((andF N (gmN N) x y).v, (andF N (gmN N) x y).N) := if_pos hxy
  rw [e]
  exact ⟨h1, a', cap', h2, h3⟩
 ·refine (aig_AndGt gs r cap a N (gmN N) x y rest w w0 hX hS hN (by omega)).mono ?_
  rintro v w' ⟨h1, a', cap', h2, h3⟩
  rw [andF_M (by omega)] at h3
  have e : andV N x y = ((andF N (gmN N) y x).v, (andF N (gmN N) y x).N) := if_neg hxy
  rw [e]
  exact ⟨h1, a', cap', h2, h3⟩
theorem aig_InputV (gs r cap : Nat) (a : Option Addr) (N : List (Int × Int)) (rest : List Piece) (w w0 : World) (hX : Ext w0 w) (hS : Sep w0.heap.size w (stN w0.heap.size gs a cap r N ++ rest)) (hN : N.length < 1048576) :
  Lt.Spec Tryz.prog 50 [.pointer (some ⟨gs, 0, none⟩)] w (AtSt w0 gs r rest (2 * ((N.length : Int) + 1), N ++ [(-1, 0)])) := by
 refine (aig_Input gs r cap a N (gmN N) rest w w0 hX hS hN).mono ?_
 rintro v w' ⟨h1, a', cap', h2, h3⟩
 have e : gmN N = gmN (N ++ [(-1, 0)]) := (gm_snoc_in N (x := (-1, 0)) (by decide)).symm
 rw [e] at h3
 exact ⟨h1, a', cap', h2, h3⟩
theorem aig_NewV (w w0 : World) (rest : List Piece) (hX : Ext w0 w) (hS : Sep w0.heap.size w rest) :
  Lt.Spec Tryz.prog 48 [] w (fun v w' => Ext w w' /\ ∃ gs r, v = .pointer (some ⟨gs, 0, none⟩) /\ Sep w0.heap.size w' (stN w0.heap.size gs none 0 r [] ++ rest)) := by
 refine Spec.of _ Tryz.func48 rfl Tryz.ntmps48 (by kernel_rfl) rfl ?_
 repeat' (first | (apply WL.makeMap (kv := kvN) (vv := vvI); exact rfl; exact rfl; intro r w1 hM hge1 hx1) | (apply WL.build tOk; (iterate 7 exact rfl); kernel_rfl) | (apply WL.box; (iterate 3 exact rfl); intro gb w' hb hge hc hx; have hcc := hc; obtain ⟨h1, h2, h3, _⟩ := hc) | (first | apply WL.nil | refine WL.au (k := ?_)) | apply Z.tn | (first | apply W.seq | apply W.region | apply W.ret))
 have hB : w0.heap.size <= w.heap.size := hX.size
 have hS1 : Lt.Sep w0.heap.size w1 (pmap kvN vvI r [] :: rest) := Sep.newMap hS hx1 hM hge1 hB
 have hS2 : Lt.Sep w0.heap.size w1 (prow 2 encN 84 w0.heap.size none 0 [] :: pmap kvN vvI r [] :: rest) := Sep.newRow hS1 (Ext.refl _) Own.nil (fun k hk => by cases hk) (Nat.le_trans hB hx1.size)
 have hS : Lt.Sep w0.heap.size w' (stN w0.heap.size gb none 0 r [] ++ rest) := Sep.newCell hS2 hx hb hge (Nat.le_trans hB hx1.size)
 exact Z.bd1 Tryz.results48 rfl fun m => ⟨Ext.at extA m, gb, r, rfl, hS.ext ((Ext.refl _).at m)⟩

theorem notL_xor1 {x : Int} (h : 0 <= x) : notL x = Lt.xor1 x := by unfold notL; rw [if_neg (by omega)]

noncomputable def litI (l : List Int) (x : Int) : Int := xorI (l.getD (x / 2).toNat 0) (x % 2)
noncomputable def cstep (ins : List Int) (s : List Int × Nat × List (Int × Int)) (x : Int × Int) : List Int × Nat × List (Int × Int) :=
 if 0 <= x.1 then (s.1 ++ [(andV s.2.2 (litI s.1 x.1) (litI s.1 x.2)).1], s.2.1, (andV s.2.2 (litI s.1 x.1) (litI s.1 x.2)).2)
 else if s.2.1 < ins.length then (s.1 ++ [ins.getD s.2.1 0], s.2.1 + 1, s.2.2)
 else (s.1 ++ [2 * ((s.2.2.length : Int) + 1)], s.2.1 + 1, s.2.2 ++ [(-1, 0)])
noncomputable def cto (N n : List (Int × Int)) (ins : List Int) (k : Nat) : List Int × Nat × List (Int × Int) := (n.take k).foldl (cstep ins) ([0], 0, N)
noncomputable def copyV (N n : List (Int × Int)) (ins : List Int) : List Int × List (Int × Int) := bif dec (∀ z ∈ ins, hasL N z) then ((cto N n ins n.length).1, (cto N n ins n.length).2.2) else ([], N)
theorem cto_succ {N n : List (Int × Int)} {ins : List Int} {k : Nat} {x : Int × Int} (h : n[k]? = some x) : cto N n ins (k + 1) = cstep ins (cto N n ins k) x := by
 unfold cto; rw [tkS h, List.foldl_append]; rfl
theorem hasL_xor1 {N : List (Int × Int)} {x : Int} (h : hasL N x) : hasL N (Lt.xor1 x) := by
 unfold hasL at h ⊢
 unfold Lt.xor1
 split <;> omega
theorem hasL_litI {N : List (Int × Int)} {l : List Int} {x : Int} (h : ∀ z ∈ l, hasL N z) (hx : (x / 2).toNat < l.length) : hasL N (litI l x) := by
 obtain ⟨z, hz⟩ := getI l hx
 have := h z (List.mem_of_getElem? hz)
 unfold litI xorI
 rw [gDo hz]
 split
 ·exact hasL_xor1 this
 ·exact this
theorem cto_inv {N n : List (Int × Int)} {ins : List Int} (hg : GNt n) (h : ∀ z ∈ ins, hasL N z) : ∀ k, k <= n.length ->
  (cto N n ins k).1.length = k + 1 /\ (∀ z ∈ (cto N n ins k).1, hasL (cto N n ins k).2.2 z) /\ N.length <= (cto N n ins k).2.2.length /\ (cto N n ins k).2.2.length <= N.length + k /\ Grow N (cto N n ins k).2.2 /\ (cto N n ins k).2.1 <= k
 | 0, _ => by
  refine ⟨rfl, fun z hz => ?_, Nat.le_refl _, Nat.le_refl _, .refl N, Nat.le_refl _⟩
  obtain rfl : z = 0 := by simpa [cto] using hz
  unfold hasL; omega
 | k + 1, hk => by
  obtain ⟨x, hx⟩ := getI n (show k < n.length by omega)
  obtain ⟨i1, i2, i3, i4, i5, i6⟩ := cto_inv hg h k (by omega)
  rw [cto_succ hx]
  generalize cto N n ins k = s at i1 i2 i3 i4 i5 i6
  unfold cstep
  split
  ·rename_i h0
   have hgt := hg.gate hx h0
   have hl := andV_len s.2.2 (litI s.1 x.1) (litI s.1 x.2)
   have hv := andV_has (hasL_litI i2 (x := x.1) (by omega)) (hasL_litI i2 (x := x.2) (by omega))
   refine ⟨by simp [i1], fun z hz => ?_, by dsimp only; omega, by dsimp only; omega, .gate _ _ i5, by dsimp only; omega⟩
   rcases List.mem_append.1 hz with h1 | h1
   ·exact hasL_mono (i2 z h1) hl.1
   ·obtain rfl := List.mem_singleton.1 h1; exact hv
  ·split
   ·rename_i h0 h1
    refine ⟨by simp [i1], fun z hz => ?_, i3, by dsimp only; omega, i5, by dsimp only; omega⟩
    rcases List.mem_append.1 hz with h2 | h2
    ·exact i2 z h2
    ·obtain rfl := List.mem_singleton.1 h2
     obtain ⟨y, hy⟩ := getI ins h1
     rw [gDo hy]
     exact hasL_mono (h y (List.mem_of_getElem? hy)) i3
   ·refine ⟨by simp [i1], fun z hz => ?_, by simp; omega, by simp; omega, .input i5, by dsimp only; omega⟩
    rcases List.mem_append.1 hz with h2 | h2
    ·exact hasL_mono (i2 z h2) (by simp)
    ·obtain rfl := List.mem_singleton.1 h2
     unfold hasL; simp; omega

theorem Sep.back32 {B : Nat} {w : World} {p q a b c : Piece} {rs : List Piece} (hS : Sep B w (p :: q :: a :: b :: c :: rs)) : Sep B w (a :: b :: c :: p :: q :: rs) := by
 refine Sep.sub' (fun i => if i < 3 then i + 2 else if i < 5 then i - 3 else i) hS (fun i x h => ?_) (fun i j hi hj hne => ?_)
 ·match i, h with
  | 0, h => exact h
  | 1, h => exact h
  | 2, h => exact h
  | 3, h => exact h
  | 4, h => exact h
  | i + 5, h =>
   simp only [show ¬ i + 5 < 3 by omega, show ¬ i + 5 < 5 by omega, if_false]; exact h
 ·split <;> split <;> (try split) <;> (try split) <;> omega
theorem Sep.back31 {B : Nat} {w : World} {p a b c : Piece} {rs : List Piece} (hS : Sep B w (p :: a :: b :: c :: rs)) : Sep B w (a :: b :: c :: p :: rs) := by
 refine Sep.sub' (fun i => if i < 3 then i + 1 else if i < 4 then i - 3 else i) hS (fun i x h => ?_) (fun i j hi hj hne => ?_)
 ·match i, h with
  | 0, h => exact h
  | 1, h => exact h
  | 2, h => exact h
  | 3, h => exact h
  | i + 4, h =>
   simp only [show ¬ i + 4 < 3 by omega, show ¬ i + 4 < 4 by omega, if_false]; exact h
 ·split <;> split <;> (try split) <;> (try split) <;> omega
theorem Sep.drop34 {B : Nat} {w : World} {p q a b c : Piece} {rs : List Piece} (hS : Sep B w (a :: b :: c :: p :: q :: rs)) : Sep B w (a :: b :: c :: rs) := by
 refine Sep.sub' (fun i => if i < 3 then i else i + 2) hS (fun i x h => ?_) (fun i j hi hj hne => ?_)
 ·match i, h with
  | 0, h => exact h
  | 1, h => exact h
  | 2, h => exact h
  | i + 3, h => simp only [show ¬ i + 3 < 3 by omega, if_false]; exact h
 ·split <;> split <;> omega
theorem Sep.drop3 {B : Nat} {w : World} {p a b c : Piece} {rs : List Piece} (hS : Sep B w (a :: b :: c :: p :: rs)) : Sep B w (a :: b :: c :: rs) := by
 refine Sep.sub' (fun i => if i < 3 then i else i + 1) hS (fun i x h => ?_) (fun i j hi hj hne => ?_)
 ·match i, h with
  | 0, h => exact h
  | 1, h => exact h
  | 2, h => exact h
  | i + 3, h => simp only [show ¬ i + 3 < 3 by omega, if_false]; exact h
 ·split <;> split <;> omega

theorem aig_Copy1 (g7 lc : Nat) (la : Option Addr) (L : List Int) (x z : Int) (w : World) (hc : w.heap[g7]? = some (.cells #[.slice la L.length lc] 22 (0, 0))) (RL : Row 1 encI w la L) (hz : L[(x / 2).toNat]? = some z) (hx : 0 <= x /\ x <= 9223372036854775807) (hz0 : 0 <= z /\ z <= 9223372036854775806) :
  Still Tryz.prog 151 ([.int .i64 x] ++ [.pointer (some ⟨g7, 0, none⟩)]) w (.int .i64 (litI L x)) := by
 obtain ⟨h1, _⟩ := cHp hc
 have hl := RL.len
 rw [litI, gDo hz]
 refine Spec.of _ Tryz.func151 rfl Tryz.ntmps151 (by kernel_rfl) rfl ?_
 repeat' (first | (apply WL.and1; (iterate 4 exact rfl); omega) | (apply WL.xorI; (iterate 4 exact rfl); omega; omega) | (first | apply WL.nil | refine WL.au (k := ?_) | (apply WL.index tOk; (iterate 8 exact rfl); assumption; exact extA; exact rfl; omega; assumption; intro b off h; have hcc := h; first | (obtain ⟨h1, h2, h3, h4, h5, h6, _⟩ := h) | (obtain ⟨h1, h2, h3, _⟩ := h) | (obtain ⟨h1, h2, _⟩ := h) | (obtain ⟨h1, _⟩ := h))) | apply Z.tn | (first | apply W.seq | apply W.region | apply W.ret))
 exact Z.bd1 Tryz.results151 rfl fun m => ⟨rfl, m, rfl⟩

abbrev AtCopy (w0 : World) (gs r : Nat) (rest : List Piece) (q : List Int × List (Int × Int)) (v : Value) (w' : World) : Prop :=
 Ext w0 w' /\ ∃ a' cap' la lc, v = .slice la q.1.length lc /\ Sep w0.heap.size w' (stN w0.heap.size gs a' cap' r q.2 ++ (prow 1 encI 3 w0.heap.size la lc q.1 :: rest))

theorem aig_CopyV (gs r cap cn cl : Nat) (a an al : Option Addr) (N n : List (Int × Int)) (ins : List Int) (rest : List Piece) (w w0 : World) (hX : Ext w0 w) (hS : Sep w0.heap.size w (stN w0.heap.size gs a cap r N ++ rest)) (hN : N.length + n.length < 1048576) (hg : GNt n) (hcl : ins.length <= cl)
  (hn : Keeps w0 gs r rest (fun w' => Row 2 encN w' an n)) (hi : Keeps w0 gs r rest (fun w' => Row 1 encI w' al ins)) :
  Lt.Spec Tryz.prog 103 [.pointer (some ⟨gs, 0, none⟩), .slice an n.length cn, .slice al ins.length cl] w (AtCopy w0 gs r rest (copyV N n ins)) := by
 have hC0 := hS.cell (i := 0) rfl
 have RI := hi w a cap N hX hS
 have hli := RI.len
 by_cases hh : ∀ z ∈ ins, hasL N z
 ·have e : copyV N n ins = ((cto N n ins n.length).1, (cto N n ins n.length).2.2) := by unfold copyV; rw [dTt hh]; rfl
  rw [e]
  refine Spec.of _ Tryz.func103 rfl Tryz.ntmps103 (by kernel_rfl) rfl ?_
  repeat' (first | (apply WL.callP (f := 150); (iterate 4 exact rfl); exact aig_has _ _ _ _ _ N ins _ _ hC0 RI (by omega); intro w' hx) | (apply W.cKF; exact rfl; (focus ((rw [dTt hh]; rfl); done))) | (first | apply WL.nil | refine WL.au (k := ?_)) | apply Z.tn | (first | apply W.seq | apply W.region | apply W.skip))
  have hx1 := hx
  obtain ⟨w1, rfl⟩ : ∃ x, x = w' := ⟨_, rfl⟩
  replace hS := hS.ext hx1
  have hX1 : Ext w0 w1 := hX.trans hx1
  repeat' (first | (apply WL.makeC (w0 := w0) (z := (0:Int)) tOk; (iterate 9 exact rfl); exact eIk; exact rfl; exact rfl; exact extA; omega; intro gb w' hO hge hx) | fail)
  obtain ⟨gl, rfl⟩ : ∃ x, x = gb := ⟨_, rfl⟩
  replace hS := Sep.newRow hS hx (hO : Own 1 encI 3 w0.heap.size w' _ _ [0]) (fun k hk => by cases hk; exact hge) hX1.size
  repeat' (first | (apply WL.alloc tOk; (iterate 3 exact rfl); intro gb w' hb hge hx; replace hS := Sep.newCell (Sep.ext hS extA) hx hb hge (by (exact Below.size extA)); (try simp only [List.set_cons_zero, List.set_cons_succ] at hS); (try have hR1 := hS.row (i := 1) rfl); (try have hR3 := hS.row (i := 3) rfl); (try have hC0 := hS.cell (i := 0) rfl); (try have hD0 := (cHp hC0).1); (try have hC2 := hS.cell (i := 2) rfl); (try have hD2 := (cHp hC2).1); (try have hE2 := (cHp hC2).2.1); (try have hM4 := hS.map (i := 4) rfl)) | (apply WL.storeB (w0 := w0) tOk; (iterate 4 exact rfl); assumption; exact extA; (iterate 3 exact rfl); exact extA; ((focus (apply Nat.le_trans; rotate_left; assumption; exact Below.size extA; done))); intro w' hb hc hX' hU; have hcc := hc; obtain ⟨h1, h2, _⟩ := hc; (replace hS := Sep.uCl (i := 0) rfl hU hb hS extA (by (exact Below.size extA))); (try simp only [List.set_cons_zero, List.set_cons_succ] at hS); (try have hR1 := hS.row (i := 1) rfl); (try have hR3 := hS.row (i := 3) rfl); (try have hC0 := hS.cell (i := 0) rfl); (try have hD0 := (cHp hC0).1); (try have hC2 := hS.cell (i := 2) rfl); (try have hD2 := (cHp hC2).1); (try have hE2 := (cHp hC2).2.1); (try have hM4 := hS.map (i := 4) rfl)) | (first | apply WL.nil | refine WL.au (k := ?_)) | apply Z.tn | (first | apply W.seq | apply W.region | apply W.block))
  have hS0 := Sep.back32 hS
  obtain ⟨g7, rfl⟩ : ∃ x, x = gb := ⟨_, rfl⟩
  refine W.loopO2 n.length (fun k la lc bi bd w' => k <= n.length /\ Ext w0 w' /\ (∃ a' cap', Sep w0.heap.size w' (stN w0.heap.size gs a' cap' r (cto N n ins k).2.2 ++ (pcell g7 #[.slice la (cto N n ins k).1.length lc] 22 :: prow 1 encI 3 w0.heap.size la lc (cto N n ins k).1 :: rest))) /\ Keeps w0 gs r rest (fun w' => Row 1 encI w' bi (ins.drop (cto N n ins k).2.1)) /\ (ins.drop (cto N n ins k).2.1).length <= bd)
   (fun k la lc bi bd => [(0, .pointer (some ⟨gs, 0, none⟩)), (2, .slice bi (ins.drop (cto N n ins k).2.1).length bd), (7, .pointer (some ⟨g7, 0, none⟩)), (8, .func (.func 151) #[] #[.pointer (some ⟨g7, 0, none⟩)]), (21, .slice an n.length cn), (22, .int .i64 n.length), (23, .int .i64 k)])
   (some ⟨gl, 0, none⟩) _ al cl ⟨by omega, extA, ⟨a, cap, hS0⟩, hi, hcl⟩ (fun k la lc bi bd w' h => h.1) ⟨rfl, rfl, rfl, rfl, rfl, rfl, rfl, trivial⟩ ?_
  rintro k la lc bi bd w9 ⟨hk, hX9, ⟨a2, cap2, hS9⟩, hib, hbd⟩
  obtain ⟨i1, i2, i3, i4, i5, i6⟩ := cto_inv (N := N) hg hh k hk
  have Rn := hn _ _ _ _ hX9 (Sep.drop34 hS9)
  have Ri := hib _ _ _ _ hX9 (Sep.drop34 hS9)
  have hS := hS9
  by_cases hlt : k < n.length
  ·obtain ⟨x, hxn⟩ := getI n hlt
   have hs := cto_succ (N := N) (ins := ins) hxn
   by_cases hin : 0 <= x.1
   ·have hgt := hg.gate hxn hin
    obtain ⟨za, hza⟩ := getI (cto N n ins k).1 (show (x.1 / 2).toNat < (cto N n ins k).1.length by omega)
    obtain ⟨zb, hzb⟩ := getI (cto N n ins k).1 (show (x.2 / 2).toNat < (cto N n ins k).1.length by omega)
    have ba : 0 <= za /\ za <= 9223372036854775806 := by have := i2 za (List.mem_of_getElem? hza); unfold hasL at this; omega
    have bb : 0 <= zb /\ zb <= 9223372036854775806 := by have := i2 zb (List.mem_of_getElem? hzb); unfold hasL at this; omega
    have hv := andV_has (hasL_litI i2 (x := x.1) (by omega)) (hasL_litI i2 (x := x.2) (by omega))
    have q0 : ¬ (andV (cto N n ins k).2.2 (litI (cto N n ins k).1 x.1) (litI (cto N n ins k).1 x.2)).1 < 0 := by have := hv.1; omega
    have e1 : (cto N n ins (k + 1)).1 = (cto N n ins k).1 ++ [(andV (cto N n ins k).2.2 (litI (cto N n ins k).1 x.1) (litI (cto N n ins k).1 x.2)).1] := by rw [hs, cstep, if_pos hin]
    have e2 : (cto N n ins (k + 1)).2.1 = (cto N n ins k).2.1 := by rw [hs, cstep, if_pos hin]
    have e3 : (cto N n ins (k + 1)).2.2 = (andV (cto N n ins k).2.2 (litI (cto N n ins k).1 x.1) (litI (cto N n ins k).1 x.2)).2 := by rw [hs, cstep, if_pos hin]
    repeat' (first | (apply W.cKT; exact rfl; (focus (exact dTt (by omega)))) | (apply WL.alloc tOk; (iterate 3 exact rfl); intro gb w' hb hge hx; replace hS := Sep.newCell (Sep.ext hS extA) hx hb hge (by (exact Below.size extA)); (try simp only [List.set_cons_zero, List.set_cons_succ] at hS); (try have hR2 := hS.row (i := 2) rfl); (try have hC0 := hS.cell (i := 0) rfl); (try have hD0 := (cHp hC0).1); (try have hE0 := (cHp hC0).2.1); (try have hC1 := hS.cell (i := 1) rfl); (try have hD1 := (cHp hC1).1); (try have hE1 := (cHp hC1).2.1); (try have hD2 := (cHp hC2).1); (try have hE2 := (cHp hC2).2.1); (try have hC4 := hS.cell (i := 4) rfl); (try have hD4 := (cHp hC4).1); (try have hM3 := hS.map (i := 3) rfl)) | (apply WL.storeB (w0 := w0) tOk; (iterate 4 exact rfl); assumption; exact extA; (iterate 3 exact rfl); exact extA; ((focus (apply Nat.le_trans; rotate_left; assumption; exact Below.size extA; done))); intro w' hb hc hX' hU; have hcc := hc; obtain ⟨h1, h2, _⟩ := hc; (replace hS := Sep.uCl (i := 0) rfl hU hb hS extA (by (exact Below.size extA))); (try simp only [List.set_cons_zero, List.set_cons_succ] at hS); (try have hR2 := hS.row (i := 2) rfl); (try have hC0 := hS.cell (i := 0) rfl); (try have hD0 := (cHp hC0).1); (try have hE0 := (cHp hC0).2.1); (try have hC1 := hS.cell (i := 1) rfl); (try have hD1 := (cHp hC1).1); (try have hE1 := (cHp hC1).2.1); (try have hD2 := (cHp hC2).1); (try have hE2 := (cHp hC2).2.1); (try have hC4 := hS.cell (i := 4) rfl); (try have hD4 := (cHp hC4).1); (try have hM3 := hS.map (i := 3) rfl)) | (apply W.regionQS 9 tMix; kernel_rfl; exact rfl; kernel_rfl; kernel_rfl) | ((show QL _ _ _ _ (⟨_, .call ⟨.value (.tmp _), _, _⟩, _, _, _, _⟩ :: _) _ _); apply QL.callS; (iterate 4 exact rfl); exact aig_Copy1 g7 lc la (cto N n ins k).1 x.1 za _ (Ext.heap extA (hS.cell (i := 4) rfl)) (Row.ext (Own.row eIk (hS.row (i := 5) rfl)) extA) hza (by omega) ba) | ((show QL _ _ _ _ (⟨_, .call ⟨.value (.tmp _), _, _⟩, _, _, _, _⟩ :: _) _ _); apply QL.callS; (iterate 4 exact rfl); exact aig_Copy1 g7 lc la (cto N n ins k).1 x.2 zb _ (Ext.heap extA (hS.cell (i := 4) rfl)) (Row.ext (Own.row eIk (hS.row (i := 5) rfl)) extA) hzb (by omega) bb) | (first | apply WL.nil | refine WL.au (k := ?_) | (apply WL.index tOk; (iterate 8 exact rfl); assumption; exact extA; exact rfl; omega; assumption; intro b off h; have hcc := h; first | (obtain ⟨h1, h2, h3, h4, h5, h6, _⟩ := h) | (obtain ⟨h1, h2, h3, _⟩ := h) | (obtain ⟨h1, h2, _⟩ := h) | (obtain ⟨h1, _⟩ := h))) | (first | apply QL.nil | refine QL.au (k := ?_)) | (first | apply Z.tail | apply Z.tn) | (first | apply W.seq | apply W.region | apply W.block | apply W.skip))
    repeat' (first | ((show WL _ _ _ (⟨_, .call ⟨.value (.func 152), _, _⟩, _, _, _, _⟩ :: _) _ _ _); have hS8 : Lt.Sep w0.heap.size _ (stN w0.heap.size gs a2 cap2 r (cto N n ins k).2.2 ++ (pcell g7 #[.slice la (cto N n ins k).1.length lc] 22 :: prow 1 encI 3 w0.heap.size la lc (cto N n ins k).1 :: rest)) := Sep.tail hS; apply WL.call; (iterate 4 exact rfl); exact aig_And gs r _ _ (cto N n ins k).2.2 _ _ (pcell g7 #[.slice la (cto N n ins k).1.length lc] 22 :: prow 1 encI 3 w0.heap.size la lc (cto N n ins k).1 :: rest) _ w0 extA hS8 (by omega); rintro v' w8 ⟨hX8, a8, cap8, rfl, hS⟩; (try simp only [List.set_cons_zero, List.set_cons_succ] at hS); (try have hR1 := hS.row (i := 1) rfl); (try have hR4 := hS.row (i := 4) rfl); (try have hC0 := hS.cell (i := 0) rfl); (try have hD0 := (cHp hC0).1); (try have hE0 := (cHp hC0).2.1); (try have hD1 := (cHp hC1).1); (try have hE1 := (cHp hC1).2.1); (try have hD2 := (cHp hC2).1); (try have hE2 := (cHp hC2).2.1); (try have hC3 := hS.cell (i := 3) rfl); (try have hD3 := (cHp hC3).1); (try have hD4 := (cHp hC4).1); (try have hM2 := hS.map (i := 2) rfl)) | (apply W.cKF; exact rfl; exact dFf q0) | (apply WL.lit tOk; (iterate 6 exact rfl); kernel_rfl; exact rfl; intro gb w' hb hge hc hx) | (apply WL.ap1 (z := ((andV (cto N n ins k).2.2 (litI (cto N n ins k).1 x.1) (litI (cto N n ins k).1 x.2)).1)) tOk eIk; (iterate 10 exact rfl); assumption; exact extA; exact rfl; assumption; exact rfl; exact rfl; exact extA; omega; intro a' cap' w' hO hX' hU hF; (replace hS := Sep.uRw (i := 4) rfl hU hO hF hS extA (by (exact Below.size extA))); (try simp only [List.set_cons_zero, List.set_cons_succ] at hS); (try have hR1 := hS.row (i := 1) rfl); (try have hR4 := hS.row (i := 4) rfl); (try have hC0 := hS.cell (i := 0) rfl); (try have hD0 := (cHp hC0).1); (try have hE0 := (cHp hC0).2.1); (try have hD1 := (cHp hC1).1); (try have hE1 := (cHp hC1).2.1); (try have hD2 := (cHp hC2).1); (try have hE2 := (cHp hC2).2.1); (try have hC3 := hS.cell (i := 3) rfl); (try have hD3 := (cHp hC3).1); (try have hD4 := (cHp hC4).1); (try have hM2 := hS.map (i := 2) rfl)) | (apply WL.storeB (w0 := w0) tOk; (iterate 4 exact rfl); assumption; exact extA; (iterate 3 exact rfl); exact extA; ((focus (apply Nat.le_trans; rotate_left; assumption; exact Below.size extA; done))); intro w' hb hc hX' hU; have hcc := hc; obtain ⟨h1, h2, _⟩ := hc; (replace hS := Sep.uCl (i := 3) rfl hU hb hS extA (by (exact Below.size extA))); (try simp only [List.set_cons_zero, List.set_cons_succ] at hS); (try have hR1 := hS.row (i := 1) rfl); (try have hR4 := hS.row (i := 4) rfl); (try have hC0 := hS.cell (i := 0) rfl); (try have hD0 := (cHp hC0).1); (try have hE0 := (cHp hC0).2.1); (try have hD1 := (cHp hC1).1); (try have hE1 := (cHp hC1).2.1); (try have hD2 := (cHp hC2).1); (try have hE2 := (cHp hC2).2.1); (try have hC3 := hS.cell (i := 3) rfl); (try have hD3 := (cHp hC3).1); (try have hD4 := (cHp hC4).1); (try have hM2 := hS.map (i := 2) rfl)) | (first | apply WL.nil | refine WL.au (k := ?_)) | (first | apply Z.tn | apply Z.bkn) | (first | apply W.seq | apply W.region | apply W.skip))
    exact Z.againO2 a' cap' bi bd ⟨by omega, by assumption, ⟨a8, cap8, by rw [e3, e1]; exact hS⟩, by rw [e2]; exact hib, by rw [e2]; exact hbd⟩ (by repeat' first | exact trivial | (refine And.intro ?_ ?_) | exact rfl | (rw [e1]; exact rfl) | (rw [e2]; exact rfl))
   ·by_cases hki : (cto N n ins k).2.1 < ins.length
    ·obtain ⟨z, hz⟩ := getI ins hki
     have hz' : (ins.drop (cto N n ins k).2.1)[0]? = some z := by rw [List.getElem?_drop]; exact hz
     have hdl : 0 < (ins.drop (cto N n ins k).2.1).length := by rw [List.length_drop]; omega
     have hzh := hh z (List.mem_of_getElem? hz)
     have q0 : ¬ z < 0 := by have := hzh.1; omega
     have e1 : (cto N n ins (k + 1)).1 = (cto N n ins k).1 ++ [z] := by rw [hs, cstep, if_neg hin, if_pos hki, gDo hz]
     have e2 : (cto N n ins (k + 1)).2.1 = (cto N n ins k).2.1 + 1 := by rw [hs, cstep, if_neg hin, if_pos hki]
     have e3 : (cto N n ins (k + 1)).2.2 = (cto N n ins k).2.2 := by rw [hs, cstep, if_neg hin, if_pos hki]
     have e4 : (ins.drop (cto N n ins k).2.1).drop 1 = ins.drop (cto N n ins (k + 1)).2.1 := by rw [e2, List.drop_drop]
     have e7 : (ins.drop (cto N n ins (k + 1)).2.1).length = (ins.drop (cto N n ins k).2.1).length - Int.toNat 1 := by rw [<- e4, List.length_drop]; rfl
     repeat' (first | (apply W.cKT; exact rfl; (focus (exact dTt (by omega)))) | (apply W.cKF; exact rfl; (focus (exact dFf (by omega)))) | (apply WL.alloc tOk; (iterate 3 exact rfl); intro gb w' hb hge hx; replace hS := Sep.newCell (Sep.ext hS extA) hx hb hge (by (exact Below.size extA)); (try simp only [List.set_cons_zero, List.set_cons_succ] at hS); (try have hR2 := hS.row (i := 2) rfl); (try have hC0 := hS.cell (i := 0) rfl); (try have hD0 := (cHp hC0).1); (try have hE0 := (cHp hC0).2.1); (try have hC1 := hS.cell (i := 1) rfl); (try have hD1 := (cHp hC1).1); (try have hE1 := (cHp hC1).2.1); (try have hD2 := (cHp hC2).1); (try have hE2 := (cHp hC2).2.1); (try have hC4 := hS.cell (i := 4) rfl); (try have hD4 := (cHp hC4).1); (try have hM3 := hS.map (i := 3) rfl)) | (apply WL.storeB (w0 := w9) tOk; (iterate 4 exact rfl); assumption; exact extA; (iterate 3 exact rfl); exact extA; assumption; intro w' hb hc hX' hU; have hcc := hc; obtain ⟨h1, h2, _⟩ := hc; (replace hS := Sep.uCl (i := 0) rfl hU hb hS extA (by (exact Below.size extA))); (try simp only [List.set_cons_zero, List.set_cons_succ] at hS); (try have hR2 := hS.row (i := 2) rfl); (try have hC0 := hS.cell (i := 0) rfl); (try have hD0 := (cHp hC0).1); (try have hE0 := (cHp hC0).2.1); (try have hC1 := hS.cell (i := 1) rfl); (try have hD1 := (cHp hC1).1); (try have hE1 := (cHp hC1).2.1); (try have hD2 := (cHp hC2).1); (try have hE2 := (cHp hC2).2.1); (try have hC4 := hS.cell (i := 4) rfl); (try have hD4 := (cHp hC4).1); (try have hM3 := hS.map (i := 3) rfl)) | (show W _ _ (.region 13 _ _) _ _ _; apply W.regionGX (.fl true 0 (.fl true 1 (.fl true 3 (.fl true 4 (.fl false 2 (.fl true 5 (.fl true 6 .done))))))) [] tMix; kernel_rfl) | (apply FL.sliceL0 tOk; (iterate 8 exact rfl); omega) | (apply WL.lit tOk; (iterate 6 exact rfl); kernel_rfl; exact rfl; intro gb w' hb hge hc hx) | (first | (apply SX.done; intro w' hx) | (apply SX.fl0; exact rfl) | (apply SX.fl1; exact rfl; exact extA)) | (first | apply FL.nilX | (apply FL.loadE tOk; (iterate 5 exact rfl); ((focus (apply Ext.cell; rotate_left; assumption; exact extA; done)))) | (apply FL.indexE tOk; (iterate 8 exact rfl); assumption; exact rfl; omega; assumption; intro b off h; have hcc := h; first | (obtain ⟨h1, h2, h3, h4, h5, h6, _⟩ := h) | (obtain ⟨h1, h2, h3, _⟩ := h) | (obtain ⟨h1, h2, _⟩ := h) | (obtain ⟨h1, _⟩ := h))) | refine FL.au (k := ?_) | (first | apply WL.nil | refine WL.au (k := ?_) | (apply WL.index tOk; (iterate 8 exact rfl); assumption; exact extA; exact rfl; omega; assumption; intro b off h; have hcc := h; first | (obtain ⟨h1, h2, h3, h4, h5, h6, _⟩ := h) | (obtain ⟨h1, h2, h3, _⟩ := h) | (obtain ⟨h1, h2, _⟩ := h) | (obtain ⟨h1, _⟩ := h))) | (first | apply Z.tn | apply Z.bkn) | (first | apply W.seq | apply W.region | apply W.block | apply W.skip))
     replace hS := Sep.tail hS
     (try simp only [List.set_cons_zero, List.set_cons_succ] at hS); (try have hR1 := hS.row (i := 1) rfl); (try have hR4 := hS.row (i := 4) rfl); (try have hC0 := hS.cell (i := 0) rfl); (try have hD0 := (cHp hC0).1); (try have hE0 := (cHp hC0).2.1); (try have hD1 := (cHp hC1).1); (try have hE1 := (cHp hC1).2.1); (try have hD2 := (cHp hC2).1); (try have hE2 := (cHp hC2).2.1); (try have hC3 := hS.cell (i := 3) rfl); (try have hD3 := (cHp hC3).1); (try have hD4 := (cHp hC4).1); (try have hM2 := hS.map (i := 2) rfl)
     have hRd : Keeps w0 gs r rest (fun w' => Row 1 encI w' (subA bi bd 1 1) (ins.drop (cto N n ins (k + 1)).2.1)) := fun w' a' cap' N' h1 h2 => by rw [<- e4]; exact Row.dropAt (hib w' a' cap' N' h1 h2) 1 bd hbd
     repeat' (first | (apply WL.ap1 (z := (z)) tOk eIk; (iterate 10 exact rfl); assumption; exact extA; exact rfl; assumption; exact rfl; exact rfl; exact extA; omega; intro a' cap' w' hO hX' hU hF; (replace hS := Sep.uRw (i := 4) rfl hU hO hF hS extA (by (exact Below.size extA))); (try simp only [List.set_cons_zero, List.set_cons_succ] at hS); (try have hR1 := hS.row (i := 1) rfl); (try have hR4 := hS.row (i := 4) rfl); (try have hC0 := hS.cell (i := 0) rfl); (try have hD0 := (cHp hC0).1); (try have hE0 := (cHp hC0).2.1); (try have hD1 := (cHp hC1).1); (try have hE1 := (cHp hC1).2.1); (try have hD2 := (cHp hC2).1); (try have hE2 := (cHp hC2).2.1); (try have hC3 := hS.cell (i := 3) rfl); (try have hD3 := (cHp hC3).1); (try have hD4 := (cHp hC4).1); (try have hM2 := hS.map (i := 2) rfl)) | (apply WL.storeB (w0 := w0) tOk; (iterate 4 exact rfl); assumption; exact extA; (iterate 3 exact rfl); exact extA; ((focus (apply Nat.le_trans; rotate_left; assumption; exact Below.size extA; done))); intro w' hb hc hX' hU; have hcc := hc; obtain ⟨h1, h2, _⟩ := hc; (replace hS := Sep.uCl (i := 3) rfl hU hb hS extA (by (exact Below.size extA))); (try simp only [List.set_cons_zero, List.set_cons_succ] at hS); (try have hR1 := hS.row (i := 1) rfl); (try have hR4 := hS.row (i := 4) rfl); (try have hC0 := hS.cell (i := 0) rfl); (try have hD0 := (cHp hC0).1); (try have hE0 := (cHp hC0).2.1); (try have hD1 := (cHp hC1).1); (try have hE1 := (cHp hC1).2.1); (try have hD2 := (cHp hC2).1); (try have hE2 := (cHp hC2).2.1); (try have hC3 := hS.cell (i := 3) rfl); (try have hD3 := (cHp hC3).1); (try have hD4 := (cHp hC4).1); (try have hM2 := hS.map (i := 2) rfl)) | (first | apply WL.nil | refine WL.au (k := ?_)) | (first | apply Z.tn | apply Z.bkn) | apply W.region)
     exact Z.againO2 a' cap' (subA bi bd 1 1) (bd - 1) ⟨by omega, by assumption, ⟨a2, cap2, by rw [e3, e1]; exact hS⟩, hRd, by rw [e7]; show _ <= bd - 1; omega⟩ (by repeat' first | exact trivial | (refine And.intro ?_ ?_) | exact rfl | (rw [e1]; exact rfl) | (rw [e7]; exact rfl))
    ·have hd0 : (ins.drop (cto N n ins k).2.1).length = 0 := by rw [List.length_drop]; omega
     have e1 : (cto N n ins (k + 1)).1 = (cto N n ins k).1 ++ [2 * (((cto N n ins k).2.2.length : Int) + 1)] := by rw [hs, cstep, if_neg hin, if_neg hki]
     have e2 : (cto N n ins (k + 1)).2.1 = (cto N n ins k).2.1 + 1 := by rw [hs, cstep, if_neg hin, if_neg hki]
     have e3 : (cto N n ins (k + 1)).2.2 = (cto N n ins k).2.2 ++ [(-1, 0)] := by rw [hs, cstep, if_neg hin, if_neg hki]
     have e4 : ins.drop (cto N n ins (k + 1)).2.1 = ins.drop (cto N n ins k).2.1 := by rw [e2, List.drop_eq_nil_of_le (by omega), List.drop_eq_nil_of_le (by omega)]
     repeat' (first | (apply W.cKT; exact rfl; (focus (exact dTt (by omega)))) | (apply W.cKF; exact rfl; exact dFf (by omega)) | (apply WL.alloc tOk; (iterate 3 exact rfl); intro gb w' hb hge hx; replace hS := Sep.newCell (Sep.ext hS extA) hx hb hge (by (exact Below.size extA)); (try simp only [List.set_cons_zero, List.set_cons_succ] at hS); (try have hR2 := hS.row (i := 2) rfl); (try have hC0 := hS.cell (i := 0) rfl); (try have hD0 := (cHp hC0).1); (try have hE0 := (cHp hC0).2.1); (try have hC1 := hS.cell (i := 1) rfl); (try have hD1 := (cHp hC1).1); (try have hE1 := (cHp hC1).2.1); (try have hD2 := (cHp hC2).1); (try have hE2 := (cHp hC2).2.1); (try have hC4 := hS.cell (i := 4) rfl); (try have hD4 := (cHp hC4).1); (try have hM3 := hS.map (i := 3) rfl)) | (apply WL.storeB (w0 := w0) tOk; (iterate 4 exact rfl); assumption; exact extA; (iterate 3 exact rfl); exact extA; ((focus (apply Nat.le_trans; rotate_left; assumption; exact Below.size extA; done))); intro w' hb hc hX' hU; have hcc := hc; obtain ⟨h1, h2, _⟩ := hc; (first | replace hS := Sep.uCl (i := 0) rfl hU hb hS extA (by (exact Below.size extA)) | replace hS := Sep.uCl (i := 3) rfl hU hb hS extA (by (exact Below.size extA))); (try simp only [List.set_cons_zero, List.set_cons_succ] at hS); (try have hR1 := hS.row (i := 1) rfl); (try have hR2 := hS.row (i := 2) rfl); (try have hR4 := hS.row (i := 4) rfl); (try have hC0 := hS.cell (i := 0) rfl); (try have hD0 := (cHp hC0).1); (try have hE0 := (cHp hC0).2.1); (try have hC1 := hS.cell (i := 1) rfl); (try have hD1 := (cHp hC1).1); (try have hE1 := (cHp hC1).2.1); (try have hD2 := (cHp hC2).1); (try have hE2 := (cHp hC2).2.1); (try have hC3 := hS.cell (i := 3) rfl); (try have hD3 := (cHp hC3).1); (try have hC4 := hS.cell (i := 4) rfl); (try have hD4 := (cHp hC4).1); (try have hM2 := hS.map (i := 2) rfl); (try have hM3 := hS.map (i := 3) rfl)) | ((show WL _ _ _ (⟨_, .call ⟨.value (.func 50), _, _⟩, _, _, _, _⟩ :: _) _ _ _); have hS8 : Lt.Sep w0.heap.size _ (stN w0.heap.size gs a2 cap2 r (cto N n ins k).2.2 ++ (pcell g7 #[.slice la (cto N n ins k).1.length lc] 22 :: prow 1 encI 3 w0.heap.size la lc (cto N n ins k).1 :: rest)) := Sep.tail hS; apply WL.call; (iterate 4 exact rfl); exact aig_InputV gs r _ _ (cto N n ins k).2.2 (pcell g7 #[.slice la (cto N n ins k).1.length lc] 22 :: prow 1 encI 3 w0.heap.size la lc (cto N n ins k).1 :: rest) _ w0 extA hS8 (by omega); rintro v' w8 ⟨hX8, a8, cap8, rfl, hS⟩; (try simp only [List.set_cons_zero, List.set_cons_succ] at hS); (try have hR1 := hS.row (i := 1) rfl); (try have hR4 := hS.row (i := 4) rfl); (try have hC0 := hS.cell (i := 0) rfl); (try have hD0 := (cHp hC0).1); (try have hE0 := (cHp hC0).2.1); (try have hD1 := (cHp hC1).1); (try have hE1 := (cHp hC1).2.1); (try have hD2 := (cHp hC2).1); (try have hE2 := (cHp hC2).2.1); (try have hC3 := hS.cell (i := 3) rfl); (try have hD3 := (cHp hC3).1); (try have hD4 := (cHp hC4).1); (try have hM2 := hS.map (i := 2) rfl)) | (apply WL.lit tOk; (iterate 6 exact rfl); kernel_rfl; exact rfl; intro gb w' hb hge hc hx) | (apply WL.ap1 (z := (2 * (((cto N n ins k).2.2.length : Int) + 1))) tOk eIk; (iterate 10 exact rfl); assumption; exact extA; exact rfl; assumption; exact rfl; exact rfl; exact extA; omega; intro a' cap' w' hO hX' hU hF; (replace hS := Sep.uRw (i := 4) rfl hU hO hF hS extA (by (exact Below.size extA))); (try simp only [List.set_cons_zero, List.set_cons_succ] at hS); (try have hR1 := hS.row (i := 1) rfl); (try have hR4 := hS.row (i := 4) rfl); (try have hC0 := hS.cell (i := 0) rfl); (try have hD0 := (cHp hC0).1); (try have hE0 := (cHp hC0).2.1); (try have hD1 := (cHp hC1).1); (try have hE1 := (cHp hC1).2.1); (try have hD2 := (cHp hC2).1); (try have hE2 := (cHp hC2).2.1); (try have hC3 := hS.cell (i := 3) rfl); (try have hD3 := (cHp hC3).1); (try have hD4 := (cHp hC4).1); (try have hM2 := hS.map (i := 2) rfl)) | (first | apply WL.nil | refine WL.au (k := ?_) | (apply WL.index tOk; (iterate 8 exact rfl); assumption; exact extA; exact rfl; omega; assumption; intro b off h; have hcc := h; first | (obtain ⟨h1, h2, h3, h4, h5, h6, _⟩ := h) | (obtain ⟨h1, h2, h3, _⟩ := h) | (obtain ⟨h1, h2, _⟩ := h) | (obtain ⟨h1, _⟩ := h))) | (first | apply Z.tn | apply Z.bkn) | (first | apply W.seq | apply W.region | apply W.block | apply W.skip))
     exact Z.againO2 a' cap' bi bd ⟨by omega, by assumption, ⟨a8, cap8, by rw [e3, e1]; exact hS⟩, by rw [e4]; exact hib, by rw [e4]; exact hbd⟩ (by repeat' first | exact trivial | (refine And.intro ?_ ?_) | exact rfl | (rw [e1]; exact rfl) | (rw [e4]; exact rfl))
  ·obtain rfl : k = n.length := by omega
   have hl7 := (cHp (hS9.cell (i := 3) rfl)).1
   repeat' (first | (apply W.cKF; exact rfl; exact dFf (by omega)) | (first | apply WL.nil | refine WL.au (k := ?_)) | (first | apply Z.tn | apply Z.tnx | apply Z.bkx) | (first | apply W.seq | apply W.region | apply W.ret | apply W.exit))
   exact Z.bd1 Tryz.results103 rfl fun m => ⟨hX9.at m, a2, cap2, la, lc, rfl, (Sep.drop3 hS9).ext ((Ext.refl _).at m)⟩
 ·have e : copyV N n ins = ([], N) := by unfold copyV; rw [dFf hh]; rfl
  rw [e]
  refine Spec.of _ Tryz.func103 rfl Tryz.ntmps103 (by kernel_rfl) rfl ?_
  repeat' (first | (apply WL.callP (f := 150); (iterate 4 exact rfl); exact aig_has _ _ _ _ _ N ins _ _ hC0 RI (by omega); intro w' hx) | (apply W.cKT; exact rfl; (focus ((rw [dFf hh]; rfl); done))) | (first | apply WL.nil | refine WL.au (k := ?_)) | (first | apply Z.tn | apply Z.tnr) | (first | apply W.seq | apply W.region | apply W.ret))
  have hS1 := hS.ext hx
  have hX1 := hX.trans hx
  have hS3 : Lt.Sep w0.heap.size w' (stN w0.heap.size gs a cap r N ++ (prow 1 encI 3 w0.heap.size none 0 [] :: rest)) := Sep.back31 (Sep.newRow hS1 (Ext.refl _) Own.nil (fun k hk => by cases hk) hX1.size)
  exact Z.bd1 Tryz.results103 rfl fun m => ⟨hX1.at m, a, cap, none, 0, rfl, hS3.ext ((Ext.refl _).at m)⟩

abbrev NA := List (Int × Int) × List Int
noncomputable def cput (s : NA) (l : Int) (x : Int × Int) : NA := (s.1 ++ [x], s.2.set (l / 2).toNat (2 * ((s.1.length : Int) + 1)))
noncomputable def cIn (s : NA) (ls : List Int) : NA := ls.foldl (fun s l => cput s l (-1, 0)) s
abbrev gAt (gs : List G3) (i : Nat) : G3 := gs.getD i (0, 0, 0)
noncomputable def cGate (gs : List G3) (s : NA) (i : Nat) : NA := cput s (gAt gs i).1 (litI s.2 (gAt gs i).2.1, litI s.2 (gAt gs i).2.2)
noncomputable def cGates (gs : List G3) (s : NA) (L : List Nat) : NA := L.foldl (cGate gs) s
def cAt0 (m : Int) : List Int := 0 :: List.replicate m.toNat (-1)
noncomputable def cNet (c : CirT) : NA := cGates c.gates (cIn ([], cAt0 c.max) (c.ins ++ c.lat.map (·.1))) (ordL c.gates)
theorem cIn_snoc (s : NA) (ls : List Int) (l : Int) : cIn s (ls ++ [l]) = cput (cIn s ls) l (-1, 0) := by unfold cIn; rw [List.foldl_append]; rfl
theorem cGates_snoc (gs : List G3) (s : NA) (L : List Nat) (i : Nat) : cGates gs s (L ++ [i]) = cGate gs (cGates gs s L) i := by unfold cGates; rw [List.foldl_append]; rfl

structure PutOk (s : NA) (q : List Int) (m : Nat) : Prop where
 len1 : s.1.length = q.length
 len2 : s.2.length = m + 1
 zero : s.2[0]? = some 0
 has : ∀ (i : Nat) (l : Int), q[i]? = some l -> s.2[(l / 2).toNat]? = some (2 * ((i : Int) + 1))
 not : ∀ v : Nat, 1 <= v -> v <= m -> (∀ l ∈ q, (l / 2).toNat ≠ v) -> s.2[v]? = some (-1)
theorem PutOk.start (m : Nat) : PutOk ([], cAt0 (m : Int)) [] m := by
 refine ⟨rfl, by simp [cAt0], rfl, fun i l h => by simp at h, fun v h1 h2 _ => ?_⟩
 show (0 :: List.replicate (m : Int).toNat (-1 : Int))[v]? = _
 obtain ⟨u, rfl⟩ : ∃ u, v = u + 1 := ⟨v - 1, by omega⟩
 rw [List.getElem?_cons_succ, List.getElem?_replicate, if_pos (by omega)]
theorem PutOk.push {s : NA} {q : List Int} {m : Nat} (h : PutOk s q m) {l : Int} (hl : 2 <= l /\ l % 2 = 0 /\ l <= 2 * (m : Int)) (hq : ∀ y ∈ q, 2 <= y /\ y % 2 = 0) (hn : l ∉ q) (x : Int × Int) : PutOk (cput s l x) (q ++ [l]) m := by
 have hlen := h.len2
 have hs : ∀ y ∈ q, (l / 2).toNat ≠ (y / 2).toNat := fun y hy he => hn (by have := hq y hy; rw [show l = y by omega]; exact hy)
 refine ⟨by simp [cput, h.len1], by simp [cput, h.len2], ?_, fun i y hy => ?_, fun v h1 h2 h3 => ?_⟩
 ·show (s.2.set _ _)[0]? = _
  rw [List.getElem?_set_ne (by omega)]; exact h.zero
 ·show (s.2.set _ _)[(y / 2).toNat]? = _
  by_cases hi : i < q.length
  ·rw [List.getElem?_append_left hi] at hy
   rw [List.getElem?_set_ne (hs y (List.mem_of_getElem? hy))]
   exact h.has i y hy
  ·rw [List.getElem?_append_right (by omega)] at hy
   have h0 : i - q.length = 0 := by have := lGt hy; simpa using this
   obtain rfl : i = q.length := by omega
   simp at hy; subst hy
   rw [List.getElem?_set_self (by omega), h.len1]
 ·show (s.2.set _ _)[v]? = _
  rw [List.getElem?_set_ne (h3 l (by simp))]
  exact h.not v h1 h2 fun y hy => h3 y (by simp [hy])
theorem PutOk.ge {s : NA} {q : List Int} {m : Nat} (h : PutOk s q m) {l : Int} (hl : l / 2 = 0 ∨ ∃ y ∈ q, y / 2 = l / 2) : ∃ z, s.2[(l / 2).toNat]? = some z /\ 0 <= z /\ z % 2 = 0 /\ z <= 2 * (s.1.length : Int) := by
 rcases hl with hl | ⟨y, hy, he⟩
 ·exact ⟨0, by rw [hl]; exact h.zero, by decide, by decide, by omega⟩
 ·obtain ⟨i, hi⟩ := List.mem_iff_getElem?.1 hy
  have h1 := h.has i y hi
  rw [he] at h1
  have h2 := lGt hi
  have := h.len1
  exact ⟨_, h1, by omega, by omega, by omega⟩
theorem litI_some {l : List Int} {x z : Int} (hz : l[(x / 2).toNat]? = some z) : litI l x = xorI z (x % 2) := by unfold litI; rw [gDo hz]
theorem cIn_ok {m : Nat} : ∀ (ls : List Int) (s : NA) (q : List Int), PutOk s q m -> (∀ y ∈ q, 2 <= y /\ y % 2 = 0) -> (∀ l ∈ ls, 2 <= l /\ l % 2 = 0 /\ l <= 2 * (m : Int)) -> (q ++ ls).Nodup -> GNt s.1 -> PutOk (cIn s ls) (q ++ ls) m /\ GNt (cIn s ls).1
 | [], s, q, h, _, _, _, hg => by rw [List.append_nil]; exact ⟨h, hg⟩
 | l :: ls, s, q, h, hq, hl, hn, hg => by
  have hl1 := hl l (by simp)
  have hnl : l ∉ q := fun hm => by
   rw [List.nodup_append] at hn
   exact hn.2.2 l hm l (by simp) rfl
  have h1 := h.push hl1 hq hnl (-1, 0)
  have h2 := cIn_ok ls (cput s l (-1, 0)) (q ++ [l]) h1 (fun y hy => by
   rcases List.mem_append.1 hy with hy | hy
   ·exact hq y hy
   ·rw [List.mem_singleton.1 hy]; exact ⟨hl1.1, hl1.2.1⟩) (fun y hy => hl y (by simp [hy])) (by simpa using hn) (fun i x hx => ?_)
  ·have e : q ++ [l] ++ ls = q ++ l :: ls := by simp
   rw [e] at h2
   exact h2
  ·have hx' : (s.1 ++ [((-1, 0) : Int × Int)])[i]? = some x := hx
   by_cases hi : i < s.1.length
   ·rw [List.getElem?_append_left hi] at hx'; exact hg i x hx'
   ·rw [List.getElem?_append_right (by omega)] at hx'
    have h0 : i - s.1.length = 0 := by have := lGt hx'; simpa using this
    rw [h0] at hx'
    simp at hx'; subst hx'
    unfold badNode; simp

noncomputable abbrev CirT.seq (c : CirT) : List Int := c.ins ++ c.lat.map (·.1) ++ (ordL c.gates).map (fun i => (gAt c.gates i).1)
abbrev CirT.inl (c : CirT) : List Int := c.ins ++ c.lat.map (·.1)
theorem gAt_of {gs : List G3} {i : Nat} {g : G3} (h : gs[i]? = some g) : gAt gs i = g := gDo h
theorem GoodC'.gate {c : CirT} (h : GoodC' c) {i : Nat} {g : G3} (hg : c.gates[i]? = some g) : (2 <= g.1 /\ g.1 % 2 = 0 /\ g.1 <= 2 * c.max) /\ (0 <= g.2.1 /\ g.2.1 <= 2 * c.max + 1) /\ (0 <= g.2.2 /\ g.2.2 <= 2 * c.max + 1) := by
 have hm := List.mem_of_getElem? hg
 refine ⟨h.own _ (List.mem_append_right _ (List.mem_map.2 ⟨g, hm, rfl⟩)), h.used _ (List.mem_append_right _ (List.mem_flatMap.2 ⟨g, hm, by simp⟩)), h.used _ (List.mem_append_right _ (List.mem_flatMap.2 ⟨g, hm, by simp⟩))⟩
theorem used_put {c : CirT} (h : GoodC' c) {l : Int} (hl : l ∈ c.used) {T : List Nat} (hT : ∀ (j : Nat) (x : G3), c.gates[j]? = some x -> j ∉ T -> x.1 / 2 ≠ l / 2) : l / 2 = 0 ∨ ∃ y ∈ c.inl ++ T.map (fun i => (gAt c.gates i).1), y / 2 = l / 2 := by
 have h0 := h.used l hl
 rcases Int.lt_or_le 1 l with h1 | h1
 ·right
  have h2 := h.has l hl h1
  rcases List.mem_append.1 h2 with h3 | h3
  ·exact ⟨_, List.mem_append_left _ h3, by omega⟩
  ·obtain ⟨g, hg, he⟩ := List.mem_map.1 h3
   obtain ⟨j, hj⟩ := List.mem_iff_getElem?.1 hg
   have hjT : j ∈ T := Classical.byContradiction fun hn => hT j g hj hn (by omega)
   exact ⟨g.1, List.mem_append_right _ (List.mem_map.2 ⟨j, hjT, by rw [gAt_of hj]⟩), by omega⟩
 ·left; omega
theorem inl_once {c : CirT} (h : GoodC' c) : c.inl.Nodup := by
 have := h.once
 rw [List.nodup_append] at this
 exact this.1
theorem gate_new {c : CirT} (h : GoodC' c) {i : Nat} {g : G3} (hg : c.gates[i]? = some g) {T : List Nat} (hT : ∀ j ∈ T, j < c.gates.length) (hi : i ∉ T) : g.1 ∉ c.inl ++ T.map (fun i => (gAt c.gates i).1) := by
 intro hm
 have ho := h.once
 rw [List.nodup_append] at ho
 rcases List.mem_append.1 hm with h1 | h1
 ·exact ho.2.2 _ h1 _ (List.mem_map.2 ⟨g, List.mem_of_getElem? hg, rfl⟩) rfl
 ·obtain ⟨j, hj, he⟩ := List.mem_map.1 h1
  obtain ⟨x, hx⟩ := getI c.gates (hT j hj)
  rw [gAt_of hx] at he
  have hp := List.pairwise_iff_getElem.1 (List.nodup_iff_pairwise_ne.1 ho.2.1)
  have li : i < (c.gates.map (·.1)).length := by rw [List.length_map]; exact lGt hg
  have lj : j < (c.gates.map (·.1)).length := by rw [List.length_map]; exact lGt hx
  have ei : (c.gates.map (·.1))[i] = g.1 := by have := (List.getElem?_eq_some_iff.1 hg).2; simp [this]
  have ej : (c.gates.map (·.1))[j] = x.1 := by have := (List.getElem?_eq_some_iff.1 hx).2; simp [this]
  have hne : i ≠ j := fun e => hi (by rw [e]; exact hj)
  rcases Nat.lt_or_gt_of_ne hne with h2 | h2
  ·exact hp i j li lj h2 (by rw [ei, ej, he])
  ·exact hp j i lj li h2 (by rw [ei, ej, he])
theorem net_to {c : CirT} (h : GoodC' c) : ∀ k, k <= (ordL c.gates).length ->
  PutOk (cGates c.gates (cIn ([], cAt0 c.max) c.inl) ((ordL c.gates).take k)) (c.inl ++ ((ordL c.gates).take k).map (fun i => (gAt c.gates i).1)) c.max.toNat /\ GNt (cGates c.gates (cIn ([], cAt0 c.max) c.inl) ((ordL c.gates).take k)).1 := by
 have hm : ((c.max.toNat : Nat) : Int) = c.max := by have := h.max; omega
 intro k
 induction k with
 | zero =>
  intro _
  have h1 := cIn_ok (m := c.max.toNat) c.inl ([], cAt0 c.max) [] (by have := PutOk.start c.max.toNat; rwa [hm] at this) (fun y hy => by cases hy) (fun l hl => by rw [hm]; exact h.own l (List.mem_append_left _ hl)) (by rw [List.nil_append]; exact inl_once h) (fun i x hx => by simp at hx)
  simpa [cGates] using h1
 | succ k ih =>
  intro hk
  obtain ⟨i, hi⟩ := getI (ordL c.gates) (show k < _ by omega)
  obtain ⟨h1, h2⟩ := ih (by omega)
  have hO := (ordL_is c.gates).1
  obtain ⟨g, hg, hn, hr⟩ := (hO k i hi).1
  have hgg := h.gate hg
  have hm' := List.mem_of_getElem? hg
  have ua : g.2.1 ∈ c.used := List.mem_append_right _ (List.mem_flatMap.2 ⟨g, hm', by simp⟩)
  have ub : g.2.2 ∈ c.used := List.mem_append_right _ (List.mem_flatMap.2 ⟨g, hm', by simp⟩)
  have pa := h1.ge (used_put h ua fun j x hx hj => (hr j x hx hj).1)
  have pb := h1.ge (used_put h ub fun j x hx hj => (hr j x hx hj).2)
  have hlt : ∀ j ∈ (ordL c.gates).take k, j < c.gates.length := fun j hj => hO.lt j (List.mem_of_mem_take hj)
  rw [tkS hi, cGates_snoc, List.map_append, <- List.append_assoc]
  have eg : gAt c.gates i = g := gAt_of hg
  have hsq : ∀ y ∈ c.inl ++ ((ordL c.gates).take k).map (fun i => (gAt c.gates i).1), 2 <= y /\ y % 2 = 0 := fun y hy => by
   have : y ∈ c.own := by
    rcases List.mem_append.1 hy with hy | hy
    ·exact List.mem_append_left _ hy
    ·obtain ⟨j, hj, rfl⟩ := List.mem_map.1 hy
     obtain ⟨x, hx⟩ := getI c.gates (hlt j hj)
     exact List.mem_append_right _ (List.mem_map.2 ⟨x, List.mem_of_getElem? hx, by rw [gAt_of hx]⟩)
   exact ⟨(h.own y this).1, (h.own y this).2.1⟩
  have hp := h1.push (l := g.1) (by rw [hm]; exact hgg.1) hsq (gate_new h hg hlt hn)
  refine ⟨?_, ?_⟩
  ·unfold cGate; rw [List.map_singleton, eg]; exact hp _
  ·unfold cGate; rw [eg]
   intro j x hx
   have hx' : ((cGates c.gates (cIn ([], cAt0 c.max) c.inl) ((ordL c.gates).take k)).1 ++ [_])[j]? = some x := hx
   obtain ⟨za, a1, a2, a3, a4⟩ := pa
   obtain ⟨zb, b1, b2, b3, b4⟩ := pb
   rw [litI_some a1, litI_some b1] at hx'
   by_cases hj : j < (cGates c.gates (cIn ([], cAt0 c.max) c.inl) ((ordL c.gates).take k)).1.length
   ·rw [List.getElem?_append_left hj] at hx'; exact h2 j x hx'
   ·rw [List.getElem?_append_right (by omega)] at hx'
    have h0 : j - (cGates c.gates (cIn ([], cAt0 c.max) c.inl) ((ordL c.gates).take k)).1.length = 0 := by have := lGt hx'; simpa using this
    rw [h0] at hx'
    simp only [List.getElem?_cons_zero, Option.some.injEq] at hx'
    subst hx'
    have ka : 0 <= xorI za (g.2.1 % 2) /\ xorI za (g.2.1 % 2) <= za + 1 := by unfold xorI Lt.xor1; split <;> (try split) <;> omega
    have kb : 0 <= xorI zb (g.2.2 % 2) /\ xorI zb (g.2.2 % 2) <= zb + 1 := by unfold xorI Lt.xor1; split <;> (try split) <;> omega
    unfold badNode
    dsimp only
    omega
theorem cNet_ok {c : CirT} (h : GoodC' c) : PutOk (cNet c) c.seq c.max.toNat /\ GNt (cNet c).1 := by
 have h1 := net_to h _ (Nat.le_refl _)
 rw [List.take_length] at h1
 exact h1
theorem ord_all {c : CirT} (h : GoodC' c) {i : Nat} (hi : i < c.gates.length) : i ∈ ordL c.gates := by
 refine Classical.byContradiction fun hn => ?_
 have hO := (ordL_is c.gates).1
 have h1 := nodup_le c.gates.length (i :: ordL c.gates) (List.nodup_cons.2 ⟨hn, hO.nodup⟩) (fun j hj => by
  rcases List.mem_cons.1 hj with rfl | hj
  ·exact hi
  ·exact hO.lt j hj)
 have := h.ord
 simp only [List.length_cons] at h1
 omega
theorem seq_all {c : CirT} (h : GoodC' c) {l : Int} (hl : l ∈ c.own) : l ∈ c.seq := by
 rcases List.mem_append.1 hl with h1 | h1
 ·exact List.mem_append_left _ h1
 ·obtain ⟨g, hg, rfl⟩ := List.mem_map.1 h1
  obtain ⟨i, hi⟩ := List.mem_iff_getElem?.1 hg
  exact List.mem_append_right _ (List.mem_map.2 ⟨i, ord_all h (lGt hi), by rw [gAt_of hi]⟩)

noncomputable def rnk (P : Nat -> Prop) (k : Nat) : Nat := (sel (k + 1) P).length
theorem rnk_yes {P : Nat -> Prop} {k : Nat} (h : P (k + 1)) : rnk P (k + 1) = rnk P k + 1 := by rw [rnk, sel_yes h, List.length_append]; rfl
theorem rnk_no {P : Nat -> Prop} {k : Nat} (h : ¬ P (k + 1)) : rnk P (k + 1) = rnk P k := by rw [rnk, sel_no h]; rfl
theorem rnk_le (P : Nat -> Prop) (k : Nat) : rnk P k <= k + 1 := sel_le _ _
open Classical in
noncomputable def atv (P : Nat -> Prop) (v : Nat) : Int := if v = 0 then 0 else if P v then 2 * (rnk P v : Nat) else -1
noncomputable def atL (P : Nat -> Prop) (l : Int) : Int := atv P (l / 2).toNat + l % 2
noncomputable def nodeC (n : List (Int × Int)) (P : Nat -> Prop) (k : Nat) : Int × Int :=
 match n[k]? with
 | some x => if x.1 < 0 then (-1, 0) else (atL P x.1, atL P x.2)
 | none => (0, 0)
open Classical in
noncomputable def outTo (n : List (Int × Int)) (P : Nat -> Prop) : Nat -> List (Int × Int)
 | 0 => []
 | k + 1 => if P (k + 1) then outTo n P k ++ [nodeC n P k] else outTo n P k
theorem outTo_yes {n : List (Int × Int)} {P : Nat -> Prop} {k : Nat} (h : P (k + 1)) : outTo n P (k + 1) = outTo n P k ++ [nodeC n P k] := if_pos h
theorem outTo_no {n : List (Int × Int)} {P : Nat -> Prop} {k : Nat} (h : ¬ P (k + 1)) : outTo n P (k + 1) = outTo n P k := if_neg h
theorem outTo_len (n : List (Int × Int)) {P : Nat -> Prop} (h0 : ¬ P 0) : ∀ k, (outTo n P k).length = rnk P k
 | 0 => by rw [rnk, sel_no h0]; rfl
 | k + 1 => by
  by_cases h : P (k + 1)
  ·rw [outTo_yes h, rnk_yes h, List.length_append, outTo_len n h0 k]; rfl
  ·rw [outTo_no h, rnk_no h, outTo_len n h0 k]
noncomputable def atT (n : List (Int × Int)) (P : Nat -> Prop) (k : Nat) : List Int := tab (n.length + 1) (fun u => if u < k then atv P u else 0)
theorem atT_len (n : List (Int × Int)) (P : Nat -> Prop) (k : Nat) : (atT n P k).length = n.length + 1 := tab_len _ _
theorem atT_get {n : List (Int × Int)} {P : Nat -> Prop} {k u : Nat} (h : u < k) (hu : u <= n.length) : (atT n P k)[u]? = some (atv P u) := by rw [atT, tab_get _ (by omega), if_pos h]
theorem atT_set {n : List (Int × Int)} {P : Nat -> Prop} {k : Nat} {y : Int} (h : y = atv P k) : (atT n P k).set k y = atT n P (k + 1) := by
 refine tab_set fun u hu => ?_
 by_cases huk : u = k
 ·rw [if_pos huk, if_pos (by omega), huk, h]
 ·rw [if_neg huk]
  by_cases h1 : u < k
  ·rw [if_pos h1, if_pos (by omega)]
  ·rw [if_neg h1, if_neg (by omega)]
theorem atT_one (n : List (Int × Int)) (P : Nat -> Prop) : atT n P 1 = atT n P 0 := tab_congr fun u hu => by
 by_cases h : u = 0
 ·subst h; simp [atv]
 ·rw [if_neg (by omega), if_neg (by omega)]
theorem atv_even (P : Nat -> Prop) {v : Nat} (h : v = 0 ∨ P v) (hv : v <= 1048576) : 0 <= atv P v /\ atv P v % 2 = 0 /\ atv P v <= 4194304 := by
 have := rnk_le P v
 unfold atv
 by_cases h0 : v = 0
 ·rw [if_pos h0]; omega
 ·rw [if_neg h0, if_pos (h.resolve_left h0)]; omega
theorem xorb_eq (a b : Int) (h : 0 <= a /\ a % 2 = 0 /\ a <= 9223372036854775806) (hb : b = 0 ∨ b = 1) : IntKind.i64.wrap (BitVec.ofInt IntKind.i64.bits a ^^^ BitVec.ofInt IntKind.i64.bits b).toNat = a + b := by
 rcases hb with rfl | rfl
 ·show IntKind.i64.wrap (BitVec.ofInt 64 a ^^^ BitVec.ofInt 64 0).toNat = a + 0
  rw [show BitVec.ofInt 64 0 = 0#64 from rfl, BitVec.xor_zero, toNat_ofInt64 a h.1 (by omega), IntWalk.i64_in _ (by omega)]
  omega
 ·rw [xor1_eq a ⟨h.1, h.2.2⟩, xor1, if_pos h.2.1]

theorem of_kid {n : List (Int × Int)} (hg : GNt n) {l : List Int} {v c : Nat} (h : OfP n l v) (hk : Kid n v c) : c = 0 ∨ OfP n l c := by
 by_cases hc : c = 0
 ·exact .inl hc
 ·obtain ⟨h1, x, hx, h2, h3, h4, h5, h6⟩ := h
  have := hk.lt hg
  rw [Int.toNat_natCast] at h6
  exact .inr ⟨by omega, x, hx, h2, h3, by omega, by omega, by rw [Int.toNat_natCast]; exact h6.snoc hk⟩

theorem cone_Cut1 (n : List (Int × Int)) (P : Nat -> Prop) (ga g7 k B : Nat) (x : Int) (w : World) (hA : Own 1 encI 3 B w (some ⟨ga, 0, none⟩) (n.length + 1) (atT n P k)) (h7 : w.heap[g7]? = some (.cells #[.slice (some ⟨ga, 0, none⟩) (n.length + 1) (n.length + 1)] 22 (0, 0)))
  (hx : 0 <= x) (hxk : (x / 2).toNat < k) (hkn : k <= n.length + 1) (hn : n.length <= 1048576) (hP : (x / 2).toNat = 0 ∨ P (x / 2).toNat) :
  Still Tryz.prog 132 ([.int .i64 x] ++ [.pointer (some ⟨g7, 0, none⟩)]) w (.int .i64 (atL P x)) := by
 have hget := atT_get (n := n) (P := P) hxk (by omega)
 have hlen := atT_len n P k
 have hev := atv_even P hP (by omega)
 obtain ⟨h1, _⟩ := cHp h7
 refine Spec.of _ Tryz.func132 rfl Tryz.ntmps132 (by kernel_rfl) rfl ?_
 repeat' (first | (apply WL.indexO tOk; (iterate 8 exact rfl); assumption; exact extA; exact eIk; ((focus (simp [*]; done))); omega; assumption; intro gb ha hc; cases ha; have hcc := hc; first | (obtain ⟨h1, h2, h3, _⟩ := hc) | (obtain ⟨h1, h2, _⟩ := hc) | (obtain ⟨h1, _⟩ := hc)) | (apply WL.and1; (iterate 4 exact rfl); omega) | (first | apply WL.nil | refine WL.au (k := ?_)) | apply Z.tn | (first | apply W.seq | apply W.region | apply W.ret))
 refine Z.bd1 Tryz.results132 rfl fun m => ⟨congrArg (Value.int .i64) ?_, m, rfl⟩
 rw [atL]
 exact xorb_eq _ _ ⟨hev.1, hev.2.1, by omega⟩ (by omega)

def IsFresh2 {α β : Type} (s : Nat) (enc : α -> List Value) (el : TypeId) (t : Nat) (encb : β -> List Value) (elb : TypeId) (w : World) (L : List α) (M : List β) (v : Value) (w' : World) : Prop :=
 Ext w w' /\ ∃ a cap b cb, v = .tuple #[.slice a L.length cap, .slice b M.length cb] /\ Own s enc el w.heap.size w' a cap L /\ Own t encb elb w.heap.size w' b cb M

theorem cone_Cut (a b : Option Addr) (cap cb : Nat) (n : List (Int × Int)) (l : List Int) (w : World) (R : Row 2 encN w a n) (Rb : Row 1 encI w b l) (hg : GNt n) (hn : n.length <= 1048576) (hl : ∀ x ∈ l, inI64 x) :
  Lt.Spec Tryz.prog 79 [.slice a n.length cap, .slice b l.length cb] w (IsFresh2 2 encN 84 1 encI 3 w (outTo n (OfP n l) n.length) (atT n (OfP n l) (n.length + 1))) := by
 have hP0 : ¬ OfP n l 0 := fun h => by have := h.1; omega
 refine Spec.of _ Tryz.func79 rfl Tryz.ntmps79 (by kernel_rfl) rfl ?_
 repeat' (first | (apply WL.make (w0 := w) tOk; (iterate 9 exact rfl); exact eIk; exact rfl; exact rfl; exact extA; omega; intro gb w' hO hge hx) | (first | apply WL.nil | refine WL.au (k := ?_)) | apply Z.tn | (first | apply W.seq | apply W.region))
 have en : ((n.length : Int) + 1).toNat = n.length + 1 := by omega
 have e0l : (List.replicate (n.length + 1) (0 : Int)).length = n.length + 1 := List.length_replicate
 have e0 : List.replicate (n.length + 1) (0 : Int) = atT n (OfP n l) 0 := by rw [tab_rep]; exact tab_congr fun u hu => (if_neg (by omega)).symm
 rw [en] at hO ⊢
 obtain ⟨ga, rfl⟩ : ∃ x, x = gb := ⟨_, rfl⟩
 rw [e0] at hO
 have hS : Sep w.heap.size w' [prow 1 encI 3 w.heap.size (some ⟨ga, 0, none⟩) (n.length + 1) (atT n (OfP n l) 0)] := Sep.none'.newRow' hx hO (Nat.le_refl _)
 have hxa := hx
 repeat' (first | (apply WL.alloc tOk; (iterate 3 exact rfl); intro gb w' hb hge hx) | fail)
 obtain ⟨g7, rfl⟩ : ∃ x, x = gb := ⟨_, rfl⟩
 have hS := hS.newCell hx hb hge (Below.size hxa)
 repeat' (first | (apply WL.storeB (w0 := w) tOk; (iterate 4 exact rfl); assumption; exact extA; (iterate 3 exact rfl); exact extA; ((focus (apply Nat.le_trans; rotate_left; assumption; exact Below.size extA; done))); intro w' hb hc hX' hU; have hcc := hc; obtain ⟨h1, h2, _⟩ := hc) | (first | apply WL.nil | refine WL.au (k := ?_)) | apply Z.tn | (first | apply W.seq | apply W.region))
 have hS := Sep.uCl (i := 0) rfl hU hb hS (Ext.refl _) (Below.size (show Ext w _ from extA))
 simp only [List.set_cons_zero] at hS
 rw [e0l] at hS ⊢
 obtain ⟨w3, rfl⟩ : ∃ x, x = w' := ⟨_, rfl⟩
 have hx3 : Ext w w3 := extA
 repeat' (first | (apply WL.call (f := 133); (iterate 4 exact rfl); exact cone_marked _ _ _ _ n l _ (R.ext hx3) (Rb.ext hx3) hg hn hl; rintro v' w' ⟨hx, a', cap', rfl, hO⟩) | (first | apply WL.nil | refine WL.au (k := ?_)) | apply Z.tn | apply W.block)
 have hS := hS.newRow' hx hO (Below.size hx3)
 have hS := hS.newRow (Ext.refl _) (s := 2) (enc := encN) (el := 84) (a := none) (cap := 0) (l := []) Own.nil (fun k hk => by cases hk) (Below.size (show Ext w _ from extA))
 obtain ⟨mk, rfl⟩ : ∃ x, x = a' := ⟨_, rfl⟩; obtain ⟨cmk, rfl⟩ : ∃ x, x = cap' := ⟨_, rfl⟩
 have hml : (markL n l).length = n.length + 1 := tab_len _ _
 refine W.loopO (n.length + 1) (fun k c cp w' => k <= n.length + 1 /\ Ext w w' /\ Sep w.heap.size w' [prow 2 encN 84 w.heap.size c cp (outTo n (OfP n l) (k - 1)), prow 1 encB 4 w.heap.size mk cmk (markL n l), pcell g7 #[.slice (some ⟨ga, 0, none⟩) (n.length + 1) (n.length + 1)] 22, prow 1 encI 3 w.heap.size (some ⟨ga, 0, none⟩) (n.length + 1) (atT n (OfP n l) k)])
  (fun k c cp => [(0, .slice a n.length cap), (6, .slice c (outTo n (OfP n l) (k - 1)).length cp), (7, .pointer (some ⟨g7, 0, none⟩)), (8, fnv 132 [.pointer (some ⟨g7, 0, none⟩)]), (18, .slice mk (markL n l).length cmk), (19, .int .i64 (n.length + 1 : Nat)), (20, .int .i64 k)]) none 0 ⟨by omega, extA, hS⟩ (fun k c cp w' h => h.1) (by repeat' first | exact trivial | (refine And.intro ?_ ?_) | exact rfl | (rw [hml]; exact rfl)) ?_
 clear hS hO
 rintro k c cp w' ⟨hk, hx', hS⟩
 have hR0 := hS.row (i := 0) rfl
 have hR1 := hS.row (i := 1) rfl
 have hC2 := hS.cell (i := 2) rfl
 have hR3 := hS.row (i := 3) rfl
 have hal := atT_len n (OfP n l) k
 have hol := outTo_len n hP0 (k - 1)
 have hrk := rnk_le (OfP n l) (k - 1)
 have RM := Own.row eBk hR1
 by_cases hlt : k < n.length + 1
 ·have hmk : (markL n l)[k]? = some (dec (OfP n l k)) := tab_get _ hlt
  have hak : (atT n (OfP n l) k)[k]? = some 0 := by rw [atT, tab_get _ hlt, if_neg (by omega)]
  obtain ⟨h7c, _⟩ := cHp hC2
  by_cases hk0 : k = 0
  ·subst hk0
   repeat' (first | (apply W.cKT; exact rfl; exact dTt (by omega)) | (first | apply WL.nil | refine WL.au (k := ?_) | (apply WL.index tOk; (iterate 8 exact rfl); assumption; exact extA; exact rfl; omega; assumption; intro b off h; have hcc := h; first | (obtain ⟨h1, h2, h3, h4, h5, h6, _⟩ := h) | (obtain ⟨h1, h2, h3, _⟩ := h) | (obtain ⟨h1, h2, _⟩ := h) | (obtain ⟨h1, _⟩ := h))) | (first | apply Z.tn | apply Z.tnx | apply Z.bkx | (apply Z.block_other; exact rfl)) | (first | apply W.seq | apply W.region | apply W.block | apply W.skip | apply W.exit))
   exact Z.agO c cp ⟨by omega, hx', by rw [atT_one]; exact hS⟩ ⟨rfl, rfl, rfl, rfl, rfl, rfl, rfl, trivial⟩
  ·obtain ⟨j, rfl⟩ : ∃ j, k = j + 1 := ⟨k - 1, by omega⟩
   obtain ⟨x, hxn⟩ := getI n (show j < n.length by omega)
   have hxn1 : n[(((j + 1 : Nat) : Int) - 1).toNat]? = some x := by rw [show (((j + 1 : Nat) : Int) - 1).toNat = j by omega]; exact hxn
   have ej : j + 1 + 1 - 1 = j + 1 := rfl
   simp only [Nat.add_sub_cancel] at hS hR0 hol hrk ⊢
   by_cases hy : OfP n l (j + 1)
   ·have hol2 := outTo_len n hP0 (j + 1)
    have hrk2 := rnk_le (OfP n l) (j + 1)
    have e1 := outTo_yes (n := n) hy
    have eat : atv (OfP n l) (j + 1) = 2 * (rnk (OfP n l) (j + 1) : Nat) := by rw [atv, if_neg (by omega), if_pos hy]
    by_cases hin : x.1 < 0
    ·have e2 : nodeC n (OfP n l) j = (-1, 0) := by rw [nodeC, hxn]; exact if_pos hin
     rw [e2] at e1
     rw [e1] at hol2
     repeat' (first | (apply W.cKT; exact rfl; (focus (exact dTt (by omega)))) | (apply W.cKF; exact rfl; (focus (first | exact dFf (by omega) | (rw [dTt hy]; rfl); done))) | (apply WL.build tOk; (iterate 7 exact rfl); kernel_rfl) | (apply WL.lit tOk; (iterate 6 exact rfl); kernel_rfl; exact rfl; intro gb w' hb hge hc hx) | (apply WL.ap1 tOk encN_ok; (iterate 10 exact rfl); assumption; exact extA; exact rfl; assumption; (exact (rfl : encN (_, _) = _)); exact rfl; exact extA; omega; intro a' cap' w' hO hX' hU hF; (replace hS := Sep.uRw (i := 0) rfl hU hO hF hS extA (by (exact Below.size extA))); (try simp only [List.set_cons_zero, List.set_cons_succ] at hS); (try have hR0 := hS.row (i := 0) rfl); (try have hR1 := hS.row (i := 1) rfl); (try have hR3 := hS.row (i := 3) rfl); (try have hC2 := hS.cell (i := 2) rfl); (try have hD2 := (cHp hC2).1)) | (apply WL.indexO tOk; (iterate 8 exact rfl); assumption; exact extA; exact eIk; ((focus (simp [*]; done))); omega; assumption; intro gb ha hc; cases ha; have hcc := hc; first | (obtain ⟨h1, h2, h3, _⟩ := hc) | (obtain ⟨h1, h2, _⟩ := hc) | (obtain ⟨h1, _⟩ := hc)) | (apply WL.storeO tOk; (iterate 4 exact rfl); assumption; exact extA; (iterate 3 exact rfl); exact eIk; assumption; exact rfl; exact extA; intro w' hO hX' hU; (replace hS := Sep.uRw (i := 3) rfl hU hO (.inl rfl) hS extA (by (exact Below.size extA))); (try simp only [List.set_cons_zero, List.set_cons_succ] at hS); (try have hR0 := hS.row (i := 0) rfl); (try have hR1 := hS.row (i := 1) rfl); (try have hR3 := hS.row (i := 3) rfl); (try have hC2 := hS.cell (i := 2) rfl); (try have hD2 := (cHp hC2).1)) | (first | apply WL.nil | refine WL.au (k := ?_) | (apply WL.index tOk; (iterate 8 exact rfl); assumption; exact extA; exact rfl; omega; assumption; intro b off h; have hcc := h; first | (obtain ⟨h1, h2, h3, h4, h5, h6, _⟩ := h) | (obtain ⟨h1, h2, h3, _⟩ := h) | (obtain ⟨h1, h2, _⟩ := h) | (obtain ⟨h1, _⟩ := h))) | (first | apply Z.tn | apply Z.bkn) | (first | apply W.seq | apply W.region | apply W.block | apply W.skip))
     rw [Int.toNat_natCast, hol2, atT_set eat.symm] at hS
     exact Z.agO a' cap' ⟨by omega, by assumption, by rw [ej, e1]; exact hS⟩ (by repeat' first | exact trivial | (refine And.intro ?_ ?_) | exact rfl | (rw [ej, e1]; exact rfl))
    ·have h0 : 0 <= x.1 := by omega
     have hgt := hg.gate hxn h0
     have hk1 := of_kid hg hy ⟨j, x, rfl, hxn, h0, .inl rfl⟩
     have hk2 := of_kid hg hy ⟨j, x, rfl, hxn, h0, .inr rfl⟩
     have e2 : nodeC n (OfP n l) j = (atL (OfP n l) x.1, atL (OfP n l) x.2) := by rw [nodeC, hxn]; exact if_neg hin
     have hBC : ∀ k, blk c = some k -> w.heap.size <= k := fun k hk => (hR0.blk_lt k hk).1
     rw [e2] at e1
     rw [e1] at hol2
     repeat' (first | (apply W.cKT; exact rfl; (focus (exact dTt (by omega)))) | (apply W.cKF; exact rfl; (focus (first | exact dFf (by omega) | (rw [dTt hy]; rfl); done))) | (apply W.regionF [0, 1, 2, 3, 4, 5, 6, 7, 9, 10, 11, 12, 13, 14, 15] [8, 16, 17, 18, 19] [20] (But _ (blk c)) tMix; kernel_rfl; (iterate 3 exact rfl); exact fun m => But.at _ _ m) | ((show WL _ _ _ (⟨_, .call ⟨.value (.tmp _), _, _⟩, _, _, _, _⟩ :: _) _ _ _); apply WL.callS; (iterate 4 exact rfl); exact cone_Cut1 n (OfP n l) ga g7 (j + 1) _ x.1 _ hR3 hC2 h0 (by omega) (by omega) hn hk1) | ((show WL _ _ _ (⟨_, .call ⟨.value (.tmp _), _, _⟩, _, _, _, _⟩ :: _) _ _ _); apply WL.callS; (iterate 4 exact rfl); exact cone_Cut1 n (OfP n l) ga g7 (j + 1) _ x.2 _ hR3 hC2 hgt.2.1 (by omega) (by omega) hn hk2) | (apply WL.build tOk; (iterate 7 exact rfl); kernel_rfl) | (apply WL.lit tOk; (iterate 6 exact rfl); kernel_rfl; exact rfl; intro gb w' hb hge hc hx) | (apply WL.ap1 (z := ((atL (OfP n l) x.1, atL (OfP n l) x.2))) tOk encN_ok; (iterate 10 exact rfl); assumption; exact extA; exact rfl; assumption; exact rfl; exact rfl; exact extA; omega; intro a' cap' w' hO hX' hU hF; (replace hS := Sep.uRw (i := 0) rfl hU hO hF hS extA (by (exact Below.size extA))); (try simp only [List.set_cons_zero, List.set_cons_succ] at hS); (try have hR0 := hS.row (i := 0) rfl); (try have hR1 := hS.row (i := 1) rfl); (try have hR3 := hS.row (i := 3) rfl); (try have hC2 := hS.cell (i := 2) rfl); (try have hD2 := (cHp hC2).1)) | (apply WL.indexO tOk; (iterate 8 exact rfl); assumption; exact extA; exact eIk; ((focus (simp [*]; done))); omega; assumption; intro gb ha hc; cases ha; have hcc := hc; first | (obtain ⟨h1, h2, h3, _⟩ := hc) | (obtain ⟨h1, h2, _⟩ := hc) | (obtain ⟨h1, _⟩ := hc)) | (apply WL.storeO tOk; (iterate 4 exact rfl); assumption; exact extA; (iterate 3 exact rfl); exact eIk; assumption; exact rfl; exact extA; intro w' hO hX' hU; (replace hS := Sep.uRw (i := 3) rfl hU hO (.inl rfl) hS extA (by (exact Below.size extA))); (try simp only [List.set_cons_zero, List.set_cons_succ] at hS); (try have hR0 := hS.row (i := 0) rfl); (try have hR1 := hS.row (i := 1) rfl); (try have hR3 := hS.row (i := 3) rfl); (try have hC2 := hS.cell (i := 2) rfl); (try have hD2 := (cHp hC2).1)) | (first | apply WL.nil | refine WL.au (k := ?_) | (apply WL.index tOk; (iterate 8 exact rfl); assumption; exact extA; exact rfl; omega; assumption; intro b off h; have hcc := h; first | (obtain ⟨h1, h2, h3, h4, h5, h6, _⟩ := h) | (obtain ⟨h1, h2, h3, _⟩ := h) | (obtain ⟨h1, h2, _⟩ := h) | (obtain ⟨h1, _⟩ := h))) | (first | apply FL.nil | refine FL.au (k := ?_) | (apply FL.load tOk; (iterate 5 exact rfl); assumption; ((focus (intro h; have h9 := hBC _ h; (try simp only at h9); omega)))) | (apply FL.index tOk; (iterate 8 exact rfl); assumption; exact extA; exact rfl; omega; assumption; exact List.cons_ne_nil _ _; intro b off h hbl; have hcc := h; first | (obtain ⟨h1, h2, h3, h4, h5, h6, _⟩ := h) | (obtain ⟨h1, h2, h3, _⟩ := h) | (obtain ⟨h1, h2, _⟩ := h) | (obtain ⟨h1, _⟩ := h))) | (first | apply CL.nil | apply CL.cons) | (first | apply Z.only | (apply Z.early; (focus (intro m; apply But.of_at; first | exact But.upd (by assumption) | exact But.ext extA | (refine But.trans ?_ (But.upd (by assumption)); exact But.ext extA) | exact But.at _ _ _; done)))) | (first | apply Z.tn | apply Z.bkn) | (first | apply W.seq | apply W.region | apply W.block | apply W.skip))
     rw [Int.toNat_natCast, hol2, atT_set eat.symm] at hS
     exact Z.agO a' cap' ⟨by omega, by assumption, by rw [ej, e1]; exact hS⟩ (by repeat' first | exact trivial | (refine And.intro ?_ ?_) | exact rfl | (rw [ej, e1]; exact rfl))
   ·have e1 := outTo_no (n := n) hy
    have eat : (-1 : Int) = atv (OfP n l) (j + 1) := by rw [atv, if_neg (by omega), if_neg hy]
    repeat' (first | (apply W.cKT; exact rfl; (focus (first | exact dTt (by omega) | (rw [dFf hy]; rfl); done))) | (apply W.cKF; exact rfl; (focus (exact dFf (by omega)))) | (apply WL.indexO tOk; (iterate 8 exact rfl); assumption; exact extA; exact eIk; ((focus (simp [*]; done))); omega; assumption; intro gb ha hc; cases ha; have hcc := hc; first | (obtain ⟨h1, h2, h3, _⟩ := hc) | (obtain ⟨h1, h2, _⟩ := hc) | (obtain ⟨h1, _⟩ := hc)) | (apply WL.storeO tOk; (iterate 4 exact rfl); assumption; exact extA; (iterate 3 exact rfl); exact eIk; assumption; exact rfl; exact extA; intro w' hO hX' hU; (replace hS := Sep.uRw (i := 3) rfl hU hO (.inl rfl) hS extA (by (exact Below.size extA))); (try simp only [List.set_cons_zero, List.set_cons_succ] at hS); (try have hR0 := hS.row (i := 0) rfl); (try have hR1 := hS.row (i := 1) rfl); (try have hR3 := hS.row (i := 3) rfl); (try have hC2 := hS.cell (i := 2) rfl); (try have hD2 := (cHp hC2).1)) | (first | apply WL.nil | refine WL.au (k := ?_) | (apply WL.index tOk; (iterate 8 exact rfl); assumption; exact extA; exact rfl; omega; assumption; intro b off h; have hcc := h; first | (obtain ⟨h1, h2, h3, h4, h5, h6, _⟩ := h) | (obtain ⟨h1, h2, h3, _⟩ := h) | (obtain ⟨h1, h2, _⟩ := h) | (obtain ⟨h1, _⟩ := h))) | (first | apply Z.tn | apply Z.tnx | apply Z.bkx | (apply Z.block_other; exact rfl)) | (first | apply W.seq | apply W.region | apply W.block | apply W.skip | apply W.exit))
    rw [Int.toNat_natCast, atT_set eat] at hS
    exact Z.agO c cp ⟨by omega, by assumption, by rw [ej, e1]; exact hS⟩ (by repeat' first | exact trivial | (refine And.intro ?_ ?_) | exact rfl | (rw [ej, e1]; exact rfl))
 ·obtain rfl : k = n.length + 1 := by omega
  obtain ⟨h7c, _⟩ := cHp hC2
  repeat' (first | (apply W.cKF; exact rfl; exact dFf (by omega)) | (first | apply WL.nil | refine WL.au (k := ?_)) | (first | apply QL.nil | refine QL.au (k := ?_)) | (first | apply Z.tn | apply Z.tnx | apply Z.bkx) | (first | apply W.seq | apply W.region | apply W.ret | apply W.exit | (apply W.rgD tMix; kernel_rfl)))
  exact Z.body2 Tryz.results79 rfl rfl fun m => ⟨hx'.at m, c, cp, some ⟨ga, 0, none⟩, n.length + 1, by rw [hal]; rfl, hR0.ext ((Ext.refl _).at m), hR3.ext ((Ext.refl _).at m)⟩

theorem ref11_lit (a : Option Addr) (cap : Nat) (A : List Int) (l z : Int) (w : World) (R : Row 1 encI w a A) (h0 : 0 <= l) (hl : l <= 4294967296) (hz : A[(l / 2).toNat]? = some z) (hz0 : 0 <= z /\ z <= 4294967296) :
  Still Tryz.prog 98 [.slice a A.length cap, .int .i64 l] w (.int .i64 (litI A l)) := by
 have hlt := lGt hz
 have e0 : litI A l = xorI z (l % 2) := by unfold litI; rw [gDo hz]
 by_cases h : l % 2 = 1
 ·refine Spec.of _ Tryz.func98 rfl Tryz.ntmps98 (by kernel_rfl) rfl ?_
  repeat' (first | (apply W.cKT; exact rfl; exact dTt h) | (first | apply WL.nil | refine WL.au (k := ?_)) | (first | apply QL.nil | refine QL.au (k := ?_) | (apply QL.index tOk; (iterate 8 exact rfl); assumption; exact extA; exact rfl; omega; assumption; intro b off h; have hcc := h; first | (obtain ⟨h1, h2, h3, h4, h5, h6, _⟩ := h) | (obtain ⟨h1, h2, h3, _⟩ := h) | (obtain ⟨h1, h2, _⟩ := h) | (obtain ⟨h1, _⟩ := h))) | (first | apply Z.tn | apply Z.tnr) | (first | apply W.seq | apply W.region | apply W.ret | (apply W.rgD tMix; kernel_rfl)))
  exact Z.bd1 Tryz.results98 rfl fun m => ⟨by rw [e0, h]; congr 1; unfold xorI Lt.xor1; split <;> (try split) <;> omega, m, rfl⟩
 ·refine Spec.of _ Tryz.func98 rfl Tryz.ntmps98 (by kernel_rfl) rfl ?_
  repeat' (first | (apply W.cKF; exact rfl; exact dFf h) | (first | apply WL.nil | refine WL.au (k := ?_) | (apply WL.index tOk; (iterate 8 exact rfl); assumption; exact extA; exact rfl; omega; assumption; intro b off h; have hcc := h; first | (obtain ⟨h1, h2, h3, h4, h5, h6, _⟩ := h) | (obtain ⟨h1, h2, h3, _⟩ := h) | (obtain ⟨h1, h2, _⟩ := h) | (obtain ⟨h1, _⟩ := h))) | apply Z.tn | (first | apply W.seq | apply W.region | apply W.skip | apply W.ret))
  exact Z.bd1 Tryz.results98 rfl fun m => ⟨by rw [e0]; congr 1; unfold xorI Lt.xor1; split <;> (try split) <;> omega, m, rfl⟩

theorem cIn_len (s : NA) (ls : List Int) : (cIn s ls).1.length = s.1.length + ls.length /\ (cIn s ls).2.length = s.2.length := by
 induction ls generalizing s with
 | nil => exact ⟨rfl, rfl⟩
 | cons l ls ih =>
  have := ih (cput s l (-1, 0))
  refine ⟨?_, ?_⟩
  ·show (cIn (cput s l (-1, 0)) ls).1.length = _
   rw [this.1]; simp [cput]; omega
  ·show (cIn (cput s l (-1, 0)) ls).2.length = _
   rw [this.2]; simp [cput]
theorem cIn_take (s : NA) {ls : List Int} {k : Nat} {x : Int} (h : ls[k]? = some x) : cIn s (ls.take (k + 1)) = cput (cIn s (ls.take k)) x (-1, 0) := by rw [tkS h, cIn_snoc]
theorem at_snoc (k : Nat) : (0 :: List.replicate k (-1 : Int)) ++ [-1] = 0 :: List.replicate (k + 1) (-1) := by rw [List.replicate_succ', List.cons_append]

noncomputable def cS1 (c : CirT) (k : Nat) : NA := cIn ([], cAt0 c.max) (c.ins.take k)
noncomputable def cS2 (c : CirT) (k : Nat) : NA := cIn (cS1 c c.ins.length) ((c.lat.map (·.1)).take k)
noncomputable def cS3 (c : CirT) (k : Nat) : NA := cGates c.gates (cS2 c c.lat.length) ((ordL c.gates).take k)
theorem cS1_0 (c : CirT) : cS1 c 0 = ([], cAt0 c.max) := by unfold cS1; rw [List.take_zero]; rfl
theorem cS1_s {c : CirT} {k : Nat} {x : Int} (h : c.ins[k]? = some x) : cS1 c (k + 1) = cput (cS1 c k) x (-1, 0) := cIn_take _ h
theorem cS1_len (c : CirT) {k : Nat} (h : k <= c.ins.length) : (cS1 c k).1.length = k /\ (cS1 c k).2.length = c.max.toNat + 1 := by
 have := cIn_len ([], cAt0 c.max) (c.ins.take k)
 refine ⟨by unfold cS1; rw [this.1, List.length_take]; simp; omega, by unfold cS1; rw [this.2]; simp [cAt0]⟩
theorem cS2_0 (c : CirT) : cS2 c 0 = cS1 c c.ins.length := by unfold cS2; rw [List.take_zero]; rfl
theorem cS2_s {c : CirT} {k : Nat} {x : T3} (h : c.lat[k]? = some x) : cS2 c (k + 1) = cput (cS2 c k) x.1 (-1, 0) := cIn_take _ (by rw [List.getElem?_map, h]; rfl)
theorem cS2_len (c : CirT) {k : Nat} (h : k <= c.lat.length) : (cS2 c k).1.length = c.ins.length + k /\ (cS2 c k).2.length = c.max.toNat + 1 := by
 have := cIn_len (cS1 c c.ins.length) ((c.lat.map (·.1)).take k)
 have h1 := cS1_len c (Nat.le_refl c.ins.length)
 refine ⟨by unfold cS2; rw [this.1, h1.1, List.length_take, List.length_map]; omega, by unfold cS2; rw [this.2, h1.2]⟩
theorem cS2_all (c : CirT) : cS2 c c.lat.length = cIn ([], cAt0 c.max) c.inl := by
 unfold cS2 cS1
 rw [List.take_length, show c.lat.length = (c.lat.map (·.1)).length from (List.length_map _).symm, List.take_length]
 unfold cIn; rw [<- List.foldl_append]
theorem cS3_0 (c : CirT) : cS3 c 0 = cS2 c c.lat.length := by unfold cS3; rw [List.take_zero]; rfl
theorem cS3_s {c : CirT} {k i : Nat} (h : (ordL c.gates)[k]? = some i) : cS3 c (k + 1) = cGate c.gates (cS3 c k) i := by unfold cS3; rw [tkS h, cGates_snoc]
theorem cS3_len (c : CirT) {k : Nat} (h : k <= (ordL c.gates).length) : (cS3 c k).1.length = c.ins.length + c.lat.length + k /\ (cS3 c k).2.length = c.max.toNat + 1 := by
 induction k with
 | zero => rw [cS3_0]; exact cS2_len c (Nat.le_refl _)
 | succ k ih =>
  obtain ⟨i, hi⟩ := getI (ordL c.gates) (show k < _ by omega)
  have := ih (by omega)
  rw [cS3_s hi]
  refine ⟨?_, ?_⟩
  ·show (_ ++ [_]).length = _
   rw [List.length_append, this.1, List.length_singleton]; omega
  ·show (List.set _ _ _).length = _
   rw [List.length_set, this.2]
theorem cS3_all (c : CirT) : cS3 c (ordL c.gates).length = cNet c := by unfold cS3 cNet; rw [List.take_length, cS2_all]
theorem cS3_get {c : CirT} (h : GoodC' c) {k i : Nat} (hi : (ordL c.gates)[k]? = some i) : ∃ g za zb, c.gates[i]? = some g /\ (cS3 c k).2[(g.2.1 / 2).toNat]? = some za /\ (cS3 c k).2[(g.2.2 / 2).toNat]? = some zb /\ (0 <= za /\ za <= 2 * ((cS3 c k).1.length : Int)) /\ (0 <= zb /\ zb <= 2 * ((cS3 c k).1.length : Int)) := by
 have hO := (ordL_is c.gates).1
 obtain ⟨g, hg, hn, hr⟩ := (hO k i hi).1
 have h1 := (net_to h k (Nat.le_of_lt (lGt hi))).1
 have e : cGates c.gates (cIn ([], cAt0 c.max) c.inl) ((ordL c.gates).take k) = cS3 c k := by unfold cS3; rw [cS2_all]
 rw [e] at h1
 have hm' := List.mem_of_getElem? hg
 have ua : g.2.1 ∈ c.used := List.mem_append_right _ (List.mem_flatMap.2 ⟨g, hm', by simp⟩)
 have ub : g.2.2 ∈ c.used := List.mem_append_right _ (List.mem_flatMap.2 ⟨g, hm', by simp⟩)
 obtain ⟨za, a1, a2, _, a3⟩ := h1.ge (used_put h ua fun j x hx hj => (hr j x hx hj).1)
 obtain ⟨zb, b1, b2, _, b3⟩ := h1.ge (used_put h ub fun j x hx hj => (hr j x hx hj).2)
 exact ⟨g, za, zb, hg, a1, b1, ⟨a2, a3⟩, ⟨b2, b3⟩⟩

theorem ref11_Net (c : Circ) (w : World) (hC : CAt w c) (hg : GoodC' c.t) (hz : SzC c.t 100000) :
  Lt.Spec Tryz.prog 39 [c.val] w (IsFresh2 2 encN 84 1 encI 3 w (cNet c.t).1 (cNet c.t).2) := by
 have z1 : c.ins.2.2.length <= 100000 := hz.1
 have z2 : c.lat.2.2.length <= 100000 := hz.2.1
 have z6 : c.gates.2.2.length <= 100000 := hz.2.2.2.2.2
 have hm : 0 <= c.max /\ c.max <= 16777216 := hg.max
 have hown : ∀ x ∈ c.t.own, 2 <= x /\ x % 2 = 0 /\ x <= 2 * c.max := hg.own
 have hused : ∀ x ∈ c.t.used, 0 <= x /\ x <= 2 * c.max + 1 := hg.used
 refine Spec.of _ Tryz.func39 rfl Tryz.ntmps39 (by kernel_rfl) rfl ?_
 repeat' (first | (apply WL.box; (iterate 3 exact rfl); intro gc wc hb hge hc hxc; have hcc := hc; obtain ⟨h1, h2, h3, _⟩ := hc; (have hcells := hcc; obtain ⟨y0, y1, y2, y3, y4, y5, y6, _⟩ := hcc)) | (apply WL.lit (len := 0) tOk; (iterate 6 exact rfl); kernel_rfl; exact rfl; intro g0 w0 hb hge hc hx0; have hO0 := Own.ofB0 (enc := encN) (s := 2) hb hge; (have hS1 : Lt.Sep wc.heap.size w0 [prow 2 encN 84 wc.heap.size (some ⟨g0, 0, none⟩) 0 []] := Sep.none'.newRow' hx0 hO0 (Nat.le_refl _))) | (apply WL.lit tOk; (iterate 6 exact rfl); kernel_rfl; exact rfl; intro g1 w1 hb hge hc hx1; have hO := Own.of_block ([(0 : Int)]) eIk hb hge rfl; (have hS2 := hS1.newRow' (s := 1) (enc := encI) (el := 3) (cap := 1) (l := [0]) hx1 hO (Below.size hx0))) | (first | apply WL.nil | refine WL.au (k := ?_)) | apply Z.tn | (first | apply W.seq | apply W.region | apply W.block))
 have hX1 : Ext w w1 := extA
 have Ri := hC.ins.row.ext hxc
 have Rl := hC.lat.row.ext hxc
 have Rg := hC.gates.row.ext hxc
 refine W.loopO c.max.toNat (fun k d dp w' => k <= c.max.toNat /\ Ext wc w' /\ Lt.Sep wc.heap.size w' [prow 1 encI 3 wc.heap.size d dp (0 :: List.replicate k (-1 : Int)), prow 2 encN 84 wc.heap.size (some ⟨g0, 0, none⟩) 0 []]) (fun k d dp => [(1, .pointer (some ⟨gc, 0, none⟩)), (4, .slice (some ⟨g0, 0, none⟩) 0 0), (5, .slice d (0 :: List.replicate k (-1 : Int)).length dp), (6, .int .i64 ((k : Int) + 1))]) (some ⟨g1, 0, none⟩) 1 ⟨Nat.zero_le _, extA, hS2⟩ (fun k d dp w' h => h.1) ⟨rfl, rfl, rfl, rfl, trivial⟩ ?_
 rintro k d dp w2 ⟨hk, hX2, hS⟩
 have hlk : (0 :: List.replicate k (-1 : Int)).length = k + 1 := by simp
 have hR0 := hS.row (i := 0) rfl
 have hR1 := hS.row (i := 1) rfl
 by_cases hlt : k < c.max.toNat
 ·repeat' (first | (apply W.cKT; exact rfl; exact dTt (by omega)) | (apply WL.lit tOk; (iterate 6 exact rfl); kernel_rfl; exact rfl; intro gb w' hb hge hc hx) | (apply WL.ap1 (z := ((-1 : Int))) tOk eIk; (iterate 10 exact rfl); assumption; exact extA; exact rfl; assumption; exact rfl; exact rfl; exact extA; omega; intro a' cap' w' hO hX' hU hF; (replace hS := Sep.uRw (i := 0) rfl hU hO hF hS extA (by (exact Below.size extA))); (try simp only [List.set_cons_zero, List.set_cons_succ] at hS); (try have hR0 := hS.row (i := 0) rfl); (try have hR1 := hS.row (i := 1) rfl)) | (first | apply WL.nil | refine WL.au (k := ?_)) | (first | apply Z.tn | apply Z.bkn) | (first | apply W.seq | apply W.region | apply W.block | apply W.skip))
  exact Z.agO a' cap' ⟨by omega, extA, by rw [<- at_snoc]; exact hS⟩ ⟨rfl, rfl, by rw [<- at_snoc]; exact rfl, rfl, trivial⟩
 obtain rfl : k = c.max.toNat := by omega
 repeat' (first | (apply W.cKF; exact rfl; exact dFf (by omega)) | (first | apply WL.nil | refine WL.au (k := ?_)) | (first | apply Z.tn | apply Z.tnx | apply Z.bkx) | (first | apply W.seq | apply W.region | apply W.block | apply W.exit))
 have hown1 : ∀ x ∈ c.ins.2.2, 2 <= x /\ x % 2 = 0 /\ x <= 2 * c.max := fun x hx => hown x (List.mem_append_left _ (List.mem_append_left _ hx))
 have hown2 : ∀ x ∈ c.lat.2.2, 2 <= x.1 /\ x.1 % 2 = 0 /\ x.1 <= 2 * c.max := fun x hx => hown x.1 (List.mem_append_left _ (List.mem_append_right _ (List.mem_map.2 ⟨x, hx, rfl⟩)))
 have e10 := cS1_0 c.t
 refine W.loopO2 c.ins.2.2.length (fun k a cp d dp w' => k <= c.ins.2.2.length /\ Ext wc w' /\ Lt.Sep wc.heap.size w' [prow 1 encI 3 wc.heap.size d dp (cS1 c.t k).2, prow 2 encN 84 wc.heap.size a cp (cS1 c.t k).1]) (fun k a cp d dp => [(1, .pointer (some ⟨gc, 0, none⟩)), (4, .slice a (cS1 c.t k).1.length cp), (5, .slice d (cS1 c.t k).2.length dp), (7, .int .i64 k)]) (some ⟨g0, 0, none⟩) 0 d dp ⟨Nat.zero_le _, hX2, by rw [e10]; exact hS⟩ (fun k a cp d dp w' h => h.1) (by rw [e10]; exact ⟨rfl, rfl, rfl, rfl, trivial⟩) ?_
 clear hS hR0 hR1 hX2
 rintro k a cp d dp w2 ⟨hk, hX2, hS⟩
 have hR0 := hS.row (i := 0) rfl
 have hR1 := hS.row (i := 1) rfl
 have hl1 : (cS1 c.t k).1.length = k /\ (cS1 c.t k).2.length = c.max.toNat + 1 := cS1_len c.t hk
 by_cases hlt : k < c.ins.2.2.length
 ·obtain ⟨x, hgx⟩ := getI c.ins.2.2 hlt
  have hxo := hown1 x (List.mem_of_getElem? hgx)
  have e1 := cS1_s (c := c.t) hgx
  obtain ⟨yv, hgy⟩ := getI (cS1 c.t k).2 (show (x / 2).toNat < _ by omega)
  repeat' (first | (apply W.cKT; exact rfl; exact dTt (by omega)) | (apply WL.build tOk; (iterate 7 exact rfl); kernel_rfl) | (apply WL.lit tOk; (iterate 6 exact rfl); kernel_rfl; exact rfl; intro gb w' hb hge hc hx) | (apply WL.ap1 (z := (((-1 : Int), (0 : Int)))) tOk encN_ok; (iterate 10 exact rfl); assumption; exact extA; exact rfl; assumption; exact rfl; exact rfl; exact extA; omega; intro a' cap' w' hO hX' hU hF; (replace hS := Sep.uRw (i := 1) rfl hU hO hF hS extA (by (exact Below.size extA))); (try simp only [List.set_cons_zero, List.set_cons_succ] at hS); (try have hR0 := hS.row (i := 0) rfl); (try have hR1 := hS.row (i := 1) rfl)) | (first | apply WL.nil | refine WL.au (k := ?_) | (apply WL.index tOk; (iterate 8 exact rfl); assumption; exact extA; exact rfl; omega; assumption; intro b off h; have hcc := h; first | (obtain ⟨h1, h2, h3, h4, h5, h6, _⟩ := h) | (obtain ⟨h1, h2, h3, _⟩ := h) | (obtain ⟨h1, h2, _⟩ := h) | (obtain ⟨h1, _⟩ := h))) | apply Z.tn | (first | apply W.seq | apply W.region | apply W.block | apply W.skip))
  have le3 : ((cS1 c.t k).1 ++ [((-1 : Int), (0 : Int))]).length = k + 1 := by rw [List.length_append, hl1.1]; rfl
  have le5 : 2 * (((cS1 c.t k).1 ++ [((-1 : Int), (0 : Int))]).length : Int) = 2 * (((cS1 c.t k).1.length : Int) + 1) := by rw [le3, hl1.1]; rfl
  obtain ⟨a2, rfl⟩ : ∃ x, x = a' := ⟨_, rfl⟩; obtain ⟨cp2, rfl⟩ : ∃ x, x = cap' := ⟨_, rfl⟩
  repeat' (first | (apply WL.storeO (z' := (2 * (((cS1 c.t k).1 ++ [((-1 : Int), (0 : Int))]).length : Int))) tOk; (iterate 4 exact rfl); assumption; exact extA; (iterate 3 exact rfl); exact eIk; assumption; exact rfl; exact extA; intro w' hO hX' hU; (replace hS := Sep.uRw (i := 0) rfl hU hO (.inl rfl) hS extA (by (exact Below.size extA))); (try simp only [List.set_cons_zero, List.set_cons_succ] at hS); (try have hR0 := hS.row (i := 0) rfl); (try have hR1 := hS.row (i := 1) rfl)) | (apply WL.indexO tOk; (iterate 8 exact rfl); assumption; exact extA; exact eIk; exact rfl; omega; assumption; intro gb ha hc; cases ha; have hcc := hc; first | (obtain ⟨h1, h2, h3, _⟩ := hc) | (obtain ⟨h1, h2, _⟩ := hc) | (obtain ⟨h1, _⟩ := hc)) | (first | apply WL.nil | refine WL.au (k := ?_)) | (first | apply Z.tn | apply Z.bkn) | apply W.region)
  rw [le5] at hS
  exact Z.againO2 a2 cp2 (some ⟨gb, 0, none⟩) dp ⟨by omega, extA, by rw [e1]; exact hS⟩ (by repeat' first | exact trivial | (refine And.intro ?_ ?_) | exact rfl | (rw [e1]; exact rfl) | (rw [e1]; show _ = some (Value.slice _ (List.set _ _ _).length _); rw [List.length_set]; exact rfl))
 obtain rfl : k = c.ins.2.2.length := by omega
 repeat' (first | (apply W.cKF; exact rfl; exact dFf (by omega)) | (first | apply WL.nil | refine WL.au (k := ?_)) | (first | apply Z.tn | apply Z.tnx | apply Z.bkx) | (first | apply W.seq | apply W.region | apply W.block | apply W.exit))
 have e20 := cS2_0 c.t
 have e20 : cS2 c.t 0 = cS1 c.t c.ins.2.2.length := e20
 refine W.loopO2 c.lat.2.2.length (fun k a cp d dp w' => k <= c.lat.2.2.length /\ Ext wc w' /\ Lt.Sep wc.heap.size w' [prow 1 encI 3 wc.heap.size d dp (cS2 c.t k).2, prow 2 encN 84 wc.heap.size a cp (cS2 c.t k).1]) (fun k a cp d dp => [(1, .pointer (some ⟨gc, 0, none⟩)), (4, .slice a (cS2 c.t k).1.length cp), (5, .slice d (cS2 c.t k).2.length dp), (8, .int .i64 k)]) a cp d dp ⟨Nat.zero_le _, hX2, by rw [e20]; exact hS⟩ (fun k a cp d dp w' h => h.1) (by rw [e20]; exact ⟨rfl, rfl, rfl, rfl, trivial⟩) ?_
 clear hS hR0 hR1 hX2 hl1 hk
 rintro k a cp d dp w2 ⟨hk, hX2, hS⟩
 have hR0 := hS.row (i := 0) rfl
 have hR1 := hS.row (i := 1) rfl
 have hl1 : (cS2 c.t k).1.length = c.ins.2.2.length + k /\ (cS2 c.t k).2.length = c.max.toNat + 1 := cS2_len c.t hk
 by_cases hlt : k < c.lat.2.2.length
 ·obtain ⟨x, hgx⟩ := getI c.lat.2.2 hlt
  have hxo := hown2 x (List.mem_of_getElem? hgx)
  have e1 := cS2_s (c := c.t) hgx
  obtain ⟨yv, hgy⟩ := getI (cS2 c.t k).2 (show (x.1 / 2).toNat < _ by omega)
  have le3 : ((cS2 c.t k).1 ++ [((-1 : Int), (0 : Int))]).length = c.ins.2.2.length + k + 1 := by rw [List.length_append, hl1.1]; rfl
  have le5 : 2 * (((cS2 c.t k).1 ++ [((-1 : Int), (0 : Int))]).length : Int) = 2 * (((cS2 c.t k).1.length : Int) + 1) := by rw [le3, hl1.1]; rfl
  repeat' (first | (apply W.cKT; exact rfl; exact dTt (by omega)) | (apply WL.build tOk; (iterate 7 exact rfl); kernel_rfl) | (apply WL.lit tOk; (iterate 6 exact rfl); kernel_rfl; exact rfl; intro gb w' hb hge hc hx) | (apply WL.ap1 (z := (((-1 : Int), (0 : Int)))) tOk encN_ok; (iterate 10 exact rfl); assumption; exact extA; exact rfl; assumption; exact rfl; exact rfl; exact extA; omega; intro a' cap' w' hO hX' hU hF; (replace hS := Sep.uRw (i := 1) rfl hU hO hF hS extA (by (exact Below.size extA))); (try simp only [List.set_cons_zero, List.set_cons_succ] at hS); (try have hR0 := hS.row (i := 0) rfl); (try have hR1 := hS.row (i := 1) rfl)) | (first | apply WL.nil | refine WL.au (k := ?_) | (apply WL.index tOk; (iterate 8 exact rfl); assumption; exact extA; exact rfl; omega; assumption; intro b off h; have hcc := h; first | (obtain ⟨h1, h2, h3, h4, h5, h6, _⟩ := h) | (obtain ⟨h1, h2, h3, _⟩ := h) | (obtain ⟨h1, h2, _⟩ := h) | (obtain ⟨h1, _⟩ := h))) | apply Z.tn | (first | apply W.seq | apply W.region | apply W.block | apply W.skip))
  obtain ⟨a2, rfl⟩ : ∃ x, x = a' := ⟨_, rfl⟩; obtain ⟨cp2, rfl⟩ : ∃ x, x = cap' := ⟨_, rfl⟩
  repeat' (first | (apply WL.storeO (z' := (2 * (((cS2 c.t k).1 ++ [((-1 : Int), (0 : Int))]).length : Int))) tOk; (iterate 4 exact rfl); assumption; exact extA; (iterate 3 exact rfl); exact eIk; assumption; exact rfl; exact extA; intro w' hO hX' hU; (replace hS := Sep.uRw (i := 0) rfl hU hO (.inl rfl) hS extA (by (exact Below.size extA))); (try simp only [List.set_cons_zero, List.set_cons_succ] at hS); (try have hR0 := hS.row (i := 0) rfl); (try have hR1 := hS.row (i := 1) rfl)) | (apply WL.indexO tOk; (iterate 8 exact rfl); assumption; exact extA; exact eIk; exact rfl; omega; assumption; intro gb ha hc; cases ha; have hcc := hc; first | (obtain ⟨h1, h2, h3, _⟩ := hc) | (obtain ⟨h1, h2, _⟩ := hc) | (obtain ⟨h1, _⟩ := hc)) | (first | apply WL.nil | refine WL.au (k := ?_)) | (first | apply Z.tn | apply Z.bkn) | apply W.region)
  rw [le5] at hS
  exact Z.againO2 a2 cp2 (some ⟨gb, 0, none⟩) dp ⟨by omega, extA, by rw [e1]; exact hS⟩ (by repeat' first | exact trivial | (refine And.intro ?_ ?_) | exact rfl | (rw [e1]; exact rfl) | (rw [e1]; show _ = some (Value.slice _ (List.set _ _ _).length _); rw [List.length_set]; exact rfl))
 obtain rfl : k = c.lat.2.2.length := by omega
 have hgm : ∀ g ∈ c.gates.2.2, g.1 ∈ c.t.own /\ g.2.1 ∈ c.t.used /\ g.2.2 ∈ c.t.used := fun g hg =>
  ⟨List.mem_append.2 (.inr (List.mem_map.2 ⟨g, hg, rfl⟩)), List.mem_append.2 (.inr (List.mem_flatMap.2 ⟨g, hg, by simp⟩)), List.mem_append.2 (.inr (List.mem_flatMap.2 ⟨g, hg, by simp⟩))⟩
 have hok : gsOk c.gates.2.2 := fun g hg => by
  obtain ⟨r1, r2, r3⟩ := hgm g hg
  have := hown _ r1
  have := hused _ r2
  have := hused _ r3
  omega
 have hcells2 := hcells.ext hX2
 repeat' (first | (apply W.cKF; exact rfl; exact dFf (by omega)) | (apply WL.call (f := 54); (iterate 4 exact rfl); exact ref11_Order c _ (Rg.ext extA) hok (by omega); rintro v' wd ⟨hxd, ad, cd, rfl, hOd⟩) | (first | apply WL.nil | refine WL.au (k := ?_)) | (first | apply Z.tn | apply Z.tnx | apply Z.bkx) | (first | apply W.seq | apply W.region | apply W.block | apply W.exit))
 have hS := hS.newRow' hxd hOd (Below.size hX2)
 have hXd : Ext wc wd := extA
 have e30 : cS3 c.t 0 = cS2 c.t c.lat.2.2.length := cS3_0 c.t
 have hnl : (natI (ordL c.gates.2.2)).length = (ordL c.gates.2.2).length := by simp [natI]
 refine W.loopO2 (ordL c.gates.2.2).length (fun k a cp d dp w' => k <= (ordL c.gates.2.2).length /\ Ext wc w' /\ Lt.Sep wc.heap.size w' [prow 1 encI 3 wc.heap.size ad cd (natI (ordL c.gates.2.2)), prow 1 encI 3 wc.heap.size d dp (cS3 c.t k).2, prow 2 encN 84 wc.heap.size a cp (cS3 c.t k).1]) (fun k a cp d dp => [(1, .pointer (some ⟨gc, 0, none⟩)), (4, .slice a (cS3 c.t k).1.length cp), (5, .slice d (cS3 c.t k).2.length dp), (9, .slice ad (natI (ordL c.gates.2.2)).length cd), (10, .int .i64 k)]) a cp d dp ⟨Nat.zero_le _, hXd, by rw [e30]; exact hS⟩ (fun k a cp d dp w' h => h.1) (by rw [e30]; exact ⟨rfl, rfl, rfl, rfl, rfl, trivial⟩) ?_
 have hol : (ordL c.gates.2.2).length <= c.gates.2.2.length := (ordL_is c.gates.2.2).1.le
 clear hS hR0 hR1 hX2 hl1 hk hXd
 rintro k a cp d dp w2 ⟨hk, hX2, hS⟩
 have hR0 := hS.row (i := 0) rfl
 have hR1 := hS.row (i := 1) rfl
 have hR2 := hS.row (i := 2) rfl
 have RO := Own.row eIk hR0
 have hl1 : (cS3 c.t k).1.length = c.ins.2.2.length + c.lat.2.2.length + k /\ (cS3 c.t k).2.length = c.max.toNat + 1 := cS3_len c.t hk
 by_cases hlt : k < (ordL c.gates.2.2).length
 ·obtain ⟨i, hi⟩ := getI (ordL c.gates.2.2) hlt
  obtain ⟨g, za, zb, hgg, hza, hzb, ka, kb⟩ := cS3_get hg (c := c.t) hi
  have hgg : c.gates.2.2[i]? = some g := hgg
  have hgo := hok g (List.mem_of_getElem? hgg)
  have hgw := hown g.1 (hgm g (List.mem_of_getElem? hgg)).1
  have hgl := lGt hgg
  have hni : (natI (ordL c.gates.2.2))[k]? = some (i : Int) := by rw [natI, List.getElem?_map, hi]; rfl
  obtain ⟨yv, hgy⟩ := getI (cS3 c.t k).2 (show (g.1 / 2).toNat < _ by omega)
  have e1 : cS3 c.t (k + 1) = cput (cS3 c.t k) g.1 (litI (cS3 c.t k).2 g.2.1, litI (cS3 c.t k).2 g.2.2) := by rw [cS3_s (c := c.t) hi]; unfold cGate; rw [gAt_of hgg]
  have le3 : ((cS3 c.t k).1 ++ [(litI (cS3 c.t k).2 g.2.1, litI (cS3 c.t k).2 g.2.2)]).length = c.ins.2.2.length + c.lat.2.2.length + k + 1 := by rw [List.length_append, hl1.1]; rfl
  have le5 : 2 * (((cS3 c.t k).1 ++ [(litI (cS3 c.t k).2 g.2.1, litI (cS3 c.t k).2 g.2.2)]).length : Int) = 2 * (((cS3 c.t k).1.length : Int) + 1) := by rw [le3, hl1.1]; rfl
  have y6w : w2.cell? ⟨gc, 0 + 1 + 1 + 1 + 1 + 1 + 1, none⟩ = some (rowVal c.gates) := (hcells.ext hX2).2.2.2.2.2.2.1
  have Rg2 := Rg.ext hX2
  repeat' (first | (apply W.cKT; exact rfl; exact dTt (by omega)) | (show W _ _ (.region 20 _ _) _ _ _; apply W.regionGX (.fl true 0 (.fl true 2 (.fl true 3 (.fl true 4 (.fl false 1 (.fl false 5 (.fl true 6 (.fl false 7 (.br 8 (.br 9 .done .stop) .stop))))))))) [5, 7, 8] tMix; kernel_rfl) | (apply WL.alloc tOk; (iterate 3 exact rfl); intro gb w' hb hge hx; replace hS := Sep.newCell (Sep.ext hS extA) hx hb hge (by (exact Below.size extA)); (try simp only [List.set_cons_zero, List.set_cons_succ] at hS); (try have hR1 := hS.row (i := 1) rfl); (try have hR2 := hS.row (i := 2) rfl); (try have hR3 := hS.row (i := 3) rfl); (try have hC0 := hS.cell (i := 0) rfl); (try have hD0 := (cHp hC0).1); (try have hE0 := (cHp hC0).2.1); (try have hF0 := (cHp hC0).2.2.1)) | (apply WL.storeB (w0 := wc) tOk; (iterate 4 exact rfl); assumption; exact extA; (iterate 3 exact rfl); exact extA; ((focus (apply Nat.le_trans; rotate_left; assumption; exact Below.size extA; done))); intro w' hb hc hX' hU; have hcc := hc; obtain ⟨h1, h2, _⟩ := hc; replace hS := Sep.uCl (i := 0) rfl hU hb hS extA (by (exact Below.size extA)); (try simp only [List.set_cons_zero, List.set_cons_succ] at hS); (try have hR1 := hS.row (i := 1) rfl); (try have hR2 := hS.row (i := 2) rfl); (try have hR3 := hS.row (i := 3) rfl); (try have hC0 := hS.cell (i := 0) rfl); (try have hD0 := (cHp hC0).1); (try have hE0 := (cHp hC0).2.1); (try have hF0 := (cHp hC0).2.2.1)) | (first | (apply SX.done; intro w' hx) | (apply SX.fl0; exact rfl) | (apply SX.fl1; exact rfl; exact extA) | (apply SX.br1; exact rfl; intro w' hx)) | (first | apply FL.nilX | (apply FL.loadE tOk; (iterate 5 exact rfl); assumption) | (apply FL.loadAE tOk; (iterate 5 exact rfl); assumption; exact rfl) | (apply FL.indexE tOk; (iterate 8 exact rfl); assumption; exact rfl; omega; assumption; intro b off h; have hcc := h; first | (obtain ⟨h1, h2, h3, h4, h5, h6, _⟩ := h) | (obtain ⟨h1, h2, h3, _⟩ := h) | (obtain ⟨h1, h2, _⟩ := h) | (obtain ⟨h1, _⟩ := h))) | refine FL.au (k := ?_) | (first | (apply Z.sxL; exact rfl) | (apply Z.sxE; exact extA)) | (first | apply WL.nil | refine WL.au (k := ?_)) | apply Z.tn | (first | apply W.seq | apply W.region | apply W.block | apply W.skip))
  replace hS := hS.ext hx
  (try simp only [List.set_cons_zero, List.set_cons_succ] at hS); (try have hR1 := hS.row (i := 1) rfl); (try have hR2 := hS.row (i := 2) rfl); (try have hR3 := hS.row (i := 3) rfl); (try have hC0 := hS.cell (i := 0) rfl); (try have hD0 := (cHp hC0).1); (try have hE0 := (cHp hC0).2.1); (try have hF0 := (cHp hC0).2.2.1)
  obtain ⟨w3, rfl⟩ : ∃ x, x = w' := ⟨_, rfl⟩
  have hX3 : Ext wc w3 := extA
  repeat' (first | (apply FL.build tOk; (iterate 7 exact rfl); kernel_rfl) | (show W _ _ (.region 21 _ _) _ _ _; apply W.regionGB (.fl true 0 (.fl true 1 (.fl true 2 (.fl true 5 (.fl true 6 (.br 3 (.br 4 (.br 7 (.br 8 (.fl true 9 (.br 10 (.br 11 (.fl true 12 .done) .stop) .stop)) .stop) .stop) (.br 7 (.br 4 (.br 8 (.fl true 9 (.br 10 (.br 11 (.fl true 12 .done) .stop) .stop)) .stop) .stop) .stop)) (.br 7 (.br 3 (.br 4 (.br 8 (.fl true 9 (.br 10 (.br 11 (.fl true 12 .done) .stop) .stop)) .stop) .stop) .stop) .stop))))))) [] (none) tMix; kernel_rfl) | (apply WL.callS (f := 98); (iterate 4 exact rfl); exact ref11_lit _ _ (cS3 c.t k).2 g.2.1 _ _ ((Own.row eIk hR2).ext extA) (by omega) (by omega) hza (by omega)) | (apply WL.callS (f := 98); (iterate 4 exact rfl); exact ref11_lit _ _ (cS3 c.t k).2 g.2.2 _ _ ((Own.row eIk hR2).ext extA) (by omega) (by omega) hzb (by omega)) | (apply WL.lit tOk; (iterate 6 exact rfl); kernel_rfl; exact rfl; intro gb w' hb hge hc hx) | (apply WL.ap1 (z := ((litI (cS3 c.t k).2 g.2.1, litI (cS3 c.t k).2 g.2.2))) tOk encN_ok; (iterate 10 exact rfl); assumption; exact extA; exact rfl; assumption; exact rfl; exact rfl; exact extA; omega; intro a2 cp2 w' hO hX' hU hF; (replace hS := Sep.uRw (i := 3) rfl hU hO hF hS extA (by (exact Below.size extA))); (try simp only [List.set_cons_zero, List.set_cons_succ] at hS); (try have hR1 := hS.row (i := 1) rfl); (try have hR2 := hS.row (i := 2) rfl); (try have hR3 := hS.row (i := 3) rfl); (try have hC0 := hS.cell (i := 0) rfl); (try have hD0 := (cHp hC0).1); (try have hE0 := (cHp hC0).2.1); (try have hF0 := (cHp hC0).2.2.1)) | (apply WL.storeO (z' := (2 * (((cS3 c.t k).1 ++ [(litI (cS3 c.t k).2 g.2.1, litI (cS3 c.t k).2 g.2.2)]).length : Int))) tOk; (iterate 4 exact rfl); assumption; exact extA; (iterate 3 exact rfl); exact eIk; assumption; exact rfl; exact extA; intro w' hO hX' hU; (replace hS := Sep.uRw (i := 2) rfl hU hO (.inl rfl) hS extA (by (exact Below.size extA))); (try simp only [List.set_cons_zero, List.set_cons_succ] at hS); (try have hR1 := hS.row (i := 1) rfl); (try have hR2 := hS.row (i := 2) rfl); (try have hR3 := hS.row (i := 3) rfl); (try have hC0 := hS.cell (i := 0) rfl); (try have hD0 := (cHp hC0).1); (try have hE0 := (cHp hC0).2.1); (try have hF0 := (cHp hC0).2.2.1)) | (apply WL.indexO tOk; (iterate 8 exact rfl); assumption; exact extA; exact eIk; exact rfl; omega; assumption; intro gb ha hc; cases ha; have hcc := hc; first | (obtain ⟨h1, h2, h3, _⟩ := hc) | (obtain ⟨h1, h2, _⟩ := hc) | (obtain ⟨h1, _⟩ := hc)) | (first | apply WL.nil | refine WL.au (k := ?_)) | (first | apply SG.done | (apply SG.fl0; exact rfl) | (apply SG.br1; exact rfl) | (apply SG.br; exact rfl)) | (first | apply FL.nilS | refine FL.au (k := ?_)) | (apply Z.sgL; exact rfl) | (first | apply Z.tn | apply Z.bkn) | apply W.region)
  all_goals
   rw [le5] at hS
   exact Z.againO2 a2 cp2 (some ⟨gb, 0, none⟩) dp ⟨by omega, extA, by rw [e1]; exact hS.drop 1⟩ (by repeat' first | exact trivial | (refine And.intro ?_ ?_) | exact rfl | (rw [e1]; exact rfl) | (rw [e1]; show _ = some (Value.slice _ (List.set _ _ _).length _); rw [List.length_set]; exact rfl))
 obtain rfl : k = (ordL c.gates.2.2).length := by omega
 repeat' (first | (apply W.cKF; exact rfl; exact dFf (by omega)) | (first | apply WL.nil | refine WL.au (k := ?_)) | (first | apply Z.tn | apply Z.tnx | apply Z.bkx) | (first | apply W.seq | apply W.region | apply W.ret | apply W.exit))
 have e39 : cS3 c.t (ordL c.gates.2.2).length = cNet c.t := cS3_all c.t
 rw [e39] at hR1 hR2
 have hwc := Below.size hxc
 exact Z.body2 Tryz.results39 rfl rfl fun m => ⟨Ext.at extA m, a, cp, d, dp, by rw [e39], (hR2.base hwc).ext ((Ext.refl _).at m), (hR1.base hwc).ext ((Ext.refl _).at m)⟩

theorem few_iff {c : CirT} {m : Int} : FewC c m ↔ (c.ins.length : Int) <= m /\ (c.lat.length : Int) <= m /\ (c.gates.length : Int) <= m /\ (c.outs.length : Int) <= m /\ (c.bads.length : Int) <= m /\ (c.cons.length : Int) <= m /\ (c.syms.length : Int) <= m /\ (c.com.size : Int) <= 300 := Iff.rfl
set_option maxRecDepth 10000 in
theorem law11_Few (c : Circ) (m : Int) (w : World) : Pure Tryz.prog 15 [c.val, .int .i64 m] w (.bool (dec (FewC c.t m))) := by
 by_cases f0 : (c.ins.2.2.length : Int) <= m
 rotate_left
 ·skip
  refine Spec.of _ Tryz.func15 rfl Tryz.ntmps15 (by kernel_rfl) rfl ?_
  repeat' (first | (apply WL.box; (iterate 3 exact rfl); intro gb w' hb hge hc hx; have hcc := hc; obtain ⟨h1, h2, h3, _⟩ := hc; (obtain ⟨y0, y1, y2, y3, y4, y5, y6, y7, y8, _⟩ := hcc)) | (apply WL.gF; exact rfl; exact rfl; exact dFf f0) | (first | apply WL.nil | refine WL.au (k := ?_) | (apply WL.gdF; exact rfl; exact rfl)) | apply Z.tn | (first | apply W.seq | apply W.region | apply W.ret))
  exact Z.bd1 Tryz.results15 rfl fun q => ⟨congrArg Value.bool (by rw [dFf (show ¬ FewC c.t m from fun h => f0 (few_iff.1 h).1)] <;> exact dFf f0), Ext.at extA q⟩
 by_cases f1 : (c.lat.2.2.length : Int) <= m
 rotate_left
 ·skip
  refine Spec.of _ Tryz.func15 rfl Tryz.ntmps15 (by kernel_rfl) rfl ?_
  repeat' (first | (apply WL.box; (iterate 3 exact rfl); intro gb w' hb hge hc hx; have hcc := hc; obtain ⟨h1, h2, h3, _⟩ := hc; (obtain ⟨y0, y1, y2, y3, y4, y5, y6, y7, y8, _⟩ := hcc)) | (apply WL.gT; exact rfl; exact rfl; (focus (exact dTt f0))) | (apply WL.gF; exact rfl; exact rfl; exact dFf f1) | (first | apply WL.nil | refine WL.au (k := ?_) | (apply WL.gdF; exact rfl; exact rfl)) | apply Z.tn | (first | apply W.seq | apply W.region | apply W.ret))
  exact Z.bd1 Tryz.results15 rfl fun q => ⟨congrArg Value.bool (by rw [dFf (show ¬ FewC c.t m from fun h => f1 (few_iff.1 h).2.1)] <;> exact dFf f1), Ext.at extA q⟩
 by_cases f2 : (c.gates.2.2.length : Int) <= m
 rotate_left
 ·skip
  refine Spec.of _ Tryz.func15 rfl Tryz.ntmps15 (by kernel_rfl) rfl ?_
  repeat' (first | (apply WL.box; (iterate 3 exact rfl); intro gb w' hb hge hc hx; have hcc := hc; obtain ⟨h1, h2, h3, _⟩ := hc; (obtain ⟨y0, y1, y2, y3, y4, y5, y6, y7, y8, _⟩ := hcc)) | (apply WL.gT; exact rfl; exact rfl; (focus (first | exact dTt f0 | exact dTt f1))) | (apply WL.gF; exact rfl; exact rfl; exact dFf f2) | (first | apply WL.nil | refine WL.au (k := ?_) | (apply WL.gdF; exact rfl; exact rfl)) | apply Z.tn | (first | apply W.seq | apply W.region | apply W.ret))
  exact Z.bd1 Tryz.results15 rfl fun q => ⟨congrArg Value.bool (by rw [dFf (show ¬ FewC c.t m from fun h => f2 (few_iff.1 h).2.2.1)] <;> exact dFf f2), Ext.at extA q⟩
 by_cases f3 : (c.outs.2.2.length : Int) <= m
 rotate_left
 ·skip
  refine Spec.of _ Tryz.func15 rfl Tryz.ntmps15 (by kernel_rfl) rfl ?_
  repeat' (first | (apply WL.box; (iterate 3 exact rfl); intro gb w' hb hge hc hx; have hcc := hc; obtain ⟨h1, h2, h3, _⟩ := hc; (obtain ⟨y0, y1, y2, y3, y4, y5, y6, y7, y8, _⟩ := hcc)) | (apply WL.gT; exact rfl; exact rfl; (focus (first | exact dTt f0 | exact dTt f1 | exact dTt f2))) | (apply WL.gF; exact rfl; exact rfl; exact dFf f3) | (first | apply WL.nil | refine WL.au (k := ?_) | (apply WL.gdF; exact rfl; exact rfl)) | apply Z.tn | (first | apply W.seq | apply W.region | apply W.ret))
  exact Z.bd1 Tryz.results15 rfl fun q => ⟨congrArg Value.bool (by rw [dFf (show ¬ FewC c.t m from fun h => f3 (few_iff.1 h).2.2.2.1)] <;> exact dFf f3), Ext.at extA q⟩
 by_cases f4 : (c.bads.2.2.length : Int) <= m
 rotate_left
 ·skip
  refine Spec.of _ Tryz.func15 rfl Tryz.ntmps15 (by kernel_rfl) rfl ?_
  repeat' (first | (apply WL.box; (iterate 3 exact rfl); intro gb w' hb hge hc hx; have hcc := hc; obtain ⟨h1, h2, h3, _⟩ := hc; (obtain ⟨y0, y1, y2, y3, y4, y5, y6, y7, y8, _⟩ := hcc)) | (apply WL.gT; exact rfl; exact rfl; (focus (first | exact dTt f0 | exact dTt f1 | exact dTt f2 | exact dTt f3))) | (apply WL.gF; exact rfl; exact rfl; exact dFf f4) | (first | apply WL.nil | refine WL.au (k := ?_) | (apply WL.gdF; exact rfl; exact rfl)) | apply Z.tn | (first | apply W.seq | apply W.region | apply W.ret))
  exact Z.bd1 Tryz.results15 rfl fun q => ⟨congrArg Value.bool (by rw [dFf (show ¬ FewC c.t m from fun h => f4 (few_iff.1 h).2.2.2.2.1)] <;> exact dFf f4), Ext.at extA q⟩
 by_cases f5 : (c.cons.2.2.length : Int) <= m
 rotate_left
 ·skip
  refine Spec.of _ Tryz.func15 rfl Tryz.ntmps15 (by kernel_rfl) rfl ?_
  repeat' (first | (apply WL.box; (iterate 3 exact rfl); intro gb w' hb hge hc hx; have hcc := hc; obtain ⟨h1, h2, h3, _⟩ := hc; (obtain ⟨y0, y1, y2, y3, y4, y5, y6, y7, y8, _⟩ := hcc)) | (apply WL.gT; exact rfl; exact rfl; (focus (first | exact dTt f0 | exact dTt f1 | exact dTt f2 | exact dTt f3 | exact dTt f4))) | (apply WL.gF; exact rfl; exact rfl; exact dFf f5) | (first | apply WL.nil | refine WL.au (k := ?_) | (apply WL.gdF; exact rfl; exact rfl)) | apply Z.tn | (first | apply W.seq | apply W.region | apply W.ret))
  exact Z.bd1 Tryz.results15 rfl fun q => ⟨congrArg Value.bool (by rw [dFf (show ¬ FewC c.t m from fun h => f5 (few_iff.1 h).2.2.2.2.2.1)] <;> exact dFf f5), Ext.at extA q⟩
 by_cases f6 : (c.syms.2.2.length : Int) <= m
 rotate_left
 ·skip
  refine Spec.of _ Tryz.func15 rfl Tryz.ntmps15 (by kernel_rfl) rfl ?_
  repeat' (first | (apply WL.box; (iterate 3 exact rfl); intro gb w' hb hge hc hx; have hcc := hc; obtain ⟨h1, h2, h3, _⟩ := hc; (obtain ⟨y0, y1, y2, y3, y4, y5, y6, y7, y8, _⟩ := hcc)) | (apply WL.gT; exact rfl; exact rfl; (focus (first | exact dTt f0 | exact dTt f1 | exact dTt f2 | exact dTt f3 | exact dTt f4 | exact dTt f5))) | (apply WL.gF; exact rfl; exact rfl; exact dFf f6) | (first | apply WL.nil | refine WL.au (k := ?_) | (apply WL.gdF; exact rfl; exact rfl)) | apply Z.tn | (first | apply W.seq | apply W.region | apply W.ret))
  exact Z.bd1 Tryz.results15 rfl fun q => ⟨congrArg Value.bool (by rw [dFf (show ¬ FewC c.t m from fun h => f6 (few_iff.1 h).2.2.2.2.2.2.1)] <;> exact dFf f6), Ext.at extA q⟩
 by_cases f7 : (c.com.size : Int) <= 300
 rotate_left
 ·skip
  refine Spec.of _ Tryz.func15 rfl Tryz.ntmps15 (by kernel_rfl) rfl ?_
  repeat' (first | (apply WL.box; (iterate 3 exact rfl); intro gb w' hb hge hc hx; have hcc := hc; obtain ⟨h1, h2, h3, _⟩ := hc; (obtain ⟨y0, y1, y2, y3, y4, y5, y6, y7, y8, _⟩ := hcc)) | (apply WL.gT; exact rfl; exact rfl; (focus (first | exact dTt f0 | exact dTt f1 | exact dTt f2 | exact dTt f3 | exact dTt f4 | exact dTt f5 | exact dTt f6))) | (first | apply WL.nil | refine WL.au (k := ?_)) | apply Z.tn | (first | apply W.seq | apply W.region | apply W.ret))
  exact Z.bd1 Tryz.results15 rfl fun q => ⟨congrArg Value.bool (by rw [dFf (show ¬ FewC c.t m from fun h => f7 (few_iff.1 h).2.2.2.2.2.2.2)] <;> exact dFf f7), Ext.at extA q⟩
 refine Spec.of _ Tryz.func15 rfl Tryz.ntmps15 (by kernel_rfl) rfl ?_
 repeat' (first | (apply WL.box; (iterate 3 exact rfl); intro gb w' hb hge hc hx; have hcc := hc; obtain ⟨h1, h2, h3, _⟩ := hc; (obtain ⟨y0, y1, y2, y3, y4, y5, y6, y7, y8, _⟩ := hcc)) | (apply WL.gT; exact rfl; exact rfl; (focus (first | exact dTt f0 | exact dTt f1 | exact dTt f2 | exact dTt f3 | exact dTt f4 | exact dTt f5 | exact dTt f6))) | (first | apply WL.nil | refine WL.au (k := ?_)) | apply Z.tn | (first | apply W.seq | apply W.region | apply W.ret))
 exact Z.bd1 Tryz.results15 rfl fun q => ⟨congrArg Value.bool (by rw [dTt (show FewC c.t m from few_iff.2 ⟨f0, f1, f2, f3, f4, f5, f6, f7⟩)] <;> exact dTt f7), Ext.at extA q⟩

theorem few_sz {c : CirT} {m : Int} (hm : m <= 100000) (h : FewC c m) : SzC c 100000 := by
 obtain ⟨h1, h2, h3, h4, h5, h6, _, _⟩ := few_iff.1 h
 exact ⟨by omega, by omega, by omega, by omega, by omega, by omega⟩
theorem law11_Small (c : Circ) (m : Int) (w : World) (hC : CAt w c) (hm : m <= 100000) : Pure Tryz.prog 5 [c.val, .int .i64 m] w (.bool (dec (FewC c.t m /\ c.max <= 300 /\ GoodC' c.t))) := by
 by_cases f0 : FewC c.t m
 rotate_left
 ·refine Spec.of _ Tryz.func5 rfl Tryz.ntmps5 (by kernel_rfl) rfl ?_
  repeat' (first | (apply WL.box; (iterate 3 exact rfl); intro gb w' hb hge hc hx; have hcc := hc; obtain ⟨h1, h2, h3, _⟩ := hc; (have hcells := hcc; obtain ⟨y0, _⟩ := hcc)) | (apply WL.callP (f := 15); (iterate 4 exact rfl); exact law11_Few c m _; intro w' hx) | (apply WL.gF; exact rfl; exact rfl; exact dFf f0) | (first | apply WL.nil | refine WL.au (k := ?_) | (apply WL.gdF; exact rfl; exact rfl)) | apply Z.tn | (first | apply W.seq | apply W.region | apply W.ret))
  exact Z.bd1 Tryz.results5 rfl fun q => ⟨congrArg Value.bool (by rw [dFf (show ¬ (FewC c.t m /\ c.max <= 300 /\ GoodC' c.t) from fun h => f0 h.1)] <;> exact dFf f0), Ext.at extA q⟩
 by_cases f1 : c.max <= 300
 rotate_left
 ·refine Spec.of _ Tryz.func5 rfl Tryz.ntmps5 (by kernel_rfl) rfl ?_
  repeat' (first | (apply WL.box; (iterate 3 exact rfl); intro gb w' hb hge hc hx; have hcc := hc; obtain ⟨h1, h2, h3, _⟩ := hc; (have hcells := hcc; obtain ⟨y0, _⟩ := hcc)) | (apply WL.callP (f := 15); (iterate 4 exact rfl); exact law11_Few c m _; intro w' hx) | (apply WL.gT; exact rfl; exact rfl; (focus (exact dTt f0))) | (apply WL.gF; exact rfl; exact rfl; exact dFf f1) | (first | apply WL.nil | refine WL.au (k := ?_) | (apply WL.gdF; exact rfl; exact rfl)) | apply Z.tn | (first | apply W.seq | apply W.region | apply W.ret))
  exact Z.bd1 Tryz.results5 rfl fun q => ⟨congrArg Value.bool (by rw [dFf (show ¬ (FewC c.t m /\ c.max <= 300 /\ GoodC' c.t) from fun h => f1 h.2.1)] <;> exact dFf f1), Ext.at extA q⟩
 have hz := few_sz hm f0
 refine Spec.of _ Tryz.func5 rfl Tryz.ntmps5 (by kernel_rfl) rfl ?_
 repeat' (first | (apply WL.box; (iterate 3 exact rfl); intro gb w' hb hge hc hx; have hcc := hc; obtain ⟨h1, h2, h3, _⟩ := hc; (have hcells := hcc; obtain ⟨y0, _⟩ := hcc)) | (apply WL.callP (f := 15); (iterate 4 exact rfl); exact law11_Few c m _; intro w' hx) | (apply WL.callP (f := 18); (iterate 4 exact rfl); exact ref11_Check c _ (hC.ext extA) hz; intro w' hx) | (apply WL.gT; exact rfl; exact rfl; (focus (first | exact dTt f0 | exact dTt f1; done))) | (first | apply WL.nil | refine WL.au (k := ?_)) | apply Z.tn | (first | apply W.seq | apply W.region | apply W.ret))
 by_cases f2 : chkC c.t = 0
 ·exact Z.bd1 Tryz.results5 rfl fun q => ⟨congrArg Value.bool (by rw [dTt (show FewC c.t m /\ c.max <= 300 /\ GoodC' c.t from ⟨f0, f1, chkC_good.1 f2⟩)] <;> exact dTt f2), Ext.at extA q⟩
 ·exact Z.bd1 Tryz.results5 rfl fun q => ⟨congrArg Value.bool (by rw [dFf (show ¬ (FewC c.t m /\ c.max <= 300 /\ GoodC' c.t) from fun h => f2 (chkC_good.2 h.2.2))] <;> exact dFf f2), Ext.at extA q⟩
end Go.Proofs.YteidpnpbfagaeaaGreat
namespace Go.Lt
open Go.RowKit

inductive Pr where
 | any : Pr
 | is : Value -> Pr
 | ex (F : Value -> World -> Prop) (b : Value -> Option Nat) (keep : ∀ x w w', F x w -> Ext w w' -> F x w') (lt : ∀ x w k, F x w -> b x = some k -> k < w.heap.size) : Pr
def Pr.holds : Pr -> Value -> World -> Prop
 | .any, _, _ => True
 | .is v, x, _ => x = v
 | .ex F _ _ _, x, w => F x w
def Pr.bl : Pr -> Value -> Option Nat
 | .ex _ b _ _, x => b x
 | _, _ => none
theorem Pr.keeps : ∀ {p : Pr} {x : Value} {w w' : World}, p.holds x w -> Ext w w' -> p.holds x w'
 | .any, _, _, _, _, _ => trivial
 | .is _, _, _, _, h, _ => h
 | .ex _ _ k _, _, _, _, h, hx => k _ _ _ h hx
theorem Pr.lts : ∀ {p : Pr} {x : Value} {w : World} {k : Nat}, p.holds x w -> p.bl x = some k -> k < w.heap.size
 | .any, _, _, _, _, hb => by cases hb
 | .is _, _, _, _, _, hb => by cases hb
 | .ex _ _ _ l, _, _, _, h, hb => l _ _ _ h hb
def prAt : List Pr -> Nat -> Pr
 | [], _ => .any
 | p :: _, 0 => p
 | _ :: r, i + 1 => prAt r i

section
variable {P : Program} {N : Nat} {prs : List Pr} {pre : List Oper}

def need (prs : List Pr) (pre : List Oper) (w : World) (K : Env -> List (Option Nat) -> Prop) : List Nat -> Env -> List (Option Nat) -> Prop
 | [], E, bs => K E bs
 | j :: r, E, bs =>
  match dstAt pre j with
  | none => need prs pre w K r E bs
  | some d =>
   match prAt prs j with
   | .any => need prs pre w K r E bs
   | .is v => need prs pre w K r ((d, v) :: E) bs
   | .ex F b _ _ => ∀ x, F x w -> need prs pre w K r ((d, x) :: E) (b x :: bs)

def valO (pre : List Oper) (a : Act) (j : Nat) : Value :=
 match dstAt pre j with
 | some d => a.tmps.getD d undef
 | none => undef
def bsOf (prs : List Pr) (pre : List Oper) (a : Act) : List Nat -> List (Option Nat) -> List (Option Nat)
 | [], bs => bs
 | j :: r, bs =>
  match dstAt pre j with
  | none => bsOf prs pre a r bs
  | some d =>
   match prAt prs j with
   | .ex _ b _ _ => bsOf prs pre a r (b (valO pre a j) :: bs)
   | _ => bsOf prs pre a r bs

theorem Fit.cons {e : Env} {a : Act} (h : Fit N e a) {d : Nat} {v : Value} (hd : a.tmps[d]? = some v) : Fit N ((d, v) :: e) a := by
 refine ⟨h.size, h.defers, fun t u hu => ?_⟩
 rw [get_cons] at hu
 by_cases hdt : d = t
 ·subst hdt; rw [if_pos rfl] at hu; cases hu; exact hd
 ·rw [if_neg hdt] at hu; exact h.slots _ _ hu
theorem get_appE (e1 e2 : Env) (t : Nat) : get (e1 ++ e2) t = (get e1 t).or (get e2 t) := by
 induction e1 with
 | nil => simp [get]
 | cons p r ih =>
  obtain ⟨k, v⟩ := p
  rw [List.cons_append, get_cons, get_cons]
  by_cases hk : k = t
  ·rw [if_pos hk, if_pos hk]; rfl
  ·rw [if_neg hk, if_neg hk, ih]
def slotsE (a : Act) : Nat -> Env
 | 0 => []
 | n + 1 => (n, a.tmps.getD n undef) :: slotsE a n
theorem slotsE_get {a : Act} : ∀ {n t : Nat}, t < n -> get (slotsE a n) t = some (a.tmps.getD t undef)
 | n + 1, t, h => by
  rw [slotsE, get_cons]
  by_cases hk : n = t
  ·subst hk; rw [if_pos rfl]
  ·rw [if_neg hk]; exact slotsE_get (by omega)
theorem slotsE_lt {a : Act} : ∀ {n t : Nat} {v : Value}, get (slotsE a n) t = some v -> t < n
 | 0, t, v, h => by cases h
 | n + 1, t, v, h => by
  rw [slotsE, get_cons] at h
  by_cases hk : n = t
  ·omega
  ·rw [if_neg hk] at h; have := slotsE_lt h; omega
theorem getD_some {a : Act} {t : Nat} (h : t < a.tmps.size) : a.tmps[t]? = some (a.tmps.getD t undef) := by
 simp [Array.getD_eq_getD_getElem?, h]
theorem Fit.all {e : Env} {a : Act} (h : Fit N e a) : Fit N (e ++ slotsE a N) a := by
 refine ⟨h.size, h.defers, fun t u hu => ?_⟩
 rw [get_appE] at hu
 cases hg : get e t with
 | some x => rw [hg] at hu; simp at hu; subst hu; exact h.slots _ _ hg
 | none =>
  rw [hg] at hu
  simp at hu
  have hlt := slotsE_lt hu
  rw [slotsE_get hlt] at hu
  cases hu
  exact getD_some (by rw [h.size]; exact hlt)

theorem need_out {w : World} {K : Env -> List (Option Nat) -> Prop} {a : Act} (hN : ∀ j d, dstAt pre j = some d -> d < N) : ∀ (ds : List Nat) (E : Env) (bs : List (Option Nat)), need prs pre w K ds E bs -> Fit N E a -> (∀ j ∈ ds, (prAt prs j).holds (valO pre a j) w) ->
  ∃ E', K E' (bsOf prs pre a ds bs) /\ Fit N E' a /\ ∀ t, get E t ≠ none -> get E' t ≠ none
 | [], E, bs, h, hf, _ => ⟨E, h, hf, fun t ht => ht⟩
 | j :: r, E, bs, h, hf, hh => by
  have hr : ∀ k ∈ r, (prAt prs k).holds (valO pre a k) w := fun k hk => hh k (by simp [hk])
  unfold need at h
  unfold bsOf
  cases hd : dstAt pre j with
  | none => rw [hd] at h; exact need_out hN r E bs h hf hr
  | some d =>
   rw [hd] at h
   have hv : valO pre a j = a.tmps.getD d undef := by unfold valO; rw [hd]
   have hs : a.tmps[d]? = some (a.tmps.getD d undef) := getD_some (by rw [hf.size]; exact hN j d hd)
   have hj := hh j (by simp)
   cases hp : prAt prs j with
   | any => rw [hp] at h; exact need_out hN r E bs h hf hr
   | is v =>
    rw [hp] at h hj
    have hj' : valO pre a j = v := hj
    have hf' : Fit N ((d, v) :: E) a := hf.cons (by rw [hs, <- hv, hj'])
    obtain ⟨E', k1, k2, k3⟩ := need_out hN r _ bs h hf' hr
    refine ⟨E', k1, k2, fun t ht => k3 t ?_⟩
    rw [get_cons]; split
    ·simp
    ·exact ht
   | ex F b kp lt =>
    rw [hp] at h hj
    have hf' : Fit N ((d, valO pre a j) :: E) a := hf.cons (by rw [hs, <- hv])
    obtain ⟨E', k1, k2, k3⟩ := need_out hN r _ _ (h _ hj) hf' hr
    refine ⟨E', k1, k2, fun t ht => k3 t ?_⟩
    rw [get_cons]; split
    ·simp
    ·exact ht

abbrev Apart (bs : List (Option Nat)) : Prop := bs.Pairwise fun x y => x = none ∨ x ≠ y
theorem bsOf_apart {a : Act} : ∀ (ds : List Nat) (bs : List (Option Nat)), ds.Nodup -> Apart bs -> (∀ i ∈ ds, ∀ b ∈ bs, (prAt prs i).bl (valO pre a i) = none ∨ (prAt prs i).bl (valO pre a i) ≠ b) ->
  (∀ i ∈ ds, ∀ j ∈ ds, i ≠ j -> (prAt prs i).bl (valO pre a i) = none ∨ (prAt prs i).bl (valO pre a i) ≠ (prAt prs j).bl (valO pre a j)) -> Apart (bsOf prs pre a ds bs)
 | [], bs, _, h, _, _ => h
 | j :: r, bs, hn, h, h1, h2 => by
  have hn' := List.nodup_cons.1 hn
  have e1 : ∀ i ∈ r, ∀ b ∈ bs, (prAt prs i).bl (valO pre a i) = none ∨ (prAt prs i).bl (valO pre a i) ≠ b := fun i hi => h1 i (by simp [hi])
  have e2 : ∀ i ∈ r, ∀ k ∈ r, i ≠ k -> (prAt prs i).bl (valO pre a i) = none ∨ (prAt prs i).bl (valO pre a i) ≠ (prAt prs k).bl (valO pre a k) := fun i hi k hk => h2 i (by simp [hi]) k (by simp [hk])
  unfold bsOf
  cases hd : dstAt pre j with
  | none => exact bsOf_apart r bs hn'.2 h e1 e2
  | some d =>
   cases hp : prAt prs j with
   | any => exact bsOf_apart r bs hn'.2 h e1 e2
   | is v => exact bsOf_apart r bs hn'.2 h e1 e2
   | ex F b kp lt =>
    have hb : (prAt prs j).bl (valO pre a j) = b (valO pre a j) := by rw [hp]; rfl
    refine bsOf_apart r _ hn'.2 (List.pairwise_cons.2 ⟨fun y hy => ?_, h⟩) (fun i hi y hy => ?_) e2
    ·rw [<- hb]; exact h1 j (by simp) y hy
    ·rcases List.mem_cons.1 hy with rfl | hy
     ·rw [<- hb]; exact h2 i (by simp [hi]) j (by simp) (fun he => hn'.1 (he ▸ hi))
     ·exact e1 i hi y hy

def postI (N d : Nat) (p : Pr) (w : World) (E : Env) : Exit -> Act -> World -> Prop := onlyN fun a w' => ∃ v, Fit N ((d, v) :: E) a /\ Ext w w' /\ p.holds v w' /\ ∀ k, p.bl v = some k -> w.heap.size <= k
structure NO (P : Program) (N : Nat) (pre : List Oper) (prs : List Pr) (o : Oper) (d : Nat) (p : Pr) (w : World) (ds : List Nat) (E : Env) : Prop where
 go : ∀ bs, need prs pre w (fun E' _ => WL P N pre.toArray [o] E' w (postI N d p w E')) ds E bs
def depsOf (o : Oper) : List Nat := o.after.toList.filterMap fun e => if Region.binds .any e then some e.on else none
structure OBL (P : Program) (N : Nat) (pre : List Oper) (prs : List Pr) (e : Env) (w : World) (i : Nat) (l : List Oper) : Prop where
 go : ∀ (k : Nat) (o : Oper), l[k]? = some o -> ∃ d, o.dst = some d /\ d < N /\ ∀ w', Ext w w' -> ∀ rest, NO P N pre prs o d (prAt prs (i + k)) w' (depsOf o) (e ++ rest)
theorem OBL.nil {e : Env} {w : World} {i : Nat} : OBL P N pre prs e w i [] := ⟨fun k o h => by simp at h⟩
theorem OBL.cons {e : Env} {w : World} {i d : Nat} {o : Oper} {r : List Oper} {p : Pr} {ds : List Nat} (hd : o.dst = some d) (hN : Nat.blt d N = true) (hp : prAt prs i = p) (hds : depsOf o = ds)
  (h : ∀ w', Ext w w' -> ∀ rest, NO P N pre prs o d p w' ds (e ++ rest)) (k : OBL P N pre prs e w (i + 1) r) : OBL P N pre prs e w i (o :: r) := by
 refine ⟨fun j o' hj => ?_⟩
 cases j with
 | zero => simp at hj; subst hj; exact ⟨d, hd, by simpa [Nat.blt_eq] using hN, by rw [Nat.add_zero, hp, hds]; exact h⟩
 | succ j =>
  have := k.go j o' (by simpa using hj)
  rwa [show i + 1 + j = i + (j + 1) by omega] at this
theorem NO.nil {o : Oper} {d : Nat} {p : Pr} {w : World} {E : Env} (h : WL P N pre.toArray [o] E w (postI N d p w E)) : NO P N pre prs o d p w [] E := ⟨fun _ => h⟩
theorem NO.is {o : Oper} {d dj j : Nat} {p : Pr} {w : World} {E : Env} {v : Value} {r : List Nat} (hd : dstAt pre j = some dj) (hp : prAt prs j = .is v) (h : NO P N pre prs o d p w r ((dj, v) :: E)) : NO P N pre prs o d p w (j :: r) E := ⟨fun bs => by
 unfold need
 rw [hd]; dsimp only; rw [hp]; exact h.go bs⟩
theorem NO.ex {o : Oper} {d dj j : Nat} {p : Pr} {w : World} {E : Env} {F : Value -> World -> Prop} {b : Value -> Option Nat} {kp : ∀ x w w', F x w -> Ext w w' -> F x w'} {lt : ∀ x w k, F x w -> b x = some k -> k < w.heap.size} {r : List Nat} (hd : dstAt pre j = some dj) (hp : prAt prs j = .ex F b kp lt)
  (h : ∀ x, F x w -> NO P N pre prs o d p w r ((dj, x) :: E)) : NO P N pre prs o d p w (j :: r) E := ⟨fun bs => by
 unfold need
 rw [hd]; dsimp only; rw [hp]; exact fun x hx => (h x hx).go _⟩

def dstsB (e : Env) : List Oper -> Bool
 | [] => true
 | o :: r => (match o.dst with
  | some d => (match get e d with | some _ => false | none => true) && r.all (fun q => match q.dst with | some d' => !Nat.beq d d' | none => true)
  | none => false) && dstsB e r
theorem dstsB_spec {e : Env} : ∀ {l : List Oper}, dstsB e l = true -> (∀ j d, dstAt l j = some d -> get e d = none) /\ ∀ i j d d', dstAt l i = some d -> dstAt l j = some d' -> i ≠ j -> d ≠ d'
  | [], _ => ⟨fun j d h => (by cases h), fun i j d d' h => (by cases h)⟩
  | o :: r, h => by
    simp only [dstsB, Bool.and_eq_true] at h
    obtain ⟨h1, h2⟩ := h
    obtain ⟨k1, k2⟩ := dstsB_spec h2
    cases hd : o.dst with
    | none => rw [hd] at h1; cases h1
    | some d0 =>
      rw [hd] at h1
      simp only [Bool.and_eq_true] at h1
      have hno : get e d0 = none := by
        cases hg : get e d0 with
        | none => rfl
        | some x => rw [hg] at h1; exact absurd h1.1 (by simp)
      have hall : ∀ j d, dstAt r j = some d -> d0 ≠ d := by
        intro j d hj
        rw [<- dstAt_eq] at hj
        cases ho : r.toArray[j]? with
        | none => rw [ho] at hj; cases hj
        | some q =>
          rw [ho] at hj
          simp only [Option.bind_some] at hj
          have hq : q ∈ r := by have : r[j]? = some q := by simpa using ho
                                exact List.mem_of_getElem? this
          have := List.all_eq_true.1 h1.2 q hq
          rw [hj] at this
          intro he
          subst he
          simp at this
      refine ⟨fun j d hj => ?_, fun i j d d' hi hj hne => ?_⟩
      · cases j with
        | zero => simp only [dstAt, hd] at hj; cases hj; exact hno
        | succ j => exact k1 j d hj
      · cases i with
        | zero =>
          simp only [dstAt, hd] at hi; cases hi
          cases j with
          | zero => exact absurd rfl hne
          | succ j => exact hall j d' hj
        | succ i =>
          cases j with
          | zero => simp only [dstAt, hd] at hj; cases hj; exact fun he => hall i d hi he.symm
          | succ j => exact k2 i j d d' hi hj (by omega)

structure InvI (N : Nat) (prs : List Pr) (pre : List Oper) (e : Env) (w0 : World) (L : Array Bool) (a : Act) (w : World) : Prop where
 ext : Ext w0 w
 fit : Fit N e a
 holds : ∀ i, i < pre.length -> L.getD i false = true -> (prAt prs i).holds (valO pre a i) w
 apart : ∀ i j, i < pre.length -> j < pre.length -> L.getD i false = true -> L.getD j false = true -> i ≠ j -> (prAt prs i).bl (valO pre a i) = none ∨ (prAt prs i).bl (valO pre a i) ≠ (prAt prs j).bl (valO pre a j)

theorem dstAt_of {l : List Oper} {i d : Nat} {o : Oper} (h : l[i]? = some o) (hd : o.dst = some d) : dstAt l i = some d := by
 rw [<- dstAt_eq, show l.toArray[i]? = some o by simpa using h]; exact hd

theorem wpAny_inv {e : Env} {w0 : World} {Q' : Exit -> Act -> World -> Prop} (hO : OBL P N pre prs e w0 0 pre) (hlow : lowB pre.toArray pre.length = true) (hd : dstsB e pre = true)
  (hK : ∀ L a w, InvI N prs pre e w0 L a w -> (∀ i, i < pre.length -> L.getD i false = true) -> Q' .normal a w) : ∀ (f : Nat) (L : Array Bool) (a : Act) (w : World), L.size = pre.length -> todo L pre.length = f -> InvI N prs pre e w0 L a w -> wpAny P .any pre.toArray Q' f L a w := by
 obtain ⟨hd1, hd2⟩ := dstsB_spec hd
 have hN : ∀ j d, dstAt pre j = some d -> d < N := fun j d hj => by
  rw [<- dstAt_eq] at hj
  cases ho : pre.toArray[j]? with
  | none => rw [ho] at hj; cases hj
  | some q =>
   rw [ho] at hj
   simp only [Option.bind_some] at hj
   obtain ⟨d', h1, h2, _⟩ := hO.go j q (by simpa using ho)
   rw [h1] at hj; cases hj; exact h2
 intro f
 induction f with
 | zero =>
  intro L a w hsz ht hI
  refine ⟨?_, hK L a w hI fun i hi => todo_zero ht hi⟩
  rw [List.eq_nil_iff_forall_not_mem]
  intro i hi
  have h1 := (mem_ready.1 hi).1
  by_cases hin : i < pre.length
  ·have := todo_zero ht hin
   simp [Array.getD_eq_getD_getElem?, show i < L.size by omega] at h1 this
   rw [this] at h1; cases h1
  ·simp [Array.getD_eq_getD_getElem?, Array.getElem?_eq_none (show L.size <= i by omega)] at h1
 | succ f ih =>
  intro L a w hsz ht hI
  have hun : ∃ i, i < pre.length /\ L.getD i false = false /\ ∀ j, j < i -> L.getD j false = true := by
   by_cases hall : ∀ i, i < pre.length -> L.getD i false = true
   ·exfalso
    have : todo L pre.length = 0 := List.countP_eq_zero.2 (fun i hi => by simp [hall i (List.mem_range.1 hi)])
    omega
   ·simp only [Classical.not_forall] at hall
    have hex : ∃ i, i < pre.length /\ L.getD i false = false := by
     obtain ⟨i, hi, hf⟩ := hall
     exact ⟨i, hi, by simpa using hf⟩
    obtain ⟨i, ⟨hi, hf⟩, hmin⟩ := exists_least (p := fun i => i < pre.length /\ L.getD i false = false) hex
    refine ⟨i, hi, hf, fun j hj => ?_⟩
    cases hb : L.getD j false with
    | true => rfl
    | false => have := hmin j ⟨by omega, hb⟩; omega
  obtain ⟨i0, hi0, hf0, hmin0⟩ := hun
  have hi0r : i0 ∈ Region.ready .any pre.toArray L := by
   obtain ⟨o, ho, hedge, _⟩ := lowB_spec hlow hi0
   exact mem_ready.2 ⟨getD_in (by omega) hf0, o, ho, fun e he hb => hmin0 _ (hedge e he hb)⟩
  refine ⟨fun h0 => (by rw [h0] at hi0r; cases hi0r), fun i hir => ?_⟩
  obtain ⟨h1, o, ho, hdeps⟩ := mem_ready.1 hir
  have hin : i < pre.length := by have := (Array.getElem?_eq_some_iff.1 ho).1; simpa using this
  have hfi : L.getD i false = false := getD_both h1
  have ho' : pre[i]? = some o := by simpa using ho
  obtain ⟨d, hod, hdN, hno⟩ := hO.go i o ho'
  rw [Nat.zero_add] at hno
  have hdi : dstAt pre i = some d := dstAt_of ho' hod
  obtain ⟨E', k1, k2, k3⟩ := need_out (K := fun E' _ => WL P N pre.toArray [o] E' w (postI N d (prAt prs i) w E')) hN (depsOf o) _ [] ((hno w hI.ext (slotsE a N)).go []) hI.fit.all (fun j hj => by
   obtain ⟨ed, hed, hj'⟩ := List.mem_filterMap.1 hj
   split at hj'
   ·rename_i hb
    cases hj'
    have hl := hdeps ed (by simpa using hed) hb
    refine hI.holds _ ?_ hl
    refine Classical.byContradiction fun hge => ?_
    simp [Array.getD_eq_getD_getElem?, Array.getElem?_eq_none (show L.size <= ed.on by omega)] at hl
   ·cases hj')
  have hfull : ∀ t, t < N -> ∃ u, get E' t = some u := fun t ht => by
   have := k3 t (by rw [get_appE, slotsE_get ht]; cases get e t <;> simp)
   cases hg : get E' t with
   | none => exact absurd hg this
   | some u => exact ⟨u, rfl⟩
  refine wpOp_of_list ho (k1.go a w.drawn k2) _ fun a' w' h' => ?_
  have h'' : ∃ v, Fit N ((d, v) :: E') a' /\ Ext w w' /\ (prAt prs i).holds v w' /\ ∀ k, (prAt prs i).bl v = some k -> w.heap.size <= k := h'
  obtain ⟨v, g1, g2, g3, g4⟩ := h''
  have same : ∀ t, t ≠ d -> t < N -> a'.tmps[t]? = a.tmps[t]? := fun t htd ht => by
   obtain ⟨u, hu⟩ := hfull t ht
   rw [k2.slots t u hu]
   exact g1.slots t u (by rw [get_cons, if_neg (fun h => htd h.symm)]; exact hu)
  have hvi : valO pre a' i = v := by
   unfold valO
   rw [hdi]
   have := g1.slots d v (by rw [get_cons, if_pos rfl])
   simp [Array.getD_eq_getD_getElem?, this]
  have hvj : ∀ j, j ≠ i -> valO pre a' j = valO pre a j := fun j hj => by
   unfold valO
   cases hdj : dstAt pre j with
   | none => rfl
   | some d' =>
    have := same d' (hd2 j i d' d hdj hdi hj) (hN j d' hdj)
    simp [Array.getD_eq_getD_getElem?, this]
  have hLi : ∀ j, j ≠ i -> (L.setIfInBounds i true).getD j false = L.getD j false := fun j hj => getD_set_ne false (Ne.symm hj)
  refine ih _ a' w' (by simp [hsz]) (by have := todo_set (listed := L) (by omega) hfi pre.length hin; omega) ⟨hI.ext.trans g2, ⟨g1.size, g1.defers, fun t u hu => ?_⟩, fun j hj hl => ?_, fun j k hj hk hlj hlk hjk => ?_⟩
  ·have htd : t ≠ d := fun h => by rw [h, hd1 i d hdi] at hu; cases hu
   have hat := hI.fit.slots t u hu
   have htN : t < N := by have := (Array.getElem?_eq_some_iff.1 hat).1; rw [hI.fit.size] at this; exact this
   rw [same t htd htN, hat]
  ·by_cases hji : j = i
   ·subst hji; rw [hvi]; exact g3
   ·rw [hLi j hji] at hl; rw [hvj j hji]; exact Pr.keeps (hI.holds j hj hl) g2
  ·by_cases hji : j = i
   ·have hki : k ≠ i := fun h => hjk (by rw [hji, h])
    rw [hLi k hki] at hlk
    rw [hji, hvi, hvj k hki]
    cases hb : (prAt prs i).bl v with
    | none => exact .inl rfl
    | some q =>
     refine .inr fun he => ?_
     have h5 := g4 q hb
     have h6 := Pr.lts (hI.holds k hk hlk) he.symm
     omega
   ·rw [hLi j hji] at hlj
    rw [hvj j hji]
    by_cases hki : k = i
    ·rw [hki, hvi]
     cases hb : (prAt prs j).bl (valO pre a j) with
     | none => exact .inl rfl
     | some q =>
      refine .inr fun he => ?_
      have h5 := g4 q he.symm
      have h6 := Pr.lts (hI.holds j hj hlj) hb
      omega
    ·rw [hLi k hki] at hlk
     rw [hvj k hki]
     exact hI.apart j k hj hk hlj hlk hjk

structure NF (P : Program) (N : Nat) (pre : List Oper) (prs : List Pr) (w : World) (K : Env -> Prop) (ds : List Nat) (E : Env) (bs : List (Option Nat)) : Prop where
 go : need prs pre w (fun E' bs' => Apart bs' -> K E') ds E bs
theorem NF.is {w : World} {K : Env -> Prop} {E : Env} {bs : List (Option Nat)} {j dj : Nat} {v : Value} {r : List Nat} (hd : dstAt pre j = some dj) (hp : prAt prs j = .is v) (h : NF P N pre prs w K r ((dj, v) :: E) bs) : NF P N pre prs w K (j :: r) E bs := ⟨by
 unfold need
 rw [hd]; dsimp only; rw [hp]; exact h.go⟩
theorem NF.ex {w : World} {K : Env -> Prop} {E : Env} {bs : List (Option Nat)} {j dj : Nat} {F : Value -> World -> Prop} {b : Value -> Option Nat} {kp : ∀ x w w', F x w -> Ext w w' -> F x w'} {lt : ∀ x w k, F x w -> b x = some k -> k < w.heap.size} {r : List Nat} (hd : dstAt pre j = some dj) (hp : prAt prs j = .ex F b kp lt)
  (h : ∀ x, F x w -> NF P N pre prs w K r ((dj, x) :: E) (b x :: bs)) : NF P N pre prs w K (j :: r) E bs := ⟨by
 unfold need
 rw [hd]; dsimp only; rw [hp]; exact fun x hx => (h x hx).go⟩
theorem NF.nilT {l tail : List Oper} {w : World} {Q : Exit -> Act -> World -> Prop} {E : Env} {bs : List (Option Nat)} (h : Apart bs -> WL P N l.toArray tail E w Q) : NF P N pre prs w (fun E' => WL P N l.toArray tail E' w Q) [] E bs := ⟨h⟩
def uptoL : Nat -> List Nat
 | 0 => []
 | n + 1 => uptoL n ++ [n]
theorem mem_uptoL : ∀ {n i : Nat}, i ∈ uptoL n ↔ i < n
 | 0, i => by simp [uptoL]
 | n + 1, i => by simp only [uptoL, List.mem_append, mem_uptoL, List.mem_singleton]; omega
theorem uptoL_nodup : ∀ n : Nat, (uptoL n).Nodup
 | 0 => by simp [uptoL]
 | n + 1 => by
  simp only [uptoL]
  rw [List.nodup_append]
  exact ⟨uptoL_nodup n, by simp, fun x hx y hy => by have := mem_uptoL.1 hx; simp at hy; omega⟩

theorem inv_done {e : Env} {w0 w : World} {L : Array Bool} {a : Act} {K : Env -> Prop} (hN : ∀ j d, dstAt pre j = some d -> d < N) (hI : InvI N prs pre e w0 L a w) (hall : ∀ i, i < pre.length -> L.getD i false = true) (h : NF P N pre prs w K (uptoL pre.length) e []) : ∃ E', K E' /\ Fit N E' a := by
 obtain ⟨E', k1, k2, _⟩ := need_out hN _ _ _ h.go hI.fit (fun j hj => hI.holds j (mem_uptoL.1 hj) (hall j (mem_uptoL.1 hj)))
 exact ⟨E', k1 (bsOf_apart _ _ (uptoL_nodup _) List.Pairwise.nil (fun i _ b hb => by cases hb) fun i hi j hj hne => hI.apart i j (mem_uptoL.1 hi) (mem_uptoL.1 hj) (hall i (mem_uptoL.1 hi)) (hall j (mem_uptoL.1 hj)) hne), k2⟩
theorem InvI.start {e : Env} {w0 : World} {a : Act} {m n : Nat} (hf : Fit N e a) : InvI N prs pre e w0 (Array.replicate n false) a (at' w0 m) :=
 ⟨(Ext.refl _).at m, hf, fun i _ h => (by rw [getD_replicate_false] at h; cases h), fun i j _ _ h => (by rw [getD_replicate_false] at h; cases h)⟩
theorem OBL.lt {e : Env} {w0 : World} (hO : OBL P N pre prs e w0 0 pre) : ∀ j d, dstAt pre j = some d -> d < N := fun j d hj => by
 rw [<- dstAt_eq] at hj
 cases ho : pre.toArray[j]? with
 | none => rw [ho] at hj; cases hj
 | some q =>
  rw [ho] at hj
  simp only [Option.bind_some] at hj
  obtain ⟨d', h1, h2, _⟩ := hO.go j q (by simpa using ho)
  rw [h1] at hj; cases hj; exact h2

theorem todo_start (n m : Nat) : todo (Array.replicate m false) n = n := by
 unfold todo
 rw [List.countP_eq_length.2 (fun i _ => by rw [getD_replicate_false]; rfl)]
 simp

theorem W.regionI {id : Nat} {l tail : List Oper} {e : Env} {w : World} {Q : Exit -> Act -> World -> Prop} {ds : List Nat} (n : Nat) (prs : List Pr) (hm : P.follows .mixedOrders = true) (hB : Region.lexTailB .any l.toArray n = true) (hc : cutAt n l = some (pre, tail))
  (hlow : lowB l.toArray n = true) (hl : lowB pre.toArray n = true) (hd : dstsB e pre = true) (hds : uptoL n = ds)
  (hO : OBL P N pre prs e w 0 pre) (k : ∀ w', Ext w w' -> NF P N pre prs w' (fun E' => WL P N l.toArray tail E' w' Q) ds e []) : W P N (.region id l.toArray true) e w Q := by
 refine ⟨fun a m hf => ?_⟩
 subst hds
 obtain ⟨h1, h2⟩ := cutAt_eq hc
 simp only [Region.lexTailB, Bool.and_eq_true, decide_eq_true_eq] at hB
 obtain ⟨⟨⟨⟨hsel, hn⟩, hs⟩, hcb⟩, hlex⟩ := hB
 have hn' : n < l.length := by simpa using hn
 have hpl : pre.length = n := by rw [<- h1]; simp; omega
 have htl : tail.length = l.length - n := by rw [<- h2]; simp
 have hH : ∀ j, j < n -> pre.toArray[j]? = l.toArray[j]? := fun j hj => by rw [<- h1]; simp [hj]
 refine wp_region_any hm ?_
 have hany : wpAny P .any pre.toArray (fun x a' w' => match x with | .normal => wpList P l.toArray Q tail a' w' | _ => False) n (Array.replicate n false) a (at' w (m + 1)) := by
  have := wpAny_inv (P := P) (Q' := fun x a' w' => match x with | .normal => wpList P l.toArray Q tail a' w' | _ => False) hO (by rw [hpl]; exact hl) hd (fun L a w' hI hall => by
   obtain ⟨E', h1, h2⟩ := inv_done hO.lt hI hall (by rw [hpl]; exact k w' hI.ext)
   exact h1.go a w'.drawn h2) n (Array.replicate n false) a (at' w (m + 1)) (by simp [hpl]) (by rw [hpl]; exact todo_start _ _) (InvI.start hf)
  exact this
 have inv0 : HeadInv .any l.toArray n (Array.replicate l.toArray.size false) :=
  ⟨by simp, fun j oj _ hl => (by rw [getD_replicate_false] at hl; cases hl), fun t _ ht => getD_in (by simpa using ht) (getD_replicate_false _ _)⟩
 have key := sim (P := P) (g := l.length - n) (Q := Q) hH (by simpa using hpl) hn hs hcb hlow (fun listed a' w' hsz hfull hrest hk => ?_) (fun x a' w' hx hk => ?_) n (Array.replicate n false) (Array.replicate l.toArray.size false) a (at' w (m + 1)) (by simp) (by simp)
  (fun j hj => by rw [getD_replicate_false, getD_replicate_false]) inv0 (todo_start _ _) hany
 ·rw [show n + (l.length - n) = l.toArray.size by simp; omega] at key
  exact key
 ·have hseq : Region.seqB .any l.toArray (l.length - n) n listed = true := by
   have : ∀ (f k : Nat) (L : Array Bool), L.size = l.toArray.size -> k + f = n -> (∀ j, j < k -> L.getD j false = true) -> (∀ j, k <= j -> L.getD j false = false) -> Region.lexHead .any l.toArray (l.length - n) f k L = true -> ∃ L', L'.size = l.toArray.size /\ (∀ j, j < n -> L'.getD j false = true) /\ (∀ j, n <= j -> L'.getD j false = false) /\ Region.seqB .any l.toArray (l.length - n) n L' = true := by
    intro f
    induction f with
    | zero =>
     intro k L h1 h2 h3 h4 h5
     have hkn : k = n := by omega
     rw [hkn] at h3 h4 h5
     exact ⟨L, h1, h3, h4, h5⟩
    | succ f ih =>
     intro k L h1 h2 h3 h4 h5
     simp only [Region.lexHead, Bool.and_eq_true] at h5
     refine ih (k + 1) _ (by simpa using h1) (by omega) (fun j hj => ?_) (fun j hj => ?_) h5.2
     ·by_cases hjk : k = j
      ·subst hjk
       simp [Array.getD_eq_getD_getElem?, Array.getElem?_setIfInBounds, show k < L.size by rw [h1]; simp; omega]
      ·have := h3 j (by omega)
       simpa [Array.getD_eq_getD_getElem?, Array.getElem?_setIfInBounds, hjk] using this
     ·have := h4 j (by omega)
      simpa [Array.getD_eq_getD_getElem?, Array.getElem?_setIfInBounds, show k ≠ j by omega] using this
   obtain ⟨L', g1, g2, g3, g4⟩ := this n 0 (Array.replicate l.toArray.size false) (by simp) (by omega) (fun j hj => by omega) (fun j _ => getD_replicate_false _ _) (by simpa using hlex)
   have : listed = L' := by
    apply Array.ext
    ·rw [hsz, g1]
    ·intro i hi1 hi2
     rcases Nat.lt_or_ge i n with hlt | hge
     ·have e1 := hfull i hlt
      have e2 := g2 i hlt
      simp [Array.getD_eq_getD_getElem?, hi1] at e1
      simp [Array.getD_eq_getD_getElem?, hi2] at e2
      rw [e1, e2]
     ·have e1 := hrest i hge
      have e2 := g3 i hge
      simp [Array.getD_eq_getD_getElem?, hi1] at e1
      simp [Array.getD_eq_getD_getElem?, hi2] at e2
      rw [e1, e2]
   rw [this]; exact g4
  have := wpAny_of_seq (P := P) (md := .any) (Q' := Q) tail n listed a' w' (fun j => by rw [<- h2]; simp [List.getElem?_drop]) (by rw [htl]; exact hseq) hk
  rwa [htl] at this
 ·cases x with
  | normal => exact absurd rfl hx
  | _ => exact hk.elim

theorem Z.invIs {d : Nat} {v : Value} {w w' : World} {E : Env} (hx : Ext w w') : Z N (postI N d (.is v) w E) .normal ((d, v) :: E) w' :=
 ⟨fun a m hf => ⟨v, hf, hx.at m, rfl, fun k hk => by cases hk⟩⟩
theorem Z.invEx {d : Nat} {v : Value} {w w' : World} {E : Env} {F : Value -> World -> Prop} {b : Value -> Option Nat} {kp : ∀ x w w', F x w -> Ext w w' -> F x w'} {lt : ∀ x w k, F x w -> b x = some k -> k < w.heap.size}
  (hx : Ext w w') (hF : F v w') (hb : ∀ k, b v = some k -> w.heap.size <= k) : Z N (postI N d (.ex F b kp lt) w E) .normal ((d, v) :: E) w' :=
 ⟨fun a m hf => ⟨v, hf, hx.at m, kp _ _ _ hF ((Ext.refl w').at m), hb⟩⟩
end

def isLit (el B : Nat) (x : Value) (w : World) : Prop := ∃ gb, x = .slice (some ⟨gb, 0, none⟩) 0 0 /\ w.heap[gb]? = some (.cells #[] el (0, 0)) /\ B <= gb
def prLit (el B : Nat) : Pr := .ex (isLit el B) (fun _ => none) (fun x w w' ⟨gb, h1, h2, h3⟩ hx => ⟨gb, h1, by rw [hx.block gb (heap_lt h2)]; exact h2, h3⟩) (fun x w k _ h => by cases h)
def sliceBlk : Value -> Option Nat
 | .slice a _ _ => blk a
 | _ => none
def isRow {α : Type} (s : Nat) (enc : α -> List Value) (el B : Nat) (l : List α) (x : Value) (w : World) : Prop := ∃ a cap, x = .slice a l.length cap /\ Own s enc el B w a cap l
open Classical in
noncomputable def prRow {α : Type} (s : Nat) (enc : α -> List Value) (el B : Nat) (l : List α) : Pr := .ex (isRow s enc el B l) (fun x => if l = [] then none else sliceBlk x)
 (fun x w w' ⟨a, cap, h1, h2⟩ hx => ⟨a, cap, h1, h2.ext hx⟩) (fun x w k ⟨a, cap, h1, h2⟩ h => by
  subst h1
  by_cases hl : l = []
  ·rw [if_pos hl] at h; cases h
  ·rw [if_neg hl] at h; exact (h2.blk_lt k h).2)
section
variable {N : Nat}
theorem Z.invLit {d el B gb : Nat} {w w' : World} {E : Env} (hx : Ext w w') (hb : w'.heap[gb]? = some (.cells #[] el (0, 0))) (hge : B <= gb) : Z N (postI N d (prLit el B) w E) .normal ((d, .slice (some ⟨gb, 0, none⟩) 0 0) :: E) w' :=
 Z.invEx hx ⟨gb, rfl, hb, hge⟩ (fun k h => by cases h)
theorem Z.invRow {α : Type} {s : Nat} {enc : α -> List Value} {d el B cap : Nat} {l : List α} {a : Option Addr} {w w' : World} {E : Env} (hx : Ext w w') (hO : Own s enc el B w' a cap l) (hf : l = [] ∨ ∀ k, blk a = some k -> w.heap.size <= k) :
  Z N (postI N d (prRow s enc el B l) w E) .normal ((d, .slice a l.length cap) :: E) w' :=
 Z.invEx hx ⟨a, cap, rfl, hO⟩ (fun k h => by
  by_cases hl : l = []
  ·rw [if_pos hl] at h; cases h
  ·rw [if_neg hl] at h; exact (hf.resolve_left hl) k h)
end

theorem row_cells {α : Type} {s : Nat} {enc : α -> List Value} {w : World} {ad : Addr} {ys : List α} (hE : Enc s enc) (hr : Row s enc w (some ad) ys) : ∀ i u, (ys.flatMap enc)[i]? = some u -> w.cell? (ad.add i) = some u := by
 intro i u hu
 have hpos := hE.pos
 have hlt : i < ys.length * s := by have := (List.getElem?_eq_some_iff.1 hu).1; rwa [lFm hE.len] at this
 have hdiv : i / s < ys.length := by rw [Nat.div_lt_iff_lt_mul hpos]; exact hlt
 have hyy : ys[i / s]? = some ys[i / s] := by simp [hdiv]
 obtain ⟨bb, off, hbb, hc⟩ := hr.elem _ _ hyy
 simp only [Option.some.injEq] at hbb
 subst hbb
 have hmod : i % s < s := Nat.mod_lt _ hpos
 have h1 := getElem?_flatMap' hE.len ys (i / s) (i % s) _ hyy hmod
 have h2 : i / s * s + i % s = i := by rw [Nat.mul_comm]; exact Nat.div_add_mod i s
 rw [h2, hu] at h1
 have key : ∀ (L : List Value) (o jj : Nat) (u : Value), Cells w bb o L -> L[jj]? = some u -> w.cell? ⟨bb, o + jj, none⟩ = some u := by
  intro L
  induction L with
  | nil => intro o jj u _ h; simp at h
  | cons v r ih =>
   intro o jj u hcc h
   cases jj with
   | zero => simp only [List.getElem?_cons_zero, Option.some.injEq] at h; subst h; exact hcc.1
   | succ jj => have := ih (o + 1) jj u hcc.2 (by simpa using h); rwa [show o + 1 + jj = o + (jj + 1) by omega] at this
 have := key _ _ _ u hc h1.symm
 rw [Addr_add_none]
 rw [show off + i / s * s + i % s = off + i by omega] at this
 exact this

section rules
variable {P : Program} {N : Nat} {e : Env} {w : World} {Q : Exit -> Act -> World -> Prop} {ops : List Oper} {l : List Oper} {T : Tab}
 {d : Nat} {tt : TypeId} {ps : String} {af : Array Edge} {g : Option (Nat × Bool)} {t : TypeId} {α : Type} {s : Nat} {enc : α -> List Value} {B : Nat} {ti ei : TI} {el : TypeId}
theorem WL.append0 {x y : Operand} {b : Option Addr} {gb m c : Nat} {ys : List α} {wo w1 : World} (hT : OkTab P T) (hE : Enc s enc) (hg : gate ops e g = some true) (hd : Nat.blt d N = true)
  (hx : ev e x = some (.slice (some ⟨gb, 0, none⟩) 0 0)) (hy : ev e y = some (.slice b m c)) (ht : tget T t = some ti) (htd : ti.desc = .slice el) (he : tget T el = some ei) (hs : ei.size = s) (hz : ei.zero.cells.size = s) (hby : Nat.ble ei.bytes 1024 = true)
  (ho : wo.heap[gb]? = some (.cells #[] el (0, 0))) (hB : B <= gb) (hwo : Ext wo w) (hr : Row s enc w1 b ys) (hw1 : Ext w1 w) (hm : ys.length = m) (hmc : b = none -> c = 0) (hbd : ys.length <= 137438953472)
  (k : ∀ a' cap' w', Own s enc el B w' a' cap' ys -> Ext w w' -> (ys = [] ∨ ∀ k, blk a' = some k -> w.heap.size <= k) -> WL P N ops.toArray l ((d, .slice a' ys.length cap') :: e) w' Q) :
  WL P N ops.toArray (⟨some d, .call ⟨.builtin .append, ⟨[x, y]⟩, ⟨[t, t]⟩⟩, tt, ps, af, g⟩ :: l) e w Q := by
 have hb' := Nat.le_of_ble_eq_true hby
 have hgw : w.heap[gb]? = some (.cells #[] el (0, 0)) := by rw [hwo.block gb (heap_lt ho)]; exact ho
 have hgl := heap_lt hgw
 have hO0 : Own s enc el B w (some ⟨gb, 0, none⟩) 0 ([] : List α) := Own.ofB0 hgw hB
 obtain ⟨j, hj1, hj2, hj3, hj4⟩ := (hT.at he).info
 have hti := (hT.at ht).1
 rw [htd] at hti
 subst hm
 by_cases hy0 : ys = []
 ·subst hy0
  refine WL.eff (v := .slice (some ⟨gb, 0, none⟩) 0 0) (w' := fun m => at' w m) hg hd ?_ (fun m => ?_)
  ·intro ρ hρ m
   simp only [execOp, resolve, invoke, builtin, Sem.run_bind, Sem.run_pure, Result.andThen_ok, List.map_toArray, List.map_cons, List.map_nil, hρ _ _ hx, hρ _ _ hy]
   by_cases hb : b = none
   ·subst hb
    obtain rfl := hmc rfl
    have := run_append_nothing (P := P) (tt := tt) (n := 0) hT ht htd he (w' := at' w m) (xs := ([] : List α)) hO0 hs
    simp only [List.length_nil] at this ⊢
    rw [this]; rfl
   ·obtain ⟨ad, rfl⟩ := Option.ne_none_iff_exists'.1 hb
    have := run_append_room (P := P) (at' w m) t tt el j hti hj1 gb 0 0 #[] hgw ad 0 c [] (by simp) (fun q u hq => by simp at hq) (fun u hu => by cases hu) (by omega) (by simp)
    simp only [List.length_nil] at this ⊢
    rw [this]
    have hset : (at' w m).setRow gb #[] = at' w m := by
     have key : ∀ (u : World) (h : Array Obj), h = u.heap -> { u with heap := h } = u := fun u h e => by subst e; rfl
     unfold World.setRow
     refine key (at' w m) _ ?_
     apply Array.ext
     ·simp
     ·intro i h1 h2
      rw [Array.getElem_modify]
      split
      ·rename_i hi
       subst hi
       have : (at' w m).heap[gb]? = some (.cells #[] el (0, 0)) := hgw
       rw [Array.getElem?_eq_getElem h2] at this
       simp only [Option.some.injEq] at this
       rw [this]
      ·rfl
    simp [hset]
  ·have hX : Ext w (at' w m) := (Ext.refl w).at m
   exact k (some ⟨gb, 0, none⟩) 0 (at' w m) (hO0.ext hX) hX (.inl rfl)
 ·have hb : b ≠ none := by
   intro h
   subst h
   cases ys with
   | nil => exact hy0 rfl
   | cons z r => obtain ⟨b', off, h1, _⟩ := hr.elem 0 z rfl; cases h1
  have hpos : 0 < ys.length := by cases ys with | nil => exact absurd rfl hy0 | cons z r => simp
  have hbytes : (0 + ys.length) * ei.bytes <= 140737488355328 := by
   rw [Nat.zero_add]
   calc ys.length * ei.bytes <= 137438953472 * 1024 := Nat.mul_le_mul hbd hb'
    _ <= _ := by decide
  obtain ⟨ad, rfl⟩ := Option.ne_none_iff_exists'.1 hb
  have hnews : ∀ (q : Nat) i u, (ys.flatMap enc)[i]? = some u -> (at' w q).cell? (ad.add i) = some u := fun q i u hu => row_cells hE (hr.ext hw1) i u hu
  have hone : ∀ u ∈ ys.flatMap enc, u.oneCell' = true := fun u hu => by
   obtain ⟨z, _, hz'⟩ := List.mem_flatMap.1 hu
   exact hE.one z u hz'
  have hlY : (ys.flatMap enc).length = ys.length * j.size := by rw [lFm hE.len, hj2.trans hs]
  have hfit := growslice_fits (need := 0 + ys.length) (old := 0) (bytes := j.bytes) (by omega) (by rw [hj3]; exact hbytes)
  have hgr : ∀ q, (Builtin.append_ #[t, t] tt #[.slice (some ⟨gb, 0, none⟩) 0 0, .slice (some ad) ys.length c]).run P (at' w q) = .ok (.slice (some ⟨w.heap.size, 0, none⟩) (0 + ys.length) (grownCap (at' w q) (0 + ys.length) 0 el)) ((at' w q).drew.alloc (.cells (([] : List Value).toArray ++ (ys.flatMap enc).toArray ++ Builtin.zeroCells ei.zero.cells (grownCap (at' w q) (0 + ys.length) 0 el - (0 + ys.length))) el)) := fun q =>
   run_append_grow (P := P) (at' w q) t tt el j ei.zero hti hj1 hj4 ⟨gb, 0, none⟩ 0 0 [] (by simp) (fun i u h => by simp at h) ad ys.length c (ys.flatMap enc) hlY (hnews q) (by omega) (by simp only [Nat.zero_add]; omega) hfit
  refine ⟨fun ac q hf => ?_⟩
  unfold wpList
  rw [if_pos (by rw [gate_wanted hf (o := ⟨some d, .call ⟨.builtin .append, ⟨[x, y]⟩, ⟨[t, t]⟩⟩, tt, ps, af, g⟩) hg])]
  refine .inl ?_
  obtain ⟨v', w', hrun, h2, _, _⟩ := run_append_own (P := P) (at' w q) B t tt el j ei.zero s ei.bytes hti hj1 hj4 (hj2.trans hs) hj3 hz hE.pos (.slice (some ⟨gb, 0, none⟩) 0 0) 0 [] hO0 ad ys.length c (ys.flatMap enc)
   (by rw [lFm hE.len]) (hnews q) hone (by simp only [maxLen]; omega) hbytes (by show B <= w.heap.size; omega)
  have hg' := hgr q
  rw [hg'] at hrun
  simp only [Result.ok.injEq] at hrun
  obtain ⟨hv, hw⟩ := hrun
  have hexec : (execOp ac.eval ⟨some d, .call ⟨.builtin .append, ⟨[x, y]⟩, ⟨[t, t]⟩⟩, tt, ps, af, g⟩).run P (at' w q) = .ok (.value v') w' := by
   simp only [execOp, resolve, invoke, builtin, Sem.run_bind, Sem.run_pure, Result.andThen_ok, List.map_toArray, List.map_cons, List.map_nil, hf.eval hx, hf.eval hy, hg', hv, hw]
  unfold Oper.wp
  rw [hexec]
  have hX : Ext w w' := by rw [<- hw]; exact ⟨rfl, rfl, rfl, by simp, fun k hk => heap_alloc_old (at' w q).drew _ hk⟩
  have hO : Own s enc el B w' (some ⟨w.heap.size, 0, none⟩) (grownCap (at' w q) (0 + ys.length) 0 el) ys := by
   rw [<- hv] at h2
   simp only [List.nil_append, Nat.zero_add] at h2 ⊢
   exact h2
  subst hv
  have := (k _ _ w' hO hX (.inr fun k hk => by simp only [blk, Option.map_some, Option.some.injEq] at hk; omega)).go _ w'.drawn (hf.put (by simpa [Nat.blt_eq] using hd) _)
  simp only [Nat.zero_add] at this ⊢
  exact this
end rules

open Classical in
noncomputable def prowZ {α : Type} (s : Nat) (enc : α -> List Value) (el B : Nat) (a : Option Addr) (cap : Nat) (l : List α) : Piece :=
 ⟨if l = [] then none else blk a, fun w => l ≠ [] -> Own s enc el B w a cap l, fun {w w'} h hb hl => (h hl).keep fun k hk => hb k (by rw [if_neg hl]; exact hk)⟩
theorem prowZ_b {α : Type} {s : Nat} {enc : α -> List Value} {el B cap : Nat} {a : Option Addr} {l : List α} (hl : l ≠ []) : (prowZ s enc el B a cap l).b = blk a := if_neg hl
theorem Sep.rowZ {α : Type} {s : Nat} {enc : α -> List Value} {el B cap i : Nat} {a : Option Addr} {l : List α} {w : World} {ps : List Piece} (hS : Sep B w ps) (h : ps[i]? = some (prowZ s enc el B a cap l)) (hl : l ≠ []) : Own s enc el B w a cap l := (hS.holds i _ h).1 hl
theorem Sep.news {B : Nat} {w w' : World} {ps : List Piece} (qs : List Piece) (hS : Sep B w ps) (hx : Ext w w') (hp : ∀ q ∈ qs, q.P w' /\ ∀ k, q.b = some k -> w.heap.size <= k /\ k < w'.heap.size) (ha : Apart (qs.map (·.b))) (hB : B <= w.heap.size) : Sep B w' (qs ++ ps) := by
 induction qs with
 | nil => exact hS.ext hx
 | cons q r ih =>
  have ha' := List.pairwise_cons.1 (show List.Pairwise _ (q.b :: r.map (·.b)) from ha)
  have ih' := ih (fun p h => hp p (by simp [h])) ha'.2
  obtain ⟨hq1, hq2⟩ := hp q (by simp)
  have key : ∀ (j : Nat) (p : Piece), (r ++ ps)[j]? = some p -> (q.b = none ∨ q.b ≠ p.b) /\ (p.b = none ∨ p.b ≠ q.b) := by
   intro j p hj
   have base : q.b = none ∨ q.b ≠ p.b := by
    by_cases hlt : j < r.length
    ·rw [List.getElem?_append_left hlt] at hj
     exact ha'.1 p.b (List.mem_map.2 ⟨p, List.mem_of_getElem? hj, rfl⟩)
    ·rw [List.getElem?_append_right (by omega)] at hj
     cases hb : q.b with
     | none => exact .inl rfl
     | some k =>
      refine .inr fun he => ?_
      have h1 := (hq2 k hb).1
      have h2 := ((hS.holds _ p hj).2 k he.symm).2
      omega
   refine ⟨base, ?_⟩
   rcases base with h | h
   ·cases hb : p.b with
    | none => exact .inl rfl
    | some k => exact .inr (by rw [h]; simp)
   ·exact .inr (Ne.symm h)
  refine ⟨fun i p h => ?_, fun i j p p' h1 h2 hne => ?_⟩
  ·cases i with
   | zero => simp at h; subst h; exact ⟨hq1, fun k hk => ⟨Nat.le_trans hB (hq2 k hk).1, (hq2 k hk).2⟩⟩
   | succ i => exact ih'.holds i p (by simpa using h)
  ·cases i with
   | zero =>
    simp at h1; subst h1
    cases j with
    | zero => exact absurd rfl hne
    | succ j => exact (key j p' (by simpa using h2)).1
   | succ i =>
    cases j with
    | zero => simp at h2; subst h2; exact (key i p (by simpa using h1)).2
    | succ j => exact ih'.apart i j p p' (by simpa using h1) (by simpa using h2) (by omega)
theorem prowZ_new {α : Type} {s : Nat} {enc : α -> List Value} {el B C cap : Nat} {a : Option Addr} {l : List α} {w : World} (h : Own s enc el B w a cap l) (hB : C <= B) : (prowZ s enc el C a cap l).P w /\ ∀ k, (prowZ s enc el C a cap l).b = some k -> B <= k /\ k < w.heap.size := by
 refine ⟨fun _ => h.base hB, fun k hk => ?_⟩
 by_cases hl : l = []
 ·have : (prowZ s enc el C a cap l).b = none := if_pos hl
  rw [this] at hk; cases hk
 ·rw [prowZ_b hl] at hk; exact h.blk_lt k hk
theorem apartS {bs cs : List (Option Nat)} (h : Apart bs) (hs : List.Sublist cs bs := by repeat' (first | exact List.Sublist.slnil | apply List.Sublist.cons_cons | apply List.Sublist.cons)) : Apart cs := List.Pairwise.sublist hs h
theorem Sep.takeN {B : Nat} {w : World} {ps : List Piece} (hS : Sep B w ps) (n : Nat) : Sep B w (ps.take n) := by
 have key : ∀ (i : Nat) (p : Piece), (ps.take n)[i]? = some p -> ps[i]? = some p := fun i p h => by
  rw [List.getElem?_take] at h; split at h
  ·exact h
  ·cases h
 exact ⟨fun i p h => hS.holds i p (key i p h), fun i j p q h1 h2 hne => hS.apart i j p q (key i p h1) (key j q h2) hne⟩
end Go.Lt
namespace Go.Proofs.YteidpnpbfagaeaaGreat
open Go Go.Lt Go.RowKit

noncomputable def Circ.ps (B : Nat) (d : Circ) : List Piece :=
 [prowZ 3 encY 119 B d.syms.1 d.syms.2.1 d.syms.2.2, prowZ 3 enc3 86 B d.gates.1 d.gates.2.1 d.gates.2.2, prowZ 3 enc3 69 B d.lat.1 d.lat.2.1 d.lat.2.2,
  prowZ 1 encI 3 B d.cons.1 d.cons.2.1 d.cons.2.2, prowZ 1 encI 3 B d.bads.1 d.bads.2.1 d.bads.2.2, prowZ 1 encI 3 B d.outs.1 d.outs.2.1 d.outs.2.2, prowZ 1 encI 3 B d.ins.1 d.ins.2.1 d.ins.2.2]
structure CapC (d : Circ) : Prop where
 ins : d.ins.2.2.length <= d.ins.2.1 /\ (d.ins.1 = none -> d.ins.2.1 = 0)
 lat : d.lat.2.2.length <= d.lat.2.1 /\ (d.lat.1 = none -> d.lat.2.1 = 0)
 outs : d.outs.2.2.length <= d.outs.2.1 /\ (d.outs.1 = none -> d.outs.2.1 = 0)
 bads : d.bads.2.2.length <= d.bads.2.1 /\ (d.bads.1 = none -> d.bads.2.1 = 0)
 cons : d.cons.2.2.length <= d.cons.2.1 /\ (d.cons.1 = none -> d.cons.2.1 = 0)
 gates : d.gates.2.2.length <= d.gates.2.1 /\ (d.gates.1 = none -> d.gates.2.1 = 0)
 syms : d.syms.2.2.length <= d.syms.2.1 /\ (d.syms.1 = none -> d.syms.2.1 = 0)
theorem rowZ_row {α : Type} {s : Nat} {enc : α -> List Value} {el B cap i : Nat} {a : Option Addr} {l : List α} {w : World} {ps : List Piece} (hE : Enc s enc) (hS : Lt.Sep B w ps) (h : ps[i]? = some (prowZ s enc el B a cap l)) : Row s enc w a l := by
 by_cases hl : l = []
 ·subst hl; exact Row.nil s enc w a
 ·exact (hS.rowZ h hl).row hE
structure OwnC (B : Nat) (w : World) (d : Circ) : Prop where
 sep : Lt.Sep B w (d.ps B)
 cap : CapC d
theorem OwnC.at {B : Nat} {w : World} {d : Circ} (h : OwnC B w d) : CAt w d :=
 ⟨⟨rowZ_row eIk h.sep (i := 6) rfl, h.cap.ins.1, h.cap.ins.2⟩, ⟨rowZ_row enc3_ok h.sep (i := 2) rfl, h.cap.lat.1, h.cap.lat.2⟩, ⟨rowZ_row eIk h.sep (i := 5) rfl, h.cap.outs.1, h.cap.outs.2⟩, ⟨rowZ_row eIk h.sep (i := 4) rfl, h.cap.bads.1, h.cap.bads.2⟩,
  ⟨rowZ_row eIk h.sep (i := 3) rfl, h.cap.cons.1, h.cap.cons.2⟩, ⟨rowZ_row enc3_ok h.sep (i := 1) rfl, h.cap.gates.1, h.cap.gates.2⟩, ⟨rowZ_row encY_ok h.sep (i := 0) rfl, h.cap.syms.1, h.cap.syms.2⟩⟩
theorem law11_Own (c : Circ) (w : World) (hC : CAt w c) (hz : SzC c.t 100000) (hz2 : c.t.syms.length <= 100000) :
  Lt.Spec Tryz.prog 9 [c.val] w (fun v w' => Ext w w' /\ ∃ d : Circ, v = d.val /\ d.t = c.t /\ OwnC w.heap.size w' d) := by
 have z1 : c.ins.2.2.length <= 100000 := hz.1
 have z2 : c.lat.2.2.length <= 100000 := hz.2.1
 have z3 : c.outs.2.2.length <= 100000 := hz.2.2.1
 have z4 : c.bads.2.2.length <= 100000 := hz.2.2.2.1
 have z5 : c.cons.2.2.length <= 100000 := hz.2.2.2.2.1
 have z6 : c.gates.2.2.length <= 100000 := hz.2.2.2.2.2
 have z7 : c.syms.2.2.length <= 100000 := hz2
 have hS : Lt.Sep w.heap.size w [] := Sep.none'
 have Ri := hC.ins.row
 have Ro := hC.outs.row
 have Rb := hC.bads.row
 have Rn := hC.cons.row
 have Rl := hC.lat.row
 have Rg := hC.gates.row
 have Ry := hC.syms.row
 have ni := hC.ins.none
 have no := hC.outs.none
 have nb := hC.bads.none
 have nn := hC.cons.none
 have nl := hC.lat.none
 have ng := hC.gates.none
 have ny := hC.syms.none
 refine Spec.of _ Tryz.func9 rfl Tryz.ntmps9 (by kernel_rfl) rfl ?_
 repeat' (first | (apply WL.box; (iterate 3 exact rfl); intro gc wc hb hge hc hxc; have hcc := hc; obtain ⟨h1, h2, h3, _⟩ := hc; (have hcells := hcc; obtain ⟨y0, y1, y2, y3, y4, y5, y6, y7, y8, _⟩ := hcc)) | (apply WL.alloc tOk; (iterate 3 exact rfl); intro gb w' hb hge hx; replace hS := Sep.newCell (Sep.ext hS extA) hx hb hge (by (exact Below.size extA)); (try simp only [List.set_cons_zero, List.set_cons_succ] at hS); (try have hC0 := hS.cell (i := 0) rfl); (try have hD0 := (cHp hC0).1); (try have hE0 := (cHp hC0).2.1); (try have hF0 := (cHp hC0).2.2.1); (try have hG0 := (cHp hC0).2.2.2.1); (try have hC1 := hS.cell (i := 1) rfl); (try have hD1 := (cHp hC1).1); (try have hE1 := (cHp hC1).2.1); (try have hF1 := (cHp hC1).2.2.1); (try have hG1 := (cHp hC1).2.2.2.1); (first | (have h_0 := g2; clear h_0) | (obtain ⟨g2, rfl⟩ : ∃ x, x = gb := ⟨_, rfl⟩))) | (apply WL.storeB (w0 := wc) tOk; (iterate 4 exact rfl); assumption; exact extA; (iterate 3 exact rfl); exact extA; ((focus (apply Nat.le_trans; rotate_left; assumption; exact Below.size extA; done))); intro w' hb hc hX' hU; have hcc := hc; obtain ⟨h1, h2, _⟩ := hc; (replace hS := Sep.uCl (i := 0) rfl hU hb hS extA (by (exact Below.size extA))); (try simp only [List.set_cons_zero, List.set_cons_succ] at hS); (try have hC0 := hS.cell (i := 0) rfl); (try have hD0 := (cHp hC0).1); (try have hE0 := (cHp hC0).2.1); (try have hF0 := (cHp hC0).2.2.1); (try have hG0 := (cHp hC0).2.2.2.1); (try have hC1 := hS.cell (i := 1) rfl); (try have hD1 := (cHp hC1).1); (try have hE1 := (cHp hC1).2.1); (try have hF1 := (cHp hC1).2.2.1); (try have hG1 := (cHp hC1).2.2.2.1)) | (first | apply WL.nil | refine WL.au (k := ?_)) | apply Z.tn | (first | apply W.seq | apply W.region))
 replace hS : Lt.Sep w.heap.size w' [pcell gb c.vals.toArray 27, pcell g2 (Value.cells (.agg #[.int .i64 0, .slice none 0 0, .slice none 0 0, .slice none 0 0, .slice none 0 0, .slice none 0 0, .slice none 0 0, .slice none 0 0, .string ⟨#[]⟩])) 27] := hS
 (try simp only [List.set_cons_zero, List.set_cons_succ] at hS); (try have hC0 := hS.cell (i := 0) rfl); (try have hD0 := (cHp hC0).1); (try have hE0 := (cHp hC0).2.1); (try have hF0 := (cHp hC0).2.2.1); (try have hG0 := (cHp hC0).2.2.2.1); (try have hC1 := hS.cell (i := 1) rfl); (try have hD1 := (cHp hC1).1); (try have hE1 := (cHp hC1).2.1); (try have hF1 := (cHp hC1).2.2.1); (try have hG1 := (cHp hC1).2.2.2.1)
 obtain ⟨w1, rfl⟩ : ∃ x, x = w' := ⟨_, rfl⟩
 have hX1 : Ext wc w1 := extA
 have hX2 : Ext w w1 := extA
 have hw1 : w.heap.size <= w1.heap.size := Below.size hX2
 repeat' (first | (show W _ _ (.region 2 _ _) _ _ _; apply W.regionI 17 [prLit 3 w1.heap.size, .is (.pointer (some ⟨gc, 0 + 1, none⟩)), .is (rowVal c.ins), prRow 1 encI 3 w1.heap.size c.ins.2.2, prLit 3 w1.heap.size, .is (.pointer (some ⟨gc, 0 + 1 + 1 + 1, none⟩)), .is (rowVal c.outs), prRow 1 encI 3 w1.heap.size c.outs.2.2, prLit 3 w1.heap.size, .is (.pointer (some ⟨gc, 0 + 1 + 1 + 1 + 1, none⟩)), .is (rowVal c.bads), prRow 1 encI 3 w1.heap.size c.bads.2.2, prLit 3 w1.heap.size, .is (.pointer (some ⟨gc, 0 + 1 + 1 + 1 + 1 + 1, none⟩)), .is (rowVal c.cons), prRow 1 encI 3 w1.heap.size c.cons.2.2, .is (.pointer (some ⟨gb, 0 + 1, none⟩))] tMix; kernel_rfl; exact rfl; kernel_rfl; kernel_rfl; exact rfl; exact rfl) | apply OBL.nil | (show OBL _ _ _ _ _ _ 0 _; apply OBL.cons (ds := []); (iterate 3 exact rfl); kernel_rfl; intro w8 hw8 rest8) | (show OBL _ _ _ _ _ _ 1 _; apply OBL.cons (ds := []); (iterate 3 exact rfl); kernel_rfl; intro w8 hw8 rest8) | (show OBL _ _ _ _ _ _ 2 _; apply OBL.cons (ds := [1]); (iterate 3 exact rfl); kernel_rfl; intro w8 hw8 rest8) | (show OBL _ _ _ _ _ _ 3 _; apply OBL.cons (ds := [0, 2]); (iterate 3 exact rfl); kernel_rfl; intro w8 hw8 rest8) | (show OBL _ _ _ _ _ _ 4 _; apply OBL.cons (ds := []); (iterate 3 exact rfl); kernel_rfl; intro w8 hw8 rest8) | (show OBL _ _ _ _ _ _ 5 _; apply OBL.cons (ds := []); (iterate 3 exact rfl); kernel_rfl; intro w8 hw8 rest8) | (show OBL _ _ _ _ _ _ 6 _; apply OBL.cons (ds := [5]); (iterate 3 exact rfl); kernel_rfl; intro w8 hw8 rest8) | (show OBL _ _ _ _ _ _ 7 _; apply OBL.cons (ds := [4, 6, 3]); (iterate 3 exact rfl); kernel_rfl; intro w8 hw8 rest8) | (show OBL _ _ _ _ _ _ 8 _; apply OBL.cons (ds := []); (iterate 3 exact rfl); kernel_rfl; intro w8 hw8 rest8) | (show OBL _ _ _ _ _ _ 9 _; apply OBL.cons (ds := []); (iterate 3 exact rfl); kernel_rfl; intro w8 hw8 rest8) | (show OBL _ _ _ _ _ _ 10 _; apply OBL.cons (ds := [9]); (iterate 3 exact rfl); kernel_rfl; intro w8 hw8 rest8) | (show OBL _ _ _ _ _ _ 11 _; apply OBL.cons (ds := [8, 10, 7]); (iterate 3 exact rfl); kernel_rfl; intro w8 hw8 rest8) | (show OBL _ _ _ _ _ _ 12 _; apply OBL.cons (ds := []); (iterate 3 exact rfl); kernel_rfl; intro w8 hw8 rest8) | (show OBL _ _ _ _ _ _ 13 _; apply OBL.cons (ds := []); (iterate 3 exact rfl); kernel_rfl; intro w8 hw8 rest8) | (show OBL _ _ _ _ _ _ 14 _; apply OBL.cons (ds := [13]); (iterate 3 exact rfl); kernel_rfl; intro w8 hw8 rest8) | (show OBL _ _ _ _ _ _ 15 _; apply OBL.cons (ds := [12, 14, 11]); (iterate 3 exact rfl); kernel_rfl; intro w8 hw8 rest8) | (show OBL _ _ _ _ _ _ 16 _; apply OBL.cons (ds := [0, 1, 2, 3]); (iterate 3 exact rfl); kernel_rfl; intro w8 hw8 rest8) | (first | apply NO.nil | (apply NO.is; exact rfl; exact rfl) | (apply NO.ex; exact rfl; exact rfl; (first | (rintro _ ⟨gl, rfl, hlb, hlge⟩) | (rintro _ ⟨ar, cr, rfl, hOr⟩)))) | (intro w8 hw8; show NF _ _ _ _ _ _ _ _ _) | (first | (apply NF.nilT; intro hap; replace hS := Sep.news [prowZ 1 encI 3 w.heap.size ar2_15 cr2_15 c.cons.2.2, prowZ 1 encI 3 w.heap.size ar2_11 cr2_11 c.bads.2.2, prowZ 1 encI 3 w.heap.size ar2_7 cr2_7 c.outs.2.2, prowZ 1 encI 3 w.heap.size ar2_3 cr2_3 c.ins.2.2] hS hw8 (by rintro q hq; simp only [List.mem_cons, List.not_mem_nil, or_false] at hq; rcases hq with rfl | rfl | rfl | rfl <;> exact prowZ_new (by assumption) hw1) (apartS hap) hw1; simp only [List.cons_append, List.nil_append] at hS; (try simp only [List.set_cons_zero, List.set_cons_succ] at hS); (try have hD0 := (cHp hC0).1); (try have hE0 := (cHp hC0).2.1); (try have hF0 := (cHp hC0).2.2.1); (try have hG0 := (cHp hC0).2.2.2.1); (try have hD1 := (cHp hC1).1); (try have hE1 := (cHp hC1).2.1); (try have hF1 := (cHp hC1).2.2.1); (try have hG1 := (cHp hC1).2.2.2.1); (try have hC4 := hS.cell (i := 4) rfl); (try have hD4 := (cHp hC4).1); (try have hE4 := (cHp hC4).2.1); (try have hF4 := (cHp hC4).2.2.1); (try have hG4 := (cHp hC4).2.2.2.1)) | (apply NF.is; exact rfl; exact rfl)) | (show NF _ _ _ _ _ _ (0 :: _) _ _; apply NF.ex; exact rfl; exact rfl; rintro _ ⟨gl2_0, rfl, hlb2_0, hlge2_0⟩) | (show NF _ _ _ _ _ _ (3 :: _) _ _; apply NF.ex; exact rfl; exact rfl; rintro _ ⟨ar2_3, cr2_3, rfl, hOr2_3⟩) | (show NF _ _ _ _ _ _ (4 :: _) _ _; apply NF.ex; exact rfl; exact rfl; rintro _ ⟨gl2_4, rfl, hlb2_4, hlge2_4⟩) | (show NF _ _ _ _ _ _ (7 :: _) _ _; apply NF.ex; exact rfl; exact rfl; rintro _ ⟨ar2_7, cr2_7, rfl, hOr2_7⟩) | (show NF _ _ _ _ _ _ (8 :: _) _ _; apply NF.ex; exact rfl; exact rfl; rintro _ ⟨gl2_8, rfl, hlb2_8, hlge2_8⟩) | (show NF _ _ _ _ _ _ (11 :: _) _ _; apply NF.ex; exact rfl; exact rfl; rintro _ ⟨ar2_11, cr2_11, rfl, hOr2_11⟩) | (show NF _ _ _ _ _ _ (12 :: _) _ _; apply NF.ex; exact rfl; exact rfl; rintro _ ⟨gl2_12, rfl, hlb2_12, hlge2_12⟩) | (show NF _ _ _ _ _ _ (15 :: _) _ _; apply NF.ex; exact rfl; exact rfl; rintro _ ⟨ar2_15, cr2_15, rfl, hOr2_15⟩) | (first | (apply Z.invIs; exact extA) | (apply Z.invLit; exact extA; assumption; first | omega | (refine Nat.le_trans ?_ (by assumption); exact Below.size extA)) | (apply Z.invRow; exact extA; assumption; assumption)) | (apply WL.lit tOk; (iterate 6 exact rfl); kernel_rfl; exact rfl; intro gb w' hb hge hc hx) | (apply WL.append0 tOk eIk; (iterate 10 exact rfl); assumption; assumption; exact extA; assumption; exact extA; exact rfl; assumption; omega; intro a' cap' w' hO hx hf0) | (apply WL.storeF (w0 := wc) tOk; (iterate 4 exact rfl); assumption; exact extA; (iterate 4 exact rfl); exact extA; ((focus (apply Nat.le_trans; rotate_left; assumption; exact Below.size extA))); intro w' hb hX' hU; replace hS := Sep.uCl (i := 4) rfl hU hb hS extA (by (exact Below.size extA)); (try simp only [List.set_cons_zero, List.set_cons_succ] at hS); (try have hD0 := (cHp hC0).1); (try have hE0 := (cHp hC0).2.1); (try have hF0 := (cHp hC0).2.2.1); (try have hG0 := (cHp hC0).2.2.2.1); (try have hD1 := (cHp hC1).1); (try have hE1 := (cHp hC1).2.1); (try have hF1 := (cHp hC1).2.2.1); (try have hG1 := (cHp hC1).2.2.2.1); (try have hC4 := hS.cell (i := 4) rfl); (try have hD4 := (cHp hC4).1); (try have hE4 := (cHp hC4).2.1); (try have hF4 := (cHp hC4).2.2.1); (try have hG4 := (cHp hC4).2.2.2.1)) | (first | apply WL.nil | refine WL.au (k := ?_)) | apply Z.tn | apply W.seq)
 obtain ⟨w2, rfl⟩ : ∃ x, x = w' := ⟨_, rfl⟩
 have hX3 : Ext wc w2 := extA
 have hw2 : w.heap.size <= w2.heap.size := Nat.le_trans (Below.size hxc) (Below.size hX3)
 repeat' (first | (show W _ _ (.region 3 _ _) _ _ _; apply W.regionI 13 [prLit 69 w2.heap.size, .is (.pointer (some ⟨gc, 0 + 1 + 1, none⟩)), .is (rowVal c.lat), prRow 3 enc3 69 w2.heap.size c.lat.2.2, prLit 86 w2.heap.size, .is (.pointer (some ⟨gc, 0 + 1 + 1 + 1 + 1 + 1 + 1, none⟩)), .is (rowVal c.gates), prRow 3 enc3 86 w2.heap.size c.gates.2.2, prLit 119 w2.heap.size, .is (.pointer (some ⟨gc, 0 + 1 + 1 + 1 + 1 + 1 + 1 + 1, none⟩)), .is (rowVal c.syms), prRow 3 encY 119 w2.heap.size c.syms.2.2, .is (.pointer (some ⟨gb, 0 + 2, none⟩))] tMix; kernel_rfl; exact rfl; kernel_rfl; kernel_rfl; exact rfl; exact rfl) | apply OBL.nil | (show OBL _ _ _ _ _ _ 0 _; apply OBL.cons (ds := []); (iterate 3 exact rfl); kernel_rfl; intro w8 hw8 rest8) | (show OBL _ _ _ _ _ _ 1 _; apply OBL.cons (ds := []); (iterate 3 exact rfl); kernel_rfl; intro w8 hw8 rest8) | (show OBL _ _ _ _ _ _ 2 _; apply OBL.cons (ds := [1]); (iterate 3 exact rfl); kernel_rfl; intro w8 hw8 rest8) | (show OBL _ _ _ _ _ _ 3 _; apply OBL.cons (ds := [0, 2]); (iterate 3 exact rfl); kernel_rfl; intro w8 hw8 rest8) | (show OBL _ _ _ _ _ _ 4 _; apply OBL.cons (ds := []); (iterate 3 exact rfl); kernel_rfl; intro w8 hw8 rest8) | (show OBL _ _ _ _ _ _ 5 _; apply OBL.cons (ds := []); (iterate 3 exact rfl); kernel_rfl; intro w8 hw8 rest8) | (show OBL _ _ _ _ _ _ 6 _; apply OBL.cons (ds := [5]); (iterate 3 exact rfl); kernel_rfl; intro w8 hw8 rest8) | (show OBL _ _ _ _ _ _ 7 _; apply OBL.cons (ds := [4, 6, 3]); (iterate 3 exact rfl); kernel_rfl; intro w8 hw8 rest8) | (show OBL _ _ _ _ _ _ 8 _; apply OBL.cons (ds := []); (iterate 3 exact rfl); kernel_rfl; intro w8 hw8 rest8) | (show OBL _ _ _ _ _ _ 9 _; apply OBL.cons (ds := []); (iterate 3 exact rfl); kernel_rfl; intro w8 hw8 rest8) | (show OBL _ _ _ _ _ _ 10 _; apply OBL.cons (ds := [9]); (iterate 3 exact rfl); kernel_rfl; intro w8 hw8 rest8) | (show OBL _ _ _ _ _ _ 11 _; apply OBL.cons (ds := [8, 10, 7]); (iterate 3 exact rfl); kernel_rfl; intro w8 hw8 rest8) | (show OBL _ _ _ _ _ _ 12 _; apply OBL.cons (ds := [0, 1, 2, 3]); (iterate 3 exact rfl); kernel_rfl; intro w8 hw8 rest8) | (first | apply NO.nil | (apply NO.is; exact rfl; exact rfl) | (apply NO.ex; exact rfl; exact rfl; (first | (rintro _ ⟨gl, rfl, hlb, hlge⟩) | (rintro _ ⟨ar, cr, rfl, hOr⟩)))) | (intro w8 hw8; show NF _ _ _ _ _ _ _ _ _) | (first | (apply NF.nilT; intro hap; replace hS := Sep.news [prowZ 3 encY 119 w.heap.size ar3_11 cr3_11 c.syms.2.2, prowZ 3 enc3 86 w.heap.size ar3_7 cr3_7 c.gates.2.2, prowZ 3 enc3 69 w.heap.size ar3_3 cr3_3 c.lat.2.2] hS hw8 (by rintro q hq; simp only [List.mem_cons, List.not_mem_nil, or_false] at hq; rcases hq with rfl | rfl | rfl <;> exact prowZ_new (by assumption) hw2) (apartS hap) hw2; simp only [List.cons_append, List.nil_append] at hS; (try simp only [List.set_cons_zero, List.set_cons_succ] at hS); (try have hD0 := (cHp hC0).1); (try have hE0 := (cHp hC0).2.1); (try have hF0 := (cHp hC0).2.2.1); (try have hG0 := (cHp hC0).2.2.2.1); (try have hD1 := (cHp hC1).1); (try have hE1 := (cHp hC1).2.1); (try have hF1 := (cHp hC1).2.2.1); (try have hG1 := (cHp hC1).2.2.2.1); (try have hD4 := (cHp hC4).1); (try have hE4 := (cHp hC4).2.1); (try have hF4 := (cHp hC4).2.2.1); (try have hG4 := (cHp hC4).2.2.2.1)) | (apply NF.is; exact rfl; exact rfl)) | (show NF _ _ _ _ _ _ (0 :: _) _ _; apply NF.ex; exact rfl; exact rfl; rintro _ ⟨gl3_0, rfl, hlb3_0, hlge3_0⟩) | (show NF _ _ _ _ _ _ (3 :: _) _ _; apply NF.ex; exact rfl; exact rfl; rintro _ ⟨ar3_3, cr3_3, rfl, hOr3_3⟩) | (show NF _ _ _ _ _ _ (4 :: _) _ _; apply NF.ex; exact rfl; exact rfl; rintro _ ⟨gl3_4, rfl, hlb3_4, hlge3_4⟩) | (show NF _ _ _ _ _ _ (7 :: _) _ _; apply NF.ex; exact rfl; exact rfl; rintro _ ⟨ar3_7, cr3_7, rfl, hOr3_7⟩) | (show NF _ _ _ _ _ _ (8 :: _) _ _; apply NF.ex; exact rfl; exact rfl; rintro _ ⟨gl3_8, rfl, hlb3_8, hlge3_8⟩) | (show NF _ _ _ _ _ _ (11 :: _) _ _; apply NF.ex; exact rfl; exact rfl; rintro _ ⟨ar3_11, cr3_11, rfl, hOr3_11⟩) | (first | (apply Z.invIs; exact extA) | (apply Z.invLit; exact extA; assumption; first | omega | (refine Nat.le_trans ?_ (by assumption); exact Below.size extA)) | (apply Z.invRow; exact extA; assumption; assumption)) | (apply WL.lit tOk; (iterate 6 exact rfl); kernel_rfl; exact rfl; intro gb w' hb hge hc hx) | (apply WL.append0 tOk enc3_ok; (iterate 10 exact rfl); assumption; assumption; exact extA; assumption; exact extA; exact rfl; assumption; omega; intro a' cap' w' hO hx hf0) | (apply WL.append0 tOk encY_ok; (iterate 10 exact rfl); assumption; assumption; exact extA; assumption; exact extA; exact rfl; assumption; omega; intro a' cap' w' hO hx hf0) | (apply WL.storeF (w0 := wc) tOk; (iterate 4 exact rfl); assumption; exact extA; (iterate 4 exact rfl); exact extA; ((focus (apply Nat.le_trans; rotate_left; assumption; exact Below.size extA))); intro w' hb hX' hU; replace hS := Sep.uCl (i := 7) rfl hU hb hS extA (by (exact Below.size extA)); (try simp only [List.set_cons_zero, List.set_cons_succ] at hS); (try have hD0 := (cHp hC0).1); (try have hE0 := (cHp hC0).2.1); (try have hF0 := (cHp hC0).2.2.1); (try have hG0 := (cHp hC0).2.2.2.1); (try have hD1 := (cHp hC1).1); (try have hE1 := (cHp hC1).2.1); (try have hF1 := (cHp hC1).2.2.1); (try have hG1 := (cHp hC1).2.2.2.1); (try have hD4 := (cHp hC4).1); (try have hE4 := (cHp hC4).2.1); (try have hF4 := (cHp hC4).2.2.1); (try have hG4 := (cHp hC4).2.2.2.1)) | (first | apply WL.nil | refine WL.au (k := ?_)) | apply Z.tn | (first | apply W.seq | apply W.region))
 obtain ⟨d, hd⟩ : ∃ d : Circ, d = ⟨c.max, (ar2_3, cr2_3, c.ins.2.2), (ar3_3, cr3_3, c.lat.2.2), (ar2_7, cr2_7, c.outs.2.2), (ar2_11, cr2_11, c.bads.2.2), (ar2_15, cr2_15, c.cons.2.2), (ar3_7, cr3_7, c.gates.2.2), (ar3_11, cr3_11, c.syms.2.2), c.com⟩ := ⟨_, rfl⟩
 have hS' : Lt.Sep w.heap.size w' (d.ps w.heap.size ++ [pcell gb d.vals.toArray 27, pcell g2 (Value.cells (.agg #[.int .i64 0, .slice none 0 0, .slice none 0 0, .slice none 0 0, .slice none 0 0, .slice none 0 0, .slice none 0 0, .slice none 0 0, .string ⟨#[]⟩])) 27]) := by rw [hd]; exact hS
 have hcap : CapC d := by
  rw [hd]
  exact ⟨⟨hOr2_3.capLe, hOr2_3.nCp⟩, ⟨hOr3_3.capLe, hOr3_3.nCp⟩, ⟨hOr2_7.capLe, hOr2_7.nCp⟩, ⟨hOr2_11.capLe, hOr2_11.nCp⟩, ⟨hOr2_15.capLe, hOr2_15.nCp⟩, ⟨hOr3_7.capLe, hOr3_7.nCp⟩, ⟨hOr3_11.capLe, hOr3_11.nCp⟩⟩
 have hdt : d.t = c.t := by rw [hd]
 have hcd : Cells w' gb 0 d.vals := cHp (hS'.cell (i := 7) rfl)
 have hc8 := hS'.cell (i := 8) rfl
 clear hd
 obtain ⟨w3, rfl⟩ : ∃ x, x = w' := ⟨_, rfl⟩
 repeat' (first | (apply WL.storeB (w0 := wc) tOk; (iterate 4 exact rfl); assumption; exact extA; (iterate 3 exact rfl); exact extA; assumption; intro w' hb hc hX' hU; have hcc := hc; obtain ⟨h1, h2, _⟩ := hc) | (first | apply WL.nil | refine WL.au (k := ?_)) | apply Z.tn | apply W.ret)
 exact Z.bodyC tOk Tryz.results9 rfl rfl rfl rfl (cHp hb) fun m => ⟨hxc.trans (Ext.at extA m), d, rfl, hdt, ⟨((hS'.uCl (i := 8) rfl hU hb (Ext.refl _) (Nat.le_trans (Below.size hxc) (Below.size extA))).takeN 7).ext ((Ext.refl _).at m), hcap⟩⟩
end Go.Proofs.YteidpnpbfagaeaaGreat
namespace Go.Lt
open Go.RowKit

theorem Row.keep {α : Type} {s : Nat} {enc : α -> List Value} {w w' : World} {a : Option Addr} {l : List α} (h : Row s enc w a l) (hb : ∀ k, blk a = some k -> w'.heap[k]? = w.heap[k]?) : Row s enc w' a l := by
 refine ⟨h.len, fun i x hx => ?_⟩
 obtain ⟨b, off, h1, h2⟩ := h.elem i x hx
 refine ⟨b, off, h1, ?_⟩
 have e := hb b (by rw [h1]; rfl)
 have key : ∀ (L : List Value) (o : Nat), Cells w b o L -> Cells w' b o L := by
  intro L
  induction L with
  | nil => intro o _; trivial
  | cons u r ih =>
   intro o hc
   refine ⟨?_, ih _ hc.2⟩
   have h3 := hc.1
   simp only [World.cell?] at h3 ⊢
   rw [e]; exact h3
 exact key _ _ h2
def pfro (k : Nat) (v : Option Obj) : Piece := ⟨some k, fun w => w.heap[k]? = v, fun h hb => by rw [hb k rfl]; exact h⟩
def frz (b : Nat) (w : World) : List Piece := (List.range (w.heap.size - b)).map fun i => pfro (b + i) (w.heap[b + i]?)
theorem frz_get {b : Nat} {w : World} {i : Nat} {p : Piece} (h : (frz b w)[i]? = some p) : b + i < w.heap.size /\ p = pfro (b + i) (w.heap[b + i]?) := by
 unfold frz at h
 rw [List.getElem?_map] at h
 obtain ⟨j, hj, rfl⟩ := Option.map_eq_some_iff.1 h
 obtain ⟨h1, h2⟩ := List.getElem?_eq_some_iff.1 hj
 simp at h1 h2
 subst h2
 exact ⟨by omega, rfl⟩
theorem get_app {α : Type} {l r : List α} {i : Nat} {x : α} (h : (l ++ r)[i]? = some x) : l[i]? = some x ∨ (l.length <= i /\ r[i - l.length]? = some x) := by
 by_cases hi : i < l.length
 ·rw [List.getElem?_append_left hi] at h; exact .inl h
 ·rw [List.getElem?_append_right (by omega)] at h; exact .inr ⟨by omega, h⟩
theorem Sep.freeze {B : Nat} {w1 w2 : World} {ps : List Piece} (hS : Sep B w1 ps) (hx : Ext w1 w2) (hB : B <= w1.heap.size) : Sep B w2 (ps ++ frz w1.heap.size w2) := by
 have hS' := hS.ext hx
 refine ⟨fun i p h => ?_, fun i j p q h1 h2 hne => ?_⟩
 ·rcases get_app h with h | ⟨_, h⟩
  ·exact hS'.holds i p h
  ·obtain ⟨h1, rfl⟩ := frz_get h
   exact ⟨rfl, fun k hk => by cases hk; exact ⟨by omega, h1⟩⟩
 ·have old : ∀ (i : Nat) (p : Piece) (k : Nat), ps[i]? = some p -> p.b = some k -> k < w1.heap.size := fun i p k h hk => ((hS.holds i p h).2 k hk).2
  rcases get_app h1 with h1 | ⟨l1, h1⟩
  ·rcases get_app h2 with h2 | ⟨l2, h2⟩
   ·exact hS.apart i j p q h1 h2 hne
   ·obtain ⟨_, rfl⟩ := frz_get h2
    cases hb : p.b with
    | none => exact .inl rfl
    | some k => exact .inr fun he => by have e2 := Option.some.inj he; have := old i p k h1 hb; omega
  ·obtain ⟨_, rfl⟩ := frz_get h1
   rcases get_app h2 with h2 | ⟨l2, h2⟩
   ·exact .inr fun he => by have := old j q _ h2 he.symm; omega
   ·obtain ⟨_, rfl⟩ := frz_get h2
    exact .inr fun he => by have e2 := Option.some.inj he; omega

structure KeyF {κ : Type} (P : Program) (kt : TypeId) (kv : κ -> Value) : Prop where
 find : ∀ {ν : Type} (vv : ν -> Value) (a : κ) (w : World) (es : List MapEntry) (L : List (κ × ν)), es.map (fun e => (e.key, e.val)) = L.map (fun x => (kv x.1, vv x.2)) -> (Instr.findKey kt (kv a) es).run P w = .ok (mfind vv a L 0) w
 chk : ∀ empty a w, (Instr.checkKey empty 10000 kt (kv a)).run P w = .ok () w
 same : ∀ a, Instr.sameBits 10000 (kv a) (kv a) = true
theorem findNow_of {κ ν : Type} {d : TypeDesc} {kv : κ -> Value} {vv : ν -> Value} (h : ∀ a b, Instr.sameNow d (kv a) (kv b) = some (dec (a = b))) (a : κ) : ∀ (es : List MapEntry) (L : List (κ × ν)) (i : Nat), es.map (fun e => (e.key, e.val)) = L.map (fun x => (kv x.1, vv x.2)) -> Instr.findNow d (kv a) es i = some (mfind vv a L i)
 | [], [], i, _ => rfl
 | [], x :: r, i, h' => by simp at h'
 | e :: es, [], i, h' => by simp at h'
 | e :: es, x :: r, i, h' => by
  simp only [List.map_cons, List.cons.injEq, Prod.mk.injEq] at h'
  obtain ⟨⟨h1, h2⟩, h3⟩ := h'
  have ih := findNow_of (vv := vv) h a es r (i + 1) h3
  unfold Instr.findNow mfind
  rw [h1, h a x.1]
  cases dec (a = x.1)
  ·exact ih
  ·simp only [cond_true, h2]
theorem keyF_of {κ : Type} {P : Program} {kt : TypeId} {d : TypeDesc} {kv : κ -> Value} (hu : P.underlying kt = some d) (h : ∀ a b, Instr.sameNow d (kv a) (kv b) = some (dec (a = b))) (hc : ∀ empty a w, (Instr.checkKey empty 10000 kt (kv a)).run P w = .ok () w) (hs : ∀ a, Instr.sameBits 10000 (kv a) (kv a) = true) : KeyF P kt kv :=
 ⟨fun vv a w es L he => by
  have hu' : (underlying kt).run P w = .ok d w := by simp [underlying, program, Sem.run, hu]
  simp only [Instr.findKey, Sem.run_bind, hu', Result.andThen_ok, findNow_of h a es L 0 he]
  rfl, hc, hs⟩
theorem keyF_int {P : Program} {kt : TypeId} {k : IntKind} (hu : P.underlying kt = some (.int k)) : KeyF P kt (fun n : Int => .int k n) := by
 refine keyF_of hu (fun a b => ?_) (fun em a w => ?_) (fun a => ?_)
 ·simp only [Instr.sameNow, if_true]
  rw [dec_decide]; rfl
 ·have hu' : (underlying kt).run P w = .ok (.int k) w := by simp [underlying, program, Sem.run, hu]
  rw [show (10000 : Nat) = 9999 + 1 from rfl, Instr.checkKey]
  simp only [Sem.run_bind, hu', Result.andThen_ok]
  rfl
 ·simp [Instr.sameBits]
noncomputable def mset {κ ν : Type} (a : κ) (v : ν) : List (κ × ν) -> List (κ × ν)
 | [] => []
 | x :: r => bif dec (a = x.1) then (x.1, v) :: r else x :: mset a v r

section rules
variable {P : Program} {N : Nat} {e : Env} {w : World} {Q : Exit -> Act -> World -> Prop} {ops : List Oper} {l : List Oper} {T : Tab} {C : World -> Prop}
 {d : Nat} {tt t : TypeId} {ps : String} {af : Array Edge} {g : Option (Nat × Bool)} {x y z : Operand} {ti ei : TI} {κ ν : Type} {kt et : TypeId} {kv : κ -> Value} {vv : ν -> Value} {L : List (κ × ν)} {a : κ} {v : ν} {r : Nat}
theorem run_lookupF (hT : OkTab P T) (hk : KeyF P kt kv) (ht : tget T t = some ti) (htd : ti.desc = .map kt et) (he : tget T et = some ei) (hM : MapIs kv vv w r L) (b : Bool) :
  (Instr.lookup t (.map (some r)) (kv a) b).run P w = .ok (bif b then .tuple #[((mget a L).map vv).getD ei.zero, .bool (mget a L).isSome] else ((mget a L).map vv).getD ei.zero) w := by
 obtain ⟨es, clock, h1, h2⟩ := hM
 have hu := rUn (hT.at ht) w; rw [htd] at hu
 have hz := run_zeroValue' (hT.at he) w
 have hf := hk.find vv a w es.toList L h2
 have hg : (getObj r).run P w = .ok (.map es clock) w := by simp [getObj, Sem.run, h1]
 have hmg := mfind_get vv a L 0
 simp only [Instr.lookup, Sem.run_bind, hu, Result.andThen_ok, hg, Sem.run_pure, hk.chk, hf]
 cases hm : mfind vv a L 0 with
 | none =>
  rw [hm] at hmg
  cases hg2 : mget a L with
  | none => cases b <;> simp [hz]
  | some q => rw [hg2] at hmg; simp at hmg
 | some q =>
  rw [hm] at hmg
  cases hg2 : mget a L with
  | none => rw [hg2] at hmg; simp at hmg
  | some u =>
   rw [hg2] at hmg
   simp only [Option.map_some, Option.some.injEq] at hmg
   obtain ⟨qi, qv⟩ := q
   simp only at hmg
   subst hmg
   cases b <;> simp
theorem ylookupF [Cls C w] (hT : OkTab P T) (hk : KeyF P kt kv) (hx : ev e x = some (.map (some r))) (hy : ev e y = some (kv a)) (ht : tget T t = some ti) (htd : ti.desc = .map kt et) (he : tget T et = some ei) (hM : MapIs kv vv w r L) (b : Bool) {dd : Option Tmp} :
  YieldsIn P e C ⟨dd, .lookup t x y b, tt, ps, af, g⟩ (bif b then .tuple #[((mget a L).map vv).getD ei.zero, .bool (mget a L).isSome] else ((mget a L).map vv).getD ei.zero) := by
 intro ρ hρ w' hw'
 have hr := run_lookupF (P := P) (a := a) hT hk ht htd he (hM.ext (Cls.keeps (C := C) w' hw')) b
 simp [execOp, hρ _ _ hx, hρ _ _ hy, hr]
theorem WL.lookSomeF {v : ν} (hT : OkTab P T) (hk : KeyF P kt kv) (hg : gate ops e g = some true) (hd : Nat.blt d N = true) (hx : ev e x = some (.map (some r))) (hy : ev e y = some (kv a)) (ht : tget T t = some ti) (htd : ti.desc = .map kt et) (he : tget T et = some ei) (hM : MapIs kv vv w r L) (hm : mget a L = some v)
  (k : WL P N ops.toArray l ((d, .tuple #[vv v, .bool true]) :: e) w Q) : WL P N ops.toArray (⟨some d, .lookup t x y true, tt, ps, af, g⟩ :: l) e w Q :=
 WL.step hg hd (ylookupF (C := Same w) hT hk hx hy ht htd he hM true) (by rw [hm]; exact k)
theorem WL.lookNoneF (hT : OkTab P T) (hk : KeyF P kt kv) (hg : gate ops e g = some true) (hd : Nat.blt d N = true) (hx : ev e x = some (.map (some r))) (hy : ev e y = some (kv a)) (ht : tget T t = some ti) (htd : ti.desc = .map kt et) (he : tget T et = some ei) (hM : MapIs kv vv w r L) (hm : mget a L = none)
  (k : WL P N ops.toArray l ((d, .tuple #[ei.zero, .bool false]) :: e) w Q) : WL P N ops.toArray (⟨some d, .lookup t x y true, tt, ps, af, g⟩ :: l) e w Q :=
 WL.step hg hd (ylookupF (C := Same w) hT hk hx hy ht htd he hM true) (by rw [hm]; exact k)
theorem WL.look1F (hT : OkTab P T) (hk : KeyF P kt kv) (hg : gate ops e g = some true) (hd : Nat.blt d N = true) (hx : ev e x = some (.map (some r))) (hy : ev e y = some (kv a)) (ht : tget T t = some ti) (htd : ti.desc = .map kt et) (he : tget T et = some ei) (hM : MapIs kv vv w r L)
  (k : WL P N ops.toArray l ((d, ((mget a L).map vv).getD ei.zero) :: e) w Q) : WL P N ops.toArray (⟨some d, .lookup t x y false, tt, ps, af, g⟩ :: l) e w Q :=
 WL.step hg hd (ylookupF (C := Same w) hT hk hx hy ht htd he hM false) k
theorem mfind_mset {κ ν : Type} {kv : κ -> Value} {vv : ν -> Value} (a : κ) (v : ν) : ∀ (L : List (κ × ν)) (i j : Nat) (q : Value), mfind vv a L i = some (j, q) -> i <= j /\ j - i < L.length /\ (L.map (fun x => (kv x.1, vv x.2))).modify (j - i) (fun p => (kv a, vv v)) = (mset a v L).map (fun x => (kv x.1, vv x.2)) /\ (L.map (fun x => kv x.1))[j - i]? = some (kv a)
 | [], i, j, q, h => by cases h
 | x :: r, i, j, q, h => by
  unfold mfind at h
  by_cases hax : a = x.1
  ·rw [dTt hax] at h
   simp only [cond_true, Option.some.injEq, Prod.mk.injEq] at h
   obtain ⟨rfl, _⟩ := h
   refine ⟨Nat.le_refl _, by simp, ?_, by simp [hax]⟩
   rw [Nat.sub_self]
   unfold mset
   rw [dTt hax]
   simp [hax]
  ·rw [dFf hax] at h
   simp only [cond_false] at h
   obtain ⟨h1, h2, h3, h4⟩ := mfind_mset (kv := kv) a v r (i + 1) j q h
   have e : j - i = (j - (i + 1)) + 1 := by omega
   refine ⟨by omega, by simp only [List.length_cons]; omega, ?_, ?_⟩
   ·rw [e]
    unfold mset
    rw [dFf hax]
    simp only [cond_false, List.map_cons, List.modify_succ_cons]
    rw [h3]
   ·rw [e]; simpa using h4
theorem WL.mapPutF {B : Nat} {w0 : World} (hT : OkTab P T) (hk : KeyF P kt kv) (hg : gate ops e g = some true) (hx : ev e x = some (.map (some r))) (hy : ev e y = some (kv a)) (hz : ev e z = some (vv v)) (ht : tget T t = some ti) (htd : ti.desc = .map kt et) (hM : MapIs kv vv w r L) (hX : Ext w0 w) (hB : w0.heap.size <= r)
  (k : ∀ w', MapIs kv vv w' r (match mget a L with | none => L ++ [(a, v)] | some _ => mset a v L) -> Ext w0 w' -> Upd r (some ⟨r, 0, none⟩) w w' -> WL P N ops.toArray l e w' Q) :
  WL P N ops.toArray (⟨none, .mapUpdate t x y z, tt, ps, af, g⟩ :: l) e w Q := by
 obtain ⟨es, clock, h1, h2⟩ := hM
 have hlt := heap_lt h1
 have hmg := mfind_get vv a L 0
 cases hm : mfind vv a L 0 with
 | none =>
  have hnew : mget a L = none := by
   cases hg2 : mget a L with
   | none => rfl
   | some u => rw [hm, hg2] at hmg; simp at hmg
  rw [hnew] at k
  refine WL.effN (w' := fun m => { at' w m with heap := w.heap.setIfInBounds r (.map (es.push { key := kv a, val := vv v, born := clock }) (clock + 1)) }) hg ?_ (fun m => ?_)
  ·intro ρ hρ m
   have hu := rUn (hT.at ht) (at' w m); rw [htd] at hu
   have hf := hk.find vv a (at' w m) es.toList L h2
   have hg : (getObj r).run P (at' w m) = .ok (.map es clock) (at' w m) := by simp [getObj, Sem.run, h1]
   rw [hm] at hf
   have hset : (setObj r (.map (es.push { key := kv a, val := vv v, born := clock }) (clock + 1))).run P (at' w m) = .ok () { at' w m with heap := w.heap.setIfInBounds r (.map (es.push { key := kv a, val := vv v, born := clock }) (clock + 1)) } := by simp [setObj, Sem.run, h1]
   have hrun : (Instr.mapUpdate t (.map (some r)) (kv a) (vv v)).run P (at' w m) = .ok () { at' w m with heap := w.heap.setIfInBounds r (.map (es.push { key := kv a, val := vv v, born := clock }) (clock + 1)) } := by
    simp only [Instr.mapUpdate, Sem.run_bind, hu, Result.andThen_ok, hg, hk.chk, hf, hset]
   simp [execOp, hρ _ _ hx, hρ _ _ hy, hρ _ _ hz, hrun]
  ·have hU : Upd r (some ⟨r, 0, none⟩) w { at' w m with heap := w.heap.setIfInBounds r (.map (es.push { key := kv a, val := vv v, born := clock }) (clock + 1)) } :=
    ⟨⟨rfl, rfl, rfl, by simp, fun q hq hne => by
     simp only [blk, Option.map_some, ne_eq, Option.some.injEq] at hne
     simp only [Array.getElem?_setIfInBounds]
     rw [if_neg (fun h => hne h.symm)]⟩, fun q hq => by simp only [blk, Option.map_some, Option.some.injEq] at hq; omega⟩
   refine k _ ⟨_, _, by simp [Array.getElem?_setIfInBounds, hlt]; exact ⟨rfl, rfl⟩, ?_⟩ (hU.ext hX hB) hU
   simp [h2]
 | some q =>
  obtain ⟨j, qv⟩ := q
  obtain ⟨u, hu2⟩ : ∃ u, mget a L = some u := by
   cases hg2 : mget a L with
   | none => rw [hm, hg2] at hmg; simp at hmg
   | some u => exact ⟨u, rfl⟩
  rw [hu2] at k
  obtain ⟨m1, m2, m3, m4⟩ := mfind_mset (kv := kv) a v L 0 j qv hm
  rw [Nat.sub_zero] at m2 m3 m4
  have hlen : es.toList.length = L.length := by have := congrArg List.length h2; simpa using this
  have hkey : (((es[j]?).map (·.key)).getD (kv a)) = kv a := by
   have h3 := congrArg (fun l => (l.map Prod.fst)[j]?) h2
   simp only [List.map_map] at h3
   have e1 : (L.map (Prod.fst ∘ fun x => (kv x.1, vv x.2)))[j]? = some (kv a) := m4
   rw [e1] at h3
   rw [List.getElem?_map] at h3
   obtain ⟨en, hen, hek⟩ := Option.map_eq_some_iff.1 h3
   have : es[j]? = some en := by simpa using hen
   rw [this]; exact hek
  refine WL.effN (w' := fun m => { at' w m with heap := w.heap.setIfInBounds r (.map (es.modify j fun e => { e with key := kv a, val := vv v }) clock) }) hg ?_ (fun m => ?_)
  ·intro ρ hρ m
   have hu := rUn (hT.at ht) (at' w m); rw [htd] at hu
   have hf := hk.find vv a (at' w m) es.toList L h2
   have hg : (getObj r).run P (at' w m) = .ok (.map es clock) (at' w m) := by simp [getObj, Sem.run, h1]
   rw [hm] at hf
   have hset : (setObj r (.map (es.modify j fun e => { e with key := kv a, val := vv v }) clock)).run P (at' w m) = .ok () { at' w m with heap := w.heap.setIfInBounds r (.map (es.modify j fun e => { e with key := kv a, val := vv v }) clock) } := by simp [setObj, Sem.run, h1]
   have hstay : (Instr.keyThatStays (kv a) (kv a)).run P (at' w m) = .ok (kv a) (at' w m) := by unfold Instr.keyThatStays; rw [hk.same a]; rfl
   have hrun : (Instr.mapUpdate t (.map (some r)) (kv a) (vv v)).run P (at' w m) = .ok () { at' w m with heap := w.heap.setIfInBounds r (.map (es.modify j fun e => { e with key := kv a, val := vv v }) clock) } := by
    simp only [Instr.mapUpdate, Sem.run_bind, hu, Result.andThen_ok, hg, hk.chk, hf, hkey, hstay, hset]
   simp [execOp, hρ _ _ hx, hρ _ _ hy, hρ _ _ hz, hrun]
  ·have hU : Upd r (some ⟨r, 0, none⟩) w { at' w m with heap := w.heap.setIfInBounds r (.map (es.modify j fun e => { e with key := kv a, val := vv v }) clock) } :=
    ⟨⟨rfl, rfl, rfl, by simp, fun q hq hne => by
     simp only [blk, Option.map_some, ne_eq, Option.some.injEq] at hne
     simp only [Array.getElem?_setIfInBounds]
     rw [if_neg (fun h => hne h.symm)]⟩, fun q hq => by simp only [blk, Option.map_some, Option.some.injEq] at hq; omega⟩
   refine k _ ⟨_, _, by simp [Array.getElem?_setIfInBounds, hlt]; exact ⟨rfl, rfl⟩, ?_⟩ (hU.ext hX hB) hU
   rw [<- m3, <- h2]
   apply List.ext_getElem?
   intro i
   simp only [Array.toList_modify, List.getElem?_map, List.getElem?_modify, Option.map_map]
   by_cases hij : j = i
   ·subst hij; simp [Function.comp_def]
   ·simp [hij, Function.comp_def]
end rules

section rules
variable {P : Program} {N : Nat} {e : Env} {w : World} {Q : Exit -> Act -> World -> Prop} {ops : List Oper} {l : List Oper} {T : Tab} {C : World -> Prop}
 {d : Nat} {tt t : TypeId} {ps : String} {af : Array Edge} {g : Option (Nat × Bool)} {x y z : Operand} {ti ei : TI} {κ ν : Type} {kt et : TypeId} {kv : κ -> Value} {vv : ν -> Value} {L : List (κ × ν)} {a : κ} {v : ν} {r : Nat}
abbrev keysL {κ ν : Type} (c : ν) (ks : List κ) : List (κ × ν) := ks.map fun k => (k, c)
theorem mget_keys {c : ν} : ∀ (ks : List κ) (a : κ), mget a (keysL c ks) = bif dec (a ∈ ks) then some c else none
 | [], a => by rw [dFf (by simp)]; rfl
 | x :: r, a => by
  show mget a ((x, c) :: keysL c r) = _
  unfold mget
  by_cases hax : a = x
  ·rw [dTt (show a = (x, c).1 from hax), dTt (by rw [hax]; simp)]; rfl
  ·rw [dFf (show ¬ a = (x, c).1 from hax), mget_keys r a]
   simp only [cond_false]
   rw [dCg (show a ∈ r ↔ a ∈ x :: r by simp [hax])]
theorem keysL_snoc {c : ν} (ks : List κ) (a : κ) : keysL c (ks ++ [a]) = keysL c ks ++ [(a, c)] := by simp
theorem WL.lookKeys {ks : List κ} (hT : OkTab P T) (hk : KeyF P kt kv) (hg : gate ops e g = some true) (hd : Nat.blt d N = true) (hx : ev e x = some (.map (some r))) (hy : ev e y = some (kv a)) (ht : tget T t = some ti) (htd : ti.desc = .map kt et) (he : tget T et = some ei) (hez : ei.zero = .bool false) (hM : MapIs kv (fun b : Bool => .bool b) w r (keysL true ks))
  (k : WL P N ops.toArray l ((d, .bool (dec (a ∈ ks))) :: e) w Q) : WL P N ops.toArray (⟨some d, .lookup t x y false, tt, ps, af, g⟩ :: l) e w Q := by
 refine WL.look1F hT hk hg hd hx hy ht htd he hM ?_
 rw [mget_keys, hez]
 by_cases h : a ∈ ks
 ·rw [dTt h] at k ⊢; exact k
 ·rw [dFf h] at k ⊢; exact k
end rules
end Go.Lt
namespace Go.Proofs.YteidpnpbfagaeaaGreat
open Go Go.Lt Go.RowKit

theorem keyI : KeyF Tryz.prog 3 (fun n : Int => .int .i64 n) := keyF_int (k := .i64) (tOk.at (t := 3) rfl).1
abbrev encK : Int -> Value := fun n => .int .i64 n
abbrev isB : Bool -> Value := fun b => .bool b

abbrev Once (gs : List G3) : Prop := ∀ (i j : Nat) (x y : G3), gs[i]? = some x -> gs[j]? = some y -> x.1 / 2 = y.1 / 2 -> i = j
def Bl (gs : List G3) (T : List Nat) (l : Int) : Prop := ∃ (j : Nat) (x : G3), gs[j]? = some x /\ j ∉ T /\ x.1 / 2 = l / 2
noncomputable def one (p : Prop) : Nat := bif dec p then 1 else 0
theorem one_yes {p : Prop} (h : p) : one p = 1 := by unfold one; rw [dTt h]; rfl
theorem one_no {p : Prop} (h : ¬ p) : one p = 0 := by unfold one; rw [dFf h]; rfl
theorem one_zero {p : Prop} : one p = 0 ↔ ¬ p := by
 by_cases h : p
 ·rw [one_yes h]; simp [h]
 ·rw [one_no h]; simp [h]
theorem one_le (p : Prop) : one p <= 1 := by
 by_cases h : p
 ·rw [one_yes h]; exact Nat.le_refl _
 ·rw [one_no h]; omega
noncomputable def lackG (gs : List G3) (T : List Nat) (g : G3) : Nat := one (Bl gs T g.2.1) + one (Bl gs T g.2.2)
theorem rdy_lack {gs : List G3} {T : List Nat} {i : Nat} {g : G3} (hg : gs[i]? = some g) : Rdy gs T i ↔ (i ∉ T /\ lackG gs T g = 0) := by
 have h0 : lackG gs T g = 0 ↔ (¬ Bl gs T g.2.1 /\ ¬ Bl gs T g.2.2) := by
  unfold lackG
  rw [Nat.add_eq_zero_iff, one_zero, one_zero]
 rw [h0]
 constructor
 ·rintro ⟨g', hg', h1, h2⟩
  rw [hg] at hg'; cases hg'
  exact ⟨h1, fun ⟨j, x, h3, h4, h5⟩ => (h2 j x h3 h4).1 h5, fun ⟨j, x, h3, h4, h5⟩ => (h2 j x h3 h4).2 h5⟩
 ·rintro ⟨h1, h2, h3⟩
  exact ⟨g, hg, h1, fun j x hx hj => ⟨fun he => h2 ⟨j, x, hx, hj, he⟩, fun he => h3 ⟨j, x, hx, hj, he⟩⟩⟩
noncomputable def hangs (g : G3) (y : G3) : Nat := one (y.1 / 2 = g.2.1 / 2) + one (y.1 / 2 = g.2.2 / 2)
theorem bl_push {gs : List G3} (ho : Once gs) {T : List Nat} {i : Nat} {y : G3} (hy : gs[i]? = some y) (hi : i ∉ T) (l : Int) : one (Bl gs T l) = one (Bl gs (T ++ [i]) l) + one (y.1 / 2 = l / 2) := by
 by_cases h : y.1 / 2 = l / 2
 ·rw [one_yes h, one_yes ⟨i, y, hy, hi, h⟩, one_no]
  rintro ⟨j, x, h1, h2, h3⟩
  exact h2 (List.mem_append_right _ (List.mem_singleton.2 (ho j i x y h1 hy (by omega))))
 ·rw [one_no h, Nat.add_zero]
  by_cases hb : Bl gs T l
  ·obtain ⟨j, x, h1, h2, h3⟩ := hb
   rw [one_yes ⟨j, x, h1, h2, h3⟩, one_yes]
   refine ⟨j, x, h1, fun hm => ?_, h3⟩
   rcases List.mem_append.1 hm with hm | hm
   ·exact h2 hm
   ·obtain rfl := List.mem_singleton.1 hm
    rw [hy] at h1; cases h1; exact h h3
  ·rw [one_no hb, one_no]
   rintro ⟨j, x, h1, h2, h3⟩
   exact hb ⟨j, x, h1, fun hm => h2 (List.mem_append_left _ hm), h3⟩
theorem lack_push {gs : List G3} (ho : Once gs) {T : List Nat} {i : Nat} {y : G3} (hy : gs[i]? = some y) (hi : i ∉ T) (g : G3) : lackG gs T g = lackG gs (T ++ [i]) g + hangs g y := by
 unfold lackG hangs
 rw [bl_push ho hy hi g.2.1, bl_push ho hy hi g.2.2]; omega
noncomputable def abv (gs : List G3) (y : G3) : Nat -> List Int
 | 0 => []
 | k + 1 => abv gs y k ++ (match gs[k]? with | some g => List.replicate (hangs g y) ((k : Nat) : Int) | none => [])
theorem abv_mem {gs : List G3} {y : G3} : ∀ {k : Nat} {x : Int}, x ∈ abv gs y k -> ∃ (j : Nat) (g : G3), x = (j : Int) /\ j < k /\ gs[j]? = some g /\ 0 < hangs g y
 | 0, x, h => by cases h
 | k + 1, x, h => by
  rw [abv] at h
  rcases List.mem_append.1 h with h | h
  ·obtain ⟨j, g, h1, h2, h3⟩ := abv_mem h
   exact ⟨j, g, h1, by omega, h3⟩
  ·cases hg : gs[k]? with
   | none => rw [hg] at h; cases h
   | some g =>
    rw [hg] at h
    obtain ⟨h1, h2⟩ := List.mem_replicate.1 h
    exact ⟨k, g, h2, by omega, hg, by omega⟩
theorem abv_count {gs : List G3} {y : G3} {j : Nat} {g : G3} (hg : gs[j]? = some g) : ∀ k, (abv gs y k).count (j : Int) = if j < k then hangs g y else 0
 | 0 => by simp [abv]
 | k + 1 => by
  rw [abv, List.count_append, abv_count hg k]
  by_cases hjk : j = k
  ·subst hjk
   rw [hg]
   simp
  ·have e0 : ((match gs[k]? with | some g => List.replicate (hangs g y) ((k : Nat) : Int) | none => []) : List Int).count (j : Int) = 0 := by
    cases gs[k]? with
    | none => rfl
    | some g' =>
     refine List.count_eq_zero.2 fun hm => ?_
     have := (List.mem_replicate.1 hm).2
     omega
   rw [e0, Nat.add_zero]
   by_cases h : j < k
   ·rw [if_pos h, if_pos (by omega)]
   ·rw [if_neg h, if_neg (by omega)]
theorem abv_len (gs : List G3) (y : G3) : ∀ k, (abv gs y k).length <= 2 * k
 | 0 => Nat.le_refl _
 | k + 1 => by
  have ih := abv_len gs y k
  rw [abv, List.length_append]
  cases gs[k]? with
  | none => simp; omega
  | some g =>
   have h1 := one_le (y.1 / 2 = g.2.1 / 2)
   have h2 := one_le (y.1 / 2 = g.2.2 / 2)
   simp only [List.length_replicate, hangs]; omega
theorem not_told {gs : List G3} {L : List Nat} (hP : PreOrd gs L) {i k : Nat} {y g : G3} (hy : gs[i]? = some y) (hg : gs[k]? = some g) (hh : 0 < hangs g y) (hi : i ∉ L) : k ∉ L := by
 intro hk
 obtain ⟨m, hm⟩ := List.mem_iff_getElem?.1 hk
 obtain ⟨g', hg', _, h2⟩ := (hP m k hm).1
 rw [hg] at hg'; cases hg'
 have h3 := h2 i y hy (fun hh => hi (List.mem_of_mem_take hh))
 unfold hangs at hh
 rw [one_no h3.1, one_no h3.2] at hh
 omega

abbrev leT (t : List Int) (p q : Nat) : Prop := ∀ a b, t[p]? = some a -> t[q]? = some b -> a <= b
def HO (t : List Int) : Prop := ∀ j, 0 < j -> j < t.length -> leT t ((j - 1) / 2) j
def UpI (t : List Int) (i : Nat) : Prop := (∀ j, 0 < j -> j < t.length -> j ≠ i -> leT t ((j - 1) / 2) j) /\ ∀ j, 0 < j -> j < t.length -> (j - 1) / 2 = i -> 0 < i -> leT t ((i - 1) / 2) j
def DownI (t : List Int) (i : Nat) : Prop := (∀ j, 0 < j -> j < t.length -> (j - 1) / 2 ≠ i -> leT t ((j - 1) / 2) j) /\ ∀ j, 0 < j -> j < t.length -> (j - 1) / 2 = i -> 0 < i -> leT t ((i - 1) / 2) j
abbrev swp (t : List Int) (i k : Nat) (a b : Int) : List Int := (t.set i b).set k a
theorem swp_len (t : List Int) (i k : Nat) (a b : Int) : (swp t i k a b).length = t.length := by simp
theorem swp_get {t : List Int} {i k : Nat} {a b : Int} (hi : t[i]? = some a) (hk : t[k]? = some b) (j : Nat) : (swp t i k a b)[j]? = if j = k then some a else if j = i then some b else t[j]? := by
 have h1 := lGt hi
 have h2 := lGt hk
 unfold swp
 by_cases e1 : j = k
 ·subst e1; rw [if_pos rfl, List.getElem?_set_self (by simpa using h2)]
 ·rw [if_neg e1, List.getElem?_set_ne (fun h => e1 h.symm)]
  by_cases e2 : j = i
  ·subst e2; rw [if_pos rfl, List.getElem?_set_self h1]
  ·rw [if_neg e2, List.getElem?_set_ne (fun h => e2 h.symm)]
theorem swp_mem {t : List Int} {i k : Nat} {a b : Int} (hi : t[i]? = some a) (hk : t[k]? = some b) (x : Int) : x ∈ swp t i k a b ↔ x ∈ t := by
 rw [List.mem_iff_getElem?, List.mem_iff_getElem?]
 constructor
 ·rintro ⟨j, hj⟩
  rw [swp_get hi hk] at hj
  split at hj
  ·cases hj; exact ⟨i, hi⟩
  ·split at hj
   ·cases hj; exact ⟨k, hk⟩
   ·exact ⟨j, hj⟩
 ·rintro ⟨j, hj⟩
  by_cases e1 : j = k
  ·subst e1
   rw [hk] at hj; cases hj
   by_cases e2 : i = j
   ·subst e2; rw [hk] at hi; cases hi; exact ⟨i, by rw [swp_get hk hk, if_pos rfl]⟩
   ·exact ⟨i, by rw [swp_get hi hk, if_neg e2, if_pos rfl]⟩
  ·by_cases e2 : j = i
   ·subst e2
    rw [hi] at hj; cases hj
    exact ⟨k, by rw [swp_get hi hk, if_pos rfl]⟩
   ·exact ⟨j, by rw [swp_get hi hk, if_neg e1, if_neg e2]; exact hj⟩
theorem UpI.stop {t : List Int} {i : Nat} (h : UpI t i) (hi : i = 0 ∨ leT t ((i - 1) / 2) i) : HO t := fun j h0 hl => by
 by_cases he : j = i
 ·subst he; rcases hi with hi | hi
  ·omega
  ·exact hi
 ·exact h.1 j h0 hl he
theorem UpI.step {t : List Int} {i : Nat} {a b : Int} (h : UpI t i) (h0 : 0 < i) (hi : t[i]? = some a) (hp : t[(i - 1) / 2]? = some b) (hab : a < b) : UpI (swp t i ((i - 1) / 2) a b) ((i - 1) / 2) := by
 have hli := lGt hi
 refine ⟨fun j j0 jl jne x y hx hy => ?_, fun j j0 jl je p0 x y hx hy => ?_⟩
 ·rw [swp_len] at jl
  rw [swp_get hi hp] at hx hy
  rw [if_neg jne] at hy
  by_cases e1 : j = i
  ·subst e1; rw [if_pos rfl] at hx hy; cases hx; cases hy; omega
  ·rw [if_neg e1] at hy
   by_cases e2 : (j - 1) / 2 = (i - 1) / 2
   ·rw [if_pos e2] at hx; cases hx
    have := h.1 j j0 jl e1 b y (by rw [e2]; exact hp) hy
    omega
   ·rw [if_neg e2] at hx
    by_cases e3 : (j - 1) / 2 = i
    ·rw [if_pos e3] at hx; cases hx
     exact h.2 j j0 jl e3 h0 _ y hp hy
    ·rw [if_neg e3] at hx
     exact h.1 j j0 jl e1 x y hx hy
 ·rw [swp_len] at jl
  rw [swp_get hi hp] at hx hy
  rw [if_neg (by omega), if_neg (by omega)] at hx
  have k1 := h.1 ((i - 1) / 2) p0 (lGt hp) (by omega) x b hx hp
  rw [if_neg (by omega)] at hy
  by_cases e1 : j = i
  ·rw [if_pos e1] at hy; cases hy; exact k1
  ·rw [if_neg e1] at hy
   have := h.1 j j0 jl e1 b y (by rw [je]; exact hp) hy
   omega
theorem DownI.stop {t : List Int} {i : Nat} (h : DownI t i) (hc : ∀ j, 0 < j -> j < t.length -> (j - 1) / 2 = i -> leT t i j) : HO t := fun j h0 hl => by
 by_cases he : (j - 1) / 2 = i
 ·rw [he]; exact hc j h0 hl he
 ·exact h.1 j h0 hl he
theorem DownI.step {t : List Int} {i f : Nat} {a b : Int} (h : DownI t i) (f0 : 0 < f) (hf : (f - 1) / 2 = i) (hi : t[i]? = some a) (hp : t[f]? = some b) (hab : b < a) (hc : ∀ j, 0 < j -> j < t.length -> (j - 1) / 2 = i -> ∀ y, t[j]? = some y -> b <= y) : DownI (swp t i f a b) f := by
 have hlf := lGt hp
 refine ⟨fun j j0 jl jne x y hx hy => ?_, fun j j0 jl je p0 x y hx hy => ?_⟩
 ·rw [swp_len] at jl
  rw [swp_get hi hp] at hx hy
  rw [if_neg jne] at hx
  by_cases e1 : (j - 1) / 2 = i
  ·rw [if_pos e1] at hx; cases hx
   by_cases e2 : j = f
   ·rw [if_pos e2] at hy; cases hy; omega
   ·rw [if_neg e2, if_neg (by omega)] at hy
    exact hc j j0 jl e1 y hy
  ·rw [if_neg e1] at hx
   rw [if_neg (fun e => e1 (by subst e; exact hf))] at hy
   by_cases e2 : j = i
   ·rw [if_pos e2] at hy; cases hy
    subst e2
    exact h.2 f f0 hlf hf j0 x _ hx hp
   ·rw [if_neg e2] at hy
    exact h.1 j j0 jl e1 x y hx hy
 ·rw [swp_len] at jl
  rw [swp_get hi hp] at hx hy
  rw [hf, if_neg (by omega), if_pos rfl] at hx; cases hx
  rw [if_neg (by omega), if_neg (by omega)] at hy
  exact h.1 j j0 jl (by omega) _ y (by rw [je]; exact hp) hy
theorem HO.min {t : List Int} (h : HO t) {a : Int} (ha : t[0]? = some a) : ∀ (i : Nat) (b : Int), t[i]? = some b -> a <= b := by
 intro i
 induction i using Nat.strongRecOn with
 | ind i ih =>
  intro b hb
  by_cases h0 : i = 0
  ·subst h0; rw [ha] at hb; cases hb; exact Int.le_refl _
  ·obtain ⟨c, hc⟩ := getI t (show (i - 1) / 2 < t.length by have := lGt hb; omega)
   have h1 := ih ((i - 1) / 2) (by omega) c hc
   have h2 := h i (by omega) (lGt hb) c b hc hb
   omega
structure AtOk (n : Nat) (t at_ : List Int) : Prop where
 len : at_.length = n
 pos : ∀ (i : Nat) (x : Int), t[i]? = some x -> 0 <= x /\ at_[x.toNat]? = some (i : Int)
 out : ∀ v : Nat, v < n -> (v : Int) ∉ t -> at_[v]? = some (-1)
theorem AtOk.inj {n : Nat} {t at_ : List Int} (h : AtOk n t at_) {i j : Nat} {x : Int} (hi : t[i]? = some x) (hj : t[j]? = some x) : i = j := by
 have h1 := (h.pos i x hi).2
 have h2 := (h.pos j x hj).2
 rw [h1] at h2
 have := Option.some.inj h2
 omega
theorem AtOk.lt {n : Nat} {t at_ : List Int} (h : AtOk n t at_) {i : Nat} {x : Int} (hi : t[i]? = some x) : 0 <= x /\ x.toNat < n := by
 have h1 := h.pos i x hi
 exact ⟨h1.1, by rw [<- h.len]; exact lGt h1.2⟩
theorem AtOk.swap {n : Nat} {t at_ : List Int} (h : AtOk n t at_) {i k : Nat} {a b : Int} (hi : t[i]? = some a) (hk : t[k]? = some b) : AtOk n (swp t i k a b) ((at_.set b.toNat (i : Int)).set a.toNat (k : Int)) := by
 have la := h.lt hi
 have lb := h.lt hk
 have hl := h.len
 refine ⟨by simp [hl], fun j x hx => ?_, fun v hv hn => ?_⟩
 ·rw [swp_get hi hk] at hx
  split at hx
  ·rename_i e; cases hx; subst e
   exact ⟨la.1, List.getElem?_set_self (by simp; omega)⟩
  ·rename_i e1
   split at hx
   ·rename_i e2; obtain rfl := Option.some.inj hx; subst e2
    refine ⟨lb.1, ?_⟩
    by_cases e3 : a.toNat = b.toNat
    ·have : a = b := by omega
     subst this
     exact absurd (h.inj hi hk) e1
    ·rw [List.getElem?_set_ne e3, List.getElem?_set_self (by omega)]
   ·rename_i e2
    have hp := h.pos j x hx
    refine ⟨hp.1, ?_⟩
    have n1 : a.toNat ≠ x.toNat := fun e => by
     have : a = x := by omega
     subst this; exact e2 (h.inj hx hi)
    have n2 : b.toNat ≠ x.toNat := fun e => by
     have : b = x := by omega
     subst this; exact e1 (h.inj hx hk)
    rw [List.getElem?_set_ne n1, List.getElem?_set_ne n2]
    exact hp.2
 ·have hn' : (v : Int) ∉ t := fun hm => hn ((swp_mem hi hk _).2 hm)
  have n1 : a.toNat ≠ v := fun e => hn' (by rw [show (v : Int) = a by omega]; exact List.mem_of_getElem? hi)
  have n2 : b.toNat ≠ v := fun e => hn' (by rw [show (v : Int) = b by omega]; exact List.mem_of_getElem? hk)
  rw [List.getElem?_set_ne n1, List.getElem?_set_ne n2]
  exact h.out v hv hn'
theorem AtOk.push {n : Nat} {t at_ : List Int} (h : AtOk n t at_) {v : Nat} (hv : v < n) (hn : (v : Int) ∉ t) : AtOk n (t ++ [(v : Int)]) (at_.set v (t.length : Int)) := by
 have hl := h.len
 refine ⟨by simp [hl], fun j x hx => ?_, fun u hu hm => ?_⟩
 ·by_cases hj : j < t.length
  ·rw [List.getElem?_append_left hj] at hx
   have hp := h.pos j x hx
   refine ⟨hp.1, ?_⟩
   rw [List.getElem?_set_ne (fun e => hn (by rw [show (v : Int) = x by omega]; exact List.mem_of_getElem? hx))]
   exact hp.2
  ·rw [List.getElem?_append_right (by omega)] at hx
   have h0 : j - t.length = 0 := by have := lGt hx; simpa using this
   obtain rfl : j = t.length := by omega
   simp at hx; subst hx
   exact ⟨by omega, by rw [Int.toNat_natCast, List.getElem?_set_self (by omega)]⟩
 ·rw [List.getElem?_set_ne (fun e => hm (by subst e; simp))]
  exact h.out u hu fun hh => hm (by simp [hh])
theorem HO.push {t : List Int} (h : HO t) (x : Int) : UpI (t ++ [x]) t.length := by
 refine ⟨fun j j0 jl jne => ?_, fun j j0 jl je _ => ?_⟩
 ·simp at jl
  intro a b ha hb
  rw [List.getElem?_append_left (by omega)] at ha hb
  exact h j j0 (by omega) a b ha hb
 ·simp at jl; omega
theorem pop_len {t : List Int} {l : Nat} {a b : Int} (hl : t.length = l + 1) : ((swp t 0 l a b).take l).length = l := by simp [hl]
theorem pop_get {t : List Int} {l : Nat} {a b : Int} (hl : t.length = l + 1) (h0 : t[0]? = some a) (hb : t[l]? = some b) (j : Nat) : ((swp t 0 l a b).take l)[j]? = if j < l then (if j = 0 then some b else t[j]?) else none := by
 rw [List.getElem?_take]
 by_cases hj : j < l
 ·rw [if_pos hj, if_pos hj, swp_get h0 hb, if_neg (by omega)]
 ·rw [if_neg hj, if_neg hj]
theorem pop_down {t : List Int} {l : Nat} {a b : Int} (h : HO t) (hl : t.length = l + 1) (h0 : t[0]? = some a) (hb : t[l]? = some b) : DownI ((swp t 0 l a b).take l) 0 := by
 refine ⟨fun j j0 jl jne x y hx hy => ?_, fun j _ _ _ h => absurd h (by omega)⟩
 rw [pop_len hl] at jl
 rw [pop_get hl h0 hb, if_pos (by omega), if_neg (by omega)] at hx hy
 exact h j j0 (by omega) x y hx hy
theorem pop_at {n : Nat} {t at_ : List Int} {l : Nat} {a b : Int} (h : AtOk n t at_) (hl : t.length = l + 1) (h0 : t[0]? = some a) (hb : t[l]? = some b) : AtOk n ((swp t 0 l a b).take l) (((at_.set b.toNat (0 : Int)).set a.toNat (l : Int)).set a.toNat (-1)) := by
 have hs := h.swap h0 hb
 have la := h.lt h0
 refine ⟨by rw [List.length_set]; exact hs.len, fun j x hx => ?_, fun v hv hn => ?_⟩
 ·have hj : j < l := by have := lGt hx; rwa [pop_len hl] at this
  rw [List.getElem?_take, if_pos hj] at hx
  have hp := hs.pos j x hx
  refine ⟨hp.1, ?_⟩
  rw [List.getElem?_set_ne (fun e => ?_)]
  ·exact hp.2
  ·have : a = x := by omega
   subst this
   have := hs.inj hx (show (swp t 0 l a b)[l]? = some a by rw [swp_get h0 hb, if_pos rfl])
   omega
 ·by_cases he : a.toNat = v
  ·subst he; exact List.getElem?_set_self (by have := hs.len; simp only [List.length_set] at this ⊢; omega)
  ·rw [List.getElem?_set_ne he]
   refine hs.out v hv fun hm => hn ?_
   obtain ⟨j, hj⟩ := List.mem_iff_getElem?.1 hm
   have hjl := lGt hj
   rw [swp_len, hl] at hjl
   by_cases e : j = l
   ·subst e
    rw [swp_get h0 hb, if_pos rfl] at hj
    cases hj
    exact absurd (by omega) he
   ·exact List.mem_iff_getElem?.2 ⟨j, by rw [List.getElem?_take, if_pos (by omega)]; exact hj⟩
theorem pop_mem {n : Nat} {t at_ : List Int} {l : Nat} {a b : Int} (h : AtOk n t at_) (hl : t.length = l + 1) (h0 : t[0]? = some a) (hb : t[l]? = some b) (x : Int) : x ∈ (swp t 0 l a b).take l ↔ (x ∈ t /\ x ≠ a) := by
 rw [<- swp_mem h0 hb]
 have hs := h.swap h0 hb
 have hla : (swp t 0 l a b)[l]? = some a := by rw [swp_get h0 hb, if_pos rfl]
 constructor
 ·intro hx
  refine ⟨List.mem_of_mem_take hx, fun he => ?_⟩
  subst he
  obtain ⟨j, hj⟩ := List.mem_iff_getElem?.1 hx
  have hjl : j < l := by have := lGt hj; rwa [pop_len hl] at this
  rw [List.getElem?_take, if_pos hjl] at hj
  have := hs.inj hj hla
  omega
 ·rintro ⟨hx, hne⟩
  obtain ⟨j, hj⟩ := List.mem_iff_getElem?.1 hx
  have hjl := lGt hj
  rw [swp_len, hl] at hjl
  by_cases e : j = l
  ·subst e; rw [hla] at hj; cases hj; exact absurd rfl hne
  ·exact List.mem_iff_getElem?.2 ⟨j, by rw [List.getElem?_take, if_pos (by omega)]; exact hj⟩
end Go.Proofs.YteidpnpbfagaeaaGreat
namespace Go.Lt
open Go.RowKit
section
variable {P : Program} {N : Nat} {e : Env} {w : World} {Q : Exit -> Act -> World -> Prop} {ops : List Oper} {l : List Oper}
 {d : Nat} {tt t ty : TypeId} {ps : String} {af : Array Edge} {g : Option (Nat × Bool)} {x y : Operand}
theorem order00 : FloatKind.f64.format.order 0 0 = some .eq := by decide +kernel
theorem run_f00 (op : BinOp) (b : Bool) (h : (op = .neq /\ b = false) ∨ (op = .eql /\ b = true) ∨ (op = .lss /\ b = false)) (w : World) : (binOp op t (.float .f64 0) (.float .f64 0)).run P w = .ok (.bool b) w := by
 rcases h with ⟨rfl, rfl⟩ | ⟨rfl, rfl⟩ | ⟨rfl, rfl⟩ <;> simp [binOp, Op.floatCmp, order00]
theorem yf00 {op : BinOp} {b : Bool} {dd : Option Tmp} (hx : ev e x = some (.float .f64 0)) (hy : ev e y = some (.float .f64 0)) (h : (op = .neq /\ b = false) ∨ (op = .eql /\ b = true) ∨ (op = .lss /\ b = false)) : Yields P e ⟨dd, .binOp op t x y ty, tt, ps, af, g⟩ (.bool b) := by
 intro ρ hρ w
 have h1 := run_f00 (P := P) (t := t) op b h w
 simp [execOp, hρ _ _ hx, hρ _ _ hy, h1, eqGuard]
theorem WL.f00 {op : BinOp} {b : Bool} (hg : gate ops e g = some true) (hd : Nat.blt d N = true) (hx : ev e x = some (.float .f64 0)) (hy : ev e y = some (.float .f64 0)) (h : (op = .neq /\ b = false) ∨ (op = .eql /\ b = true) ∨ (op = .lss /\ b = false))
  (k : WL P N ops.toArray l ((d, .bool b) :: e) w Q) : WL P N ops.toArray (⟨some d, .binOp op t x y ty, tt, ps, af, g⟩ :: l) e w Q := WL.step hg hd (yf00 hx hy h).in k
end
end Go.Lt
