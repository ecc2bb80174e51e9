/- Part 3 of what the claim UnrollPlays needs: lemmas and contracts, printed from longer texts. No conditions. -/
import Derived.Test.YteidpnpbfagaeaaGreatRows
import Derived.Lib.SmallJoins
import Derived.KernelRfl
import Derived.WalkKit
import Derived.ProofKit
import Derived.Deep.Quiet
import Derived.Deep.LoopGhost
import Derived.StillTail
import Derived.Test.YteidpnpbfagaeaaGreatProg
import Derived.OpenShut
import Derived.ShutString
import Derived.ChangeOld
import Derived.Deep.Slices
import Derived.SizedLaws
import Derived.Laws.StructEq
import Derived.Laws.Externs
import Derived.MapKept
import Derived.JoinedCond
import Derived.Test.YteidpnpbfagaeaaGreatUnrollPlaysP2
namespace Go.Proofs.YteidpnpbfagaeaaGreat
open Go Go.Lt Go.RowKit
set_option linter.unusedVariables false
set_option linter.unusedSimpArgs false
set_option maxRecDepth 20000

abbrev AtSt (w0 : World) (gs r : Nat) (rest : List Piece) (q : Int × List (Int × Int)) (v : Value) (w' : World) : Prop :=
 Ext w0 w' ∧ ∃ a' cap', v = .int .i64 q.1 ∧ Sep w0.heap.size w' (stN w0.heap.size gs a' cap' r q.2 ++ rest)
abbrev Keeps (w0 : World) (gs r : Nat) (rest : List Piece) (p : World → Prop) : Prop :=
 ∀ w' a' cap' N', Ext w0 w' → Sep w0.heap.size w' (stN w0.heap.size gs a' cap' r N' ++ rest) → p w'

theorem aig_And (gs r cap : Nat) (a : Option Addr) (N : List (Int × Int)) (x y : Int) (rest : List Piece) (w w0 : World) (hX : Ext w0 w) (hS : Sep w0.heap.size w (stN w0.heap.size gs a cap r N ++ rest)) (hN : N.length < 1048576) :
  Lt.Spec Tryz.prog 152 [.pointer (some ⟨gs, 0, none⟩), .int .i64 x, .int .i64 y] w (AtSt w0 gs r rest (andV N x y)) := by
 by_cases hxy : x ≤ y
 ·refine (aig_AndLe gs r cap a N (gmN N) x y rest w w0 hX hS hN hxy).mono ?_
  rintro v w' ⟨h1, a', cap', h2, h3⟩
  rw [andF_M hxy] at h3
  have e : andV N x y = ((andF N (gmN N) x y).v, (andF N (gmN N) x y).N) := if_pos hxy
  rw [e]
  exact ⟨h1, a', cap', h2, h3⟩
 ·refine (aig_AndGt gs r cap a N (gmN N) x y rest w w0 hX hS hN (by omega)).mono ?_
  rintro v w' ⟨h1, a', cap', h2, h3⟩
  rw [andF_M (by omega)] at h3
  have e : andV N x y = ((andF N (gmN N) y x).v, (andF N (gmN N) y x).N) := if_neg hxy
  rw [e]
  exact ⟨h1, a', cap', h2, h3⟩
theorem aig_InputV (gs r cap : Nat) (a : Option Addr) (N : List (Int × Int)) (rest : List Piece) (w w0 : World) (hX : Ext w0 w) (hS : Sep w0.heap.size w (stN w0.heap.size gs a cap r N ++ rest)) (hN : N.length < 1048576) :
  Lt.Spec Tryz.prog 50 [.pointer (some ⟨gs, 0, none⟩)] w (AtSt w0 gs r rest (2 * ((N.length : Int) + 1), N ++ [(-1, 0)])) := by
 refine (aig_Input gs r cap a N (gmN N) rest w w0 hX hS hN).mono ?_
 rintro v w' ⟨h1, a', cap', h2, h3⟩
 have e : gmN N = gmN (N ++ [(-1, 0)]) := (gm_snoc_in N (x := (-1, 0)) (by decide)).symm
 rw [e] at h3
 exact ⟨h1, a', cap', h2, h3⟩
theorem aig_NewV (w w0 : World) (rest : List Piece) (hX : Ext w0 w) (hS : Sep w0.heap.size w rest) :
  Lt.Spec Tryz.prog 48 [] w (fun v w' => Ext w w' ∧ ∃ gs r, v = .pointer (some ⟨gs, 0, none⟩) ∧ Sep w0.heap.size w' (stN w0.heap.size gs none 0 r [] ++ rest)) := by
 refine Spec.of _ Tryz.func48 rfl Tryz.ntmps48 (by kernel_rfl) rfl ?_
 repeat' (first
  | ((apply WL.makeMap (kv := kvN) (vv := vvI); exact rfl; exact rfl; intro r w1 hM hge1 hx1))
  | (apply WL.build tOk; (iterate 7 exact rfl); kernel_rfl)
  | (apply WL.box; (iterate 3 exact rfl); intro gb w' hb hge hc hx; have hcc := hc; ((obtain ⟨h1, h2, h3, _⟩ := hc)))
  | (show WL _ _ _ _ _ _ _; first | apply WL.nil | (refine WL.au (k := ?_)))
  | (show Z _ _ _ _ _; apply Z.then_normal)
  | (show W _ _ _ _ _ _; first | apply W.seq | apply W.region | apply W.ret)
  | fail)
 have hB : w0.heap.size ≤ w.heap.size := hX.size
 have hS1 : Lt.Sep w0.heap.size w1 (pmap kvN vvI r [] :: rest) := Sep.newMap hS hx1 hM hge1 hB
 have hS2 : Lt.Sep w0.heap.size w1 (prow 2 encN 84 w0.heap.size none 0 [] :: pmap kvN vvI r [] :: rest) := Sep.newRow hS1 (Ext.refl _) Own.nil (fun k hk => by cases hk) (Nat.le_trans hB hx1.size)
 have hS : Lt.Sep w0.heap.size w' (stN w0.heap.size gb none 0 r [] ++ rest) := Sep.newCell hS2 hx hb hge (Nat.le_trans hB hx1.size)
 exact Z.body1 Tryz.results48 rfl fun m => ⟨Ext.at extA m, gb, r, rfl, hS.ext ((Ext.refl _).at m)⟩

noncomputable def orV (N : List (Int × Int)) (x y : Int) : Int × List (Int × Int) := (notL (andV N (notL x) (notL y)).1, (andV N (notL x) (notL y)).2)
noncomputable def muxV (N : List (Int × Int)) (c x y : Int) : Int × List (Int × Int) :=
 bif dec (hasL N c ∧ hasL N x ∧ hasL N y) then orV (andV (andV N c x).2 (notL c) y).2 (andV N c x).1 (andV (andV N c x).2 (notL c) y).1 else (-1, N)
noncomputable def xorV (N : List (Int × Int)) (x y : Int) : Int × List (Int × Int) := muxV N x (notL y) y
theorem notL_has {N : List (Int × Int)} {x : Int} (h : hasL N x) : hasL N (notL x) := by
 unfold hasL at h ⊢
 unfold notL Lt.xor1
 split
 ·omega
 ·split <;> omega
theorem notL_xor1 {x : Int} (h : 0 ≤ x) : notL x = Lt.xor1 x := by unfold notL; rw [if_neg (by omega)]
theorem orV_len (N : List (Int × Int)) (x y : Int) : N.length ≤ (orV N x y).2.length ∧ (orV N x y).2.length ≤ N.length + 1 := andV_len _ _ _
theorem orV_has {N : List (Int × Int)} {x y : Int} (hx : hasL N x) (hy : hasL N y) : hasL (orV N x y).2 (orV N x y).1 := notL_has (andV_has (notL_has hx) (notL_has hy))
theorem orV_grow (N : List (Int × Int)) (x y : Int) : Grow N (orV N x y).2 := .gate _ _ (.refl N)
theorem muxV_yes {N : List (Int × Int)} {c x y : Int} (h : hasL N c ∧ hasL N x ∧ hasL N y) : muxV N c x y = orV (andV (andV N c x).2 (notL c) y).2 (andV N c x).1 (andV (andV N c x).2 (notL c) y).1 := by unfold muxV; rw [dec_true h]; rfl
theorem muxV_no {N : List (Int × Int)} {c x y : Int} (h : ¬ (hasL N c ∧ hasL N x ∧ hasL N y)) : muxV N c x y = (-1, N) := by unfold muxV; rw [dec_false h]; rfl
theorem muxV_grow (N : List (Int × Int)) (c x y : Int) : Grow N (muxV N c x y).2 := by
 by_cases h : hasL N c ∧ hasL N x ∧ hasL N y
 ·rw [muxV_yes h]; exact .gate _ _ (.gate _ _ (.gate _ _ (.refl N)))
 ·rw [muxV_no h]; exact .refl N
theorem muxV_len (N : List (Int × Int)) (c x y : Int) : N.length ≤ (muxV N c x y).2.length ∧ (muxV N c x y).2.length ≤ N.length + 3 := by
 by_cases h : hasL N c ∧ hasL N x ∧ hasL N y
 ·rw [muxV_yes h]
  have h1 := andV_len N c x
  have h2 := andV_len (andV N c x).2 (notL c) y
  have h3 := orV_len (andV (andV N c x).2 (notL c) y).2 (andV N c x).1 (andV (andV N c x).2 (notL c) y).1
  omega
 ·rw [muxV_no h]; dsimp only; omega
theorem muxV_has {N : List (Int × Int)} {c x y : Int} (hc : hasL N c) (hx : hasL N x) (hy : hasL N y) : hasL (muxV N c x y).2 (muxV N c x y).1 := by
 rw [muxV_yes ⟨hc, hx, hy⟩]
 have l2 := (andV_len (andV N c x).2 (notL c) y).1
 have l1 := (andV_len N c x).1
 exact orV_has (hasL_mono (andV_has hc hx) l2) (andV_has (hasL_mono (notL_has hc) l1) (hasL_mono hy l1))
theorem aig_OrV (gs r cap : Nat) (a : Option Addr) (N : List (Int × Int)) (x y : Int) (rest : List Piece) (w w0 : World) (hX : Ext w0 w) (hS : Sep w0.heap.size w (stN w0.heap.size gs a cap r N ++ rest)) (hN : N.length < 1048576) (hbx : x ≤ 9223372036854775807) (hby : y ≤ 9223372036854775807) :
  Lt.Spec Tryz.prog 124 [.pointer (some ⟨gs, 0, none⟩), .int .i64 x, .int .i64 y] w (AtSt w0 gs r rest (orV N x y)) := by
 have hl := andV_len N (notL x) (notL y)
 have hle := andV_le N (notL x) (notL y)
 have hb9 : (andV N (notL x) (notL y)).1 ≤ 9223372036854775807 := by omega
 refine Spec.of _ Tryz.func124 rfl Tryz.ntmps124 (by kernel_rfl) rfl ?_
 repeat' (first
  | ((show WL _ _ _ (⟨_, .call ⟨.value (.func 157), _, _⟩, _, _, _, _⟩ :: _) _ _ _); apply WL.callS; (iterate 4 exact rfl); exact aig_notA _ _ (by assumption))
  | (((show WL _ _ _ (⟨_, .call ⟨.value (.func 152), _, _⟩, _, _, _, _⟩ :: _) _ _ _); apply WL.call; (iterate 4 exact rfl); exact aig_And gs r cap a N _ _ rest _ w0 hX hS hN; rintro v' w' ⟨hX2, a', cap', rfl, hS2⟩))
  | (show WL _ _ _ _ _ _ _; first | apply WL.nil | (refine WL.au (k := ?_)))
  | (show Z _ _ _ _ _; apply Z.then_normal)
  | (show W _ _ _ _ _ _; first | apply W.seq | apply W.region | apply W.ret)
  | fail)
 exact Z.body1 Tryz.results124 rfl fun m => ⟨hX2.at m, a', cap', rfl, hS2.ext ((Ext.refl _).at m)⟩

set_option maxHeartbeats 4000000 in
theorem aig_MuxV (gs r cap : Nat) (a : Option Addr) (N : List (Int × Int)) (c x y : Int) (rest : List Piece) (w w0 : World) (hX : Ext w0 w) (hS : Sep w0.heap.size w (stN w0.heap.size gs a cap r N ++ rest)) (hN : N.length + 3 < 1048576) (hbc : c ≤ 9223372036854775807) :
  Lt.Spec Tryz.prog 156 [.pointer (some ⟨gs, 0, none⟩), .int .i64 c, .int .i64 x, .int .i64 y] w (AtSt w0 gs r rest (muxV N c x y)) := by
 have hC0 := hS.cell (i := 0) rfl
 by_cases hh : hasL N c ∧ hasL N x ∧ hasL N y
 ·have hall : ∀ z ∈ [c, x, y], hasL N z := by
   intro z hz; simp only [List.mem_cons, List.not_mem_nil, or_false] at hz; rcases hz with rfl | rfl | rfl
   ·exact hh.1
   ·exact hh.2.1
   ·exact hh.2.2
  have e := muxV_yes hh
  have l1 := andV_len N c x
  have l2 := andV_len (andV N c x).2 (notL c) y
  have b1 := andV_has hh.1 hh.2.1
  have q0 : ¬ (andV N c x).1 < 0 := by have := b1.1; omega
  have q1 : (andV N c x).1 ≤ 9223372036854775807 := by have := b1.2; omega
  have q2 : (andV (andV N c x).2 (notL c) y).1 ≤ 9223372036854775807 := by have := andV_le (andV N c x).2 (notL c) y; omega
  have k1 : (andV N c x).2.length < 1048576 := by omega
  have k2 : (andV (andV N c x).2 (notL c) y).2.length < 1048576 := by omega
  refine Spec.of _ Tryz.func156 rfl Tryz.ntmps156 (by kernel_rfl) rfl ?_
  repeat' (first
   | (apply WL.lit tOk; (iterate 6 exact rfl); (kernel_rfl); exact rfl; intro gb w' hb hge hc hx; have hO := Own.of_block ([c, x, y]) encI_ok hb hge rfl)
   | ((show WL _ _ _ (⟨_, .call ⟨.value (.func 150), _, _⟩, _, _, _, _⟩ :: _) _ _ _); apply WL.callP; (iterate 4 exact rfl); exact aig_has _ _ _ _ _ N [c, x, y] _ _ (Ext.heap extA hC0) (Own.row encI_ok (by assumption)) (by omega); intro w' hx)
   | (apply W.condKF; exact rfl; (focus ((rw [dec_true hall]; rfl); done)))
   | (show WL _ _ _ _ _ _ _; first | apply WL.nil | (refine WL.au (k := ?_)))
   | (show Z _ _ _ _ _; apply Z.then_normal)
   | (show W _ _ _ _ _ _; first | apply W.seq | apply W.region | apply W.skip)
   | fail)
  have hS1 := hS.ext (show Ext w w' from extA)
  have hX1 : Ext w0 w' := extA
  rw [e]
  repeat' (first
   | ((show WL _ _ _ (⟨_, .call ⟨.value (.func 157), _, _⟩, _, _, _, _⟩ :: _) _ _ _); apply WL.callS; (iterate 4 exact rfl); exact aig_notA _ _ (by assumption))
   | (apply W.condKF; exact rfl; (focus (exact dec_false q0; done)))
   | (((show WL _ _ _ (⟨_, .call ⟨.value (.func 152), _, _⟩, _, _, _, _⟩ :: _) _ _ _); apply WL.call; (iterate 4 exact rfl); exact aig_And gs r _ _ N _ _ rest _ w0 hX1 hS1 (by omega); rintro v' w' ⟨hX2, a', cap', rfl, hS2⟩))
   | (((show WL _ _ _ (⟨_, .call ⟨.value (.func 152), _, _⟩, _, _, _, _⟩ :: _) _ _ _); apply WL.call; (iterate 4 exact rfl); exact aig_And gs r _ _ (andV N c x).2 _ _ rest _ w0 hX2 hS2 k1; rintro v' w' ⟨hX2, a', cap', rfl, hS2⟩))
   | (((show WL _ _ _ (⟨_, .call ⟨.value (.func 124), _, _⟩, _, _, _, _⟩ :: _) _ _ _); apply WL.call; (iterate 4 exact rfl); exact aig_OrV gs r _ _ (andV (andV N c x).2 (notL c) y).2 _ _ rest _ w0 hX2 hS2 k2 q1 q2; rintro v' w' ⟨hX2, a', cap', rfl, hS2⟩))
   | (show WL _ _ _ _ _ _ _; first | apply WL.nil | (refine WL.au (k := ?_)))
   | (show Z _ _ _ _ _; apply Z.then_normal)
   | (show W _ _ _ _ _ _; first | apply W.seq | apply W.region | apply W.skip | apply W.ret)
   | fail)
  exact Z.body1 Tryz.results156 rfl fun m => ⟨hX2.at m, a', cap', rfl, hS2.ext ((Ext.refl _).at m)⟩
 ·have hall : ¬ ∀ z ∈ [c, x, y], hasL N z := fun h => hh ⟨h _ (by simp), h _ (by simp), h _ (by simp)⟩
  rw [muxV_no hh]
  refine Spec.of _ Tryz.func156 rfl Tryz.ntmps156 (by kernel_rfl) rfl ?_
  repeat' (first
   | (apply WL.lit tOk; (iterate 6 exact rfl); (kernel_rfl); exact rfl; intro gb w' hb hge hc hx; have hO := Own.of_block ([c, x, y]) encI_ok hb hge rfl)
   | ((show WL _ _ _ (⟨_, .call ⟨.value (.func 150), _, _⟩, _, _, _, _⟩ :: _) _ _ _); apply WL.callP; (iterate 4 exact rfl); exact aig_has _ _ _ _ _ N [c, x, y] _ _ (Ext.heap extA hC0) (Own.row encI_ok (by assumption)) (by omega); intro w' hx)
   | (apply W.condKT; exact rfl; (focus ((rw [dec_false hall]; rfl); done)))
   | (show WL _ _ _ _ _ _ _; first | apply WL.nil | (refine WL.au (k := ?_)))
   | (show Z _ _ _ _ _; first | apply Z.then_normal | apply Z.then_ret)
   | (show W _ _ _ _ _ _; first | apply W.seq | apply W.region | apply W.ret)
   | fail)
  have hS1 := hS.ext (show Ext w w' from extA)
  exact Z.body1 Tryz.results156 rfl fun m => ⟨Ext.at extA m, a, cap, rfl, hS1.ext ((Ext.refl _).at m)⟩

theorem aig_XorV (gs r cap : Nat) (a : Option Addr) (N : List (Int × Int)) (x y : Int) (rest : List Piece) (w w0 : World) (hX : Ext w0 w) (hS : Sep w0.heap.size w (stN w0.heap.size gs a cap r N ++ rest)) (hN : N.length + 3 < 1048576) (hbx : x ≤ 9223372036854775807) (hby : y ≤ 9223372036854775807) :
  Lt.Spec Tryz.prog 123 [.pointer (some ⟨gs, 0, none⟩), .int .i64 x, .int .i64 y] w (AtSt w0 gs r rest (xorV N x y)) := by
 refine Spec.of _ Tryz.func123 rfl Tryz.ntmps123 (by kernel_rfl) rfl ?_
 repeat' (first
  | ((show WL _ _ _ (⟨_, .call ⟨.value (.func 157), _, _⟩, _, _, _, _⟩ :: _) _ _ _); apply WL.callS; (iterate 4 exact rfl); exact aig_notA _ _ (by assumption))
  | (((show WL _ _ _ (⟨_, .call ⟨.value (.func 156), _, _⟩, _, _, _, _⟩ :: _) _ _ _); apply WL.call; (iterate 4 exact rfl); exact aig_MuxV gs r cap a N _ _ _ rest _ w0 hX hS hN hbx; rintro v' w' ⟨hX2, a', cap', rfl, hS2⟩))
  | (show WL _ _ _ _ _ _ _; first | apply WL.nil | (refine WL.au (k := ?_)))
  | (show Z _ _ _ _ _; apply Z.then_normal)
  | (show W _ _ _ _ _ _; first | apply W.seq | apply W.region | apply W.ret)
  | fail)
 exact Z.body1 Tryz.results123 rfl fun m => ⟨hX2.at m, a', cap', rfl, hS2.ext ((Ext.refl _).at m)⟩

end Go.Proofs.YteidpnpbfagaeaaGreat
namespace Go.Proofs.YteidpnpbfagaeaaGreat
open Go Go.Lt Go.RowKit
set_option linter.unusedVariables false
set_option linter.unusedSimpArgs false
set_option maxRecDepth 20000

noncomputable def litI (l : List Int) (x : Int) : Int := xorI (l.getD (x / 2).toNat 0) (x % 2)
noncomputable def cstep (ins : List Int) (s : List Int × Nat × List (Int × Int)) (x : Int × Int) : List Int × Nat × List (Int × Int) :=
 if 0 ≤ x.1 then (s.1 ++ [(andV s.2.2 (litI s.1 x.1) (litI s.1 x.2)).1], s.2.1, (andV s.2.2 (litI s.1 x.1) (litI s.1 x.2)).2)
 else if s.2.1 < ins.length then (s.1 ++ [ins.getD s.2.1 0], s.2.1 + 1, s.2.2)
 else (s.1 ++ [2 * ((s.2.2.length : Int) + 1)], s.2.1 + 1, s.2.2 ++ [(-1, 0)])
noncomputable def cto (N n : List (Int × Int)) (ins : List Int) (k : Nat) : List Int × Nat × List (Int × Int) := (n.take k).foldl (cstep ins) ([0], 0, N)
noncomputable def copyV (N n : List (Int × Int)) (ins : List Int) : List Int × List (Int × Int) := bif dec (∀ z ∈ ins, hasL N z) then ((cto N n ins n.length).1, (cto N n ins n.length).2.2) else ([], N)
theorem cto_succ {N n : List (Int × Int)} {ins : List Int} {k : Nat} {x : Int × Int} (h : n[k]? = some x) : cto N n ins (k + 1) = cstep ins (cto N n ins k) x := by
 unfold cto; rw [take_succ' h, List.foldl_append]; rfl
theorem hasL_xor1 {N : List (Int × Int)} {x : Int} (h : hasL N x) : hasL N (Lt.xor1 x) := by
 unfold hasL at h ⊢
 unfold Lt.xor1
 split <;> omega
theorem hasL_litI {N : List (Int × Int)} {l : List Int} {x : Int} (h : ∀ z ∈ l, hasL N z) (hx : (x / 2).toNat < l.length) : hasL N (litI l x) := by
 obtain ⟨z, hz⟩ := getI l hx
 have := h z (List.mem_of_getElem? hz)
 unfold litI xorI
 rw [getD_of hz]
 split
 ·exact hasL_xor1 this
 ·exact this
theorem cto_inv {N n : List (Int × Int)} {ins : List Int} (hg : GoodNet n) (h : ∀ z ∈ ins, hasL N z) : ∀ k, k ≤ n.length →
  (cto N n ins k).1.length = k + 1 ∧ (∀ z ∈ (cto N n ins k).1, hasL (cto N n ins k).2.2 z) ∧ N.length ≤ (cto N n ins k).2.2.length ∧ (cto N n ins k).2.2.length ≤ N.length + k ∧ Grow N (cto N n ins k).2.2 ∧ (cto N n ins k).2.1 ≤ k
 | 0, _ => by
  refine ⟨rfl, fun z hz => ?_, Nat.le_refl _, Nat.le_refl _, .refl N, Nat.le_refl _⟩
  obtain rfl : z = 0 := by simpa [cto] using hz
  unfold hasL; omega
 | k + 1, hk => by
  obtain ⟨x, hx⟩ := getI n (show k < n.length by omega)
  obtain ⟨i1, i2, i3, i4, i5, i6⟩ := cto_inv hg h k (by omega)
  rw [cto_succ hx]
  generalize cto N n ins k = s at i1 i2 i3 i4 i5 i6
  unfold cstep
  split
  ·rename_i h0
   have hgt := hg.gate hx h0
   have hl := andV_len s.2.2 (litI s.1 x.1) (litI s.1 x.2)
   have hv := andV_has (hasL_litI i2 (x := x.1) (by omega)) (hasL_litI i2 (x := x.2) (by omega))
   refine ⟨by simp [i1], fun z hz => ?_, by dsimp only; omega, by dsimp only; omega, .gate _ _ i5, by dsimp only; omega⟩
   rcases List.mem_append.1 hz with h1 | h1
   ·exact hasL_mono (i2 z h1) hl.1
   ·obtain rfl := List.mem_singleton.1 h1; exact hv
  ·split
   ·rename_i h0 h1
    refine ⟨by simp [i1], fun z hz => ?_, i3, by dsimp only; omega, i5, by dsimp only; omega⟩
    rcases List.mem_append.1 hz with h2 | h2
    ·exact i2 z h2
    ·obtain rfl := List.mem_singleton.1 h2
     obtain ⟨y, hy⟩ := getI ins h1
     rw [getD_of hy]
     exact hasL_mono (h y (List.mem_of_getElem? hy)) i3
   ·refine ⟨by simp [i1], fun z hz => ?_, by simp; omega, by simp; omega, .input i5, by dsimp only; omega⟩
    rcases List.mem_append.1 hz with h2 | h2
    ·exact hasL_mono (i2 z h2) (by simp)
    ·obtain rfl := List.mem_singleton.1 h2
     unfold hasL; simp; omega

theorem Sep.back32 {B : Nat} {w : World} {p q a b c : Piece} {rs : List Piece} (hS : Sep B w (p :: q :: a :: b :: c :: rs)) : Sep B w (a :: b :: c :: p :: q :: rs) := by
 refine Sep.sub' (fun i => if i < 3 then i + 2 else if i < 5 then i - 3 else i) hS (fun i x h => ?_) (fun i j hi hj hne => ?_)
 ·match i, h with
  | 0, h => exact h
  | 1, h => exact h
  | 2, h => exact h
  | 3, h => exact h
  | 4, h => exact h
  | i + 5, h =>
   simp only [show ¬ i + 5 < 3 by omega, show ¬ i + 5 < 5 by omega, if_false]; exact h
 ·split <;> split <;> (try split) <;> (try split) <;> omega
theorem Sep.back31 {B : Nat} {w : World} {p a b c : Piece} {rs : List Piece} (hS : Sep B w (p :: a :: b :: c :: rs)) : Sep B w (a :: b :: c :: p :: rs) := by
 refine Sep.sub' (fun i => if i < 3 then i + 1 else if i < 4 then i - 3 else i) hS (fun i x h => ?_) (fun i j hi hj hne => ?_)
 ·match i, h with
  | 0, h => exact h
  | 1, h => exact h
  | 2, h => exact h
  | 3, h => exact h
  | i + 4, h =>
   simp only [show ¬ i + 4 < 3 by omega, show ¬ i + 4 < 4 by omega, if_false]; exact h
 ·split <;> split <;> (try split) <;> (try split) <;> omega
theorem Sep.drop34 {B : Nat} {w : World} {p q a b c : Piece} {rs : List Piece} (hS : Sep B w (a :: b :: c :: p :: q :: rs)) : Sep B w (a :: b :: c :: rs) := by
 refine Sep.sub' (fun i => if i < 3 then i else i + 2) hS (fun i x h => ?_) (fun i j hi hj hne => ?_)
 ·match i, h with
  | 0, h => exact h
  | 1, h => exact h
  | 2, h => exact h
  | i + 3, h => simp only [show ¬ i + 3 < 3 by omega, if_false]; exact h
 ·split <;> split <;> omega
theorem Sep.drop3 {B : Nat} {w : World} {p a b c : Piece} {rs : List Piece} (hS : Sep B w (a :: b :: c :: p :: rs)) : Sep B w (a :: b :: c :: rs) := by
 refine Sep.sub' (fun i => if i < 3 then i else i + 1) hS (fun i x h => ?_) (fun i j hi hj hne => ?_)
 ·match i, h with
  | 0, h => exact h
  | 1, h => exact h
  | 2, h => exact h
  | i + 3, h => simp only [show ¬ i + 3 < 3 by omega, if_false]; exact h
 ·split <;> split <;> omega

theorem aig_Copy1 (g7 lc : Nat) (la : Option Addr) (L : List Int) (x z : Int) (w : World) (hc : w.heap[g7]? = some (.cells #[.slice la L.length lc] 22 (0, 0))) (RL : Row 1 encI w la L) (hz : L[(x / 2).toNat]? = some z) (hx : 0 ≤ x ∧ x ≤ 9223372036854775807) (hz0 : 0 ≤ z ∧ z ≤ 9223372036854775806) :
  Still Tryz.prog 151 ([.int .i64 x] ++ [.pointer (some ⟨g7, 0, none⟩)]) w (.int .i64 (litI L x)) := by
 obtain ⟨h1, _⟩ := cells_heap hc
 have hl := RL.len
 rw [litI, getD_of hz]
 refine Spec.of _ Tryz.func151 rfl Tryz.ntmps151 (by kernel_rfl) rfl ?_
 repeat' (first
  | (apply WL.and1; (iterate 4 exact rfl); omega)
  | (apply WL.xorI; (iterate 4 exact rfl); omega; omega)
  | (show WL _ _ _ _ _ _ _; first | apply WL.nil | (refine WL.au (k := ?_)) | (apply WL.index tOk; (iterate 8 exact rfl); assumption; (exact extA); exact rfl; omega; assumption; intro b off h; have hcc := h; first | (obtain ⟨h1, h2, h3, h4, h5, h6, _⟩ := h) | (obtain ⟨h1, h2, h3, _⟩ := h) | (obtain ⟨h1, h2, _⟩ := h) | (obtain ⟨h1, _⟩ := h)))
  | (show Z _ _ _ _ _; apply Z.then_normal)
  | (show W _ _ _ _ _ _; first | apply W.seq | apply W.region | apply W.ret)
  | fail)
 exact Z.body1 Tryz.results151 rfl fun m => ⟨rfl, m, rfl⟩

abbrev AtCopy (w0 : World) (gs r : Nat) (rest : List Piece) (q : List Int × List (Int × Int)) (v : Value) (w' : World) : Prop :=
 Ext w0 w' ∧ ∃ a' cap' la lc, v = .slice la q.1.length lc ∧ Sep w0.heap.size w' (stN w0.heap.size gs a' cap' r q.2 ++ (prow 1 encI 3 w0.heap.size la lc q.1 :: rest))

set_option maxHeartbeats 8000000 in
theorem aig_CopyV (gs r cap cn cl : Nat) (a an al : Option Addr) (N n : List (Int × Int)) (ins : List Int) (rest : List Piece) (w w0 : World) (hX : Ext w0 w) (hS : Sep w0.heap.size w (stN w0.heap.size gs a cap r N ++ rest)) (hN : N.length + n.length < 1048576) (hg : GoodNet n) (hcl : ins.length ≤ cl)
  (hn : Keeps w0 gs r rest (fun w' => Row 2 encN w' an n)) (hi : Keeps w0 gs r rest (fun w' => Row 1 encI w' al ins)) :
  Lt.Spec Tryz.prog 103 [.pointer (some ⟨gs, 0, none⟩), .slice an n.length cn, .slice al ins.length cl] w (AtCopy w0 gs r rest (copyV N n ins)) := by
 have hC0 := hS.cell (i := 0) rfl
 have RI := hi w a cap N hX hS
 have hli := RI.len
 by_cases hh : ∀ z ∈ ins, hasL N z
 ·have e : copyV N n ins = ((cto N n ins n.length).1, (cto N n ins n.length).2.2) := by unfold copyV; rw [dec_true hh]; rfl
  rw [e]
  refine Spec.of _ Tryz.func103 rfl Tryz.ntmps103 (by kernel_rfl) rfl ?_
  repeat' (first
   | ((show WL _ _ _ (⟨_, .call ⟨.value (.func 150), _, _⟩, _, _, _, _⟩ :: _) _ _ _); apply WL.callP; (iterate 4 exact rfl); exact aig_has _ _ _ _ _ N ins _ _ hC0 RI (by omega); intro w' hx)
   | (apply W.condKF; exact rfl; (focus ((rw [dec_true hh]; rfl); done)))
   | (show WL _ _ _ _ _ _ _; first | apply WL.nil | (refine WL.au (k := ?_)))
   | (show Z _ _ _ _ _; apply Z.then_normal)
   | (show W _ _ _ _ _ _; first | apply W.seq | apply W.region | apply W.skip)
   | fail)
  have hx1 := hx
  obtain ⟨w1, rfl⟩ : ∃ x, x = w' := ⟨_, rfl⟩
  replace hS := hS.ext hx1
  have hX1 : Ext w0 w1 := hX.trans hx1
  repeat' (first
   | (apply WL.makeC (w0 := w0) (z := (0:Int)) tOk; (iterate 9 exact rfl); exact encI_ok; exact rfl; exact rfl; (exact extA); (omega); intro gb w' hO hge hx)
   | fail)
  obtain ⟨gl, rfl⟩ : ∃ x, x = gb := ⟨_, rfl⟩
  replace hS := Sep.newRow hS hx (hO : Own 1 encI 3 w0.heap.size w' _ _ [0]) (fun k hk => by cases hk; exact hge) hX1.size
  repeat' (first
   | (apply WL.alloc tOk; (iterate 3 exact rfl); intro gb w' hb hge hx; replace hS := Sep.newCell (Sep.ext hS extA) hx hb hge (by (exact Below.size extA)); (try simp only [List.set_cons_zero, List.set_cons_succ] at hS); (try have hR1 := hS.row (i := 1) rfl); (try have hR3 := hS.row (i := 3) rfl); (try have hC0 := hS.cell (i := 0) rfl); (try have hD0 := (cells_heap hC0).1); (try have hC2 := hS.cell (i := 2) rfl); (try have hD2 := (cells_heap hC2).1); (try have hE2 := (cells_heap hC2).2.1); (try have hM4 := hS.map (i := 4) rfl))
   | (apply WL.storeB (w0 := w0) tOk; (iterate 4 exact rfl); assumption; (exact extA); (iterate 3 exact rfl); (exact extA); ((focus (apply Nat.le_trans; rotate_left; assumption; exact Below.size extA; done))); intro w' hb hc hX' hU; have hcc := hc; obtain ⟨h1, h2, _⟩ := hc; (replace hS := Sep.updCell (i := 0) rfl hU hb hS extA (by (exact Below.size extA))); (try simp only [List.set_cons_zero, List.set_cons_succ] at hS); (try have hR1 := hS.row (i := 1) rfl); (try have hR3 := hS.row (i := 3) rfl); (try have hC0 := hS.cell (i := 0) rfl); (try have hD0 := (cells_heap hC0).1); (try have hC2 := hS.cell (i := 2) rfl); (try have hD2 := (cells_heap hC2).1); (try have hE2 := (cells_heap hC2).2.1); (try have hM4 := hS.map (i := 4) rfl))
   | (show WL _ _ _ _ _ _ _; first | apply WL.nil | (refine WL.au (k := ?_)))
   | (show Z _ _ _ _ _; apply Z.then_normal)
   | (show W _ _ _ _ _ _; first | apply W.seq | apply W.region | apply W.block)
   | fail)
  have hS0 := Sep.back32 hS
  obtain ⟨g7, rfl⟩ : ∃ x, x = gb := ⟨_, rfl⟩
  refine W.loopO2 n.length (fun k la lc bi bd w' => k ≤ n.length ∧ Ext w0 w' ∧ (∃ a' cap', Sep w0.heap.size w' (stN w0.heap.size gs a' cap' r (cto N n ins k).2.2 ++ (pcell g7 #[.slice la (cto N n ins k).1.length lc] 22 :: prow 1 encI 3 w0.heap.size la lc (cto N n ins k).1 :: rest))) ∧ Keeps w0 gs r rest (fun w' => Row 1 encI w' bi (ins.drop (cto N n ins k).2.1)) ∧ (ins.drop (cto N n ins k).2.1).length ≤ bd)
   (fun k la lc bi bd => [(0, .pointer (some ⟨gs, 0, none⟩)), (2, .slice bi (ins.drop (cto N n ins k).2.1).length bd), (7, .pointer (some ⟨g7, 0, none⟩)), (8, .func (.func 151) #[] #[.pointer (some ⟨g7, 0, none⟩)]), (21, .slice an n.length cn), (22, .int .i64 n.length), (23, .int .i64 k)])
   (some ⟨gl, 0, none⟩) _ al cl ⟨by omega, extA, ⟨a, cap, hS0⟩, hi, hcl⟩ (fun k la lc bi bd w' h => h.1) ⟨rfl, rfl, rfl, rfl, rfl, rfl, rfl, trivial⟩ ?_
  rintro k la lc bi bd w9 ⟨hk, hX9, ⟨a2, cap2, hS9⟩, hib, hbd⟩
  obtain ⟨i1, i2, i3, i4, i5, i6⟩ := cto_inv (N := N) hg hh k hk
  have Rn := hn _ _ _ _ hX9 (Sep.drop34 hS9)
  have Ri := hib _ _ _ _ hX9 (Sep.drop34 hS9)
  have hS := hS9
  by_cases hlt : k < n.length
  ·obtain ⟨x, hxn⟩ := getI n hlt
   have hs := cto_succ (N := N) (ins := ins) hxn
   by_cases hin : 0 ≤ x.1
   ·have hgt := hg.gate hxn hin
    obtain ⟨za, hza⟩ := getI (cto N n ins k).1 (show (x.1 / 2).toNat < (cto N n ins k).1.length by omega)
    obtain ⟨zb, hzb⟩ := getI (cto N n ins k).1 (show (x.2 / 2).toNat < (cto N n ins k).1.length by omega)
    have ba : 0 ≤ za ∧ za ≤ 9223372036854775806 := by have := i2 za (List.mem_of_getElem? hza); unfold hasL at this; omega
    have bb : 0 ≤ zb ∧ zb ≤ 9223372036854775806 := by have := i2 zb (List.mem_of_getElem? hzb); unfold hasL at this; omega
    have hv := andV_has (hasL_litI i2 (x := x.1) (by omega)) (hasL_litI i2 (x := x.2) (by omega))
    have q0 : ¬ (andV (cto N n ins k).2.2 (litI (cto N n ins k).1 x.1) (litI (cto N n ins k).1 x.2)).1 < 0 := by have := hv.1; omega
    have e1 : (cto N n ins (k + 1)).1 = (cto N n ins k).1 ++ [(andV (cto N n ins k).2.2 (litI (cto N n ins k).1 x.1) (litI (cto N n ins k).1 x.2)).1] := by rw [hs, cstep, if_pos hin]
    have e2 : (cto N n ins (k + 1)).2.1 = (cto N n ins k).2.1 := by rw [hs, cstep, if_pos hin]
    have e3 : (cto N n ins (k + 1)).2.2 = (andV (cto N n ins k).2.2 (litI (cto N n ins k).1 x.1) (litI (cto N n ins k).1 x.2)).2 := by rw [hs, cstep, if_pos hin]
    repeat' (first
     | (apply W.condKT; exact rfl; (focus (exact dec_true (by omega))))
     | (apply WL.alloc tOk; (iterate 3 exact rfl); intro gb w' hb hge hx; replace hS := Sep.newCell (Sep.ext hS extA) hx hb hge (by (exact Below.size extA)); (try simp only [List.set_cons_zero, List.set_cons_succ] at hS); (try have hR2 := hS.row (i := 2) rfl); (try have hC0 := hS.cell (i := 0) rfl); (try have hD0 := (cells_heap hC0).1); (try have hE0 := (cells_heap hC0).2.1); (try have hC1 := hS.cell (i := 1) rfl); (try have hD1 := (cells_heap hC1).1); (try have hE1 := (cells_heap hC1).2.1); (try have hD2 := (cells_heap hC2).1); (try have hE2 := (cells_heap hC2).2.1); (try have hC4 := hS.cell (i := 4) rfl); (try have hD4 := (cells_heap hC4).1); (try have hM3 := hS.map (i := 3) rfl))
     | (apply WL.storeB (w0 := w0) tOk; (iterate 4 exact rfl); assumption; (exact extA); (iterate 3 exact rfl); (exact extA); ((focus (apply Nat.le_trans; rotate_left; assumption; exact Below.size extA; done))); intro w' hb hc hX' hU; have hcc := hc; obtain ⟨h1, h2, _⟩ := hc; (replace hS := Sep.updCell (i := 0) rfl hU hb hS extA (by (exact Below.size extA))); (try simp only [List.set_cons_zero, List.set_cons_succ] at hS); (try have hR2 := hS.row (i := 2) rfl); (try have hC0 := hS.cell (i := 0) rfl); (try have hD0 := (cells_heap hC0).1); (try have hE0 := (cells_heap hC0).2.1); (try have hC1 := hS.cell (i := 1) rfl); (try have hD1 := (cells_heap hC1).1); (try have hE1 := (cells_heap hC1).2.1); (try have hD2 := (cells_heap hC2).1); (try have hE2 := (cells_heap hC2).2.1); (try have hC4 := hS.cell (i := 4) rfl); (try have hD4 := (cells_heap hC4).1); (try have hM3 := hS.map (i := 3) rfl))
     | (apply W.regionQS 9 tMix; kernel_rfl; exact rfl; kernel_rfl; kernel_rfl)
     | ((show QL _ _ _ _ (⟨_, .call ⟨.value (.tmp _), _, _⟩, _, _, _, _⟩ :: _) _ _); apply QL.callS; (iterate 4 exact rfl); exact aig_Copy1 g7 lc la (cto N n ins k).1 x.1 za _ (Ext.heap extA (hS.cell (i := 4) rfl)) (Row.ext (Own.row encI_ok (hS.row (i := 5) rfl)) extA) hza (by omega) ba)
     | ((show QL _ _ _ _ (⟨_, .call ⟨.value (.tmp _), _, _⟩, _, _, _, _⟩ :: _) _ _); apply QL.callS; (iterate 4 exact rfl); exact aig_Copy1 g7 lc la (cto N n ins k).1 x.2 zb _ (Ext.heap extA (hS.cell (i := 4) rfl)) (Row.ext (Own.row encI_ok (hS.row (i := 5) rfl)) extA) hzb (by omega) bb)
     | (show WL _ _ _ _ _ _ _; first | apply WL.nil | (refine WL.au (k := ?_)) | (apply WL.index tOk; (iterate 8 exact rfl); assumption; (exact extA); exact rfl; omega; assumption; intro b off h; have hcc := h; first | (obtain ⟨h1, h2, h3, h4, h5, h6, _⟩ := h) | (obtain ⟨h1, h2, h3, _⟩ := h) | (obtain ⟨h1, h2, _⟩ := h) | (obtain ⟨h1, _⟩ := h)))
     | (show QL _ _ _ _ _ _ _; first | apply QL.nil | (refine QL.au (k := ?_)))
     | (show Z _ _ _ _ _; first | apply Z.tail | apply Z.then_normal)
     | (show W _ _ _ _ _ _; first | apply W.seq | apply W.region | apply W.block | apply W.skip)
     | fail)
    repeat' (first
     | (((show WL _ _ _ (⟨_, .call ⟨.value (.func 152), _, _⟩, _, _, _, _⟩ :: _) _ _ _); have hS8 : Lt.Sep w0.heap.size _ (stN w0.heap.size gs a2 cap2 r (cto N n ins k).2.2 ++ (pcell g7 #[.slice la (cto N n ins k).1.length lc] 22 :: prow 1 encI 3 w0.heap.size la lc (cto N n ins k).1 :: rest)) := Sep.tail hS; apply WL.call; (iterate 4 exact rfl); exact aig_And gs r _ _ (cto N n ins k).2.2 _ _ (pcell g7 #[.slice la (cto N n ins k).1.length lc] 22 :: prow 1 encI 3 w0.heap.size la lc (cto N n ins k).1 :: rest) _ w0 extA hS8 (by omega); rintro v' w8 ⟨hX8, a8, cap8, rfl, hS⟩; (try simp only [List.set_cons_zero, List.set_cons_succ] at hS); (try have hR1 := hS.row (i := 1) rfl); (try have hR4 := hS.row (i := 4) rfl); (try have hC0 := hS.cell (i := 0) rfl); (try have hD0 := (cells_heap hC0).1); (try have hE0 := (cells_heap hC0).2.1); (try have hD1 := (cells_heap hC1).1); (try have hE1 := (cells_heap hC1).2.1); (try have hD2 := (cells_heap hC2).1); (try have hE2 := (cells_heap hC2).2.1); (try have hC3 := hS.cell (i := 3) rfl); (try have hD3 := (cells_heap hC3).1); (try have hD4 := (cells_heap hC4).1); (try have hM2 := hS.map (i := 2) rfl)))
     | (apply W.condKF; exact rfl; (focus (exact dec_false q0; done)))
     | (apply WL.lit tOk; (iterate 6 exact rfl); (kernel_rfl); exact rfl; intro gb w' hb hge hc hx)
     | (apply WL.append1 (z := ((andV (cto N n ins k).2.2 (litI (cto N n ins k).1 x.1) (litI (cto N n ins k).1 x.2)).1)) tOk encI_ok; (iterate 10 exact rfl); assumption; (exact extA); (exact rfl); (assumption); exact rfl; exact rfl; (exact extA); (omega); intro a' cap' w' hO hX' hU hF; (replace hS := Sep.updRow (i := 4) rfl hU hO hF hS extA (by (exact Below.size extA))); (try simp only [List.set_cons_zero, List.set_cons_succ] at hS); (try have hR1 := hS.row (i := 1) rfl); (try have hR4 := hS.row (i := 4) rfl); (try have hC0 := hS.cell (i := 0) rfl); (try have hD0 := (cells_heap hC0).1); (try have hE0 := (cells_heap hC0).2.1); (try have hD1 := (cells_heap hC1).1); (try have hE1 := (cells_heap hC1).2.1); (try have hD2 := (cells_heap hC2).1); (try have hE2 := (cells_heap hC2).2.1); (try have hC3 := hS.cell (i := 3) rfl); (try have hD3 := (cells_heap hC3).1); (try have hD4 := (cells_heap hC4).1); (try have hM2 := hS.map (i := 2) rfl))
     | (apply WL.storeB (w0 := w0) tOk; (iterate 4 exact rfl); assumption; (exact extA); (iterate 3 exact rfl); (exact extA); ((focus (apply Nat.le_trans; rotate_left; assumption; exact Below.size extA; done))); intro w' hb hc hX' hU; have hcc := hc; obtain ⟨h1, h2, _⟩ := hc; (replace hS := Sep.updCell (i := 3) rfl hU hb hS extA (by (exact Below.size extA))); (try simp only [List.set_cons_zero, List.set_cons_succ] at hS); (try have hR1 := hS.row (i := 1) rfl); (try have hR4 := hS.row (i := 4) rfl); (try have hC0 := hS.cell (i := 0) rfl); (try have hD0 := (cells_heap hC0).1); (try have hE0 := (cells_heap hC0).2.1); (try have hD1 := (cells_heap hC1).1); (try have hE1 := (cells_heap hC1).2.1); (try have hD2 := (cells_heap hC2).1); (try have hE2 := (cells_heap hC2).2.1); (try have hC3 := hS.cell (i := 3) rfl); (try have hD3 := (cells_heap hC3).1); (try have hD4 := (cells_heap hC4).1); (try have hM2 := hS.map (i := 2) rfl))
     | (show WL _ _ _ _ _ _ _; first | apply WL.nil | (refine WL.au (k := ?_)))
     | (show Z _ _ _ _ _; first | apply Z.then_normal | apply Z.block_normal)
     | (show W _ _ _ _ _ _; first | apply W.seq | apply W.region | apply W.skip)
     | fail)
    exact Z.againO2 a' cap' bi bd ⟨by omega, by assumption, ⟨a8, cap8, by rw [e3, e1]; exact hS⟩, by rw [e2]; exact hib, by rw [e2]; exact hbd⟩ (by repeat' first | exact trivial | (refine And.intro ?_ ?_) | exact rfl | (rw [e1]; exact rfl) | (rw [e2]; exact rfl))
   ·by_cases hki : (cto N n ins k).2.1 < ins.length
    ·obtain ⟨z, hz⟩ := getI ins hki
     have hz' : (ins.drop (cto N n ins k).2.1)[0]? = some z := by rw [List.getElem?_drop]; exact hz
     have hdl : 0 < (ins.drop (cto N n ins k).2.1).length := by rw [List.length_drop]; omega
     have hzh := hh z (List.mem_of_getElem? hz)
     have q0 : ¬ z < 0 := by have := hzh.1; omega
     have e1 : (cto N n ins (k + 1)).1 = (cto N n ins k).1 ++ [z] := by rw [hs, cstep, if_neg hin, if_pos hki, getD_of hz]
     have e2 : (cto N n ins (k + 1)).2.1 = (cto N n ins k).2.1 + 1 := by rw [hs, cstep, if_neg hin, if_pos hki]
     have e3 : (cto N n ins (k + 1)).2.2 = (cto N n ins k).2.2 := by rw [hs, cstep, if_neg hin, if_pos hki]
     have e4 : (ins.drop (cto N n ins k).2.1).drop 1 = ins.drop (cto N n ins (k + 1)).2.1 := by rw [e2, List.drop_drop]
     have e7 : (ins.drop (cto N n ins (k + 1)).2.1).length = (ins.drop (cto N n ins k).2.1).length - Int.toNat 1 := by rw [← e4, List.length_drop]; rfl
     repeat' (first
      | (apply W.condKT; exact rfl; (focus (exact dec_true (by omega))))
      | (apply W.condKF; exact rfl; (focus (exact dec_false (by omega))))
      | (apply WL.alloc tOk; (iterate 3 exact rfl); intro gb w' hb hge hx; replace hS := Sep.newCell (Sep.ext hS extA) hx hb hge (by (exact Below.size extA)); (try simp only [List.set_cons_zero, List.set_cons_succ] at hS); (try have hR2 := hS.row (i := 2) rfl); (try have hC0 := hS.cell (i := 0) rfl); (try have hD0 := (cells_heap hC0).1); (try have hE0 := (cells_heap hC0).2.1); (try have hC1 := hS.cell (i := 1) rfl); (try have hD1 := (cells_heap hC1).1); (try have hE1 := (cells_heap hC1).2.1); (try have hD2 := (cells_heap hC2).1); (try have hE2 := (cells_heap hC2).2.1); (try have hC4 := hS.cell (i := 4) rfl); (try have hD4 := (cells_heap hC4).1); (try have hM3 := hS.map (i := 3) rfl))
      | (apply WL.storeB (w0 := w9) tOk; (iterate 4 exact rfl); assumption; (exact extA); (iterate 3 exact rfl); (exact extA); (assumption); intro w' hb hc hX' hU; have hcc := hc; obtain ⟨h1, h2, _⟩ := hc; (replace hS := Sep.updCell (i := 0) rfl hU hb hS extA (by (exact Below.size extA))); (try simp only [List.set_cons_zero, List.set_cons_succ] at hS); (try have hR2 := hS.row (i := 2) rfl); (try have hC0 := hS.cell (i := 0) rfl); (try have hD0 := (cells_heap hC0).1); (try have hE0 := (cells_heap hC0).2.1); (try have hC1 := hS.cell (i := 1) rfl); (try have hD1 := (cells_heap hC1).1); (try have hE1 := (cells_heap hC1).2.1); (try have hD2 := (cells_heap hC2).1); (try have hE2 := (cells_heap hC2).2.1); (try have hC4 := hS.cell (i := 4) rfl); (try have hD4 := (cells_heap hC4).1); (try have hM3 := hS.map (i := 3) rfl))
      | (show W _ _ (.region 13 _ _) _ _ _; apply W.regionGX (.fl true 0 (.fl true 1 (.fl true 3 (.fl true 4 (.fl false 2 (.fl true 5 (.fl true 6 .done))))))) [] tMix; kernel_rfl)
      | (apply FL.sliceL0 tOk; (iterate 8 exact rfl); omega)
      | (apply WL.lit tOk; (iterate 6 exact rfl); (kernel_rfl); exact rfl; intro gb w' hb hge hc hx)
      | (show SX _ _ _ _ _ _ _ _ _; first | (apply SX.done; intro w' hx) | (apply SX.fl0; exact rfl) | (apply SX.fl1; exact rfl; (exact extA)))
      | (show FL _ _ _ _ _ _ _ _; first | apply FL.nilX | (apply FL.loadE tOk; (iterate 5 exact rfl); ((focus (apply Ext.cell; rotate_left; assumption; exact extA; done)))) | (apply FL.indexE tOk; (iterate 8 exact rfl); assumption; exact rfl; omega; assumption; intro b off h; have hcc := h; first | (obtain ⟨h1, h2, h3, h4, h5, h6, _⟩ := h) | (obtain ⟨h1, h2, h3, _⟩ := h) | (obtain ⟨h1, h2, _⟩ := h) | (obtain ⟨h1, _⟩ := h)))
      | (show FL _ _ _ _ _ _ _ _; (refine FL.au (k := ?_)))
      | (show WL _ _ _ _ _ _ _; first | apply WL.nil | (refine WL.au (k := ?_)) | (apply WL.index tOk; (iterate 8 exact rfl); assumption; (exact extA); exact rfl; omega; assumption; intro b off h; have hcc := h; first | (obtain ⟨h1, h2, h3, h4, h5, h6, _⟩ := h) | (obtain ⟨h1, h2, h3, _⟩ := h) | (obtain ⟨h1, h2, _⟩ := h) | (obtain ⟨h1, _⟩ := h)))
      | (show Z _ _ _ _ _; first | apply Z.then_normal | apply Z.block_normal)
      | (show W _ _ _ _ _ _; first | apply W.seq | apply W.region | apply W.block | apply W.skip)
      | fail)
     replace hS := Sep.tail hS
     (try simp only [List.set_cons_zero, List.set_cons_succ] at hS); (try have hR1 := hS.row (i := 1) rfl); (try have hR4 := hS.row (i := 4) rfl); (try have hC0 := hS.cell (i := 0) rfl); (try have hD0 := (cells_heap hC0).1); (try have hE0 := (cells_heap hC0).2.1); (try have hD1 := (cells_heap hC1).1); (try have hE1 := (cells_heap hC1).2.1); (try have hD2 := (cells_heap hC2).1); (try have hE2 := (cells_heap hC2).2.1); (try have hC3 := hS.cell (i := 3) rfl); (try have hD3 := (cells_heap hC3).1); (try have hD4 := (cells_heap hC4).1); (try have hM2 := hS.map (i := 2) rfl)
     have hRd : Keeps w0 gs r rest (fun w' => Row 1 encI w' (subA bi bd 1 1) (ins.drop (cto N n ins (k + 1)).2.1)) := fun w' a' cap' N' h1 h2 => by rw [← e4]; exact Row.dropAt (hib w' a' cap' N' h1 h2) 1 bd hbd
     repeat' (first
      | (apply WL.append1 (z := (z)) tOk encI_ok; (iterate 10 exact rfl); assumption; (exact extA); (exact rfl); (assumption); exact rfl; exact rfl; (exact extA); (omega); intro a' cap' w' hO hX' hU hF; (replace hS := Sep.updRow (i := 4) rfl hU hO hF hS extA (by (exact Below.size extA))); (try simp only [List.set_cons_zero, List.set_cons_succ] at hS); (try have hR1 := hS.row (i := 1) rfl); (try have hR4 := hS.row (i := 4) rfl); (try have hC0 := hS.cell (i := 0) rfl); (try have hD0 := (cells_heap hC0).1); (try have hE0 := (cells_heap hC0).2.1); (try have hD1 := (cells_heap hC1).1); (try have hE1 := (cells_heap hC1).2.1); (try have hD2 := (cells_heap hC2).1); (try have hE2 := (cells_heap hC2).2.1); (try have hC3 := hS.cell (i := 3) rfl); (try have hD3 := (cells_heap hC3).1); (try have hD4 := (cells_heap hC4).1); (try have hM2 := hS.map (i := 2) rfl))
      | (apply WL.storeB (w0 := w0) tOk; (iterate 4 exact rfl); assumption; (exact extA); (iterate 3 exact rfl); (exact extA); ((focus (apply Nat.le_trans; rotate_left; assumption; exact Below.size extA; done))); intro w' hb hc hX' hU; have hcc := hc; obtain ⟨h1, h2, _⟩ := hc; (replace hS := Sep.updCell (i := 3) rfl hU hb hS extA (by (exact Below.size extA))); (try simp only [List.set_cons_zero, List.set_cons_succ] at hS); (try have hR1 := hS.row (i := 1) rfl); (try have hR4 := hS.row (i := 4) rfl); (try have hC0 := hS.cell (i := 0) rfl); (try have hD0 := (cells_heap hC0).1); (try have hE0 := (cells_heap hC0).2.1); (try have hD1 := (cells_heap hC1).1); (try have hE1 := (cells_heap hC1).2.1); (try have hD2 := (cells_heap hC2).1); (try have hE2 := (cells_heap hC2).2.1); (try have hC3 := hS.cell (i := 3) rfl); (try have hD3 := (cells_heap hC3).1); (try have hD4 := (cells_heap hC4).1); (try have hM2 := hS.map (i := 2) rfl))
      | (show WL _ _ _ _ _ _ _; first | apply WL.nil | (refine WL.au (k := ?_)))
      | (show Z _ _ _ _ _; first | apply Z.then_normal | apply Z.block_normal)
      | (show W _ _ _ _ _ _; apply W.region)
      | fail)
     exact Z.againO2 a' cap' (subA bi bd 1 1) (bd - 1) ⟨by omega, by assumption, ⟨a2, cap2, by rw [e3, e1]; exact hS⟩, hRd, by rw [e7]; show _ ≤ bd - 1; omega⟩ (by repeat' first | exact trivial | (refine And.intro ?_ ?_) | exact rfl | (rw [e1]; exact rfl) | (rw [e7]; exact rfl))
    ·have hd0 : (ins.drop (cto N n ins k).2.1).length = 0 := by rw [List.length_drop]; omega
     have e1 : (cto N n ins (k + 1)).1 = (cto N n ins k).1 ++ [2 * (((cto N n ins k).2.2.length : Int) + 1)] := by rw [hs, cstep, if_neg hin, if_neg hki]
     have e2 : (cto N n ins (k + 1)).2.1 = (cto N n ins k).2.1 + 1 := by rw [hs, cstep, if_neg hin, if_neg hki]
     have e3 : (cto N n ins (k + 1)).2.2 = (cto N n ins k).2.2 ++ [(-1, 0)] := by rw [hs, cstep, if_neg hin, if_neg hki]
     have e4 : ins.drop (cto N n ins (k + 1)).2.1 = ins.drop (cto N n ins k).2.1 := by rw [e2, List.drop_eq_nil_of_le (by omega), List.drop_eq_nil_of_le (by omega)]
     repeat' (first
      | (apply W.condKT; exact rfl; (focus (exact dec_true (by omega))))
      | (apply W.condKF; exact rfl; (focus (exact dec_false (by omega); done)))
      | (apply WL.alloc tOk; (iterate 3 exact rfl); intro gb w' hb hge hx; replace hS := Sep.newCell (Sep.ext hS extA) hx hb hge (by (exact Below.size extA)); (try simp only [List.set_cons_zero, List.set_cons_succ] at hS); (try have hR2 := hS.row (i := 2) rfl); (try have hC0 := hS.cell (i := 0) rfl); (try have hD0 := (cells_heap hC0).1); (try have hE0 := (cells_heap hC0).2.1); (try have hC1 := hS.cell (i := 1) rfl); (try have hD1 := (cells_heap hC1).1); (try have hE1 := (cells_heap hC1).2.1); (try have hD2 := (cells_heap hC2).1); (try have hE2 := (cells_heap hC2).2.1); (try have hC4 := hS.cell (i := 4) rfl); (try have hD4 := (cells_heap hC4).1); (try have hM3 := hS.map (i := 3) rfl))
      | (apply WL.storeB (w0 := w0) tOk; (iterate 4 exact rfl); assumption; (exact extA); (iterate 3 exact rfl); (exact extA); ((focus (apply Nat.le_trans; rotate_left; assumption; exact Below.size extA; done))); intro w' hb hc hX' hU; have hcc := hc; obtain ⟨h1, h2, _⟩ := hc; (first | replace hS := Sep.updCell (i := 0) rfl hU hb hS extA (by (exact Below.size extA)) | replace hS := Sep.updCell (i := 3) rfl hU hb hS extA (by (exact Below.size extA))); (try simp only [List.set_cons_zero, List.set_cons_succ] at hS); (try have hR1 := hS.row (i := 1) rfl); (try have hR2 := hS.row (i := 2) rfl); (try have hR4 := hS.row (i := 4) rfl); (try have hC0 := hS.cell (i := 0) rfl); (try have hD0 := (cells_heap hC0).1); (try have hE0 := (cells_heap hC0).2.1); (try have hC1 := hS.cell (i := 1) rfl); (try have hD1 := (cells_heap hC1).1); (try have hE1 := (cells_heap hC1).2.1); (try have hD2 := (cells_heap hC2).1); (try have hE2 := (cells_heap hC2).2.1); (try have hC3 := hS.cell (i := 3) rfl); (try have hD3 := (cells_heap hC3).1); (try have hC4 := hS.cell (i := 4) rfl); (try have hD4 := (cells_heap hC4).1); (try have hM2 := hS.map (i := 2) rfl); (try have hM3 := hS.map (i := 3) rfl))
      | (((show WL _ _ _ (⟨_, .call ⟨.value (.func 50), _, _⟩, _, _, _, _⟩ :: _) _ _ _); have hS8 : Lt.Sep w0.heap.size _ (stN w0.heap.size gs a2 cap2 r (cto N n ins k).2.2 ++ (pcell g7 #[.slice la (cto N n ins k).1.length lc] 22 :: prow 1 encI 3 w0.heap.size la lc (cto N n ins k).1 :: rest)) := Sep.tail hS; apply WL.call; (iterate 4 exact rfl); exact aig_InputV gs r _ _ (cto N n ins k).2.2 (pcell g7 #[.slice la (cto N n ins k).1.length lc] 22 :: prow 1 encI 3 w0.heap.size la lc (cto N n ins k).1 :: rest) _ w0 extA hS8 (by omega); rintro v' w8 ⟨hX8, a8, cap8, rfl, hS⟩; (try simp only [List.set_cons_zero, List.set_cons_succ] at hS); (try have hR1 := hS.row (i := 1) rfl); (try have hR4 := hS.row (i := 4) rfl); (try have hC0 := hS.cell (i := 0) rfl); (try have hD0 := (cells_heap hC0).1); (try have hE0 := (cells_heap hC0).2.1); (try have hD1 := (cells_heap hC1).1); (try have hE1 := (cells_heap hC1).2.1); (try have hD2 := (cells_heap hC2).1); (try have hE2 := (cells_heap hC2).2.1); (try have hC3 := hS.cell (i := 3) rfl); (try have hD3 := (cells_heap hC3).1); (try have hD4 := (cells_heap hC4).1); (try have hM2 := hS.map (i := 2) rfl)))
      | (apply WL.lit tOk; (iterate 6 exact rfl); (kernel_rfl); exact rfl; intro gb w' hb hge hc hx)
      | (apply WL.append1 (z := (2 * (((cto N n ins k).2.2.length : Int) + 1))) tOk encI_ok; (iterate 10 exact rfl); assumption; (exact extA); (exact rfl); (assumption); exact rfl; exact rfl; (exact extA); (omega); intro a' cap' w' hO hX' hU hF; (replace hS := Sep.updRow (i := 4) rfl hU hO hF hS extA (by (exact Below.size extA))); (try simp only [List.set_cons_zero, List.set_cons_succ] at hS); (try have hR1 := hS.row (i := 1) rfl); (try have hR4 := hS.row (i := 4) rfl); (try have hC0 := hS.cell (i := 0) rfl); (try have hD0 := (cells_heap hC0).1); (try have hE0 := (cells_heap hC0).2.1); (try have hD1 := (cells_heap hC1).1); (try have hE1 := (cells_heap hC1).2.1); (try have hD2 := (cells_heap hC2).1); (try have hE2 := (cells_heap hC2).2.1); (try have hC3 := hS.cell (i := 3) rfl); (try have hD3 := (cells_heap hC3).1); (try have hD4 := (cells_heap hC4).1); (try have hM2 := hS.map (i := 2) rfl))
      | (show WL _ _ _ _ _ _ _; first | apply WL.nil | (refine WL.au (k := ?_)) | (apply WL.index tOk; (iterate 8 exact rfl); assumption; (exact extA); exact rfl; omega; assumption; intro b off h; have hcc := h; first | (obtain ⟨h1, h2, h3, h4, h5, h6, _⟩ := h) | (obtain ⟨h1, h2, h3, _⟩ := h) | (obtain ⟨h1, h2, _⟩ := h) | (obtain ⟨h1, _⟩ := h)))
      | (show Z _ _ _ _ _; first | apply Z.then_normal | apply Z.block_normal)
      | (show W _ _ _ _ _ _; first | apply W.seq | apply W.region | apply W.block | apply W.skip)
      | fail)
     exact Z.againO2 a' cap' bi bd ⟨by omega, by assumption, ⟨a8, cap8, by rw [e3, e1]; exact hS⟩, by rw [e4]; exact hib, by rw [e4]; exact hbd⟩ (by repeat' first | exact trivial | (refine And.intro ?_ ?_) | exact rfl | (rw [e1]; exact rfl) | (rw [e4]; exact rfl))
  ·obtain rfl : k = n.length := by omega
   have hl7 := (cells_heap (hS9.cell (i := 3) rfl)).1
   repeat' (first
    | (apply W.condKF; exact rfl; (focus (exact dec_false (by omega); done)))
    | (show WL _ _ _ _ _ _ _; first | apply WL.nil | (refine WL.au (k := ?_)))
    | (show Z _ _ _ _ _; first | apply Z.then_normal | apply Z.then_exit | apply Z.block_exit)
    | (show W _ _ _ _ _ _; first | apply W.seq | apply W.region | apply W.ret | apply W.exit)
    | fail)
   exact Z.body1 Tryz.results103 rfl fun m => ⟨hX9.at m, a2, cap2, la, lc, rfl, (Sep.drop3 hS9).ext ((Ext.refl _).at m)⟩
 ·have e : copyV N n ins = ([], N) := by unfold copyV; rw [dec_false hh]; rfl
  rw [e]
  refine Spec.of _ Tryz.func103 rfl Tryz.ntmps103 (by kernel_rfl) rfl ?_
  repeat' (first
   | ((show WL _ _ _ (⟨_, .call ⟨.value (.func 150), _, _⟩, _, _, _, _⟩ :: _) _ _ _); apply WL.callP; (iterate 4 exact rfl); exact aig_has _ _ _ _ _ N ins _ _ hC0 RI (by omega); intro w' hx)
   | (apply W.condKT; exact rfl; (focus ((rw [dec_false hh]; rfl); done)))
   | (show WL _ _ _ _ _ _ _; first | apply WL.nil | (refine WL.au (k := ?_)))
   | (show Z _ _ _ _ _; first | apply Z.then_normal | apply Z.then_ret)
   | (show W _ _ _ _ _ _; first | apply W.seq | apply W.region | apply W.ret)
   | fail)
  have hS1 := hS.ext hx
  have hX1 := hX.trans hx
  have hS3 : Lt.Sep w0.heap.size w' (stN w0.heap.size gs a cap r N ++ (prow 1 encI 3 w0.heap.size none 0 [] :: rest)) := Sep.back31 (Sep.newRow hS1 (Ext.refl _) Own.nil (fun k hk => by cases hk) hX1.size)
  exact Z.body1 Tryz.results103 rfl fun m => ⟨hX1.at m, a, cap, none, 0, rfl, hS3.ext ((Ext.refl _).at m)⟩
end Go.Proofs.YteidpnpbfagaeaaGreat
namespace Go.Proofs.YteidpnpbfagaeaaGreat
open Go Go.Lt Go.RowKit
set_option linter.unusedVariables false
set_option linter.unusedSimpArgs false
set_option maxRecDepth 20000

abbrev NA := List (Int × Int) × List Int
noncomputable def cput (s : NA) (l : Int) (x : Int × Int) : NA := (s.1 ++ [x], s.2.set (l / 2).toNat (2 * ((s.1.length : Int) + 1)))
noncomputable def cIn (s : NA) (ls : List Int) : NA := ls.foldl (fun s l => cput s l (-1, 0)) s
abbrev gAt (gs : List G3) (i : Nat) : G3 := gs.getD i (0, 0, 0)
noncomputable def cGate (gs : List G3) (s : NA) (i : Nat) : NA := cput s (gAt gs i).1 (litI s.2 (gAt gs i).2.1, litI s.2 (gAt gs i).2.2)
noncomputable def cGates (gs : List G3) (s : NA) (L : List Nat) : NA := L.foldl (cGate gs) s
def cAt0 (m : Int) : List Int := 0 :: List.replicate m.toNat (-1)
noncomputable def cNet (c : CirT) : NA := cGates c.gates (cIn ([], cAt0 c.max) (c.ins ++ c.lat.map (·.1))) (ordL c.gates)
theorem cIn_snoc (s : NA) (ls : List Int) (l : Int) : cIn s (ls ++ [l]) = cput (cIn s ls) l (-1, 0) := by unfold cIn; rw [List.foldl_append]; rfl
theorem cGates_snoc (gs : List G3) (s : NA) (L : List Nat) (i : Nat) : cGates gs s (L ++ [i]) = cGate gs (cGates gs s L) i := by unfold cGates; rw [List.foldl_append]; rfl

structure PutOk (s : NA) (q : List Int) (m : Nat) : Prop where
 len1 : s.1.length = q.length
 len2 : s.2.length = m + 1
 zero : s.2[0]? = some 0
 has : ∀ (i : Nat) (l : Int), q[i]? = some l → s.2[(l / 2).toNat]? = some (2 * ((i : Int) + 1))
 not : ∀ v : Nat, 1 ≤ v → v ≤ m → (∀ l ∈ q, (l / 2).toNat ≠ v) → s.2[v]? = some (-1)
theorem PutOk.start (m : Nat) : PutOk ([], cAt0 (m : Int)) [] m := by
 refine ⟨rfl, by simp [cAt0], rfl, fun i l h => by simp at h, fun v h1 h2 _ => ?_⟩
 show (0 :: List.replicate (m : Int).toNat (-1 : Int))[v]? = _
 obtain ⟨u, rfl⟩ : ∃ u, v = u + 1 := ⟨v - 1, by omega⟩
 rw [List.getElem?_cons_succ, List.getElem?_replicate, if_pos (by omega)]
theorem PutOk.push {s : NA} {q : List Int} {m : Nat} (h : PutOk s q m) {l : Int} (hl : 2 ≤ l ∧ l % 2 = 0 ∧ l ≤ 2 * (m : Int)) (hq : ∀ y ∈ q, 2 ≤ y ∧ y % 2 = 0) (hn : l ∉ q) (x : Int × Int) : PutOk (cput s l x) (q ++ [l]) m := by
 have hlen := h.len2
 have hs : ∀ y ∈ q, (l / 2).toNat ≠ (y / 2).toNat := fun y hy he => hn (by have := hq y hy; rw [show l = y by omega]; exact hy)
 refine ⟨by simp [cput, h.len1], by simp [cput, h.len2], ?_, fun i y hy => ?_, fun v h1 h2 h3 => ?_⟩
 ·show (s.2.set _ _)[0]? = _
  rw [List.getElem?_set_ne (by omega)]; exact h.zero
 ·show (s.2.set _ _)[(y / 2).toNat]? = _
  by_cases hi : i < q.length
  ·rw [List.getElem?_append_left hi] at hy
   rw [List.getElem?_set_ne (hs y (List.mem_of_getElem? hy))]
   exact h.has i y hy
  ·rw [List.getElem?_append_right (by omega)] at hy
   have h0 : i - q.length = 0 := by have := lt_of_get hy; simpa using this
   obtain rfl : i = q.length := by omega
   simp at hy; subst hy
   rw [List.getElem?_set_self (by omega), h.len1]
 ·show (s.2.set _ _)[v]? = _
  rw [List.getElem?_set_ne (h3 l (by simp))]
  exact h.not v h1 h2 fun y hy => h3 y (by simp [hy])
theorem PutOk.ge {s : NA} {q : List Int} {m : Nat} (h : PutOk s q m) {l : Int} (hl : l / 2 = 0 ∨ ∃ y ∈ q, y / 2 = l / 2) : ∃ z, s.2[(l / 2).toNat]? = some z ∧ 0 ≤ z ∧ z % 2 = 0 ∧ z ≤ 2 * (s.1.length : Int) := by
 rcases hl with hl | ⟨y, hy, he⟩
 ·exact ⟨0, by rw [hl]; exact h.zero, by decide, by decide, by omega⟩
 ·obtain ⟨i, hi⟩ := List.mem_iff_getElem?.1 hy
  have h1 := h.has i y hi
  rw [he] at h1
  have h2 := lt_of_get hi
  have := h.len1
  exact ⟨_, h1, by omega, by omega, by omega⟩
theorem litI_some {l : List Int} {x z : Int} (hz : l[(x / 2).toNat]? = some z) : litI l x = xorI z (x % 2) := by unfold litI; rw [getD_of hz]
theorem cIn_ok {m : Nat} : ∀ (ls : List Int) (s : NA) (q : List Int), PutOk s q m → (∀ y ∈ q, 2 ≤ y ∧ y % 2 = 0) → (∀ l ∈ ls, 2 ≤ l ∧ l % 2 = 0 ∧ l ≤ 2 * (m : Int)) → (q ++ ls).Nodup → GoodNet s.1 → PutOk (cIn s ls) (q ++ ls) m ∧ GoodNet (cIn s ls).1
 | [], s, q, h, _, _, _, hg => by rw [List.append_nil]; exact ⟨h, hg⟩
 | l :: ls, s, q, h, hq, hl, hn, hg => by
  have hl1 := hl l (by simp)
  have hnl : l ∉ q := fun hm => by
   rw [List.nodup_append] at hn
   exact hn.2.2 l hm l (by simp) rfl
  have h1 := h.push hl1 hq hnl (-1, 0)
  have h2 := cIn_ok ls (cput s l (-1, 0)) (q ++ [l]) h1 (fun y hy => by
   rcases List.mem_append.1 hy with hy | hy
   ·exact hq y hy
   ·rw [List.mem_singleton.1 hy]; exact ⟨hl1.1, hl1.2.1⟩) (fun y hy => hl y (by simp [hy])) (by simpa using hn) (fun i x hx => ?_)
  ·have e : q ++ [l] ++ ls = q ++ l :: ls := by simp
   rw [e] at h2
   exact h2
  ·have hx' : (s.1 ++ [((-1, 0) : Int × Int)])[i]? = some x := hx
   by_cases hi : i < s.1.length
   ·rw [List.getElem?_append_left hi] at hx'; exact hg i x hx'
   ·rw [List.getElem?_append_right (by omega)] at hx'
    have h0 : i - s.1.length = 0 := by have := lt_of_get hx'; simpa using this
    rw [h0] at hx'
    simp at hx'; subst hx'
    unfold badNode; simp

noncomputable abbrev CirT.seq (c : CirT) : List Int := c.ins ++ c.lat.map (·.1) ++ (ordL c.gates).map (fun i => (gAt c.gates i).1)
abbrev CirT.inl (c : CirT) : List Int := c.ins ++ c.lat.map (·.1)
theorem gAt_of {gs : List G3} {i : Nat} {g : G3} (h : gs[i]? = some g) : gAt gs i = g := getD_of h
theorem GoodC'.gate {c : CirT} (h : GoodC' c) {i : Nat} {g : G3} (hg : c.gates[i]? = some g) : (2 ≤ g.1 ∧ g.1 % 2 = 0 ∧ g.1 ≤ 2 * c.max) ∧ (0 ≤ g.2.1 ∧ g.2.1 ≤ 2 * c.max + 1) ∧ (0 ≤ g.2.2 ∧ g.2.2 ≤ 2 * c.max + 1) := by
 have hm := List.mem_of_getElem? hg
 refine ⟨h.own _ (List.mem_append_right _ (List.mem_map.2 ⟨g, hm, rfl⟩)), h.used _ (List.mem_append_right _ (List.mem_flatMap.2 ⟨g, hm, by simp⟩)), h.used _ (List.mem_append_right _ (List.mem_flatMap.2 ⟨g, hm, by simp⟩))⟩
theorem used_put {c : CirT} (h : GoodC' c) {l : Int} (hl : l ∈ c.used) {T : List Nat} (hT : ∀ (j : Nat) (x : G3), c.gates[j]? = some x → j ∉ T → x.1 / 2 ≠ l / 2) : l / 2 = 0 ∨ ∃ y ∈ c.inl ++ T.map (fun i => (gAt c.gates i).1), y / 2 = l / 2 := by
 have h0 := h.used l hl
 rcases Int.lt_or_le 1 l with h1 | h1
 ·right
  have h2 := h.has l hl h1
  rcases List.mem_append.1 h2 with h3 | h3
  ·exact ⟨_, List.mem_append_left _ h3, by omega⟩
  ·obtain ⟨g, hg, he⟩ := List.mem_map.1 h3
   obtain ⟨j, hj⟩ := List.mem_iff_getElem?.1 hg
   have hjT : j ∈ T := Classical.byContradiction fun hn => hT j g hj hn (by omega)
   exact ⟨g.1, List.mem_append_right _ (List.mem_map.2 ⟨j, hjT, by rw [gAt_of hj]⟩), by omega⟩
 ·left; omega
theorem inl_once {c : CirT} (h : GoodC' c) : c.inl.Nodup := by
 have := h.once
 rw [List.nodup_append] at this
 exact this.1
theorem gate_new {c : CirT} (h : GoodC' c) {i : Nat} {g : G3} (hg : c.gates[i]? = some g) {T : List Nat} (hT : ∀ j ∈ T, j < c.gates.length) (hi : i ∉ T) : g.1 ∉ c.inl ++ T.map (fun i => (gAt c.gates i).1) := by
 intro hm
 have ho := h.once
 rw [List.nodup_append] at ho
 rcases List.mem_append.1 hm with h1 | h1
 ·exact ho.2.2 _ h1 _ (List.mem_map.2 ⟨g, List.mem_of_getElem? hg, rfl⟩) rfl
 ·obtain ⟨j, hj, he⟩ := List.mem_map.1 h1
  obtain ⟨x, hx⟩ := getI c.gates (hT j hj)
  rw [gAt_of hx] at he
  have hp := List.pairwise_iff_getElem.1 (List.nodup_iff_pairwise_ne.1 ho.2.1)
  have li : i < (c.gates.map (·.1)).length := by rw [List.length_map]; exact lt_of_get hg
  have lj : j < (c.gates.map (·.1)).length := by rw [List.length_map]; exact lt_of_get hx
  have ei : (c.gates.map (·.1))[i] = g.1 := by have := (List.getElem?_eq_some_iff.1 hg).2; simp [this]
  have ej : (c.gates.map (·.1))[j] = x.1 := by have := (List.getElem?_eq_some_iff.1 hx).2; simp [this]
  have hne : i ≠ j := fun e => hi (by rw [e]; exact hj)
  rcases Nat.lt_or_gt_of_ne hne with h2 | h2
  ·exact hp i j li lj h2 (by rw [ei, ej, he])
  ·exact hp j i lj li h2 (by rw [ei, ej, he])
theorem net_to {c : CirT} (h : GoodC' c) : ∀ k, k ≤ (ordL c.gates).length →
  PutOk (cGates c.gates (cIn ([], cAt0 c.max) c.inl) ((ordL c.gates).take k)) (c.inl ++ ((ordL c.gates).take k).map (fun i => (gAt c.gates i).1)) c.max.toNat ∧ GoodNet (cGates c.gates (cIn ([], cAt0 c.max) c.inl) ((ordL c.gates).take k)).1 := by
 have hm : ((c.max.toNat : Nat) : Int) = c.max := by have := h.max; omega
 intro k
 induction k with
 | zero =>
  intro _
  have h1 := cIn_ok (m := c.max.toNat) c.inl ([], cAt0 c.max) [] (by have := PutOk.start c.max.toNat; rwa [hm] at this) (fun y hy => by cases hy) (fun l hl => by rw [hm]; exact h.own l (List.mem_append_left _ hl)) (by rw [List.nil_append]; exact inl_once h) (fun i x hx => by simp at hx)
  simpa [cGates] using h1
 | succ k ih =>
  intro hk
  obtain ⟨i, hi⟩ := getI (ordL c.gates) (show k < _ by omega)
  obtain ⟨h1, h2⟩ := ih (by omega)
  have hO := (ordL_is c.gates).1
  obtain ⟨g, hg, hn, hr⟩ := (hO k i hi).1
  have hgg := h.gate hg
  have hm' := List.mem_of_getElem? hg
  have ua : g.2.1 ∈ c.used := List.mem_append_right _ (List.mem_flatMap.2 ⟨g, hm', by simp⟩)
  have ub : g.2.2 ∈ c.used := List.mem_append_right _ (List.mem_flatMap.2 ⟨g, hm', by simp⟩)
  have pa := h1.ge (used_put h ua fun j x hx hj => (hr j x hx hj).1)
  have pb := h1.ge (used_put h ub fun j x hx hj => (hr j x hx hj).2)
  have hlt : ∀ j ∈ (ordL c.gates).take k, j < c.gates.length := fun j hj => hO.lt j (List.mem_of_mem_take hj)
  rw [take_succ' hi, cGates_snoc, List.map_append, ← List.append_assoc]
  have eg : gAt c.gates i = g := gAt_of hg
  have hsq : ∀ y ∈ c.inl ++ ((ordL c.gates).take k).map (fun i => (gAt c.gates i).1), 2 ≤ y ∧ y % 2 = 0 := fun y hy => by
   have : y ∈ c.own := by
    rcases List.mem_append.1 hy with hy | hy
    ·exact List.mem_append_left _ hy
    ·obtain ⟨j, hj, rfl⟩ := List.mem_map.1 hy
     obtain ⟨x, hx⟩ := getI c.gates (hlt j hj)
     exact List.mem_append_right _ (List.mem_map.2 ⟨x, List.mem_of_getElem? hx, by rw [gAt_of hx]⟩)
   exact ⟨(h.own y this).1, (h.own y this).2.1⟩
  have hp := h1.push (l := g.1) (by rw [hm]; exact hgg.1) hsq (gate_new h hg hlt hn)
  refine ⟨?_, ?_⟩
  ·unfold cGate; rw [List.map_singleton, eg]; exact hp _
  ·unfold cGate; rw [eg]
   intro j x hx
   have hx' : ((cGates c.gates (cIn ([], cAt0 c.max) c.inl) ((ordL c.gates).take k)).1 ++ [_])[j]? = some x := hx
   obtain ⟨za, a1, a2, a3, a4⟩ := pa
   obtain ⟨zb, b1, b2, b3, b4⟩ := pb
   rw [litI_some a1, litI_some b1] at hx'
   by_cases hj : j < (cGates c.gates (cIn ([], cAt0 c.max) c.inl) ((ordL c.gates).take k)).1.length
   ·rw [List.getElem?_append_left hj] at hx'; exact h2 j x hx'
   ·rw [List.getElem?_append_right (by omega)] at hx'
    have h0 : j - (cGates c.gates (cIn ([], cAt0 c.max) c.inl) ((ordL c.gates).take k)).1.length = 0 := by have := lt_of_get hx'; simpa using this
    rw [h0] at hx'
    simp only [List.getElem?_cons_zero, Option.some.injEq] at hx'
    subst hx'
    have ka : 0 ≤ xorI za (g.2.1 % 2) ∧ xorI za (g.2.1 % 2) ≤ za + 1 := by unfold xorI Lt.xor1; split <;> (try split) <;> omega
    have kb : 0 ≤ xorI zb (g.2.2 % 2) ∧ xorI zb (g.2.2 % 2) ≤ zb + 1 := by unfold xorI Lt.xor1; split <;> (try split) <;> omega
    unfold badNode
    dsimp only
    omega
theorem cNet_ok {c : CirT} (h : GoodC' c) : PutOk (cNet c) c.seq c.max.toNat ∧ GoodNet (cNet c).1 := by
 have h1 := net_to h _ (Nat.le_refl _)
 rw [List.take_length] at h1
 exact h1
theorem ord_all {c : CirT} (h : GoodC' c) {i : Nat} (hi : i < c.gates.length) : i ∈ ordL c.gates := by
 refine Classical.byContradiction fun hn => ?_
 have hO := (ordL_is c.gates).1
 have h1 := nodup_le c.gates.length (i :: ordL c.gates) (List.nodup_cons.2 ⟨hn, hO.nodup⟩) (fun j hj => by
  rcases List.mem_cons.1 hj with rfl | hj
  ·exact hi
  ·exact hO.lt j hj)
 have := h.ord
 simp only [List.length_cons] at h1
 omega
theorem seq_all {c : CirT} (h : GoodC' c) {l : Int} (hl : l ∈ c.own) : l ∈ c.seq := by
 rcases List.mem_append.1 hl with h1 | h1
 ·exact List.mem_append_left _ h1
 ·obtain ⟨g, hg, rfl⟩ := List.mem_map.1 h1
  obtain ⟨i, hi⟩ := List.mem_iff_getElem?.1 hg
  exact List.mem_append_right _ (List.mem_map.2 ⟨i, ord_all h (lt_of_get hi), by rw [gAt_of hi]⟩)
end Go.Proofs.YteidpnpbfagaeaaGreat
namespace Go.Proofs.YteidpnpbfagaeaaGreat
open Go Go.Lt Go.RowKit
set_option linter.unusedVariables false
set_option linter.unusedSimpArgs false
set_option maxRecDepth 20000

def IsFresh2 {α β : Type} (s : Nat) (enc : α → List Value) (el : TypeId) (t : Nat) (encb : β → List Value) (elb : TypeId) (w : World) (L : List α) (M : List β) (v : Value) (w' : World) : Prop :=
 Ext w w' ∧ ∃ a cap b cb, v = .tuple #[.slice a L.length cap, .slice b M.length cb] ∧ Own s enc el w.heap.size w' a cap L ∧ Own t encb elb w.heap.size w' b cb M

end Go.Proofs.YteidpnpbfagaeaaGreat
namespace Go.Proofs.YteidpnpbfagaeaaGreat
open Go Go.Lt Go.RowKit
set_option linter.unusedVariables false
set_option linter.unusedSimpArgs false
set_option maxRecDepth 20000

theorem ref11_lit (a : Option Addr) (cap : Nat) (A : List Int) (l z : Int) (w : World) (R : Row 1 encI w a A) (h0 : 0 ≤ l) (hl : l ≤ 4294967296) (hz : A[(l / 2).toNat]? = some z) (hz0 : 0 ≤ z ∧ z ≤ 4294967296) :
  Still Tryz.prog 98 [.slice a A.length cap, .int .i64 l] w (.int .i64 (litI A l)) := by
 have hlt := lt_of_get hz
 have e0 : litI A l = xorI z (l % 2) := by unfold litI; rw [getD_of hz]
 by_cases h : l % 2 = 1
 ·refine Spec.of _ Tryz.func98 rfl Tryz.ntmps98 (by kernel_rfl) rfl ?_
  repeat' (first
   | (apply W.condKT; exact rfl; (focus (exact dec_true h; done)))
   | (show WL _ _ _ _ _ _ _; first | apply WL.nil | (refine WL.au (k := ?_)))
   | (show QL _ _ _ _ _ _ _; first | apply QL.nil | (refine QL.au (k := ?_)) | (apply QL.index tOk; (iterate 8 exact rfl); assumption; (exact extA); exact rfl; omega; assumption; intro b off h; have hcc := h; first | (obtain ⟨h1, h2, h3, h4, h5, h6, _⟩ := h) | (obtain ⟨h1, h2, h3, _⟩ := h) | (obtain ⟨h1, h2, _⟩ := h) | (obtain ⟨h1, _⟩ := h)))
   | (show Z _ _ _ _ _; first | apply Z.then_normal | apply Z.then_ret)
   | (show W _ _ _ _ _ _; first | apply W.seq | apply W.region | apply W.ret | (apply W.regionD tMix; kernel_rfl))
   | fail)
  exact Z.body1 Tryz.results98 rfl fun m => ⟨by rw [e0, h]; congr 1; unfold xorI Lt.xor1; split <;> (try split) <;> omega, m, rfl⟩
 ·refine Spec.of _ Tryz.func98 rfl Tryz.ntmps98 (by kernel_rfl) rfl ?_
  repeat' (first
   | (apply W.condKF; exact rfl; (focus (exact dec_false h; done)))
   | (show WL _ _ _ _ _ _ _; first | apply WL.nil | (refine WL.au (k := ?_)) | (apply WL.index tOk; (iterate 8 exact rfl); assumption; (exact extA); exact rfl; omega; assumption; intro b off h; have hcc := h; first | (obtain ⟨h1, h2, h3, h4, h5, h6, _⟩ := h) | (obtain ⟨h1, h2, h3, _⟩ := h) | (obtain ⟨h1, h2, _⟩ := h) | (obtain ⟨h1, _⟩ := h)))
   | (show Z _ _ _ _ _; apply Z.then_normal)
   | (show W _ _ _ _ _ _; first | apply W.seq | apply W.region | apply W.skip | apply W.ret)
   | fail)
  exact Z.body1 Tryz.results98 rfl fun m => ⟨by rw [e0]; congr 1; unfold xorI Lt.xor1; split <;> (try split) <;> omega, m, rfl⟩

theorem cIn_len (s : NA) (ls : List Int) : (cIn s ls).1.length = s.1.length + ls.length ∧ (cIn s ls).2.length = s.2.length := by
 induction ls generalizing s with
 | nil => exact ⟨rfl, rfl⟩
 | cons l ls ih =>
  have := ih (cput s l (-1, 0))
  refine ⟨?_, ?_⟩
  ·show (cIn (cput s l (-1, 0)) ls).1.length = _
   rw [this.1]; simp [cput]; omega
  ·show (cIn (cput s l (-1, 0)) ls).2.length = _
   rw [this.2]; simp [cput]
theorem cIn_take (s : NA) {ls : List Int} {k : Nat} {x : Int} (h : ls[k]? = some x) : cIn s (ls.take (k + 1)) = cput (cIn s (ls.take k)) x (-1, 0) := by rw [take_succ' h, cIn_snoc]
theorem at_snoc (k : Nat) : (0 :: List.replicate k (-1 : Int)) ++ [-1] = 0 :: List.replicate (k + 1) (-1) := by rw [List.replicate_succ', List.cons_append]

noncomputable def cS1 (c : CirT) (k : Nat) : NA := cIn ([], cAt0 c.max) (c.ins.take k)
noncomputable def cS2 (c : CirT) (k : Nat) : NA := cIn (cS1 c c.ins.length) ((c.lat.map (·.1)).take k)
noncomputable def cS3 (c : CirT) (k : Nat) : NA := cGates c.gates (cS2 c c.lat.length) ((ordL c.gates).take k)
theorem cS1_0 (c : CirT) : cS1 c 0 = ([], cAt0 c.max) := by unfold cS1; rw [List.take_zero]; rfl
theorem cS1_s {c : CirT} {k : Nat} {x : Int} (h : c.ins[k]? = some x) : cS1 c (k + 1) = cput (cS1 c k) x (-1, 0) := cIn_take _ h
theorem cS1_len (c : CirT) {k : Nat} (h : k ≤ c.ins.length) : (cS1 c k).1.length = k ∧ (cS1 c k).2.length = c.max.toNat + 1 := by
 have := cIn_len ([], cAt0 c.max) (c.ins.take k)
 refine ⟨by unfold cS1; rw [this.1, List.length_take]; simp; omega, by unfold cS1; rw [this.2]; simp [cAt0]⟩
theorem cS2_0 (c : CirT) : cS2 c 0 = cS1 c c.ins.length := by unfold cS2; rw [List.take_zero]; rfl
theorem cS2_s {c : CirT} {k : Nat} {x : T3} (h : c.lat[k]? = some x) : cS2 c (k + 1) = cput (cS2 c k) x.1 (-1, 0) := cIn_take _ (by rw [List.getElem?_map, h]; rfl)
theorem cS2_len (c : CirT) {k : Nat} (h : k ≤ c.lat.length) : (cS2 c k).1.length = c.ins.length + k ∧ (cS2 c k).2.length = c.max.toNat + 1 := by
 have := cIn_len (cS1 c c.ins.length) ((c.lat.map (·.1)).take k)
 have h1 := cS1_len c (Nat.le_refl c.ins.length)
 refine ⟨by unfold cS2; rw [this.1, h1.1, List.length_take, List.length_map]; omega, by unfold cS2; rw [this.2, h1.2]⟩
theorem cS2_all (c : CirT) : cS2 c c.lat.length = cIn ([], cAt0 c.max) c.inl := by
 unfold cS2 cS1
 rw [List.take_length, show c.lat.length = (c.lat.map (·.1)).length from (List.length_map _).symm, List.take_length]
 unfold cIn; rw [← List.foldl_append]
theorem cS3_0 (c : CirT) : cS3 c 0 = cS2 c c.lat.length := by unfold cS3; rw [List.take_zero]; rfl
theorem cS3_s {c : CirT} {k i : Nat} (h : (ordL c.gates)[k]? = some i) : cS3 c (k + 1) = cGate c.gates (cS3 c k) i := by unfold cS3; rw [take_succ' h, cGates_snoc]
theorem cS3_len (c : CirT) {k : Nat} (h : k ≤ (ordL c.gates).length) : (cS3 c k).1.length = c.ins.length + c.lat.length + k ∧ (cS3 c k).2.length = c.max.toNat + 1 := by
 induction k with
 | zero => rw [cS3_0]; exact cS2_len c (Nat.le_refl _)
 | succ k ih =>
  obtain ⟨i, hi⟩ := getI (ordL c.gates) (show k < _ by omega)
  have := ih (by omega)
  rw [cS3_s hi]
  refine ⟨?_, ?_⟩
  ·show (_ ++ [_]).length = _
   rw [List.length_append, this.1, List.length_singleton]; omega
  ·show (List.set _ _ _).length = _
   rw [List.length_set, this.2]
theorem cS3_all (c : CirT) : cS3 c (ordL c.gates).length = cNet c := by unfold cS3 cNet; rw [List.take_length, cS2_all]
theorem cS3_get {c : CirT} (h : GoodC' c) {k i : Nat} (hi : (ordL c.gates)[k]? = some i) : ∃ g za zb, c.gates[i]? = some g ∧ (cS3 c k).2[(g.2.1 / 2).toNat]? = some za ∧ (cS3 c k).2[(g.2.2 / 2).toNat]? = some zb ∧ (0 ≤ za ∧ za ≤ 2 * ((cS3 c k).1.length : Int)) ∧ (0 ≤ zb ∧ zb ≤ 2 * ((cS3 c k).1.length : Int)) := by
 have hO := (ordL_is c.gates).1
 obtain ⟨g, hg, hn, hr⟩ := (hO k i hi).1
 have h1 := (net_to h k (Nat.le_of_lt (lt_of_get hi))).1
 have e : cGates c.gates (cIn ([], cAt0 c.max) c.inl) ((ordL c.gates).take k) = cS3 c k := by unfold cS3; rw [cS2_all]
 rw [e] at h1
 have hm' := List.mem_of_getElem? hg
 have ua : g.2.1 ∈ c.used := List.mem_append_right _ (List.mem_flatMap.2 ⟨g, hm', by simp⟩)
 have ub : g.2.2 ∈ c.used := List.mem_append_right _ (List.mem_flatMap.2 ⟨g, hm', by simp⟩)
 obtain ⟨za, a1, a2, _, a3⟩ := h1.ge (used_put h ua fun j x hx hj => (hr j x hx hj).1)
 obtain ⟨zb, b1, b2, _, b3⟩ := h1.ge (used_put h ub fun j x hx hj => (hr j x hx hj).2)
 exact ⟨g, za, zb, hg, a1, b1, ⟨a2, a3⟩, ⟨b2, b3⟩⟩

set_option maxHeartbeats 32000000 in
theorem ref11_Net (c : Circ) (w : World) (hC : CAt w c) (hg : GoodC' c.t) (hz : SzC c.t 100000) :
  Lt.Spec Tryz.prog 39 [c.val] w (IsFresh2 2 encN 84 1 encI 3 w (cNet c.t).1 (cNet c.t).2) := by
 have z1 : c.ins.2.2.length ≤ 100000 := hz.1
 have z2 : c.lat.2.2.length ≤ 100000 := hz.2.1
 have z6 : c.gates.2.2.length ≤ 100000 := hz.2.2.2.2.2
 have hm : 0 ≤ c.max ∧ c.max ≤ 16777216 := hg.max
 have hown : ∀ x ∈ c.t.own, 2 ≤ x ∧ x % 2 = 0 ∧ x ≤ 2 * c.max := hg.own
 have hused : ∀ x ∈ c.t.used, 0 ≤ x ∧ x ≤ 2 * c.max + 1 := hg.used
 refine Spec.of _ Tryz.func39 rfl Tryz.ntmps39 (by kernel_rfl) rfl ?_
 repeat' (first
  | (apply WL.box; (iterate 3 exact rfl); intro gb w' hb hge hc hx; have hcc := hc; ((obtain ⟨h1, h2, h3, _⟩ := hc)); (have hcells := hcc; obtain ⟨y0, y1, y2, y3, y4, y5, y6, _⟩ := hcc; obtain ⟨gc, rfl⟩ : ∃ x, x = gb := ⟨_, rfl⟩; obtain ⟨wc, rfl⟩ : ∃ x, x = w' := ⟨_, rfl⟩; obtain ⟨hxc, rfl⟩ : ∃ x, x = hx := ⟨_, rfl⟩))
  | (apply WL.lit (len := 0) tOk; (iterate 6 exact rfl); (kernel_rfl); exact rfl; intro gb w' hb hge hc hx; have hO0 := Own.of_block0 (enc := encN) (s := 2) hb hge; (have hS1 : Lt.Sep wc.heap.size w' [prow 2 encN 84 wc.heap.size (some ⟨gb, 0, none⟩) 0 []] := Sep.none'.newRow' hx hO0 (Nat.le_refl _); obtain ⟨g0, rfl⟩ : ∃ x, x = gb := ⟨_, rfl⟩; obtain ⟨w0, rfl⟩ : ∃ x, x = w' := ⟨_, rfl⟩; obtain ⟨hx0, rfl⟩ : ∃ x, x = hx := ⟨_, rfl⟩))
  | (apply WL.lit tOk; (iterate 6 exact rfl); (kernel_rfl); exact rfl; intro gb w' hb hge hc hx; have hO := Own.of_block ([(0 : Int)]) encI_ok hb hge rfl; (have hS2 := hS1.newRow' (s := 1) (enc := encI) (el := 3) (cap := 1) (l := [0]) hx hO (Below.size hx0); obtain ⟨g1, rfl⟩ : ∃ x, x = gb := ⟨_, rfl⟩; obtain ⟨w1, rfl⟩ : ∃ x, x = w' := ⟨_, rfl⟩; obtain ⟨hx1, rfl⟩ : ∃ x, x = hx := ⟨_, rfl⟩))
  | (show WL _ _ _ _ _ _ _; first | apply WL.nil | (refine WL.au (k := ?_)))
  | (show Z _ _ _ _ _; apply Z.then_normal)
  | (show W _ _ _ _ _ _; first | apply W.seq | apply W.region | apply W.block)
  | fail)
 have hX1 : Ext w w1 := extA
 have Ri := hC.ins.row.ext hxc
 have Rl := hC.lat.row.ext hxc
 have Rg := hC.gates.row.ext hxc
 refine W.loopO c.max.toNat (fun k d dp w' => k ≤ c.max.toNat ∧ Ext wc w' ∧ Lt.Sep wc.heap.size w' [prow 1 encI 3 wc.heap.size d dp (0 :: List.replicate k (-1 : Int)), prow 2 encN 84 wc.heap.size (some ⟨g0, 0, none⟩) 0 []]) (fun k d dp => [(1, .pointer (some ⟨gc, 0, none⟩)), (4, .slice (some ⟨g0, 0, none⟩) 0 0), (5, .slice d (0 :: List.replicate k (-1 : Int)).length dp), (6, .int .i64 ((k : Int) + 1))]) (some ⟨g1, 0, none⟩) 1 ⟨Nat.zero_le _, extA, hS2⟩ (fun k d dp w' h => h.1) ⟨rfl, rfl, rfl, rfl, trivial⟩ ?_
 rintro k d dp w2 ⟨hk, hX2, hS⟩
 have hlk : (0 :: List.replicate k (-1 : Int)).length = k + 1 := by simp
 have hR0 := hS.row (i := 0) rfl
 have hR1 := hS.row (i := 1) rfl
 by_cases hlt : k < c.max.toNat
 ·repeat' (first
   | (apply W.condKT; exact rfl; (focus (exact dec_true (by omega); done)))
   | (apply WL.lit tOk; (iterate 6 exact rfl); (kernel_rfl); exact rfl; intro gb w' hb hge hc hx)
   | (apply WL.append1 (z := ((-1 : Int))) tOk encI_ok; (iterate 10 exact rfl); assumption; (exact extA); (exact rfl); (assumption); exact rfl; exact rfl; (exact extA); (omega); intro a' cap' w' hO hX' hU hF; (replace hS := Sep.updRow (i := 0) rfl hU hO hF hS extA (by (exact Below.size extA))); (try simp only [List.set_cons_zero, List.set_cons_succ] at hS); (try have hR0 := hS.row (i := 0) rfl); (try have hR1 := hS.row (i := 1) rfl))
   | (show WL _ _ _ _ _ _ _; first | apply WL.nil | (refine WL.au (k := ?_)))
   | (show Z _ _ _ _ _; first | apply Z.then_normal | apply Z.block_normal)
   | (show W _ _ _ _ _ _; first | apply W.seq | apply W.region | apply W.block | apply W.skip)
   | fail)
  exact Z.againO a' cap' ⟨by omega, extA, by rw [← at_snoc]; exact hS⟩ ⟨rfl, rfl, by rw [← at_snoc]; exact rfl, rfl, trivial⟩
 obtain rfl : k = c.max.toNat := by omega
 repeat' (first
  | (apply W.condKF; exact rfl; (focus (exact dec_false (by omega); done)))
  | (show WL _ _ _ _ _ _ _; first | apply WL.nil | (refine WL.au (k := ?_)))
  | (show Z _ _ _ _ _; first | apply Z.then_normal | apply Z.then_exit | apply Z.block_exit)
  | (show W _ _ _ _ _ _; first | apply W.seq | apply W.region | apply W.block | apply W.exit)
  | fail)
 have hown1 : ∀ x ∈ c.ins.2.2, 2 ≤ x ∧ x % 2 = 0 ∧ x ≤ 2 * c.max := fun x hx => hown x (List.mem_append_left _ (List.mem_append_left _ hx))
 have hown2 : ∀ x ∈ c.lat.2.2, 2 ≤ x.1 ∧ x.1 % 2 = 0 ∧ x.1 ≤ 2 * c.max := fun x hx => hown x.1 (List.mem_append_left _ (List.mem_append_right _ (List.mem_map.2 ⟨x, hx, rfl⟩)))
 have e10 := cS1_0 c.t
 refine W.loopO2 c.ins.2.2.length (fun k a cp d dp w' => k ≤ c.ins.2.2.length ∧ Ext wc w' ∧ Lt.Sep wc.heap.size w' [prow 1 encI 3 wc.heap.size d dp (cS1 c.t k).2, prow 2 encN 84 wc.heap.size a cp (cS1 c.t k).1]) (fun k a cp d dp => [(1, .pointer (some ⟨gc, 0, none⟩)), (4, .slice a (cS1 c.t k).1.length cp), (5, .slice d (cS1 c.t k).2.length dp), (7, .int .i64 k)]) (some ⟨g0, 0, none⟩) 0 d dp ⟨Nat.zero_le _, hX2, by rw [e10]; exact hS⟩ (fun k a cp d dp w' h => h.1) (by rw [e10]; exact ⟨rfl, rfl, rfl, rfl, trivial⟩) ?_
 clear hS hR0 hR1 hX2
 rintro k a cp d dp w2 ⟨hk, hX2, hS⟩
 have hR0 := hS.row (i := 0) rfl
 have hR1 := hS.row (i := 1) rfl
 have hl1 : (cS1 c.t k).1.length = k ∧ (cS1 c.t k).2.length = c.max.toNat + 1 := cS1_len c.t hk
 by_cases hlt : k < c.ins.2.2.length
 ·obtain ⟨x, hgx⟩ := getI c.ins.2.2 hlt
  have hxo := hown1 x (List.mem_of_getElem? hgx)
  have e1 := cS1_s (c := c.t) hgx
  obtain ⟨yv, hgy⟩ := getI (cS1 c.t k).2 (show (x / 2).toNat < _ by omega)
  repeat' (first
   | (apply W.condKT; exact rfl; (focus (exact dec_true (by omega); done)))
   | (apply WL.build tOk; (iterate 7 exact rfl); kernel_rfl)
   | (apply WL.lit tOk; (iterate 6 exact rfl); (kernel_rfl); exact rfl; intro gb w' hb hge hc hx)
   | (apply WL.append1 (z := (((-1 : Int), (0 : Int)))) tOk encN_ok; (iterate 10 exact rfl); assumption; (exact extA); (exact rfl); (assumption); exact rfl; exact rfl; (exact extA); (omega); intro a' cap' w' hO hX' hU hF; (replace hS := Sep.updRow (i := 1) rfl hU hO hF hS extA (by (exact Below.size extA))); (try simp only [List.set_cons_zero, List.set_cons_succ] at hS); (try have hR0 := hS.row (i := 0) rfl); (try have hR1 := hS.row (i := 1) rfl))
   | (show WL _ _ _ _ _ _ _; first | apply WL.nil | (refine WL.au (k := ?_)) | (apply WL.index tOk; (iterate 8 exact rfl); assumption; (exact extA); exact rfl; omega; assumption; intro b off h; have hcc := h; first | (obtain ⟨h1, h2, h3, h4, h5, h6, _⟩ := h) | (obtain ⟨h1, h2, h3, _⟩ := h) | (obtain ⟨h1, h2, _⟩ := h) | (obtain ⟨h1, _⟩ := h)))
   | (show Z _ _ _ _ _; apply Z.then_normal)
   | (show W _ _ _ _ _ _; first | apply W.seq | apply W.region | apply W.block | apply W.skip)
   | fail)
  have le3 : ((cS1 c.t k).1 ++ [((-1 : Int), (0 : Int))]).length = k + 1 := by rw [List.length_append, hl1.1]; rfl
  have le5 : 2 * (((cS1 c.t k).1 ++ [((-1 : Int), (0 : Int))]).length : Int) = 2 * (((cS1 c.t k).1.length : Int) + 1) := by rw [le3, hl1.1]; rfl
  obtain ⟨a2, rfl⟩ : ∃ x, x = a' := ⟨_, rfl⟩; obtain ⟨cp2, rfl⟩ : ∃ x, x = cap' := ⟨_, rfl⟩
  repeat' (first
   | (apply WL.storeO (z' := (2 * (((cS1 c.t k).1 ++ [((-1 : Int), (0 : Int))]).length : Int))) tOk; (iterate 4 exact rfl); assumption; (exact extA); (iterate 3 exact rfl); exact encI_ok; assumption; exact rfl; (exact extA); intro w' hO hX' hU; (replace hS := Sep.updRow (i := 0) rfl hU hO (.inl rfl) hS extA (by (exact Below.size extA))); (try simp only [List.set_cons_zero, List.set_cons_succ] at hS); (try have hR0 := hS.row (i := 0) rfl); (try have hR1 := hS.row (i := 1) rfl))
   | (apply WL.indexO tOk; (iterate 8 exact rfl); assumption; (exact extA); exact encI_ok; (exact rfl); omega; assumption; intro gb ha hc; cases ha; have hcc := hc; first | (obtain ⟨h1, h2, h3, _⟩ := hc) | (obtain ⟨h1, h2, _⟩ := hc) | (obtain ⟨h1, _⟩ := hc))
   | (show WL _ _ _ _ _ _ _; first | apply WL.nil | (refine WL.au (k := ?_)))
   | (show Z _ _ _ _ _; first | apply Z.then_normal | apply Z.block_normal)
   | (show W _ _ _ _ _ _; apply W.region)
   | fail)
  rw [le5] at hS
  exact Z.againO2 a2 cp2 (some ⟨gb, 0, none⟩) dp ⟨by omega, extA, by rw [e1]; exact hS⟩ (by repeat' first | exact trivial | (refine And.intro ?_ ?_) | exact rfl | (rw [e1]; exact rfl) | (rw [e1]; show _ = some (Value.slice _ (List.set _ _ _).length _); rw [List.length_set]; exact rfl))
 obtain rfl : k = c.ins.2.2.length := by omega
 repeat' (first
  | (apply W.condKF; exact rfl; (focus (exact dec_false (by omega); done)))
  | (show WL _ _ _ _ _ _ _; first | apply WL.nil | (refine WL.au (k := ?_)))
  | (show Z _ _ _ _ _; first | apply Z.then_normal | apply Z.then_exit | apply Z.block_exit)
  | (show W _ _ _ _ _ _; first | apply W.seq | apply W.region | apply W.block | apply W.exit)
  | fail)
 have e20 := cS2_0 c.t
 have e20 : cS2 c.t 0 = cS1 c.t c.ins.2.2.length := e20
 refine W.loopO2 c.lat.2.2.length (fun k a cp d dp w' => k ≤ c.lat.2.2.length ∧ Ext wc w' ∧ Lt.Sep wc.heap.size w' [prow 1 encI 3 wc.heap.size d dp (cS2 c.t k).2, prow 2 encN 84 wc.heap.size a cp (cS2 c.t k).1]) (fun k a cp d dp => [(1, .pointer (some ⟨gc, 0, none⟩)), (4, .slice a (cS2 c.t k).1.length cp), (5, .slice d (cS2 c.t k).2.length dp), (8, .int .i64 k)]) a cp d dp ⟨Nat.zero_le _, hX2, by rw [e20]; exact hS⟩ (fun k a cp d dp w' h => h.1) (by rw [e20]; exact ⟨rfl, rfl, rfl, rfl, trivial⟩) ?_
 clear hS hR0 hR1 hX2 hl1 hk
 rintro k a cp d dp w2 ⟨hk, hX2, hS⟩
 have hR0 := hS.row (i := 0) rfl
 have hR1 := hS.row (i := 1) rfl
 have hl1 : (cS2 c.t k).1.length = c.ins.2.2.length + k ∧ (cS2 c.t k).2.length = c.max.toNat + 1 := cS2_len c.t hk
 by_cases hlt : k < c.lat.2.2.length
 ·obtain ⟨x, hgx⟩ := getI c.lat.2.2 hlt
  have hxo := hown2 x (List.mem_of_getElem? hgx)
  have e1 := cS2_s (c := c.t) hgx
  obtain ⟨yv, hgy⟩ := getI (cS2 c.t k).2 (show (x.1 / 2).toNat < _ by omega)
  have le3 : ((cS2 c.t k).1 ++ [((-1 : Int), (0 : Int))]).length = c.ins.2.2.length + k + 1 := by rw [List.length_append, hl1.1]; rfl
  have le5 : 2 * (((cS2 c.t k).1 ++ [((-1 : Int), (0 : Int))]).length : Int) = 2 * (((cS2 c.t k).1.length : Int) + 1) := by rw [le3, hl1.1]; rfl
  repeat' (first
   | (apply W.condKT; exact rfl; (focus (exact dec_true (by omega); done)))
   | (apply WL.build tOk; (iterate 7 exact rfl); kernel_rfl)
   | (apply WL.lit tOk; (iterate 6 exact rfl); (kernel_rfl); exact rfl; intro gb w' hb hge hc hx)
   | (apply WL.append1 (z := (((-1 : Int), (0 : Int)))) tOk encN_ok; (iterate 10 exact rfl); assumption; (exact extA); (exact rfl); (assumption); exact rfl; exact rfl; (exact extA); (omega); intro a' cap' w' hO hX' hU hF; (replace hS := Sep.updRow (i := 1) rfl hU hO hF hS extA (by (exact Below.size extA))); (try simp only [List.set_cons_zero, List.set_cons_succ] at hS); (try have hR0 := hS.row (i := 0) rfl); (try have hR1 := hS.row (i := 1) rfl))
   | (show WL _ _ _ _ _ _ _; first | apply WL.nil | (refine WL.au (k := ?_)) | (apply WL.index tOk; (iterate 8 exact rfl); assumption; (exact extA); exact rfl; omega; assumption; intro b off h; have hcc := h; first | (obtain ⟨h1, h2, h3, h4, h5, h6, _⟩ := h) | (obtain ⟨h1, h2, h3, _⟩ := h) | (obtain ⟨h1, h2, _⟩ := h) | (obtain ⟨h1, _⟩ := h)))
   | (show Z _ _ _ _ _; apply Z.then_normal)
   | (show W _ _ _ _ _ _; first | apply W.seq | apply W.region | apply W.block | apply W.skip)
   | fail)
  obtain ⟨a2, rfl⟩ : ∃ x, x = a' := ⟨_, rfl⟩; obtain ⟨cp2, rfl⟩ : ∃ x, x = cap' := ⟨_, rfl⟩
  repeat' (first
   | (apply WL.storeO (z' := (2 * (((cS2 c.t k).1 ++ [((-1 : Int), (0 : Int))]).length : Int))) tOk; (iterate 4 exact rfl); assumption; (exact extA); (iterate 3 exact rfl); exact encI_ok; assumption; exact rfl; (exact extA); intro w' hO hX' hU; (replace hS := Sep.updRow (i := 0) rfl hU hO (.inl rfl) hS extA (by (exact Below.size extA))); (try simp only [List.set_cons_zero, List.set_cons_succ] at hS); (try have hR0 := hS.row (i := 0) rfl); (try have hR1 := hS.row (i := 1) rfl))
   | (apply WL.indexO tOk; (iterate 8 exact rfl); assumption; (exact extA); exact encI_ok; (exact rfl); omega; assumption; intro gb ha hc; cases ha; have hcc := hc; first | (obtain ⟨h1, h2, h3, _⟩ := hc) | (obtain ⟨h1, h2, _⟩ := hc) | (obtain ⟨h1, _⟩ := hc))
   | (show WL _ _ _ _ _ _ _; first | apply WL.nil | (refine WL.au (k := ?_)))
   | (show Z _ _ _ _ _; first | apply Z.then_normal | apply Z.block_normal)
   | (show W _ _ _ _ _ _; apply W.region)
   | fail)
  rw [le5] at hS
  exact Z.againO2 a2 cp2 (some ⟨gb, 0, none⟩) dp ⟨by omega, extA, by rw [e1]; exact hS⟩ (by repeat' first | exact trivial | (refine And.intro ?_ ?_) | exact rfl | (rw [e1]; exact rfl) | (rw [e1]; show _ = some (Value.slice _ (List.set _ _ _).length _); rw [List.length_set]; exact rfl))
 obtain rfl : k = c.lat.2.2.length := by omega
 have hgm : ∀ g ∈ c.gates.2.2, g.1 ∈ c.t.own ∧ g.2.1 ∈ c.t.used ∧ g.2.2 ∈ c.t.used := fun g hg =>
  ⟨List.mem_append.2 (.inr (List.mem_map.2 ⟨g, hg, rfl⟩)), List.mem_append.2 (.inr (List.mem_flatMap.2 ⟨g, hg, by simp⟩)), List.mem_append.2 (.inr (List.mem_flatMap.2 ⟨g, hg, by simp⟩))⟩
 have hok : gsOk c.gates.2.2 := fun g hg => by
  obtain ⟨r1, r2, r3⟩ := hgm g hg
  have := hown _ r1
  have := hused _ r2
  have := hused _ r3
  omega
 have hcells2 := hcells.ext hX2
 repeat' (first
  | (apply W.condKF; exact rfl; (focus (exact dec_false (by omega); done)))
  | ((show WL _ _ _ (⟨_, .call ⟨.value (.func 54), _, _⟩, _, _, _, _⟩ :: _) _ _ _); apply WL.call; (iterate 4 exact rfl); exact ref11_Order c _ (Rg.ext extA) hok (by omega); rintro v' w' ⟨hx, a', cap', rfl, hO⟩; (obtain ⟨hOd, rfl⟩ : ∃ x, x = hO := ⟨_, rfl⟩; obtain ⟨hxd, rfl⟩ : ∃ x, x = hx := ⟨_, rfl⟩; obtain ⟨wd, rfl⟩ : ∃ x, x = w' := ⟨_, rfl⟩; obtain ⟨ad, rfl⟩ : ∃ x, x = a' := ⟨_, rfl⟩; obtain ⟨cd, rfl⟩ : ∃ x, x = cap' := ⟨_, rfl⟩))
  | (show WL _ _ _ _ _ _ _; first | apply WL.nil | (refine WL.au (k := ?_)))
  | (show Z _ _ _ _ _; first | apply Z.then_normal | apply Z.then_exit | apply Z.block_exit)
  | (show W _ _ _ _ _ _; first | apply W.seq | apply W.region | apply W.block | apply W.exit)
  | fail)
 have hS := hS.newRow' hxd hOd (Below.size hX2)
 have hXd : Ext wc wd := extA
 have e30 : cS3 c.t 0 = cS2 c.t c.lat.2.2.length := cS3_0 c.t
 have hnl : (natI (ordL c.gates.2.2)).length = (ordL c.gates.2.2).length := by simp [natI]
 refine W.loopO2 (ordL c.gates.2.2).length (fun k a cp d dp w' => k ≤ (ordL c.gates.2.2).length ∧ Ext wc w' ∧ Lt.Sep wc.heap.size w' [prow 1 encI 3 wc.heap.size ad cd (natI (ordL c.gates.2.2)), prow 1 encI 3 wc.heap.size d dp (cS3 c.t k).2, prow 2 encN 84 wc.heap.size a cp (cS3 c.t k).1]) (fun k a cp d dp => [(1, .pointer (some ⟨gc, 0, none⟩)), (4, .slice a (cS3 c.t k).1.length cp), (5, .slice d (cS3 c.t k).2.length dp), (9, .slice ad (natI (ordL c.gates.2.2)).length cd), (10, .int .i64 k)]) a cp d dp ⟨Nat.zero_le _, hXd, by rw [e30]; exact hS⟩ (fun k a cp d dp w' h => h.1) (by rw [e30]; exact ⟨rfl, rfl, rfl, rfl, rfl, trivial⟩) ?_
 have hol : (ordL c.gates.2.2).length ≤ c.gates.2.2.length := (ordL_is c.gates.2.2).1.le
 clear hS hR0 hR1 hX2 hl1 hk hXd
 rintro k a cp d dp w2 ⟨hk, hX2, hS⟩
 have hR0 := hS.row (i := 0) rfl
 have hR1 := hS.row (i := 1) rfl
 have hR2 := hS.row (i := 2) rfl
 have RO := Own.row encI_ok hR0
 have hl1 : (cS3 c.t k).1.length = c.ins.2.2.length + c.lat.2.2.length + k ∧ (cS3 c.t k).2.length = c.max.toNat + 1 := cS3_len c.t hk
 by_cases hlt : k < (ordL c.gates.2.2).length
 ·obtain ⟨i, hi⟩ := getI (ordL c.gates.2.2) hlt
  obtain ⟨g, za, zb, hgg, hza, hzb, ka, kb⟩ := cS3_get hg (c := c.t) hi
  have hgg : c.gates.2.2[i]? = some g := hgg
  have hgo := hok g (List.mem_of_getElem? hgg)
  have hgw := hown g.1 (hgm g (List.mem_of_getElem? hgg)).1
  have hgl := lt_of_get hgg
  have hni : (natI (ordL c.gates.2.2))[k]? = some (i : Int) := by rw [natI, List.getElem?_map, hi]; rfl
  obtain ⟨yv, hgy⟩ := getI (cS3 c.t k).2 (show (g.1 / 2).toNat < _ by omega)
  have e1 : cS3 c.t (k + 1) = cput (cS3 c.t k) g.1 (litI (cS3 c.t k).2 g.2.1, litI (cS3 c.t k).2 g.2.2) := by rw [cS3_s (c := c.t) hi]; unfold cGate; rw [gAt_of hgg]
  have le3 : ((cS3 c.t k).1 ++ [(litI (cS3 c.t k).2 g.2.1, litI (cS3 c.t k).2 g.2.2)]).length = c.ins.2.2.length + c.lat.2.2.length + k + 1 := by rw [List.length_append, hl1.1]; rfl
  have le5 : 2 * (((cS3 c.t k).1 ++ [(litI (cS3 c.t k).2 g.2.1, litI (cS3 c.t k).2 g.2.2)]).length : Int) = 2 * (((cS3 c.t k).1.length : Int) + 1) := by rw [le3, hl1.1]; rfl
  have y6w : w2.cell? ⟨gc, 0 + 1 + 1 + 1 + 1 + 1 + 1, none⟩ = some (rowVal c.gates) := (hcells.ext hX2).2.2.2.2.2.2.1
  have Rg2 := Rg.ext hX2
  repeat' (first
   | (apply W.condKT; exact rfl; (focus (exact dec_true (by omega); done)))
   | (show W _ _ (.region 20 _ _) _ _ _; apply W.regionGX (.fl true 0 (.fl true 2 (.fl true 3 (.fl true 4 (.fl false 1 (.fl false 5 (.fl true 6 (.fl false 7 (.br 8 (.br 9 .done .stop) .stop))))))))) [5, 7, 8] tMix; kernel_rfl)
   | (apply WL.alloc tOk; (iterate 3 exact rfl); intro gb w' hb hge hx; replace hS := Sep.newCell (Sep.ext hS extA) hx hb hge (by (exact Below.size extA)); (try simp only [List.set_cons_zero, List.set_cons_succ] at hS); (try have hR1 := hS.row (i := 1) rfl); (try have hR2 := hS.row (i := 2) rfl); (try have hR3 := hS.row (i := 3) rfl); (try have hC0 := hS.cell (i := 0) rfl); (try have hD0 := (cells_heap hC0).1); (try have hE0 := (cells_heap hC0).2.1); (try have hF0 := (cells_heap hC0).2.2.1))
   | (apply WL.storeB (w0 := wc) tOk; (iterate 4 exact rfl); assumption; (exact extA); (iterate 3 exact rfl); (exact extA); ((focus (apply Nat.le_trans; rotate_left; assumption; exact Below.size extA; done))); intro w' hb hc hX' hU; have hcc := hc; obtain ⟨h1, h2, _⟩ := hc; replace hS := Sep.updCell (i := 0) rfl hU hb hS extA (by (exact Below.size extA)); (try simp only [List.set_cons_zero, List.set_cons_succ] at hS); (try have hR1 := hS.row (i := 1) rfl); (try have hR2 := hS.row (i := 2) rfl); (try have hR3 := hS.row (i := 3) rfl); (try have hC0 := hS.cell (i := 0) rfl); (try have hD0 := (cells_heap hC0).1); (try have hE0 := (cells_heap hC0).2.1); (try have hF0 := (cells_heap hC0).2.2.1))
   | (show SX _ _ _ _ _ _ _ _ _; first | (apply SX.done; intro w' hx) | (apply SX.fl0; exact rfl) | (apply SX.fl1; exact rfl; (exact extA)) | (apply SX.br1; exact rfl; intro w' hx))
   | (show FL _ _ _ _ _ _ _ _; first | apply FL.nilX | (apply FL.loadE tOk; (iterate 5 exact rfl); (assumption)) | (apply FL.loadAE tOk; (iterate 5 exact rfl); assumption; exact rfl) | (apply FL.indexE tOk; (iterate 8 exact rfl); assumption; exact rfl; omega; assumption; intro b off h; have hcc := h; first | (obtain ⟨h1, h2, h3, h4, h5, h6, _⟩ := h) | (obtain ⟨h1, h2, h3, _⟩ := h) | (obtain ⟨h1, h2, _⟩ := h) | (obtain ⟨h1, _⟩ := h)))
   | (show FL _ _ _ _ _ _ _ _; (refine FL.au (k := ?_)))
   | (show Z _ _ _ _ _; first | (apply Z.sxL; exact rfl) | (apply Z.sxE; (exact extA)))
   | (show WL _ _ _ _ _ _ _; first | apply WL.nil | (refine WL.au (k := ?_)))
   | (show Z _ _ _ _ _; apply Z.then_normal)
   | (show W _ _ _ _ _ _; first | apply W.seq | apply W.region | apply W.block | apply W.skip)
   | fail)
  replace hS := hS.ext hx
  (try simp only [List.set_cons_zero, List.set_cons_succ] at hS); (try have hR1 := hS.row (i := 1) rfl); (try have hR2 := hS.row (i := 2) rfl); (try have hR3 := hS.row (i := 3) rfl); (try have hC0 := hS.cell (i := 0) rfl); (try have hD0 := (cells_heap hC0).1); (try have hE0 := (cells_heap hC0).2.1); (try have hF0 := (cells_heap hC0).2.2.1)
  obtain ⟨w3, rfl⟩ : ∃ x, x = w' := ⟨_, rfl⟩
  have hX3 : Ext wc w3 := extA
  repeat' (first
   | (apply FL.build tOk; (iterate 7 exact rfl); kernel_rfl)
   | (show W _ _ (.region 21 _ _) _ _ _; apply W.regionGB (.fl true 0 (.fl true 1 (.fl true 2 (.fl true 5 (.fl true 6 (.br 3 (.br 4 (.br 7 (.br 8 (.fl true 9 (.br 10 (.br 11 (.fl true 12 .done) .stop) .stop)) .stop) .stop) (.br 7 (.br 4 (.br 8 (.fl true 9 (.br 10 (.br 11 (.fl true 12 .done) .stop) .stop)) .stop) .stop) .stop)) (.br 7 (.br 3 (.br 4 (.br 8 (.fl true 9 (.br 10 (.br 11 (.fl true 12 .done) .stop) .stop)) .stop) .stop) .stop) .stop))))))) [] (none) tMix; kernel_rfl)
   | ((show WL _ _ _ (⟨_, .call ⟨.value (.func 98), _, _⟩, _, _, _, _⟩ :: _) _ _ _); apply WL.callS; (iterate 4 exact rfl); exact ref11_lit _ _ (cS3 c.t k).2 g.2.1 _ _ ((Own.row encI_ok hR2).ext extA) (by omega) (by omega) hza (by omega))
   | ((show WL _ _ _ (⟨_, .call ⟨.value (.func 98), _, _⟩, _, _, _, _⟩ :: _) _ _ _); apply WL.callS; (iterate 4 exact rfl); exact ref11_lit _ _ (cS3 c.t k).2 g.2.2 _ _ ((Own.row encI_ok hR2).ext extA) (by omega) (by omega) hzb (by omega))
   | (apply WL.lit tOk; (iterate 6 exact rfl); (kernel_rfl); exact rfl; intro gb w' hb hge hc hx)
   | (apply WL.append1 (z := ((litI (cS3 c.t k).2 g.2.1, litI (cS3 c.t k).2 g.2.2))) tOk encN_ok; (iterate 10 exact rfl); assumption; (exact extA); (exact rfl); (assumption); exact rfl; exact rfl; (exact extA); (omega); intro a' cap' w' hO hX' hU hF; (replace hS := Sep.updRow (i := 3) rfl hU hO hF hS extA (by (exact Below.size extA))); (try simp only [List.set_cons_zero, List.set_cons_succ] at hS); (try have hR1 := hS.row (i := 1) rfl); (try have hR2 := hS.row (i := 2) rfl); (try have hR3 := hS.row (i := 3) rfl); (try have hC0 := hS.cell (i := 0) rfl); (try have hD0 := (cells_heap hC0).1); (try have hE0 := (cells_heap hC0).2.1); (try have hF0 := (cells_heap hC0).2.2.1); (obtain ⟨a2, rfl⟩ : ∃ x, x = a' := ⟨_, rfl⟩; obtain ⟨cp2, rfl⟩ : ∃ x, x = cap' := ⟨_, rfl⟩))
   | (apply WL.storeO (z' := (2 * (((cS3 c.t k).1 ++ [(litI (cS3 c.t k).2 g.2.1, litI (cS3 c.t k).2 g.2.2)]).length : Int))) tOk; (iterate 4 exact rfl); assumption; (exact extA); (iterate 3 exact rfl); exact encI_ok; assumption; exact rfl; (exact extA); intro w' hO hX' hU; (replace hS := Sep.updRow (i := 2) rfl hU hO (.inl rfl) hS extA (by (exact Below.size extA))); (try simp only [List.set_cons_zero, List.set_cons_succ] at hS); (try have hR1 := hS.row (i := 1) rfl); (try have hR2 := hS.row (i := 2) rfl); (try have hR3 := hS.row (i := 3) rfl); (try have hC0 := hS.cell (i := 0) rfl); (try have hD0 := (cells_heap hC0).1); (try have hE0 := (cells_heap hC0).2.1); (try have hF0 := (cells_heap hC0).2.2.1))
   | (apply WL.indexO tOk; (iterate 8 exact rfl); assumption; (exact extA); exact encI_ok; (exact rfl); omega; assumption; intro gb ha hc; cases ha; have hcc := hc; first | (obtain ⟨h1, h2, h3, _⟩ := hc) | (obtain ⟨h1, h2, _⟩ := hc) | (obtain ⟨h1, _⟩ := hc))
   | (show WL _ _ _ _ _ _ _; first | apply WL.nil | (refine WL.au (k := ?_)))
   | (show SG _ _ _ _ _ _ _ _ _; first | apply SG.done | (apply SG.fl0; exact rfl) | (apply SG.br1; exact rfl) | (apply SG.br; exact rfl))
   | (show FL _ _ _ _ _ _ _ _; first | apply FL.nilS | (refine FL.au (k := ?_)))
   | (show Z _ _ _ _ _; (apply Z.sgL; exact rfl))
   | (show Z _ _ _ _ _; first | apply Z.then_normal | apply Z.block_normal)
   | (show W _ _ _ _ _ _; apply W.region)
   | fail)
  all_goals
   rw [le5] at hS
   exact Z.againO2 a2 cp2 (some ⟨gb, 0, none⟩) dp ⟨by omega, extA, by rw [e1]; exact hS.drop 1⟩ (by repeat' first | exact trivial | (refine And.intro ?_ ?_) | exact rfl | (rw [e1]; exact rfl) | (rw [e1]; show _ = some (Value.slice _ (List.set _ _ _).length _); rw [List.length_set]; exact rfl))
 obtain rfl : k = (ordL c.gates.2.2).length := by omega
 repeat' (first
  | (apply W.condKF; exact rfl; (focus (exact dec_false (by omega); done)))
  | (show WL _ _ _ _ _ _ _; first | apply WL.nil | (refine WL.au (k := ?_)))
  | (show Z _ _ _ _ _; first | apply Z.then_normal | apply Z.then_exit | apply Z.block_exit)
  | (show W _ _ _ _ _ _; first | apply W.seq | apply W.region | apply W.ret | apply W.exit)
  | fail)
 have e39 : cS3 c.t (ordL c.gates.2.2).length = cNet c.t := cS3_all c.t
 rw [e39] at hR1 hR2
 have hwc := Below.size hxc
 exact Z.body2 Tryz.results39 rfl rfl fun m => ⟨Ext.at extA m, a, cp, d, dp, by rw [e39], (hR2.base hwc).ext ((Ext.refl _).at m), (hR1.base hwc).ext ((Ext.refl _).at m)⟩
end Go.Proofs.YteidpnpbfagaeaaGreat
namespace Go.Proofs.YteidpnpbfagaeaaGreat
open Go Go.Lt Go.RowKit
set_option linter.unusedVariables false
set_option linter.unusedSimpArgs false
set_option maxRecDepth 20000

theorem used_next {c : CirT} {x : T3} (h : x ∈ c.lat) : x.2.1 ∈ c.used := List.mem_append_left _ (List.mem_append_right _ (List.mem_map.2 ⟨x, h, rfl⟩))
theorem used_bad {c : CirT} {l : Int} (h : l ∈ c.bads) : l ∈ c.used := List.mem_append_left _ (List.mem_append_left _ (List.mem_append_left _ (List.mem_append_right _ h)))
theorem used_con {c : CirT} {l : Int} (h : l ∈ c.cons) : l ∈ c.used := List.mem_append_left _ (List.mem_append_left _ (List.mem_append_right _ h))
theorem net_len {c : CirT} (h : GoodC' c) (hz : SzC c 100000) : (cNet c).1.length ≤ 300000 := by
 rw [(cNet_ok h).1.len1]
 have h2 := (ordL_is c.gates).1.le
 obtain ⟨z1, z2, z3, z4, z5, z6⟩ := hz
 show (c.ins ++ c.lat.map (·.1) ++ (ordL c.gates).map (fun i => (gAt c.gates i).1)).length ≤ _
 simp; omega
end Go.Proofs.YteidpnpbfagaeaaGreat
namespace Go.Proofs.YteidpnpbfagaeaaGreat
open Go Go.Lt Go.RowKit
set_option linter.unusedVariables false
set_option linter.unusedSimpArgs false
set_option maxRecDepth 20000

def KnL (c : CirT) (l : Int) : Prop := 0 ≤ l ∧ (1 < l → l - l % 2 ∈ c.own)
theorem knL_used {c : CirT} (h : GoodC' c) {l : Int} (hl : l ∈ c.used) : KnL c l := ⟨(h.used l hl).1, h.has l hl⟩
theorem knL_lit {c : CirT} (h : GoodC' c) {l : Int} (hl : KnL c l) : ∃ z, (cNet c).2[(l / 2).toNat]? = some z ∧ 0 ≤ z ∧ z % 2 = 0 ∧ z ≤ 2 * ((cNet c).1.length : Int) := by
 have h0 := (cNet_ok h).1
 refine h0.ge ?_
 rcases Int.lt_or_le 1 l with h2 | h2
 ·exact .inr ⟨_, seq_all h (hl.2 h2), by omega⟩
 ·left; have := hl.1; omega
theorem knL_max {c : CirT} (h : GoodC' c) {l : Int} (hl : KnL c l) : l ≤ 2 * c.max + 1 := by
 have hm := h.max
 by_cases h1 : 1 < l
 ·have := h.own _ (hl.2 h1); omega
 ·omega
theorem knL_range {c : CirT} (h : GoodC' c) {l : Int} (hl : KnL c l) : 0 ≤ litI (cNet c).2 l ∧ litI (cNet c).2 l ≤ 2 * ((cNet c).1.length : Int) + 1 := by
 obtain ⟨z, h1, h2, h3, h4⟩ := knL_lit h hl
 rw [litI_some h1]
 unfold xorI Lt.xor1
 split <;> (try split) <;> omega
def b3 (b : Bool) : Int := if b = true then 1 else 0
def v3 (l : List Bool) : List Int := l.map b3
section
variable {c : CirT} {s i : List Bool} {want : List Int}
end
end Go.Proofs.YteidpnpbfagaeaaGreat
namespace Go.Proofs.YteidpnpbfagaeaaGreat
open Go Go.Lt Go.RowKit
set_option linter.unusedVariables false
set_option linter.unusedSimpArgs false
set_option maxRecDepth 20000

structure UnV where
 N : List (Int × Int)
 ins : List (List Int)
 own : List (List Int)
 st : List (List Int)
open Classical in
noncomputable def fstep (free : Bool) (s : List Int × List (Int × Int)) (t : T3) : List Int × List (Int × Int) :=
 if free = true ∨ 1 < t.2.2 then (s.1 ++ [2 * ((s.2.length : Int) + 1)], s.2 ++ [(-1, 0)]) else (s.1 ++ [t.2.2], s.2)
noncomputable def firstTo (c : CirT) (free : Bool) (k : Nat) : List Int × List (Int × Int) := (c.lat.take k).foldl (fstep free) ([], [])
theorem firstTo_succ {c : CirT} {free : Bool} {k : Nat} {t : T3} (h : c.lat[k]? = some t) : firstTo c free (k + 1) = fstep free (firstTo c free k) t := by
 unfold firstTo; rw [take_succ' h, List.foldl_append]; rfl
theorem fstep_in {free : Bool} {s : List Int × List (Int × Int)} {t : T3} (h : free = true ∨ 1 < t.2.2) : fstep free s t = (s.1 ++ [2 * ((s.2.length : Int) + 1)], s.2 ++ [(-1, 0)]) := by unfold fstep; rw [if_pos h]
theorem fstep_no {free : Bool} {s : List Int × List (Int × Int)} {t : T3} (h : ¬ (free = true ∨ 1 < t.2.2)) : fstep free s t = (s.1 ++ [t.2.2], s.2) := by unfold fstep; rw [if_neg h]
theorem firstTo_inv {c : CirT} (hg : GoodC' c) (free : Bool) : ∀ k, k ≤ c.lat.length → (firstTo c free k).1.length = k ∧ (firstTo c free k).2.length ≤ k ∧ (∀ z ∈ (firstTo c free k).1, hasL (firstTo c free k).2 z) ∧ Tidy (firstTo c free k).2 ∧ Grow [] (firstTo c free k).2
 | 0, _ => ⟨rfl, Nat.le_refl _, fun z hz => (by cases hz), Tidy.nil, .refl _⟩
 | k + 1, hk => by
  obtain ⟨t, ht⟩ := getI c.lat (show k < _ by omega)
  obtain ⟨i1, i2, i3, i4, i5⟩ := firstTo_inv hg free k (by omega)
  have hr := hg.res t (List.mem_of_getElem? ht)
  rw [firstTo_succ ht]
  generalize firstTo c free k = s at i1 i2 i3 i4 i5
  by_cases h : free = true ∨ 1 < t.2.2
  ·rw [fstep_in h]
   refine ⟨by simp [i1], by simp; omega, fun z hz => ?_, i4.input, .input i5⟩
   rcases List.mem_append.1 hz with hz | hz
   ·exact hasL_mono (i3 z hz) (by simp)
   ·rw [List.mem_singleton.1 hz]; unfold hasL; simp; omega
  ·rw [fstep_no h]
   refine ⟨by simp [i1], by dsimp only; omega, fun z hz => ?_, i4, i5⟩
   rcases List.mem_append.1 hz with hz | hz
   ·exact i3 z hz
   ·rw [List.mem_singleton.1 hz]
    have h2 : ¬ 1 < t.2.2 := fun hh => h (.inr hh)
    unfold hasL; dsimp only
    rcases hr with hr | hr | hr
    ·omega
    ·omega
    ·have := hg.own t.1 (List.mem_append_left _ (List.mem_append_right _ (List.mem_map.2 ⟨t, List.mem_of_getElem? ht, rfl⟩))); omega
def uinTo (N : List (Int × Int)) : Nat → List Int × List (Int × Int)
 | 0 => ([], N)
 | k + 1 => ((uinTo N k).1 ++ [2 * (((uinTo N k).2.length : Int) + 1)], (uinTo N k).2 ++ [(-1, 0)])
theorem uinTo_inv (N : List (Int × Int)) : ∀ k, (uinTo N k).1.length = k ∧ (uinTo N k).2.length = N.length + k ∧ (∀ z ∈ (uinTo N k).1, hasL (uinTo N k).2 z) ∧ Grow N (uinTo N k).2
 | 0 => ⟨rfl, rfl, fun z hz => (by cases hz), .refl _⟩
 | k + 1 => by
  obtain ⟨i1, i2, i3, i4⟩ := uinTo_inv N k
  refine ⟨by simp [uinTo, i1], by simp [uinTo, i2]; omega, fun z hz => ?_, .input i4⟩
  rcases List.mem_append.1 hz with hz | hz
  ·exact hasL_mono (i3 z hz) (by simp [uinTo])
  ·rw [List.mem_singleton.1 hz]; unfold hasL; simp [uinTo]; omega
def signs (own : List Int) (a : Int) : Int × Int := if 0 ≤ a then (own.getD (a / 2).toNat 0, Lt.xor1 (own.getD (a / 2).toNat 0)) else (-1, -1)
noncomputable def signsL (c : CirT) (own : List Int) : List (Int × Int) := (cNet c).2.map (signs own)
def pickS (p : Int × Int) (l : Int) : Int := if l % 2 = 1 then p.2 else p.1
noncomputable def uLit (c : CirT) (own : List Int) (l : Int) : Int :=
 if 0 ≤ l ∧ l ≤ 2 * c.max + 1 then pickS (signs own ((cNet c).2.getD (l / 2).toNat 0)) l else -1
theorem at_len {c : CirT} (hg : GoodC' c) : ((cNet c).2.length : Int) = c.max + 1 := by
 have h1 := (cNet_ok hg).1.len2
 have := hg.max
 omega
theorem signsL_len (c : CirT) (own : List Int) : (signsL c own).length = (cNet c).2.length := List.length_map _
theorem at_is {c : CirT} (hg : GoodC' c) {v : Nat} {a : Int} (h : (cNet c).2[v]? = some a) : a = -1 ∨ (0 ≤ a ∧ a % 2 = 0 ∧ a ≤ 2 * ((cNet c).1.length : Int)) := by
 have hP := (cNet_ok hg).1
 have hl := hP.len2
 have hv := lt_of_get h
 by_cases h0 : v = 0
 ·subst h0
  rw [hP.zero] at h; cases h; right; omega
 ·by_cases hex : ∃ l ∈ c.seq, (l / 2).toNat = v
  ·obtain ⟨l, hm, he⟩ := hex
   obtain ⟨i, hi⟩ := List.mem_iff_getElem?.1 hm
   have h2 := hP.has i l hi
   rw [he, h] at h2
   cases h2
   have := lt_of_get hi
   have := hP.len1
   right; omega
  ·have h2 := hP.not v (by omega) (by omega) (fun l hm he => hex ⟨l, hm, he⟩)
   rw [h] at h2; cases h2; left; rfl
theorem uLit_known {c : CirT} (hg : GoodC' c) (own : List Int) (h0 : ∀ z ∈ own, 0 ≤ z) (hl : own.length = (cNet c).1.length + 1) {l : Int} (hk : KnL c l) : uLit c own l = litI own (litI (cNet c).2 l) := by
 obtain ⟨z, z1, z2, z3, z4⟩ := knL_lit hg hk
 have hm := knL_max hg hk
 unfold uLit
 rw [if_pos ⟨hk.1, hm⟩, getD_of z1, litI_some z1]
 unfold signs pickS
 rw [if_pos z2]
 have e : xorI z (l % 2) = z + l % 2 := by
  unfold xorI Lt.xor1
  split <;> (try split) <;> omega
 rw [e]
 obtain ⟨y, hy⟩ := getI own (show (z / 2).toNat < own.length by omega)
 have hp : (z + l % 2) % 2 = l % 2 := by omega
 rw [litI_some (x := z + l % 2) (z := y) (by rw [show (z + l % 2) / 2 = z / 2 by omega]; exact hy), getD_of hy, hp]
 unfold xorI
 rfl
theorem uLit_has {c : CirT} (hg : GoodC' c) {N : List (Int × Int)} {own : List Int} (ho : ∀ z ∈ own, hasL N z) (hl : own.length = (cNet c).1.length + 1) {l : Int} (hk : KnL c l) : hasL N (uLit c own l) := by
 rw [uLit_known hg own (fun z hz => (ho z hz).1) hl hk]
 have hr := knL_range hg hk
 exact hasL_litI ho (by omega)
noncomputable def nextU (c : CirT) (own : List Int) : List Int := c.lat.map fun t => uLit c own t.2.1
theorem nextU_len (c : CirT) (own : List Int) : (nextU c own).length = c.lat.length := List.length_map _
def UnV.last (u : UnV) : List Int := u.st.getD (u.st.length - 1) []
noncomputable def cpU (c : CirT) (u : UnV) : List Int × List (Int × Int) := copyV (uinTo u.N c.ins.length).2 (cNet c).1 ((uinTo u.N c.ins.length).1 ++ u.last)
noncomputable def growU (c : CirT) (u : UnV) : UnV := ⟨(cpU c u).2, u.ins ++ [(uinTo u.N c.ins.length).1], u.own ++ [(cpU c u).1], u.st ++ [nextU c (cpU c u).1]⟩
noncomputable def newU (c : CirT) (free : Bool) : UnV := ⟨(firstTo c free c.lat.length).2, [], [], [(firstTo c free c.lat.length).1]⟩
structure UOk (c : CirT) (u : UnV) : Prop where
 li : u.ins.length = u.own.length
 ls : u.st.length = u.own.length + 1
 st : ∀ s ∈ u.st, s.length = c.lat.length ∧ ∀ z ∈ s, hasL u.N z
 own : ∀ o ∈ u.own, o.length = (cNet c).1.length + 1 ∧ ∀ z ∈ o, hasL u.N z
 ins : ∀ s ∈ u.ins, s.length = c.ins.length ∧ ∀ z ∈ s, hasL u.N z
 tidy : Tidy u.N
theorem newU_ok {c : CirT} (hg : GoodC' c) (free : Bool) : UOk c (newU c free) ∧ (newU c free).N.length ≤ c.lat.length := by
 obtain ⟨i1, i2, i3, i4, _⟩ := firstTo_inv hg free c.lat.length (Nat.le_refl _)
 refine ⟨⟨rfl, rfl, fun s hs => ?_, fun o ho => (by cases ho), fun o ho => (by cases ho), i4⟩, i2⟩
 rw [List.mem_singleton.1 hs]; exact ⟨i1, i3⟩
theorem UOk.last {c : CirT} {u : UnV} (h : UOk c u) : u.st[u.st.length - 1]? = some u.last ∧ u.last.length = c.lat.length ∧ ∀ z ∈ u.last, hasL u.N z := by
 have h1 := h.ls
 obtain ⟨s, hs⟩ := getI u.st (show u.st.length - 1 < u.st.length by omega)
 have e : u.last = s := getD_of hs
 rw [e]
 exact ⟨hs, (h.st s (List.mem_of_getElem? hs)).1, (h.st s (List.mem_of_getElem? hs)).2⟩
theorem copyV_yes {N n : List (Int × Int)} {ins : List Int} (hh : ∀ z ∈ ins, hasL N z) : copyV N n ins = ((cto N n ins n.length).1, (cto N n ins n.length).2.2) := by unfold copyV; rw [dec_true hh]; rfl
theorem cpU_ok {c : CirT} (hg : GoodC' c) {u : UnV} (h : UOk c u) : (∀ z ∈ (uinTo u.N c.ins.length).1 ++ u.last, hasL (uinTo u.N c.ins.length).2 z) ∧ (cpU c u).1.length = (cNet c).1.length + 1 ∧ (∀ z ∈ (cpU c u).1, hasL (cpU c u).2 z) ∧ u.N.length ≤ (cpU c u).2.length ∧ (cpU c u).2.length ≤ u.N.length + c.ins.length + (cNet c).1.length ∧ Grow u.N (cpU c u).2 := by
 obtain ⟨i1, i2, i3, i4⟩ := uinTo_inv u.N c.ins.length
 have hh : ∀ z ∈ (uinTo u.N c.ins.length).1 ++ u.last, hasL (uinTo u.N c.ins.length).2 z := fun z hz => by
  rcases List.mem_append.1 hz with hz | hz
  ·exact i3 z hz
  ·exact hasL_mono (h.last.2.2 z hz) (by omega)
 obtain ⟨j1, j2, j3, j4, j5, _⟩ := cto_inv (cNet_ok hg).2 hh (cNet c).1.length (Nat.le_refl _)
 unfold cpU
 rw [copyV_yes hh]
 exact ⟨hh, j1, j2, by dsimp only; omega, by dsimp only; omega, i4.trans j5⟩
theorem growU_ok {c : CirT} (hg : GoodC' c) {u : UnV} (h : UOk c u) : UOk c (growU c u) ∧ u.N.length ≤ (growU c u).N.length ∧ (growU c u).N.length ≤ u.N.length + c.ins.length + (cNet c).1.length ∧ Grow u.N (growU c u).N := by
 obtain ⟨_, j1, j2, j3, j4, j5⟩ := cpU_ok hg h
 obtain ⟨i1, i2, i3, i4⟩ := uinTo_inv u.N c.ins.length
 have hl1 := h.li
 have hl2 := h.ls
 have hgr : Grow (uinTo u.N c.ins.length).2 (cpU c u).2 := by
  have hh := (cpU_ok hg h).1
  unfold cpU; rw [copyV_yes hh]
  exact (cto_inv (cNet_ok hg).2 hh (cNet c).1.length (Nat.le_refl _)).2.2.2.2.1
 refine ⟨⟨by simp [growU, hl1], by simp [growU, hl2], fun s hs => ?_, fun s hs => ?_, fun s hs => ?_, j5.tidy h.tidy⟩, j3, j4, j5⟩
 ·rcases List.mem_append.1 hs with hs | hs
  ·exact ⟨(h.st s hs).1, fun z hz => hasL_mono ((h.st s hs).2 z hz) j3⟩
  ·rw [List.mem_singleton.1 hs]
   refine ⟨nextU_len _ _, fun z hz => ?_⟩
   obtain ⟨t, ht, rfl⟩ := List.mem_map.1 hz
   exact uLit_has hg j2 j1 (knL_used hg (used_next ht))
 ·rcases List.mem_append.1 hs with hs | hs
  ·exact ⟨(h.own s hs).1, fun z hz => hasL_mono ((h.own s hs).2 z hz) j3⟩
  ·rw [List.mem_singleton.1 hs]; exact ⟨j1, j2⟩
 ·rcases List.mem_append.1 hs with hs | hs
  ·exact ⟨(h.ins s hs).1, fun z hz => hasL_mono ((h.ins s hs).2 z hz) j3⟩
  ·rw [List.mem_singleton.1 hs]; exact ⟨i1, fun z hz => hgr.has (i3 z hz)⟩
def pickL (l : List Int) (i : Int) : Int := if 0 ≤ i ∧ i < (l.length : Int) then l.getD i.toNat 0 else -1
def rowU (ls : List (List Int)) (k : Int) : List Int := if 0 ≤ k ∧ k < (ls.length : Int) then ls.getD k.toNat [] else []
def UnV.inL (u : UnV) (k i : Int) : Int := pickL (rowU u.ins k) i
def UnV.state (u : UnV) (k i : Int) : Int := pickL (rowU u.st k) i
noncomputable def UnV.lit (c : CirT) (u : UnV) (k l : Int) : Int := if 0 ≤ k ∧ k < (u.own.length : Int) then uLit c (u.own.getD k.toNat []) l else -1
noncomputable def UnV.bad (c : CirT) (u : UnV) (k p : Int) : Int := u.lit c k (pickL c.bads p)
noncomputable def UnV.cons (c : CirT) (u : UnV) (k : Int) : List Int := if 0 ≤ k ∧ k < (u.own.length : Int) then c.cons.map (fun x => u.lit c k x) else []
noncomputable def ulStep (a b : List Int) (s : Int × List (Int × Int)) (n : Nat) : Int × List (Int × Int) := orV (xorV s.2 (a.getD n 0) (b.getD n 0)).2 s.1 (xorV s.2 (a.getD n 0) (b.getD n 0)).1
noncomputable def ulTo (a b : List Int) (N : List (Int × Int)) (k : Nat) : Int × List (Int × Int) := (List.range k).foldl (ulStep a b) (0, N)
theorem ulTo_succ (a b : List Int) (N : List (Int × Int)) (k : Nat) : ulTo a b N (k + 1) = ulStep a b (ulTo a b N k) k := by
 unfold ulTo; rw [List.range_succ, List.foldl_append]; rfl
theorem ulTo_inv {a b : List Int} {N : List (Int × Int)} (ha : ∀ z ∈ a, hasL N z) (hb : ∀ z ∈ b, hasL N z) (hl : b.length = a.length) : ∀ k, k ≤ a.length → hasL (ulTo a b N k).2 (ulTo a b N k).1 ∧ N.length ≤ (ulTo a b N k).2.length ∧ (ulTo a b N k).2.length ≤ N.length + 4 * k ∧ Grow N (ulTo a b N k).2
 | 0, _ => ⟨(show hasL N 0 by unfold hasL; omega), Nat.le_refl _, Nat.le_refl _, .refl _⟩
 | k + 1, hk => by
  obtain ⟨x, hx⟩ := getI a (show k < _ by omega)
  obtain ⟨y, hy⟩ := getI b (show k < _ by omega)
  obtain ⟨i1, i2, i3, i4⟩ := ulTo_inv ha hb hl k (by omega)
  rw [ulTo_succ]
  unfold ulStep
  rw [getD_of hx, getD_of hy]
  generalize ulTo a b N k = s at i1 i2 i3 i4
  have hxh := hasL_mono (ha x (List.mem_of_getElem? hx)) i2
  have hyh := hasL_mono (hb y (List.mem_of_getElem? hy)) i2
  have l1 : s.2.length ≤ (xorV s.2 x y).2.length ∧ (xorV s.2 x y).2.length ≤ s.2.length + 3 := muxV_len _ _ _ _
  have h1 : hasL (xorV s.2 x y).2 (xorV s.2 x y).1 := muxV_has hxh (notL_has hyh) hyh
  have l2 := orV_len (xorV s.2 x y).2 s.1 (xorV s.2 x y).1
  exact ⟨orV_has (hasL_mono i1 l1.1) h1, by omega, by omega, (i4.trans (muxV_grow _ _ _ _)).trans (orV_grow _ _ _)⟩
open Classical in
noncomputable def unlikeU (u : UnV) (i k : Int) : Int × UnV :=
 if (0 ≤ i ∧ i < (u.st.length : Int)) ∧ (0 ≤ k ∧ k < (u.st.length : Int)) then ((ulTo (rowU u.st i) (rowU u.st k) u.N (rowU u.st i).length).1, { u with N := (ulTo (rowU u.st i) (rowU u.st k) u.N (rowU u.st i).length).2 }) else (-1, u)
theorem rowU_mem {ls : List (List Int)} {k : Int} (h : 0 ≤ k ∧ k < (ls.length : Int)) : ls[k.toNat]? = some (rowU ls k) ∧ rowU ls k ∈ ls := by
 obtain ⟨r, hr⟩ := getI ls (show k.toNat < ls.length by omega)
 have e : rowU ls k = r := by unfold rowU; rw [if_pos h, getD_of hr]
 rw [e]; exact ⟨hr, List.mem_of_getElem? hr⟩
theorem UOk.grow {c : CirT} {u : UnV} (h : UOk c u) {N : List (Int × Int)} (hG : Grow u.N N) : UOk c { u with N := N } :=
 ⟨h.li, h.ls, fun s hs => ⟨(h.st s hs).1, fun z hz => hG.has ((h.st s hs).2 z hz)⟩, fun s hs => ⟨(h.own s hs).1, fun z hz => hG.has ((h.own s hs).2 z hz)⟩, fun s hs => ⟨(h.ins s hs).1, fun z hz => hG.has ((h.ins s hs).2 z hz)⟩, hG.tidy h.tidy⟩
theorem unlikeU_ok {c : CirT} {u : UnV} (h : UOk c u) (i k : Int) : UOk c (unlikeU u i k).2 ∧ (unlikeU u i k).2.N.length ≤ u.N.length + 4 * c.lat.length ∧ (unlikeU u i k).2.own.length = u.own.length := by
 unfold unlikeU
 split
 ·rename_i hh
  obtain ⟨ha1, ha2⟩ := h.st _ (rowU_mem hh.1).2
  obtain ⟨hb1, hb2⟩ := h.st _ (rowU_mem hh.2).2
  obtain ⟨i1, i2, i3, i4⟩ := ulTo_inv ha2 hb2 (by rw [ha1, hb1]) (rowU u.st i).length (Nat.le_refl _)
  rw [ha1] at i3
  exact ⟨h.grow i4, by dsimp only; rw [ha1]; exact i3, rfl⟩
 ·exact ⟨h, Nat.le_add_right _ _, rfl⟩
noncomputable def runU (u : UnV) (ins : List Bool) (k : Int) : List Bool × List (List Bool) :=
 if 0 ≤ k ∧ k < (u.own.length : Int) then ((rowU u.st 0).map (ofL (values u.N ins)), (u.ins.take (k.toNat + 1)).map (fun l => l.map (ofL (values u.N ins)))) else ([], [])
end Go.Proofs.YteidpnpbfagaeaaGreat
namespace Go.Lt
open Go.RowKit
set_option linter.unusedVariables false
set_option linter.unusedSimpArgs false

section arr
variable {P : Program} {T : Tab} {e : Env} {dd : Option Tmp} {t tt ty : TypeId} {x y : Operand} {ps : String} {af : Array Edge} {g : Option (Nat × Bool)}
theorem yindexA (hT : OkTab P T) {b off n s : Nat} {k : IntKind} {i : Int} {ti ei : TI} {el : TypeId}
  (hx : ev e x = some (.pointer (some ⟨b, off, none⟩))) (hy : ev e y = some (.int k i)) (ht : tget T t = some ti) (hd : ti.desc = .array n el) (he : tget T el = some ei) (hs : ei.size = s)
  (h0 : 0 ≤ i ∧ i < n) : Yields P e ⟨dd, .indexAddr t x y, tt, ps, af, g⟩ (.pointer (some ⟨b, off + i.toNat * s, none⟩)) := by
 intro ρ hρ w'
 have h1 := run_underlying' (hT.at ht); rw [hd] at h1
 have h2 := run_sizeOf' (hT.at he); rw [hs] at h2
 simp [execOp, hρ _ _ hx, hρ _ _ hy, Instr.indexAt, Instr.sureAddr, asIntOf, h1, h2, h0, Addr_add_none]
end arr
section rules
variable {P : Program} {N : Nat} {e : Env} {w : World} {Q : Exit → Act → World → Prop} {C : World → Prop} {ops : List Oper} {l : List Oper} {T : Tab}
 {d : Nat} {tt t ty : TypeId} {ps : String} {af : Array Edge} {g : Option (Nat × Bool)} {x y : Operand}
theorem WL.indexA (hT : OkTab P T) {b off n s : Nat} {k : IntKind} {i : Int} {ti ei : TI} {el : TypeId} (hg : gate ops e g = some true) (hd : Nat.blt d N = true)
  (hx : ev e x = some (.pointer (some ⟨b, off, none⟩))) (hy : ev e y = some (.int k i)) (ht : tget T t = some ti) (htd : ti.desc = .array n el) (he : tget T el = some ei) (hs : ei.size = s) (h0 : 0 ≤ i ∧ i < n)
  (k : WL P N ops.toArray l ((d, .pointer (some ⟨b, off + i.toNat * s, none⟩)) :: e) w Q) : WL P N ops.toArray (⟨some d, .indexAddr t x y, tt, ps, af, g⟩ :: l) e w Q := WL.step hg hd (yindexA hT hx hy ht htd he hs h0).in k
theorem QL.indexA (hT : OkTab P T) {b off n s : Nat} {k : IntKind} {i : Int} {ti ei : TI} {el : TypeId} (hg : gate ops e g = some true) (hd : Nat.blt d N = true)
  (hx : ev e x = some (.pointer (some ⟨b, off, none⟩))) (hy : ev e y = some (.int k i)) (ht : tget T t = some ti) (htd : ti.desc = .array n el) (he : tget T el = some ei) (hs : ei.size = s) (h0 : 0 ≤ i ∧ i < n)
  (k : QL P N C ops.toArray l ((d, .pointer (some ⟨b, off + i.toNat * s, none⟩)) :: e) Q) : QL P N C ops.toArray (⟨some d, .indexAddr t x y, tt, ps, af, g⟩ :: l) e Q := QL.step hg hd (yindexA hT hx hy ht htd he hs h0).in k
end rules

section lift
variable {H : Type} {enc : TypeId × Value → H} {P : Program} {w : World} {base : Nat} {spare : Nat → Bool} {held : Bool}
end lift
end Go.Lt
namespace Go.Lt
open Go.ChangeShapes Go.WideShapes Go.ChangeAt Go.RowKit Go.Deep
end Go.Lt
namespace Go.Lt
open Go.RowKit
set_option linter.unusedVariables false
set_option linter.unusedSimpArgs false

section
variable {P : Program} {T : Tab} {N d : Nat} {e : Env} {w : World} {ops l : List Oper} {Kf : Act → Prop} {tt t ty ct : TypeId} {ps : String} {af : Array Edge} {g : Option (Nat × Bool)} {x y : Operand}
end
end Go.Lt
namespace Go.Lt
open Go.RowKit
set_option linter.unusedVariables false
set_option linter.unusedSimpArgs false

section
variable {P : Program} {T : Tab} {N : Nat} {e : Env} {w : World} {Q : Exit → Act → World → Prop} {ops : List Oper} {l : List Oper}
 {d : Nat} {tt t ty kt et : TypeId} {ps : String} {af : Array Edge} {g : Option (Nat × Bool)} {x y : Operand} {i : TI} {dd : Option Tmp}
end
end Go.Lt
namespace Go.Proofs.YteidpnpbfagaeaaGreat
open Go Go.Lt Go.RowKit
set_option linter.unusedVariables false
set_option linter.unusedSimpArgs false
set_option maxRecDepth 20000

theorem aig_NetV (gs r cap : Nat) (a : Option Addr) (N : List (Int × Int)) (rest : List Piece) (w w0 : World) (hS : Sep w0.heap.size w (stN w0.heap.size gs a cap r N ++ rest)) (hN : N.length ≤ 1048576) :
  Lt.Spec Tryz.prog 68 [.pointer (some ⟨gs, 0, none⟩)] w (IsFresh 2 encN 84 w N) := by
 have hC0 := hS.cell (i := 0) rfl
 have hR1 := hS.row (i := 1) rfl
 obtain ⟨hD0, _⟩ := cells_heap hC0
 refine Spec.of _ Tryz.func68 rfl Tryz.ntmps68 (by kernel_rfl) rfl ?_
 repeat' (first
  | (apply WL.nilc; (iterate 3 exact rfl))
  | (apply WL.eqNilS tOk; (iterate 6 exact rfl))
  | ((show WL _ _ _ (⟨_, .call ⟨.value (.func 127), _, _⟩, _, _, _, _⟩ :: _) _ _ _); apply WL.call; (iterate 4 exact rfl); exact slices_CloneN _ _ N _ (Own.row encN_ok hR1) (Own.noneCap hR1) hN; rintro v' w' ⟨hx, a', cap', rfl, hO⟩)
  | (show WL _ _ _ _ _ _ _; first | apply WL.nil | (refine WL.au (k := ?_)))
  | (show Z _ _ _ _ _; apply Z.then_normal)
  | (show W _ _ _ _ _ _; first | apply W.seq | apply W.region | apply W.skip | apply W.ret | (apply W.condF; exact rfl))
  | fail)
 exact Z.body1 Tryz.results68 rfl fun m => ⟨Ext.at extA m, a', cap', rfl, hO⟩
end Go.Proofs.YteidpnpbfagaeaaGreat
namespace Go.Proofs.YteidpnpbfagaeaaGreat
open Go Go.Lt Go.RowKit
set_option linter.unusedVariables false
set_option linter.unusedSimpArgs false
set_option maxRecDepth 20000

theorem few_iff {c : CirT} {m : Int} : FewC c m ↔ (c.ins.length : Int) ≤ m ∧ (c.lat.length : Int) ≤ m ∧ (c.gates.length : Int) ≤ m ∧ (c.outs.length : Int) ≤ m ∧ (c.bads.length : Int) ≤ m ∧ (c.cons.length : Int) ≤ m ∧ (c.syms.length : Int) ≤ m ∧ (c.com.size : Int) ≤ 300 := Iff.rfl
set_option maxHeartbeats 16000000 in
set_option maxRecDepth 10000 in
theorem law11_Few (c : Circ) (m : Int) (w : World) : Pure Tryz.prog 15 [c.val, .int .i64 m] w (.bool (dec (FewC c.t m))) := by
 by_cases f0 : (c.ins.2.2.length : Int) ≤ m
 rotate_left
 ·skip
  refine Spec.of _ Tryz.func15 rfl Tryz.ntmps15 (by kernel_rfl) rfl ?_
  repeat' (first
   | (apply WL.box; (iterate 3 exact rfl); intro gb w' hb hge hc hx; have hcc := hc; ((obtain ⟨h1, h2, h3, _⟩ := hc)); (obtain ⟨y0, y1, y2, y3, y4, y5, y6, y7, y8, _⟩ := hcc))
   | (apply WL.gF; exact rfl; exact rfl; (focus (exact dec_false f0; done)))
   | (show WL _ _ _ _ _ _ _; first | apply WL.nil | (refine WL.au (k := ?_)) | (apply WL.guardF; exact rfl; exact rfl))
   | (show Z _ _ _ _ _; apply Z.then_normal)
   | (show W _ _ _ _ _ _; first | apply W.seq | apply W.region | apply W.ret)
   | fail)
  exact Z.body1 Tryz.results15 rfl fun q => ⟨congrArg Value.bool (by rw [dec_false (show ¬ FewC c.t m from fun h => f0 (few_iff.1 h).1)] <;> exact dec_false f0), Ext.at extA q⟩
 by_cases f1 : (c.lat.2.2.length : Int) ≤ m
 rotate_left
 ·skip
  refine Spec.of _ Tryz.func15 rfl Tryz.ntmps15 (by kernel_rfl) rfl ?_
  repeat' (first
   | (apply WL.box; (iterate 3 exact rfl); intro gb w' hb hge hc hx; have hcc := hc; ((obtain ⟨h1, h2, h3, _⟩ := hc)); (obtain ⟨y0, y1, y2, y3, y4, y5, y6, y7, y8, _⟩ := hcc))
   | (apply WL.gT; exact rfl; exact rfl; (focus (exact dec_true f0)))
   | (apply WL.gF; exact rfl; exact rfl; (focus (exact dec_false f1; done)))
   | (show WL _ _ _ _ _ _ _; first | apply WL.nil | (refine WL.au (k := ?_)) | (apply WL.guardF; exact rfl; exact rfl))
   | (show Z _ _ _ _ _; apply Z.then_normal)
   | (show W _ _ _ _ _ _; first | apply W.seq | apply W.region | apply W.ret)
   | fail)
  exact Z.body1 Tryz.results15 rfl fun q => ⟨congrArg Value.bool (by rw [dec_false (show ¬ FewC c.t m from fun h => f1 (few_iff.1 h).2.1)] <;> exact dec_false f1), Ext.at extA q⟩
 by_cases f2 : (c.gates.2.2.length : Int) ≤ m
 rotate_left
 ·skip
  refine Spec.of _ Tryz.func15 rfl Tryz.ntmps15 (by kernel_rfl) rfl ?_
  repeat' (first
   | (apply WL.box; (iterate 3 exact rfl); intro gb w' hb hge hc hx; have hcc := hc; ((obtain ⟨h1, h2, h3, _⟩ := hc)); (obtain ⟨y0, y1, y2, y3, y4, y5, y6, y7, y8, _⟩ := hcc))
   | (apply WL.gT; exact rfl; exact rfl; (focus (first | exact dec_true f0 | exact dec_true f1)))
   | (apply WL.gF; exact rfl; exact rfl; (focus (exact dec_false f2; done)))
   | (show WL _ _ _ _ _ _ _; first | apply WL.nil | (refine WL.au (k := ?_)) | (apply WL.guardF; exact rfl; exact rfl))
   | (show Z _ _ _ _ _; apply Z.then_normal)
   | (show W _ _ _ _ _ _; first | apply W.seq | apply W.region | apply W.ret)
   | fail)
  exact Z.body1 Tryz.results15 rfl fun q => ⟨congrArg Value.bool (by rw [dec_false (show ¬ FewC c.t m from fun h => f2 (few_iff.1 h).2.2.1)] <;> exact dec_false f2), Ext.at extA q⟩
 by_cases f3 : (c.outs.2.2.length : Int) ≤ m
 rotate_left
 ·skip
  refine Spec.of _ Tryz.func15 rfl Tryz.ntmps15 (by kernel_rfl) rfl ?_
  repeat' (first
   | (apply WL.box; (iterate 3 exact rfl); intro gb w' hb hge hc hx; have hcc := hc; ((obtain ⟨h1, h2, h3, _⟩ := hc)); (obtain ⟨y0, y1, y2, y3, y4, y5, y6, y7, y8, _⟩ := hcc))
   | (apply WL.gT; exact rfl; exact rfl; (focus (first | exact dec_true f0 | exact dec_true f1 | exact dec_true f2)))
   | (apply WL.gF; exact rfl; exact rfl; (focus (exact dec_false f3; done)))
   | (show WL _ _ _ _ _ _ _; first | apply WL.nil | (refine WL.au (k := ?_)) | (apply WL.guardF; exact rfl; exact rfl))
   | (show Z _ _ _ _ _; apply Z.then_normal)
   | (show W _ _ _ _ _ _; first | apply W.seq | apply W.region | apply W.ret)
   | fail)
  exact Z.body1 Tryz.results15 rfl fun q => ⟨congrArg Value.bool (by rw [dec_false (show ¬ FewC c.t m from fun h => f3 (few_iff.1 h).2.2.2.1)] <;> exact dec_false f3), Ext.at extA q⟩
 by_cases f4 : (c.bads.2.2.length : Int) ≤ m
 rotate_left
 ·skip
  refine Spec.of _ Tryz.func15 rfl Tryz.ntmps15 (by kernel_rfl) rfl ?_
  repeat' (first
   | (apply WL.box; (iterate 3 exact rfl); intro gb w' hb hge hc hx; have hcc := hc; ((obtain ⟨h1, h2, h3, _⟩ := hc)); (obtain ⟨y0, y1, y2, y3, y4, y5, y6, y7, y8, _⟩ := hcc))
   | (apply WL.gT; exact rfl; exact rfl; (focus (first | exact dec_true f0 | exact dec_true f1 | exact dec_true f2 | exact dec_true f3)))
   | (apply WL.gF; exact rfl; exact rfl; (focus (exact dec_false f4; done)))
   | (show WL _ _ _ _ _ _ _; first | apply WL.nil | (refine WL.au (k := ?_)) | (apply WL.guardF; exact rfl; exact rfl))
   | (show Z _ _ _ _ _; apply Z.then_normal)
   | (show W _ _ _ _ _ _; first | apply W.seq | apply W.region | apply W.ret)
   | fail)
  exact Z.body1 Tryz.results15 rfl fun q => ⟨congrArg Value.bool (by rw [dec_false (show ¬ FewC c.t m from fun h => f4 (few_iff.1 h).2.2.2.2.1)] <;> exact dec_false f4), Ext.at extA q⟩
 by_cases f5 : (c.cons.2.2.length : Int) ≤ m
 rotate_left
 ·skip
  refine Spec.of _ Tryz.func15 rfl Tryz.ntmps15 (by kernel_rfl) rfl ?_
  repeat' (first
   | (apply WL.box; (iterate 3 exact rfl); intro gb w' hb hge hc hx; have hcc := hc; ((obtain ⟨h1, h2, h3, _⟩ := hc)); (obtain ⟨y0, y1, y2, y3, y4, y5, y6, y7, y8, _⟩ := hcc))
   | (apply WL.gT; exact rfl; exact rfl; (focus (first | exact dec_true f0 | exact dec_true f1 | exact dec_true f2 | exact dec_true f3 | exact dec_true f4)))
   | (apply WL.gF; exact rfl; exact rfl; (focus (exact dec_false f5; done)))
   | (show WL _ _ _ _ _ _ _; first | apply WL.nil | (refine WL.au (k := ?_)) | (apply WL.guardF; exact rfl; exact rfl))
   | (show Z _ _ _ _ _; apply Z.then_normal)
   | (show W _ _ _ _ _ _; first | apply W.seq | apply W.region | apply W.ret)
   | fail)
  exact Z.body1 Tryz.results15 rfl fun q => ⟨congrArg Value.bool (by rw [dec_false (show ¬ FewC c.t m from fun h => f5 (few_iff.1 h).2.2.2.2.2.1)] <;> exact dec_false f5), Ext.at extA q⟩
 by_cases f6 : (c.syms.2.2.length : Int) ≤ m
 rotate_left
 ·skip
  refine Spec.of _ Tryz.func15 rfl Tryz.ntmps15 (by kernel_rfl) rfl ?_
  repeat' (first
   | (apply WL.box; (iterate 3 exact rfl); intro gb w' hb hge hc hx; have hcc := hc; ((obtain ⟨h1, h2, h3, _⟩ := hc)); (obtain ⟨y0, y1, y2, y3, y4, y5, y6, y7, y8, _⟩ := hcc))
   | (apply WL.gT; exact rfl; exact rfl; (focus (first | exact dec_true f0 | exact dec_true f1 | exact dec_true f2 | exact dec_true f3 | exact dec_true f4 | exact dec_true f5)))
   | (apply WL.gF; exact rfl; exact rfl; (focus (exact dec_false f6; done)))
   | (show WL _ _ _ _ _ _ _; first | apply WL.nil | (refine WL.au (k := ?_)) | (apply WL.guardF; exact rfl; exact rfl))
   | (show Z _ _ _ _ _; apply Z.then_normal)
   | (show W _ _ _ _ _ _; first | apply W.seq | apply W.region | apply W.ret)
   | fail)
  exact Z.body1 Tryz.results15 rfl fun q => ⟨congrArg Value.bool (by rw [dec_false (show ¬ FewC c.t m from fun h => f6 (few_iff.1 h).2.2.2.2.2.2.1)] <;> exact dec_false f6), Ext.at extA q⟩
 by_cases f7 : (c.com.size : Int) ≤ 300
 rotate_left
 ·skip
  refine Spec.of _ Tryz.func15 rfl Tryz.ntmps15 (by kernel_rfl) rfl ?_
  repeat' (first
   | (apply WL.box; (iterate 3 exact rfl); intro gb w' hb hge hc hx; have hcc := hc; ((obtain ⟨h1, h2, h3, _⟩ := hc)); (obtain ⟨y0, y1, y2, y3, y4, y5, y6, y7, y8, _⟩ := hcc))
   | (apply WL.gT; exact rfl; exact rfl; (focus (first | exact dec_true f0 | exact dec_true f1 | exact dec_true f2 | exact dec_true f3 | exact dec_true f4 | exact dec_true f5 | exact dec_true f6)))
   | (show WL _ _ _ _ _ _ _; first | apply WL.nil | (refine WL.au (k := ?_)))
   | (show Z _ _ _ _ _; apply Z.then_normal)
   | (show W _ _ _ _ _ _; first | apply W.seq | apply W.region | apply W.ret)
   | fail)
  exact Z.body1 Tryz.results15 rfl fun q => ⟨congrArg Value.bool (by rw [dec_false (show ¬ FewC c.t m from fun h => f7 (few_iff.1 h).2.2.2.2.2.2.2)] <;> exact dec_false f7), Ext.at extA q⟩
 refine Spec.of _ Tryz.func15 rfl Tryz.ntmps15 (by kernel_rfl) rfl ?_
 repeat' (first
  | (apply WL.box; (iterate 3 exact rfl); intro gb w' hb hge hc hx; have hcc := hc; ((obtain ⟨h1, h2, h3, _⟩ := hc)); (obtain ⟨y0, y1, y2, y3, y4, y5, y6, y7, y8, _⟩ := hcc))
  | (apply WL.gT; exact rfl; exact rfl; (focus (first | exact dec_true f0 | exact dec_true f1 | exact dec_true f2 | exact dec_true f3 | exact dec_true f4 | exact dec_true f5 | exact dec_true f6)))
  | (show WL _ _ _ _ _ _ _; first | apply WL.nil | (refine WL.au (k := ?_)))
  | (show Z _ _ _ _ _; apply Z.then_normal)
  | (show W _ _ _ _ _ _; first | apply W.seq | apply W.region | apply W.ret)
  | fail)
 exact Z.body1 Tryz.results15 rfl fun q => ⟨congrArg Value.bool (by rw [dec_true (show FewC c.t m from few_iff.2 ⟨f0, f1, f2, f3, f4, f5, f6, f7⟩)] <;> exact dec_true f7), Ext.at extA q⟩
end Go.Proofs.YteidpnpbfagaeaaGreat
namespace Go.Proofs.YteidpnpbfagaeaaGreat
open Go Go.Lt Go.RowKit
set_option linter.unusedVariables false
set_option linter.unusedSimpArgs false
set_option maxRecDepth 20000

set_option maxHeartbeats 16000000 in
theorem circ_defined (c : Circ) (w : World) (hC : CAt w c) (hz : SzC c.t 100000) :
  Lt.Spec Tryz.prog 107 [c.val] w (IsFresh 1 encI 3 w c.t.own) := by
 have z1 : c.ins.2.2.length ≤ 100000 := hz.1
 have z2 : c.lat.2.2.length ≤ 100000 := hz.2.1
 have z6 : c.gates.2.2.length ≤ 100000 := hz.2.2.2.2.2
 refine Spec.of _ Tryz.func107 rfl Tryz.ntmps107 (by kernel_rfl) rfl ?_
 repeat' (first
  | (apply WL.box; (iterate 3 exact rfl); intro gb w' hb hge hc hx; have hcc := hc; ((obtain ⟨h1, h2, h3, _⟩ := hc)); (have hcells := hcc; obtain ⟨y0, y1, y2, y3, y4, y5, y6, _⟩ := hcc; obtain ⟨gc, rfl⟩ : ∃ x, x = gb := ⟨_, rfl⟩; obtain ⟨wc, rfl⟩ : ∃ x, x = w' := ⟨_, rfl⟩; obtain ⟨hxc, rfl⟩ : ∃ x, x = hx := ⟨_, rfl⟩))
  | ((show WL _ _ _ (⟨_, .call ⟨.value (.func 78), _, _⟩, _, _, _, _⟩ :: _) _ _ _); apply WL.call; (iterate 4 exact rfl); exact slices_CloneI _ _ c.ins.2.2 _ (hC.ins.row.ext extA) hC.ins.none (by omega); rintro v' w' ⟨hx, a', cap', rfl, hO⟩; (obtain ⟨hOc, rfl⟩ : ∃ x, x = hO := ⟨_, rfl⟩; obtain ⟨hxl, rfl⟩ : ∃ x, x = hx := ⟨_, rfl⟩; obtain ⟨wl, rfl⟩ : ∃ x, x = w' := ⟨_, rfl⟩; obtain ⟨al, rfl⟩ : ∃ x, x = a' := ⟨_, rfl⟩; obtain ⟨cl, rfl⟩ : ∃ x, x = cap' := ⟨_, rfl⟩))
  | (show WL _ _ _ _ _ _ _; first | apply WL.nil | (refine WL.au (k := ?_)))
  | (show Z _ _ _ _ _; apply Z.then_normal)
  | (show W _ _ _ _ _ _; first | apply W.seq | apply W.region | apply W.block)
  | fail)
 have Rl := hC.lat.row.ext hxc
 have Rg := hC.gates.row.ext hxc
 have hXl : Ext wc wl := extA
 have hS : Lt.Sep wc.heap.size wl [prow 1 encI 3 wc.heap.size al cl c.ins.2.2] := Sep.none'.newRow' hxl hOc (Nat.le_refl _)
 refine W.loopO c.lat.2.2.length (fun k a cp w' => k ≤ c.lat.2.2.length ∧ Ext wc w' ∧ Lt.Sep wc.heap.size w' [prow 1 encI 3 wc.heap.size a cp (c.ins.2.2 ++ (c.lat.2.2.take k).map (·.1))]) (fun k a cp => [(1, .pointer (some ⟨gc, 0, none⟩)), (3, .slice a (c.ins.2.2 ++ (c.lat.2.2.take k).map (·.1)).length cp), (12, rowVal c.lat), (13, .int .i64 (c.lat.2.2.length : Nat)), (14, .int .i64 k)]) al cl ⟨Nat.zero_le _, hXl, by simpa using hS⟩ (fun k a cp w' h => h.1) (by rw [List.take_zero, List.map_nil, List.append_nil]; exact ⟨rfl, rfl, rfl, rfl, rfl, trivial⟩) ?_
 clear hS
 rintro k a cp w3 ⟨hk, hX3, hS⟩
 have hR0 := hS.row (i := 0) rfl
 have hlk : (c.ins.2.2 ++ (c.lat.2.2.take k).map (·.1)).length = c.ins.2.2.length + k := by simp; omega
 by_cases hlt : k < c.lat.2.2.length
 ·obtain ⟨x, hgx⟩ := getI c.lat.2.2 hlt
  have e1 := map_take_succ (·.1) hgx
  repeat' (first
   | (apply W.condKT; exact rfl; (focus (exact dec_true (by omega); done)))
   | (apply WL.alloc tOk; (iterate 3 exact rfl); intro gb w' hb hge hx; replace hS := Sep.newCell (Sep.ext hS extA) hx hb hge (by (exact Below.size extA)); (try simp only [List.set_cons_zero, List.set_cons_succ] at hS); (try have hR1 := hS.row (i := 1) rfl); (try have hC0 := hS.cell (i := 0) rfl); (try have hD0 := (cells_heap hC0).1); (try have hE0 := (cells_heap hC0).2.1); (try have hF0 := (cells_heap hC0).2.2.1))
   | (apply WL.storeB (w0 := wc) tOk; (iterate 4 exact rfl); assumption; (exact extA); (iterate 3 exact rfl); (exact extA); ((focus (apply Nat.le_trans; rotate_left; assumption; exact Below.size extA; done))); intro w' hb hc hX' hU; have hcc := hc; obtain ⟨h1, h2, _⟩ := hc; replace hS := Sep.updCell (i := 0) rfl hU hb hS extA (by (exact Below.size extA)); (try simp only [List.set_cons_zero, List.set_cons_succ] at hS); (try have hR1 := hS.row (i := 1) rfl); (try have hC0 := hS.cell (i := 0) rfl); (try have hD0 := (cells_heap hC0).1); (try have hE0 := (cells_heap hC0).2.1); (try have hF0 := (cells_heap hC0).2.2.1))
   | (apply WL.lit tOk; (iterate 6 exact rfl); (kernel_rfl); exact rfl; intro gb w' hb hge hc hx)
   | (apply WL.append1 (z := (x.1)) tOk encI_ok; (iterate 10 exact rfl); assumption; (exact extA); (exact rfl); (assumption); exact rfl; exact rfl; (exact extA); (omega); intro a' cap' w' hO hX' hU hF; (replace hS := Sep.updRow (i := 1) rfl hU hO hF hS extA (by (exact Below.size extA))); (try simp only [List.set_cons_zero, List.set_cons_succ] at hS); (try have hR1 := hS.row (i := 1) rfl); (try have hC0 := hS.cell (i := 0) rfl); (try have hD0 := (cells_heap hC0).1); (try have hE0 := (cells_heap hC0).2.1); (try have hF0 := (cells_heap hC0).2.2.1))
   | (show WL _ _ _ _ _ _ _; first | apply WL.nil | (refine WL.au (k := ?_)) | (apply WL.index tOk; (iterate 8 exact rfl); assumption; (exact extA); exact rfl; omega; assumption; intro b off h; have hcc := h; first | (obtain ⟨h1, h2, h3, h4, h5, h6, _⟩ := h) | (obtain ⟨h1, h2, h3, _⟩ := h) | (obtain ⟨h1, h2, _⟩ := h) | (obtain ⟨h1, _⟩ := h)))
   | (show Z _ _ _ _ _; first | apply Z.then_normal | apply Z.block_normal)
   | (show W _ _ _ _ _ _; first | apply W.seq | apply W.region | apply W.block | apply W.skip)
   | fail)
  exact Z.againO a' cap' ⟨by omega, extA, by rw [e1, ← List.append_assoc]; exact hS.drop 1⟩ ⟨rfl, by rw [e1, ← List.append_assoc]; exact rfl, rfl, rfl, rfl, trivial⟩
 obtain rfl : k = c.lat.2.2.length := by omega
 rw [List.take_length] at hS hR0 hlk ⊢
 repeat' (first
  | (apply W.condKF; exact rfl; (focus (exact dec_false (by omega); done)))
  | (show WL _ _ _ _ _ _ _; first | apply WL.nil | (refine WL.au (k := ?_)))
  | (show Z _ _ _ _ _; first | apply Z.then_normal | apply Z.then_exit | apply Z.block_exit)
  | (show W _ _ _ _ _ _; first | apply W.seq | apply W.region | apply W.block | apply W.exit)
  | fail)
 refine W.loopO c.gates.2.2.length (fun k a cp w' => k ≤ c.gates.2.2.length ∧ Ext wc w' ∧ Lt.Sep wc.heap.size w' [prow 1 encI 3 wc.heap.size a cp (c.ins.2.2 ++ c.lat.2.2.map (·.1) ++ (c.gates.2.2.take k).map (·.1))]) (fun k a cp => [(1, .pointer (some ⟨gc, 0, none⟩)), (3, .slice a (c.ins.2.2 ++ c.lat.2.2.map (·.1) ++ (c.gates.2.2.take k).map (·.1)).length cp), (25, rowVal c.gates), (26, .int .i64 (c.gates.2.2.length : Nat)), (27, .int .i64 k)]) a cp ⟨Nat.zero_le _, hX3, by simpa using hS⟩ (fun k a cp w' h => h.1) (by rw [List.take_zero, List.map_nil, List.append_nil]; exact ⟨rfl, rfl, rfl, rfl, rfl, trivial⟩) ?_
 clear hS hX3 hR0
 rintro k a cp w3 ⟨hk, hX3, hS⟩
 have hR0 := hS.row (i := 0) rfl
 have hlk2 : (c.ins.2.2 ++ c.lat.2.2.map (·.1) ++ (c.gates.2.2.take k).map (·.1)).length = c.ins.2.2.length + c.lat.2.2.length + k := by simp; omega
 by_cases hlt : k < c.gates.2.2.length
 ·obtain ⟨x, hgx⟩ := getI c.gates.2.2 hlt
  have e1 := map_take_succ (·.1) hgx
  repeat' (first
   | (apply W.condKT; exact rfl; (focus (exact dec_true (by omega); done)))
   | (apply WL.alloc tOk; (iterate 3 exact rfl); intro gb w' hb hge hx; replace hS := Sep.newCell (Sep.ext hS extA) hx hb hge (by (exact Below.size extA)); (try simp only [List.set_cons_zero, List.set_cons_succ] at hS); (try have hR1 := hS.row (i := 1) rfl); (try have hC0 := hS.cell (i := 0) rfl); (try have hD0 := (cells_heap hC0).1); (try have hE0 := (cells_heap hC0).2.1); (try have hF0 := (cells_heap hC0).2.2.1))
   | (apply WL.storeB (w0 := wc) tOk; (iterate 4 exact rfl); assumption; (exact extA); (iterate 3 exact rfl); (exact extA); ((focus (apply Nat.le_trans; rotate_left; assumption; exact Below.size extA; done))); intro w' hb hc hX' hU; have hcc := hc; obtain ⟨h1, h2, _⟩ := hc; replace hS := Sep.updCell (i := 0) rfl hU hb hS extA (by (exact Below.size extA)); (try simp only [List.set_cons_zero, List.set_cons_succ] at hS); (try have hR1 := hS.row (i := 1) rfl); (try have hC0 := hS.cell (i := 0) rfl); (try have hD0 := (cells_heap hC0).1); (try have hE0 := (cells_heap hC0).2.1); (try have hF0 := (cells_heap hC0).2.2.1))
   | (apply WL.lit tOk; (iterate 6 exact rfl); (kernel_rfl); exact rfl; intro gb w' hb hge hc hx)
   | (apply WL.append1 (z := (x.1)) tOk encI_ok; (iterate 10 exact rfl); assumption; (exact extA); (exact rfl); (assumption); exact rfl; exact rfl; (exact extA); (omega); intro a' cap' w' hO hX' hU hF; (replace hS := Sep.updRow (i := 1) rfl hU hO hF hS extA (by (exact Below.size extA))); (try simp only [List.set_cons_zero, List.set_cons_succ] at hS); (try have hR1 := hS.row (i := 1) rfl); (try have hC0 := hS.cell (i := 0) rfl); (try have hD0 := (cells_heap hC0).1); (try have hE0 := (cells_heap hC0).2.1); (try have hF0 := (cells_heap hC0).2.2.1))
   | (show WL _ _ _ _ _ _ _; first | apply WL.nil | (refine WL.au (k := ?_)) | (apply WL.index tOk; (iterate 8 exact rfl); assumption; (exact extA); exact rfl; omega; assumption; intro b off h; have hcc := h; first | (obtain ⟨h1, h2, h3, h4, h5, h6, _⟩ := h) | (obtain ⟨h1, h2, h3, _⟩ := h) | (obtain ⟨h1, h2, _⟩ := h) | (obtain ⟨h1, _⟩ := h)))
   | (show Z _ _ _ _ _; first | apply Z.then_normal | apply Z.block_normal)
   | (show W _ _ _ _ _ _; first | apply W.seq | apply W.region | apply W.block | apply W.skip)
   | fail)
  exact Z.againO a' cap' ⟨by omega, extA, by rw [e1, ← List.append_assoc]; exact hS.drop 1⟩ ⟨rfl, by rw [e1, ← List.append_assoc]; exact rfl, rfl, rfl, rfl, trivial⟩
 obtain rfl : k = c.gates.2.2.length := by omega
 rw [List.take_length] at hR0 ⊢
 repeat' (first
  | (apply W.condKF; exact rfl; (focus (exact dec_false (by omega); done)))
  | (show WL _ _ _ _ _ _ _; first | apply WL.nil | (refine WL.au (k := ?_)))
  | (show Z _ _ _ _ _; first | apply Z.then_normal | apply Z.then_exit | apply Z.block_exit)
  | (show W _ _ _ _ _ _; first | apply W.seq | apply W.region | apply W.ret | apply W.exit)
  | fail)
 have hwc := Below.size hxc
 exact Z.body1 Tryz.results107 rfl fun m => ⟨Ext.at extA m, a, cp, rfl, (hR0.base hwc).ext ((Ext.refl _).at m)⟩
end Go.Proofs.YteidpnpbfagaeaaGreat
namespace Go.Lt
open Go.RowKit
set_option linter.unusedVariables false
set_option linter.unusedSimpArgs false

inductive Pr where
 | any : Pr
 | is : Value → Pr
 | ex (F : Value → World → Prop) (b : Value → Option Nat) (keep : ∀ x w w', F x w → Ext w w' → F x w') (lt : ∀ x w k, F x w → b x = some k → k < w.heap.size) : Pr
def Pr.holds : Pr → Value → World → Prop
 | .any, _, _ => True
 | .is v, x, _ => x = v
 | .ex F _ _ _, x, w => F x w
def Pr.bl : Pr → Value → Option Nat
 | .ex _ b _ _, x => b x
 | _, _ => none
theorem Pr.keeps : ∀ {p : Pr} {x : Value} {w w' : World}, p.holds x w → Ext w w' → p.holds x w'
 | .any, _, _, _, _, _ => trivial
 | .is _, _, _, _, h, _ => h
 | .ex _ _ k _, _, _, _, h, hx => k _ _ _ h hx
theorem Pr.lts : ∀ {p : Pr} {x : Value} {w : World} {k : Nat}, p.holds x w → p.bl x = some k → k < w.heap.size
 | .any, _, _, _, _, hb => by cases hb
 | .is _, _, _, _, _, hb => by cases hb
 | .ex _ _ _ l, _, _, _, h, hb => l _ _ _ h hb
def prAt : List Pr → Nat → Pr
 | [], _ => .any
 | p :: _, 0 => p
 | _ :: r, i + 1 => prAt r i

section
variable {P : Program} {N : Nat} {prs : List Pr} {pre : List Oper}

def need (prs : List Pr) (pre : List Oper) (w : World) (K : Env → List (Option Nat) → Prop) : List Nat → Env → List (Option Nat) → Prop
 | [], E, bs => K E bs
 | j :: r, E, bs =>
  match dstAt pre j with
  | none => need prs pre w K r E bs
  | some d =>
   match prAt prs j with
   | .any => need prs pre w K r E bs
   | .is v => need prs pre w K r ((d, v) :: E) bs
   | .ex F b _ _ => ∀ x, F x w → need prs pre w K r ((d, x) :: E) (b x :: bs)

def valO (pre : List Oper) (a : Act) (j : Nat) : Value :=
 match dstAt pre j with
 | some d => a.tmps.getD d undef
 | none => undef
def bsOf (prs : List Pr) (pre : List Oper) (a : Act) : List Nat → List (Option Nat) → List (Option Nat)
 | [], bs => bs
 | j :: r, bs =>
  match dstAt pre j with
  | none => bsOf prs pre a r bs
  | some d =>
   match prAt prs j with
   | .ex _ b _ _ => bsOf prs pre a r (b (valO pre a j) :: bs)
   | _ => bsOf prs pre a r bs

theorem Fit.cons {e : Env} {a : Act} (h : Fit N e a) {d : Nat} {v : Value} (hd : a.tmps[d]? = some v) : Fit N ((d, v) :: e) a := by
 refine ⟨h.size, h.defers, fun t u hu => ?_⟩
 rw [get_cons] at hu
 by_cases hdt : d = t
 ·subst hdt; rw [if_pos rfl] at hu; cases hu; exact hd
 ·rw [if_neg hdt] at hu; exact h.slots _ _ hu
theorem get_appE (e1 e2 : Env) (t : Nat) : get (e1 ++ e2) t = (get e1 t).or (get e2 t) := by
 induction e1 with
 | nil => simp [get]
 | cons p r ih =>
  obtain ⟨k, v⟩ := p
  rw [List.cons_append, get_cons, get_cons]
  by_cases hk : k = t
  ·rw [if_pos hk, if_pos hk]; rfl
  ·rw [if_neg hk, if_neg hk, ih]
def slotsE (a : Act) : Nat → Env
 | 0 => []
 | n + 1 => (n, a.tmps.getD n undef) :: slotsE a n
theorem slotsE_get {a : Act} : ∀ {n t : Nat}, t < n → get (slotsE a n) t = some (a.tmps.getD t undef)
 | n + 1, t, h => by
  rw [slotsE, get_cons]
  by_cases hk : n = t
  ·subst hk; rw [if_pos rfl]
  ·rw [if_neg hk]; exact slotsE_get (by omega)
theorem slotsE_lt {a : Act} : ∀ {n t : Nat} {v : Value}, get (slotsE a n) t = some v → t < n
 | 0, t, v, h => by cases h
 | n + 1, t, v, h => by
  rw [slotsE, get_cons] at h
  by_cases hk : n = t
  ·omega
  ·rw [if_neg hk] at h; have := slotsE_lt h; omega
theorem getD_some {a : Act} {t : Nat} (h : t < a.tmps.size) : a.tmps[t]? = some (a.tmps.getD t undef) := by
 simp [Array.getD_eq_getD_getElem?, h]
theorem Fit.all {e : Env} {a : Act} (h : Fit N e a) : Fit N (e ++ slotsE a N) a := by
 refine ⟨h.size, h.defers, fun t u hu => ?_⟩
 rw [get_appE] at hu
 cases hg : get e t with
 | some x => rw [hg] at hu; simp at hu; subst hu; exact h.slots _ _ hg
 | none =>
  rw [hg] at hu
  simp at hu
  have hlt := slotsE_lt hu
  rw [slotsE_get hlt] at hu
  cases hu
  exact getD_some (by rw [h.size]; exact hlt)

theorem need_out {w : World} {K : Env → List (Option Nat) → Prop} {a : Act} (hN : ∀ j d, dstAt pre j = some d → d < N) : ∀ (ds : List Nat) (E : Env) (bs : List (Option Nat)), need prs pre w K ds E bs → Fit N E a → (∀ j ∈ ds, (prAt prs j).holds (valO pre a j) w) →
  ∃ E', K E' (bsOf prs pre a ds bs) ∧ Fit N E' a ∧ ∀ t, get E t ≠ none → get E' t ≠ none
 | [], E, bs, h, hf, _ => ⟨E, h, hf, fun t ht => ht⟩
 | j :: r, E, bs, h, hf, hh => by
  have hr : ∀ k ∈ r, (prAt prs k).holds (valO pre a k) w := fun k hk => hh k (by simp [hk])
  unfold need at h
  unfold bsOf
  cases hd : dstAt pre j with
  | none => rw [hd] at h; exact need_out hN r E bs h hf hr
  | some d =>
   rw [hd] at h
   have hv : valO pre a j = a.tmps.getD d undef := by unfold valO; rw [hd]
   have hs : a.tmps[d]? = some (a.tmps.getD d undef) := getD_some (by rw [hf.size]; exact hN j d hd)
   have hj := hh j (by simp)
   cases hp : prAt prs j with
   | any => rw [hp] at h; exact need_out hN r E bs h hf hr
   | is v =>
    rw [hp] at h hj
    have hj' : valO pre a j = v := hj
    have hf' : Fit N ((d, v) :: E) a := hf.cons (by rw [hs, ← hv, hj'])
    obtain ⟨E', k1, k2, k3⟩ := need_out hN r _ bs h hf' hr
    refine ⟨E', k1, k2, fun t ht => k3 t ?_⟩
    rw [get_cons]; split
    ·simp
    ·exact ht
   | ex F b kp lt =>
    rw [hp] at h hj
    have hf' : Fit N ((d, valO pre a j) :: E) a := hf.cons (by rw [hs, ← hv])
    obtain ⟨E', k1, k2, k3⟩ := need_out hN r _ _ (h _ hj) hf' hr
    refine ⟨E', k1, k2, fun t ht => k3 t ?_⟩
    rw [get_cons]; split
    ·simp
    ·exact ht

abbrev Apart (bs : List (Option Nat)) : Prop := bs.Pairwise fun x y => x = none ∨ x ≠ y
theorem bsOf_apart {a : Act} : ∀ (ds : List Nat) (bs : List (Option Nat)), ds.Nodup → Apart bs → (∀ i ∈ ds, ∀ b ∈ bs, (prAt prs i).bl (valO pre a i) = none ∨ (prAt prs i).bl (valO pre a i) ≠ b) →
  (∀ i ∈ ds, ∀ j ∈ ds, i ≠ j → (prAt prs i).bl (valO pre a i) = none ∨ (prAt prs i).bl (valO pre a i) ≠ (prAt prs j).bl (valO pre a j)) → Apart (bsOf prs pre a ds bs)
 | [], bs, _, h, _, _ => h
 | j :: r, bs, hn, h, h1, h2 => by
  have hn' := List.nodup_cons.1 hn
  have e1 : ∀ i ∈ r, ∀ b ∈ bs, (prAt prs i).bl (valO pre a i) = none ∨ (prAt prs i).bl (valO pre a i) ≠ b := fun i hi => h1 i (by simp [hi])
  have e2 : ∀ i ∈ r, ∀ k ∈ r, i ≠ k → (prAt prs i).bl (valO pre a i) = none ∨ (prAt prs i).bl (valO pre a i) ≠ (prAt prs k).bl (valO pre a k) := fun i hi k hk => h2 i (by simp [hi]) k (by simp [hk])
  unfold bsOf
  cases hd : dstAt pre j with
  | none => exact bsOf_apart r bs hn'.2 h e1 e2
  | some d =>
   cases hp : prAt prs j with
   | any => exact bsOf_apart r bs hn'.2 h e1 e2
   | is v => exact bsOf_apart r bs hn'.2 h e1 e2
   | ex F b kp lt =>
    have hb : (prAt prs j).bl (valO pre a j) = b (valO pre a j) := by rw [hp]; rfl
    refine bsOf_apart r _ hn'.2 (List.pairwise_cons.2 ⟨fun y hy => ?_, h⟩) (fun i hi y hy => ?_) e2
    ·rw [← hb]; exact h1 j (by simp) y hy
    ·rcases List.mem_cons.1 hy with rfl | hy
     ·rw [← hb]; exact h2 i (by simp [hi]) j (by simp) (fun he => hn'.1 (he ▸ hi))
     ·exact e1 i hi y hy

def postI (N d : Nat) (p : Pr) (w : World) (E : Env) : Exit → Act → World → Prop := onlyN fun a w' => ∃ v, Fit N ((d, v) :: E) a ∧ Ext w w' ∧ p.holds v w' ∧ ∀ k, p.bl v = some k → w.heap.size ≤ k
structure NO (P : Program) (N : Nat) (pre : List Oper) (prs : List Pr) (o : Oper) (d : Nat) (p : Pr) (w : World) (ds : List Nat) (E : Env) : Prop where
 go : ∀ bs, need prs pre w (fun E' _ => WL P N pre.toArray [o] E' w (postI N d p w E')) ds E bs
def depsOf (o : Oper) : List Nat := o.after.toList.filterMap fun e => if Region.binds .any e then some e.on else none
structure OBL (P : Program) (N : Nat) (pre : List Oper) (prs : List Pr) (e : Env) (w : World) (i : Nat) (l : List Oper) : Prop where
 go : ∀ (k : Nat) (o : Oper), l[k]? = some o → ∃ d, o.dst = some d ∧ d < N ∧ ∀ w', Ext w w' → ∀ rest, NO P N pre prs o d (prAt prs (i + k)) w' (depsOf o) (e ++ rest)
theorem OBL.nil {e : Env} {w : World} {i : Nat} : OBL P N pre prs e w i [] := ⟨fun k o h => by simp at h⟩
theorem OBL.cons {e : Env} {w : World} {i d : Nat} {o : Oper} {r : List Oper} {p : Pr} {ds : List Nat} (hd : o.dst = some d) (hN : Nat.blt d N = true) (hp : prAt prs i = p) (hds : depsOf o = ds)
  (h : ∀ w', Ext w w' → ∀ rest, NO P N pre prs o d p w' ds (e ++ rest)) (k : OBL P N pre prs e w (i + 1) r) : OBL P N pre prs e w i (o :: r) := by
 refine ⟨fun j o' hj => ?_⟩
 cases j with
 | zero => simp at hj; subst hj; exact ⟨d, hd, by simpa [Nat.blt_eq] using hN, by rw [Nat.add_zero, hp, hds]; exact h⟩
 | succ j =>
  have := k.go j o' (by simpa using hj)
  rwa [show i + 1 + j = i + (j + 1) by omega] at this
theorem NO.nil {o : Oper} {d : Nat} {p : Pr} {w : World} {E : Env} (h : WL P N pre.toArray [o] E w (postI N d p w E)) : NO P N pre prs o d p w [] E := ⟨fun _ => h⟩
theorem NO.any {o : Oper} {d j : Nat} {p : Pr} {w : World} {E : Env} {r : List Nat} (hp : prAt prs j = .any) (h : NO P N pre prs o d p w r E) : NO P N pre prs o d p w (j :: r) E := ⟨fun bs => by
 unfold need
 cases dstAt pre j with
 | none => exact h.go bs
 | some d => dsimp only; rw [hp]; exact h.go bs⟩
theorem NO.is {o : Oper} {d dj j : Nat} {p : Pr} {w : World} {E : Env} {v : Value} {r : List Nat} (hd : dstAt pre j = some dj) (hp : prAt prs j = .is v) (h : NO P N pre prs o d p w r ((dj, v) :: E)) : NO P N pre prs o d p w (j :: r) E := ⟨fun bs => by
 unfold need
 rw [hd]; dsimp only; rw [hp]; exact h.go bs⟩
theorem NO.ex {o : Oper} {d dj j : Nat} {p : Pr} {w : World} {E : Env} {F : Value → World → Prop} {b : Value → Option Nat} {kp : ∀ x w w', F x w → Ext w w' → F x w'} {lt : ∀ x w k, F x w → b x = some k → k < w.heap.size} {r : List Nat} (hd : dstAt pre j = some dj) (hp : prAt prs j = .ex F b kp lt)
  (h : ∀ x, F x w → NO P N pre prs o d p w r ((dj, x) :: E)) : NO P N pre prs o d p w (j :: r) E := ⟨fun bs => by
 unfold need
 rw [hd]; dsimp only; rw [hp]; exact fun x hx => (h x hx).go _⟩

def dstsB (e : Env) : List Oper → Bool
 | [] => true
 | o :: r => (match o.dst with
  | some d => (match get e d with | some _ => false | none => true) && r.all (fun q => match q.dst with | some d' => !Nat.beq d d' | none => true)
  | none => false) && dstsB e r
theorem dstsB_spec {e : Env} : ∀ {l : List Oper}, dstsB e l = true → (∀ j d, dstAt l j = some d → get e d = none) ∧ ∀ i j d d', dstAt l i = some d → dstAt l j = some d' → i ≠ j → d ≠ d'
  | [], _ => ⟨fun j d h => (by cases h), fun i j d d' h => (by cases h)⟩
  | o :: r, h => by
    simp only [dstsB, Bool.and_eq_true] at h
    obtain ⟨h1, h2⟩ := h
    obtain ⟨k1, k2⟩ := dstsB_spec h2
    cases hd : o.dst with
    | none => rw [hd] at h1; cases h1
    | some d0 =>
      rw [hd] at h1
      simp only [Bool.and_eq_true] at h1
      have hno : get e d0 = none := by
        cases hg : get e d0 with
        | none => rfl
        | some x => rw [hg] at h1; exact absurd h1.1 (by simp)
      have hall : ∀ j d, dstAt r j = some d → d0 ≠ d := by
        intro j d hj
        rw [← dstAt_eq] at hj
        cases ho : r.toArray[j]? with
        | none => rw [ho] at hj; cases hj
        | some q =>
          rw [ho] at hj
          simp only [Option.bind_some] at hj
          have hq : q ∈ r := by have : r[j]? = some q := by simpa using ho
                                exact List.mem_of_getElem? this
          have := List.all_eq_true.1 h1.2 q hq
          rw [hj] at this
          intro he
          subst he
          simp at this
      refine ⟨fun j d hj => ?_, fun i j d d' hi hj hne => ?_⟩
      · cases j with
        | zero => simp only [dstAt, hd] at hj; cases hj; exact hno
        | succ j => exact k1 j d hj
      · cases i with
        | zero =>
          simp only [dstAt, hd] at hi; cases hi
          cases j with
          | zero => exact absurd rfl hne
          | succ j => exact hall j d' hj
        | succ i =>
          cases j with
          | zero => simp only [dstAt, hd] at hj; cases hj; exact fun he => hall i d hi he.symm
          | succ j => exact k2 i j d d' hi hj (by omega)

structure InvI (N : Nat) (prs : List Pr) (pre : List Oper) (e : Env) (w0 : World) (L : Array Bool) (a : Act) (w : World) : Prop where
 ext : Ext w0 w
 fit : Fit N e a
 holds : ∀ i, i < pre.length → L.getD i false = true → (prAt prs i).holds (valO pre a i) w
 apart : ∀ i j, i < pre.length → j < pre.length → L.getD i false = true → L.getD j false = true → i ≠ j → (prAt prs i).bl (valO pre a i) = none ∨ (prAt prs i).bl (valO pre a i) ≠ (prAt prs j).bl (valO pre a j)

theorem dstAt_of {l : List Oper} {i d : Nat} {o : Oper} (h : l[i]? = some o) (hd : o.dst = some d) : dstAt l i = some d := by
 rw [← dstAt_eq, show l.toArray[i]? = some o by simpa using h]; exact hd

theorem wpAny_inv {e : Env} {w0 : World} {Q' : Exit → Act → World → Prop} (hO : OBL P N pre prs e w0 0 pre) (hlow : lowB pre.toArray pre.length = true) (hd : dstsB e pre = true)
  (hK : ∀ L a w, InvI N prs pre e w0 L a w → (∀ i, i < pre.length → L.getD i false = true) → Q' .normal a w) : ∀ (f : Nat) (L : Array Bool) (a : Act) (w : World), L.size = pre.length → todo L pre.length = f → InvI N prs pre e w0 L a w → wpAny P .any pre.toArray Q' f L a w := by
 obtain ⟨hd1, hd2⟩ := dstsB_spec hd
 have hN : ∀ j d, dstAt pre j = some d → d < N := fun j d hj => by
  rw [← dstAt_eq] at hj
  cases ho : pre.toArray[j]? with
  | none => rw [ho] at hj; cases hj
  | some q =>
   rw [ho] at hj
   simp only [Option.bind_some] at hj
   obtain ⟨d', h1, h2, _⟩ := hO.go j q (by simpa using ho)
   rw [h1] at hj; cases hj; exact h2
 intro f
 induction f with
 | zero =>
  intro L a w hsz ht hI
  refine ⟨?_, hK L a w hI fun i hi => todo_zero ht hi⟩
  rw [List.eq_nil_iff_forall_not_mem]
  intro i hi
  have h1 := (mem_ready.1 hi).1
  by_cases hin : i < pre.length
  ·have := todo_zero ht hin
   simp [Array.getD_eq_getD_getElem?, show i < L.size by omega] at h1 this
   rw [this] at h1; cases h1
  ·simp [Array.getD_eq_getD_getElem?, Array.getElem?_eq_none (show L.size ≤ i by omega)] at h1
 | succ f ih =>
  intro L a w hsz ht hI
  have hun : ∃ i, i < pre.length ∧ L.getD i false = false ∧ ∀ j, j < i → L.getD j false = true := by
   by_cases hall : ∀ i, i < pre.length → L.getD i false = true
   ·exfalso
    have : todo L pre.length = 0 := List.countP_eq_zero.2 (fun i hi => by simp [hall i (List.mem_range.1 hi)])
    omega
   ·simp only [Classical.not_forall] at hall
    have hex : ∃ i, i < pre.length ∧ L.getD i false = false := by
     obtain ⟨i, hi, hf⟩ := hall
     exact ⟨i, hi, by simpa using hf⟩
    obtain ⟨i, ⟨hi, hf⟩, hmin⟩ := exists_least (p := fun i => i < pre.length ∧ L.getD i false = false) hex
    refine ⟨i, hi, hf, fun j hj => ?_⟩
    cases hb : L.getD j false with
    | true => rfl
    | false => have := hmin j ⟨by omega, hb⟩; omega
  obtain ⟨i0, hi0, hf0, hmin0⟩ := hun
  have hi0r : i0 ∈ Region.ready .any pre.toArray L := by
   obtain ⟨o, ho, hedge, _⟩ := lowB_spec hlow hi0
   exact mem_ready.2 ⟨getD_in (by omega) hf0, o, ho, fun e he hb => hmin0 _ (hedge e he hb)⟩
  refine ⟨fun h0 => (by rw [h0] at hi0r; cases hi0r), fun i hir => ?_⟩
  obtain ⟨h1, o, ho, hdeps⟩ := mem_ready.1 hir
  have hin : i < pre.length := by have := (Array.getElem?_eq_some_iff.1 ho).1; simpa using this
  have hfi : L.getD i false = false := getD_both h1
  have ho' : pre[i]? = some o := by simpa using ho
  obtain ⟨d, hod, hdN, hno⟩ := hO.go i o ho'
  rw [Nat.zero_add] at hno
  have hdi : dstAt pre i = some d := dstAt_of ho' hod
  obtain ⟨E', k1, k2, k3⟩ := need_out (K := fun E' _ => WL P N pre.toArray [o] E' w (postI N d (prAt prs i) w E')) hN (depsOf o) _ [] ((hno w hI.ext (slotsE a N)).go []) hI.fit.all (fun j hj => by
   obtain ⟨ed, hed, hj'⟩ := List.mem_filterMap.1 hj
   split at hj'
   ·rename_i hb
    cases hj'
    have hl := hdeps ed (by simpa using hed) hb
    refine hI.holds _ ?_ hl
    refine Classical.byContradiction fun hge => ?_
    simp [Array.getD_eq_getD_getElem?, Array.getElem?_eq_none (show L.size ≤ ed.on by omega)] at hl
   ·cases hj')
  have hfull : ∀ t, t < N → ∃ u, get E' t = some u := fun t ht => by
   have := k3 t (by rw [get_appE, slotsE_get ht]; cases get e t <;> simp)
   cases hg : get E' t with
   | none => exact absurd hg this
   | some u => exact ⟨u, rfl⟩
  refine wpOp_of_list ho (k1.go a w.drawn k2) _ fun a' w' h' => ?_
  have h'' : ∃ v, Fit N ((d, v) :: E') a' ∧ Ext w w' ∧ (prAt prs i).holds v w' ∧ ∀ k, (prAt prs i).bl v = some k → w.heap.size ≤ k := h'
  obtain ⟨v, g1, g2, g3, g4⟩ := h''
  have same : ∀ t, t ≠ d → t < N → a'.tmps[t]? = a.tmps[t]? := fun t htd ht => by
   obtain ⟨u, hu⟩ := hfull t ht
   rw [k2.slots t u hu]
   exact g1.slots t u (by rw [get_cons, if_neg (fun h => htd h.symm)]; exact hu)
  have hvi : valO pre a' i = v := by
   unfold valO
   rw [hdi]
   have := g1.slots d v (by rw [get_cons, if_pos rfl])
   simp [Array.getD_eq_getD_getElem?, this]
  have hvj : ∀ j, j ≠ i → valO pre a' j = valO pre a j := fun j hj => by
   unfold valO
   cases hdj : dstAt pre j with
   | none => rfl
   | some d' =>
    have := same d' (hd2 j i d' d hdj hdi hj) (hN j d' hdj)
    simp [Array.getD_eq_getD_getElem?, this]
  have hLi : ∀ j, j ≠ i → (L.setIfInBounds i true).getD j false = L.getD j false := fun j hj => getD_set_ne false (Ne.symm hj)
  refine ih _ a' w' (by simp [hsz]) (by have := todo_set (listed := L) (by omega) hfi pre.length hin; omega) ⟨hI.ext.trans g2, ⟨g1.size, g1.defers, fun t u hu => ?_⟩, fun j hj hl => ?_, fun j k hj hk hlj hlk hjk => ?_⟩
  ·have htd : t ≠ d := fun h => by rw [h, hd1 i d hdi] at hu; cases hu
   have hat := hI.fit.slots t u hu
   have htN : t < N := by have := (Array.getElem?_eq_some_iff.1 hat).1; rw [hI.fit.size] at this; exact this
   rw [same t htd htN, hat]
  ·by_cases hji : j = i
   ·subst hji; rw [hvi]; exact g3
   ·rw [hLi j hji] at hl; rw [hvj j hji]; exact Pr.keeps (hI.holds j hj hl) g2
  ·by_cases hji : j = i
   ·have hki : k ≠ i := fun h => hjk (by rw [hji, h])
    rw [hLi k hki] at hlk
    rw [hji, hvi, hvj k hki]
    cases hb : (prAt prs i).bl v with
    | none => exact .inl rfl
    | some q =>
     refine .inr fun he => ?_
     have h5 := g4 q hb
     have h6 := Pr.lts (hI.holds k hk hlk) he.symm
     omega
   ·rw [hLi j hji] at hlj
    rw [hvj j hji]
    by_cases hki : k = i
    ·rw [hki, hvi]
     cases hb : (prAt prs j).bl (valO pre a j) with
     | none => exact .inl rfl
     | some q =>
      refine .inr fun he => ?_
      have h5 := g4 q he.symm
      have h6 := Pr.lts (hI.holds j hj hlj) hb
      omega
    ·rw [hLi k hki] at hlk
     rw [hvj k hki]
     exact hI.apart j k hj hk hlj hlk hjk

structure NF (P : Program) (N : Nat) (pre : List Oper) (prs : List Pr) (w : World) (K : Env → Prop) (ds : List Nat) (E : Env) (bs : List (Option Nat)) : Prop where
 go : need prs pre w (fun E' bs' => Apart bs' → K E') ds E bs
theorem NF.any {w : World} {K : Env → Prop} {E : Env} {bs : List (Option Nat)} {j : Nat} {r : List Nat} (hp : prAt prs j = .any) (h : NF P N pre prs w K r E bs) : NF P N pre prs w K (j :: r) E bs := ⟨by
 unfold need
 cases dstAt pre j with
 | none => exact h.go
 | some d => dsimp only; rw [hp]; exact h.go⟩
theorem NF.is {w : World} {K : Env → Prop} {E : Env} {bs : List (Option Nat)} {j dj : Nat} {v : Value} {r : List Nat} (hd : dstAt pre j = some dj) (hp : prAt prs j = .is v) (h : NF P N pre prs w K r ((dj, v) :: E) bs) : NF P N pre prs w K (j :: r) E bs := ⟨by
 unfold need
 rw [hd]; dsimp only; rw [hp]; exact h.go⟩
theorem NF.ex {w : World} {K : Env → Prop} {E : Env} {bs : List (Option Nat)} {j dj : Nat} {F : Value → World → Prop} {b : Value → Option Nat} {kp : ∀ x w w', F x w → Ext w w' → F x w'} {lt : ∀ x w k, F x w → b x = some k → k < w.heap.size} {r : List Nat} (hd : dstAt pre j = some dj) (hp : prAt prs j = .ex F b kp lt)
  (h : ∀ x, F x w → NF P N pre prs w K r ((dj, x) :: E) (b x :: bs)) : NF P N pre prs w K (j :: r) E bs := ⟨by
 unfold need
 rw [hd]; dsimp only; rw [hp]; exact fun x hx => (h x hx).go⟩
theorem NF.nilT {l tail : List Oper} {w : World} {Q : Exit → Act → World → Prop} {E : Env} {bs : List (Option Nat)} (h : Apart bs → WL P N l.toArray tail E w Q) : NF P N pre prs w (fun E' => WL P N l.toArray tail E' w Q) [] E bs := ⟨h⟩
def uptoL : Nat → List Nat
 | 0 => []
 | n + 1 => uptoL n ++ [n]
theorem mem_uptoL : ∀ {n i : Nat}, i ∈ uptoL n ↔ i < n
 | 0, i => by simp [uptoL]
 | n + 1, i => by simp only [uptoL, List.mem_append, mem_uptoL, List.mem_singleton]; omega
theorem uptoL_nodup : ∀ n : Nat, (uptoL n).Nodup
 | 0 => by simp [uptoL]
 | n + 1 => by
  simp only [uptoL]
  rw [List.nodup_append]
  exact ⟨uptoL_nodup n, by simp, fun x hx y hy => by have := mem_uptoL.1 hx; simp at hy; omega⟩

theorem inv_done {e : Env} {w0 w : World} {L : Array Bool} {a : Act} {K : Env → Prop} (hN : ∀ j d, dstAt pre j = some d → d < N) (hI : InvI N prs pre e w0 L a w) (hall : ∀ i, i < pre.length → L.getD i false = true) (h : NF P N pre prs w K (uptoL pre.length) e []) : ∃ E', K E' ∧ Fit N E' a := by
 obtain ⟨E', k1, k2, _⟩ := need_out hN _ _ _ h.go hI.fit (fun j hj => hI.holds j (mem_uptoL.1 hj) (hall j (mem_uptoL.1 hj)))
 exact ⟨E', k1 (bsOf_apart _ _ (uptoL_nodup _) List.Pairwise.nil (fun i _ b hb => by cases hb) fun i hi j hj hne => hI.apart i j (mem_uptoL.1 hi) (mem_uptoL.1 hj) (hall i (mem_uptoL.1 hi)) (hall j (mem_uptoL.1 hj)) hne), k2⟩
theorem InvI.start {e : Env} {w0 : World} {a : Act} {m n : Nat} (hf : Fit N e a) : InvI N prs pre e w0 (Array.replicate n false) a (at' w0 m) :=
 ⟨(Ext.refl _).at m, hf, fun i _ h => (by rw [getD_replicate_false] at h; cases h), fun i j _ _ h => (by rw [getD_replicate_false] at h; cases h)⟩
theorem OBL.lt {e : Env} {w0 : World} (hO : OBL P N pre prs e w0 0 pre) : ∀ j d, dstAt pre j = some d → d < N := fun j d hj => by
 rw [← dstAt_eq] at hj
 cases ho : pre.toArray[j]? with
 | none => rw [ho] at hj; cases hj
 | some q =>
  rw [ho] at hj
  simp only [Option.bind_some] at hj
  obtain ⟨d', h1, h2, _⟩ := hO.go j q (by simpa using ho)
  rw [h1] at hj; cases hj; exact h2

theorem todo_start (n m : Nat) : todo (Array.replicate m false) n = n := by
 unfold todo
 rw [List.countP_eq_length.2 (fun i _ => by rw [getD_replicate_false]; rfl)]
 simp

theorem W.regionI {id : Nat} {l tail : List Oper} {e : Env} {w : World} {Q : Exit → Act → World → Prop} {ds : List Nat} (n : Nat) (prs : List Pr) (hm : P.follows .mixedOrders = true) (hB : Region.lexTailB .any l.toArray n = true) (hc : cutAt n l = some (pre, tail))
  (hlow : lowB l.toArray n = true) (hl : lowB pre.toArray n = true) (hd : dstsB e pre = true) (hds : uptoL n = ds)
  (hO : OBL P N pre prs e w 0 pre) (k : ∀ w', Ext w w' → NF P N pre prs w' (fun E' => WL P N l.toArray tail E' w' Q) ds e []) : W P N (.region id l.toArray true) e w Q := by
 refine ⟨fun a m hf => ?_⟩
 subst hds
 obtain ⟨h1, h2⟩ := cutAt_eq hc
 simp only [Region.lexTailB, Bool.and_eq_true, decide_eq_true_eq] at hB
 obtain ⟨⟨⟨⟨hsel, hn⟩, hs⟩, hcb⟩, hlex⟩ := hB
 have hn' : n < l.length := by simpa using hn
 have hpl : pre.length = n := by rw [← h1]; simp; omega
 have htl : tail.length = l.length - n := by rw [← h2]; simp
 have hH : ∀ j, j < n → pre.toArray[j]? = l.toArray[j]? := fun j hj => by rw [← h1]; simp [hj]
 refine wp_region_any hm ?_
 have hany : wpAny P .any pre.toArray (fun x a' w' => match x with | .normal => wpList P l.toArray Q tail a' w' | _ => False) n (Array.replicate n false) a (at' w (m + 1)) := by
  have := wpAny_inv (P := P) (Q' := fun x a' w' => match x with | .normal => wpList P l.toArray Q tail a' w' | _ => False) hO (by rw [hpl]; exact hl) hd (fun L a w' hI hall => by
   obtain ⟨E', h1, h2⟩ := inv_done hO.lt hI hall (by rw [hpl]; exact k w' hI.ext)
   exact h1.go a w'.drawn h2) n (Array.replicate n false) a (at' w (m + 1)) (by simp [hpl]) (by rw [hpl]; exact todo_start _ _) (InvI.start hf)
  exact this
 have inv0 : HeadInv .any l.toArray n (Array.replicate l.toArray.size false) :=
  ⟨by simp, fun j oj _ hl => (by rw [getD_replicate_false] at hl; cases hl), fun t _ ht => getD_in (by simpa using ht) (getD_replicate_false _ _)⟩
 have key := sim (P := P) (g := l.length - n) (Q := Q) hH (by simpa using hpl) hn hs hcb hlow (fun listed a' w' hsz hfull hrest hk => ?_) (fun x a' w' hx hk => ?_) n (Array.replicate n false) (Array.replicate l.toArray.size false) a (at' w (m + 1)) (by simp) (by simp)
  (fun j hj => by rw [getD_replicate_false, getD_replicate_false]) inv0 (todo_start _ _) hany
 ·rw [show n + (l.length - n) = l.toArray.size by simp; omega] at key
  exact key
 ·have hseq : Region.seqB .any l.toArray (l.length - n) n listed = true := by
   have : ∀ (f k : Nat) (L : Array Bool), L.size = l.toArray.size → k + f = n → (∀ j, j < k → L.getD j false = true) → (∀ j, k ≤ j → L.getD j false = false) → Region.lexHead .any l.toArray (l.length - n) f k L = true → ∃ L', L'.size = l.toArray.size ∧ (∀ j, j < n → L'.getD j false = true) ∧ (∀ j, n ≤ j → L'.getD j false = false) ∧ Region.seqB .any l.toArray (l.length - n) n L' = true := by
    intro f
    induction f with
    | zero =>
     intro k L h1 h2 h3 h4 h5
     have hkn : k = n := by omega
     rw [hkn] at h3 h4 h5
     exact ⟨L, h1, h3, h4, h5⟩
    | succ f ih =>
     intro k L h1 h2 h3 h4 h5
     simp only [Region.lexHead, Bool.and_eq_true] at h5
     refine ih (k + 1) _ (by simpa using h1) (by omega) (fun j hj => ?_) (fun j hj => ?_) h5.2
     ·by_cases hjk : k = j
      ·subst hjk
       simp [Array.getD_eq_getD_getElem?, Array.getElem?_setIfInBounds, show k < L.size by rw [h1]; simp; omega]
      ·have := h3 j (by omega)
       simpa [Array.getD_eq_getD_getElem?, Array.getElem?_setIfInBounds, hjk] using this
     ·have := h4 j (by omega)
      simpa [Array.getD_eq_getD_getElem?, Array.getElem?_setIfInBounds, show k ≠ j by omega] using this
   obtain ⟨L', g1, g2, g3, g4⟩ := this n 0 (Array.replicate l.toArray.size false) (by simp) (by omega) (fun j hj => by omega) (fun j _ => getD_replicate_false _ _) (by simpa using hlex)
   have : listed = L' := by
    apply Array.ext
    ·rw [hsz, g1]
    ·intro i hi1 hi2
     rcases Nat.lt_or_ge i n with hlt | hge
     ·have e1 := hfull i hlt
      have e2 := g2 i hlt
      simp [Array.getD_eq_getD_getElem?, hi1] at e1
      simp [Array.getD_eq_getD_getElem?, hi2] at e2
      rw [e1, e2]
     ·have e1 := hrest i hge
      have e2 := g3 i hge
      simp [Array.getD_eq_getD_getElem?, hi1] at e1
      simp [Array.getD_eq_getD_getElem?, hi2] at e2
      rw [e1, e2]
   rw [this]; exact g4
  have := wpAny_of_seq (P := P) (md := .any) (Q' := Q) tail n listed a' w' (fun j => by rw [← h2]; simp [List.getElem?_drop]) (by rw [htl]; exact hseq) hk
  rwa [htl] at this
 ·cases x with
  | normal => exact absurd rfl hx
  | _ => exact hk.elim

theorem Z.invIs {d : Nat} {v : Value} {w w' : World} {E : Env} (hx : Ext w w') : Z N (postI N d (.is v) w E) .normal ((d, v) :: E) w' :=
 ⟨fun a m hf => ⟨v, hf, hx.at m, rfl, fun k hk => by cases hk⟩⟩
theorem Z.invEx {d : Nat} {v : Value} {w w' : World} {E : Env} {F : Value → World → Prop} {b : Value → Option Nat} {kp : ∀ x w w', F x w → Ext w w' → F x w'} {lt : ∀ x w k, F x w → b x = some k → k < w.heap.size}
  (hx : Ext w w') (hF : F v w') (hb : ∀ k, b v = some k → w.heap.size ≤ k) : Z N (postI N d (.ex F b kp lt) w E) .normal ((d, v) :: E) w' :=
 ⟨fun a m hf => ⟨v, hf, hx.at m, kp _ _ _ hF ((Ext.refl w').at m), hb⟩⟩
end

def isLit (el B : Nat) (x : Value) (w : World) : Prop := ∃ gb, x = .slice (some ⟨gb, 0, none⟩) 0 0 ∧ w.heap[gb]? = some (.cells #[] el (0, 0)) ∧ B ≤ gb
def prLit (el B : Nat) : Pr := .ex (isLit el B) (fun _ => none) (fun x w w' ⟨gb, h1, h2, h3⟩ hx => ⟨gb, h1, by rw [hx.block gb (heap_lt h2)]; exact h2, h3⟩) (fun x w k _ h => by cases h)
def sliceBlk : Value → Option Nat
 | .slice a _ _ => blk a
 | _ => none
def isRow {α : Type} (s : Nat) (enc : α → List Value) (el B : Nat) (l : List α) (x : Value) (w : World) : Prop := ∃ a cap, x = .slice a l.length cap ∧ Own s enc el B w a cap l
open Classical in
noncomputable def prRow {α : Type} (s : Nat) (enc : α → List Value) (el B : Nat) (l : List α) : Pr := .ex (isRow s enc el B l) (fun x => if l = [] then none else sliceBlk x)
 (fun x w w' ⟨a, cap, h1, h2⟩ hx => ⟨a, cap, h1, h2.ext hx⟩) (fun x w k ⟨a, cap, h1, h2⟩ h => by
  subst h1
  by_cases hl : l = []
  ·rw [if_pos hl] at h; cases h
  ·rw [if_neg hl] at h; exact (h2.blk_lt k h).2)
section
variable {N : Nat}
theorem Z.invLit {d el B gb : Nat} {w w' : World} {E : Env} (hx : Ext w w') (hb : w'.heap[gb]? = some (.cells #[] el (0, 0))) (hge : B ≤ gb) : Z N (postI N d (prLit el B) w E) .normal ((d, .slice (some ⟨gb, 0, none⟩) 0 0) :: E) w' :=
 Z.invEx hx ⟨gb, rfl, hb, hge⟩ (fun k h => by cases h)
theorem Z.invRow {α : Type} {s : Nat} {enc : α → List Value} {d el B cap : Nat} {l : List α} {a : Option Addr} {w w' : World} {E : Env} (hx : Ext w w') (hO : Own s enc el B w' a cap l) (hf : l = [] ∨ ∀ k, blk a = some k → w.heap.size ≤ k) :
  Z N (postI N d (prRow s enc el B l) w E) .normal ((d, .slice a l.length cap) :: E) w' :=
 Z.invEx hx ⟨a, cap, rfl, hO⟩ (fun k h => by
  by_cases hl : l = []
  ·rw [if_pos hl] at h; cases h
  ·rw [if_neg hl] at h; exact (hf.resolve_left hl) k h)
end

theorem row_cells {α : Type} {s : Nat} {enc : α → List Value} {w : World} {ad : Addr} {ys : List α} (hE : Enc s enc) (hr : Row s enc w (some ad) ys) : ∀ i u, (ys.flatMap enc)[i]? = some u → w.cell? (ad.add i) = some u := by
 intro i u hu
 have hpos := hE.pos
 have hlt : i < ys.length * s := by have := (List.getElem?_eq_some_iff.1 hu).1; rwa [length_flatMap' hE.len] at this
 have hdiv : i / s < ys.length := by rw [Nat.div_lt_iff_lt_mul hpos]; exact hlt
 have hyy : ys[i / s]? = some ys[i / s] := by simp [hdiv]
 obtain ⟨bb, off, hbb, hc⟩ := hr.elem _ _ hyy
 simp only [Option.some.injEq] at hbb
 subst hbb
 have hmod : i % s < s := Nat.mod_lt _ hpos
 have h1 := getElem?_flatMap' hE.len ys (i / s) (i % s) _ hyy hmod
 have h2 : i / s * s + i % s = i := by rw [Nat.mul_comm]; exact Nat.div_add_mod i s
 rw [h2, hu] at h1
 have key : ∀ (L : List Value) (o jj : Nat) (u : Value), Cells w bb o L → L[jj]? = some u → w.cell? ⟨bb, o + jj, none⟩ = some u := by
  intro L
  induction L with
  | nil => intro o jj u _ h; simp at h
  | cons v r ih =>
   intro o jj u hcc h
   cases jj with
   | zero => simp only [List.getElem?_cons_zero, Option.some.injEq] at h; subst h; exact hcc.1
   | succ jj => have := ih (o + 1) jj u hcc.2 (by simpa using h); rwa [show o + 1 + jj = o + (jj + 1) by omega] at this
 have := key _ _ _ u hc h1.symm
 rw [Addr_add_none]
 rw [show off + i / s * s + i % s = off + i by omega] at this
 exact this

section rules
variable {P : Program} {N : Nat} {e : Env} {w : World} {Q : Exit → Act → World → Prop} {ops : List Oper} {l : List Oper} {T : Tab}
 {d : Nat} {tt : TypeId} {ps : String} {af : Array Edge} {g : Option (Nat × Bool)} {t : TypeId} {α : Type} {s : Nat} {enc : α → List Value} {B : Nat} {ti ei : TI} {el : TypeId}
theorem WL.append0 {x y : Operand} {b : Option Addr} {gb m c : Nat} {ys : List α} {wo w1 : World} (hT : OkTab P T) (hE : Enc s enc) (hg : gate ops e g = some true) (hd : Nat.blt d N = true)
  (hx : ev e x = some (.slice (some ⟨gb, 0, none⟩) 0 0)) (hy : ev e y = some (.slice b m c)) (ht : tget T t = some ti) (htd : ti.desc = .slice el) (he : tget T el = some ei) (hs : ei.size = s) (hz : ei.zero.cells.size = s) (hby : Nat.ble ei.bytes 1024 = true)
  (ho : wo.heap[gb]? = some (.cells #[] el (0, 0))) (hB : B ≤ gb) (hwo : Ext wo w) (hr : Row s enc w1 b ys) (hw1 : Ext w1 w) (hm : ys.length = m) (hmc : b = none → c = 0) (hbd : ys.length ≤ 137438953472)
  (k : ∀ a' cap' w', Own s enc el B w' a' cap' ys → Ext w w' → (ys = [] ∨ ∀ k, blk a' = some k → w.heap.size ≤ k) → WL P N ops.toArray l ((d, .slice a' ys.length cap') :: e) w' Q) :
  WL P N ops.toArray (⟨some d, .call ⟨.builtin .append, ⟨[x, y]⟩, ⟨[t, t]⟩⟩, tt, ps, af, g⟩ :: l) e w Q := by
 have hb' := Nat.le_of_ble_eq_true hby
 have hgw : w.heap[gb]? = some (.cells #[] el (0, 0)) := by rw [hwo.block gb (heap_lt ho)]; exact ho
 have hgl := heap_lt hgw
 have hO0 : Own s enc el B w (some ⟨gb, 0, none⟩) 0 ([] : List α) := Own.of_block0 hgw hB
 obtain ⟨j, hj1, hj2, hj3, hj4⟩ := (hT.at he).info
 have hti := (hT.at ht).1
 rw [htd] at hti
 subst hm
 by_cases hy0 : ys = []
 ·subst hy0
  refine WL.eff (v := .slice (some ⟨gb, 0, none⟩) 0 0) (w' := fun m => at' w m) hg hd ?_ (fun m => ?_)
  ·intro ρ hρ m
   simp only [execOp, resolve, invoke, builtin, Sem.run_bind, Sem.run_pure, Result.andThen_ok, List.map_toArray, List.map_cons, List.map_nil, hρ _ _ hx, hρ _ _ hy]
   by_cases hb : b = none
   ·subst hb
    obtain rfl := hmc rfl
    have := run_append_nothing (P := P) (tt := tt) (n := 0) hT ht htd he (w' := at' w m) (xs := ([] : List α)) hO0 hs
    simp only [List.length_nil] at this ⊢
    rw [this]; rfl
   ·obtain ⟨ad, rfl⟩ := Option.ne_none_iff_exists'.1 hb
    have := run_append_room (P := P) (at' w m) t tt el j hti hj1 gb 0 0 #[] hgw ad 0 c [] (by simp) (fun q u hq => by simp at hq) (fun u hu => by cases hu) (by omega) (by simp)
    simp only [List.length_nil] at this ⊢
    rw [this]
    have hset : (at' w m).setRow gb #[] = at' w m := by
     have key : ∀ (u : World) (h : Array Obj), h = u.heap → { u with heap := h } = u := fun u h e => by subst e; rfl
     unfold World.setRow
     refine key (at' w m) _ ?_
     apply Array.ext
     ·simp
     ·intro i h1 h2
      rw [Array.getElem_modify]
      split
      ·rename_i hi
       subst hi
       have : (at' w m).heap[gb]? = some (.cells #[] el (0, 0)) := hgw
       rw [Array.getElem?_eq_getElem h2] at this
       simp only [Option.some.injEq] at this
       rw [this]
      ·rfl
    simp [hset]
  ·have hX : Ext w (at' w m) := (Ext.refl w).at m
   exact k (some ⟨gb, 0, none⟩) 0 (at' w m) (hO0.ext hX) hX (.inl rfl)
 ·have hb : b ≠ none := by
   intro h
   subst h
   cases ys with
   | nil => exact hy0 rfl
   | cons z r => obtain ⟨b', off, h1, _⟩ := hr.elem 0 z rfl; cases h1
  have hpos : 0 < ys.length := by cases ys with | nil => exact absurd rfl hy0 | cons z r => simp
  have hbytes : (0 + ys.length) * ei.bytes ≤ 140737488355328 := by
   rw [Nat.zero_add]
   calc ys.length * ei.bytes ≤ 137438953472 * 1024 := Nat.mul_le_mul hbd hb'
    _ ≤ _ := by decide
  obtain ⟨ad, rfl⟩ := Option.ne_none_iff_exists'.1 hb
  have hnews : ∀ (q : Nat) i u, (ys.flatMap enc)[i]? = some u → (at' w q).cell? (ad.add i) = some u := fun q i u hu => row_cells hE (hr.ext hw1) i u hu
  have hone : ∀ u ∈ ys.flatMap enc, u.oneCell' = true := fun u hu => by
   obtain ⟨z, _, hz'⟩ := List.mem_flatMap.1 hu
   exact hE.one z u hz'
  have hlY : (ys.flatMap enc).length = ys.length * j.size := by rw [length_flatMap' hE.len, hj2.trans hs]
  have hfit := growslice_fits (need := 0 + ys.length) (old := 0) (bytes := j.bytes) (by omega) (by rw [hj3]; exact hbytes)
  have hgr : ∀ q, (Builtin.append_ #[t, t] tt #[.slice (some ⟨gb, 0, none⟩) 0 0, .slice (some ad) ys.length c]).run P (at' w q) = .ok (.slice (some ⟨w.heap.size, 0, none⟩) (0 + ys.length) (grownCap (at' w q) (0 + ys.length) 0 el)) ((at' w q).drew.alloc (.cells (([] : List Value).toArray ++ (ys.flatMap enc).toArray ++ Builtin.zeroCells ei.zero.cells (grownCap (at' w q) (0 + ys.length) 0 el - (0 + ys.length))) el)) := fun q =>
   run_append_grow (P := P) (at' w q) t tt el j ei.zero hti hj1 hj4 ⟨gb, 0, none⟩ 0 0 [] (by simp) (fun i u h => by simp at h) ad ys.length c (ys.flatMap enc) hlY (hnews q) (by omega) (by simp only [Nat.zero_add]; omega) hfit
  refine ⟨fun ac q hf => ?_⟩
  unfold wpList
  rw [if_pos (by rw [gate_wanted hf (o := ⟨some d, .call ⟨.builtin .append, ⟨[x, y]⟩, ⟨[t, t]⟩⟩, tt, ps, af, g⟩) hg])]
  refine .inl ?_
  obtain ⟨v', w', hrun, h2, _, _⟩ := run_append_own (P := P) (at' w q) B t tt el j ei.zero s ei.bytes hti hj1 hj4 (hj2.trans hs) hj3 hz hE.pos (.slice (some ⟨gb, 0, none⟩) 0 0) 0 [] hO0 ad ys.length c (ys.flatMap enc)
   (by rw [length_flatMap' hE.len]) (hnews q) hone (by simp only [maxLen]; omega) hbytes (by show B ≤ w.heap.size; omega)
  have hg' := hgr q
  rw [hg'] at hrun
  simp only [Result.ok.injEq] at hrun
  obtain ⟨hv, hw⟩ := hrun
  have hexec : (execOp ac.eval ⟨some d, .call ⟨.builtin .append, ⟨[x, y]⟩, ⟨[t, t]⟩⟩, tt, ps, af, g⟩).run P (at' w q) = .ok (.value v') w' := by
   simp only [execOp, resolve, invoke, builtin, Sem.run_bind, Sem.run_pure, Result.andThen_ok, List.map_toArray, List.map_cons, List.map_nil, hf.eval hx, hf.eval hy, hg', hv, hw]
  unfold Oper.wp
  rw [hexec]
  have hX : Ext w w' := by rw [← hw]; exact ⟨rfl, rfl, rfl, by simp, fun k hk => heap_alloc_old (at' w q).drew _ hk⟩
  have hO : Own s enc el B w' (some ⟨w.heap.size, 0, none⟩) (grownCap (at' w q) (0 + ys.length) 0 el) ys := by
   rw [← hv] at h2
   simp only [List.nil_append, Nat.zero_add] at h2 ⊢
   exact h2
  subst hv
  have := (k _ _ w' hO hX (.inr fun k hk => by simp only [blk, Option.map_some, Option.some.injEq] at hk; omega)).go _ w'.drawn (hf.put (by simpa [Nat.blt_eq] using hd) _)
  simp only [Nat.zero_add] at this ⊢
  exact this
end rules

open Classical in
noncomputable def prowZ {α : Type} (s : Nat) (enc : α → List Value) (el B : Nat) (a : Option Addr) (cap : Nat) (l : List α) : Piece :=
 ⟨if l = [] then none else blk a, fun w => l ≠ [] → Own s enc el B w a cap l, fun {w w'} h hb hl => (h hl).keep fun k hk => hb k (by rw [if_neg hl]; exact hk)⟩
theorem prowZ_b {α : Type} {s : Nat} {enc : α → List Value} {el B cap : Nat} {a : Option Addr} {l : List α} (hl : l ≠ []) : (prowZ s enc el B a cap l).b = blk a := if_neg hl
theorem Sep.rowZ {α : Type} {s : Nat} {enc : α → List Value} {el B cap i : Nat} {a : Option Addr} {l : List α} {w : World} {ps : List Piece} (hS : Sep B w ps) (h : ps[i]? = some (prowZ s enc el B a cap l)) (hl : l ≠ []) : Own s enc el B w a cap l := (hS.holds i _ h).1 hl
theorem Sep.news {B : Nat} {w w' : World} {ps : List Piece} (qs : List Piece) (hS : Sep B w ps) (hx : Ext w w') (hp : ∀ q ∈ qs, q.P w' ∧ ∀ k, q.b = some k → w.heap.size ≤ k ∧ k < w'.heap.size) (ha : Apart (qs.map (·.b))) (hB : B ≤ w.heap.size) : Sep B w' (qs ++ ps) := by
 induction qs with
 | nil => exact hS.ext hx
 | cons q r ih =>
  have ha' := List.pairwise_cons.1 (show List.Pairwise _ (q.b :: r.map (·.b)) from ha)
  have ih' := ih (fun p h => hp p (by simp [h])) ha'.2
  obtain ⟨hq1, hq2⟩ := hp q (by simp)
  have key : ∀ (j : Nat) (p : Piece), (r ++ ps)[j]? = some p → (q.b = none ∨ q.b ≠ p.b) ∧ (p.b = none ∨ p.b ≠ q.b) := by
   intro j p hj
   have base : q.b = none ∨ q.b ≠ p.b := by
    by_cases hlt : j < r.length
    ·rw [List.getElem?_append_left hlt] at hj
     exact ha'.1 p.b (List.mem_map.2 ⟨p, List.mem_of_getElem? hj, rfl⟩)
    ·rw [List.getElem?_append_right (by omega)] at hj
     cases hb : q.b with
     | none => exact .inl rfl
     | some k =>
      refine .inr fun he => ?_
      have h1 := (hq2 k hb).1
      have h2 := ((hS.holds _ p hj).2 k he.symm).2
      omega
   refine ⟨base, ?_⟩
   rcases base with h | h
   ·cases hb : p.b with
    | none => exact .inl rfl
    | some k => exact .inr (by rw [h]; simp)
   ·exact .inr (Ne.symm h)
  refine ⟨fun i p h => ?_, fun i j p p' h1 h2 hne => ?_⟩
  ·cases i with
   | zero => simp at h; subst h; exact ⟨hq1, fun k hk => ⟨Nat.le_trans hB (hq2 k hk).1, (hq2 k hk).2⟩⟩
   | succ i => exact ih'.holds i p (by simpa using h)
  ·cases i with
   | zero =>
    simp at h1; subst h1
    cases j with
    | zero => exact absurd rfl hne
    | succ j => exact (key j p' (by simpa using h2)).1
   | succ i =>
    cases j with
    | zero => simp at h2; subst h2; exact (key i p (by simpa using h1)).2
    | succ j => exact ih'.apart i j p p' (by simpa using h1) (by simpa using h2) (by omega)
theorem prowZ_new {α : Type} {s : Nat} {enc : α → List Value} {el B C cap : Nat} {a : Option Addr} {l : List α} {w : World} (h : Own s enc el B w a cap l) (hB : C ≤ B) : (prowZ s enc el C a cap l).P w ∧ ∀ k, (prowZ s enc el C a cap l).b = some k → B ≤ k ∧ k < w.heap.size := by
 refine ⟨fun _ => h.base hB, fun k hk => ?_⟩
 by_cases hl : l = []
 ·have : (prowZ s enc el C a cap l).b = none := if_pos hl
  rw [this] at hk; cases hk
 ·rw [prowZ_b hl] at hk; exact h.blk_lt k hk
theorem apartS {bs cs : List (Option Nat)} (h : Apart bs) (hs : List.Sublist cs bs := by repeat' (first | exact List.Sublist.slnil | apply List.Sublist.cons_cons | apply List.Sublist.cons)) : Apart cs := List.Pairwise.sublist hs h
theorem Sep.takeN {B : Nat} {w : World} {ps : List Piece} (hS : Sep B w ps) (n : Nat) : Sep B w (ps.take n) := by
 have key : ∀ (i : Nat) (p : Piece), (ps.take n)[i]? = some p → ps[i]? = some p := fun i p h => by
  rw [List.getElem?_take] at h; split at h
  ·exact h
  ·cases h
 exact ⟨fun i p h => hS.holds i p (key i p h), fun i j p q h1 h2 hne => hS.apart i j p q (key i p h1) (key j q h2) hne⟩
end Go.Lt
namespace Go.Proofs.YteidpnpbfagaeaaGreat
open Go Go.Lt Go.RowKit
set_option linter.unusedVariables false
set_option linter.unusedSimpArgs false
set_option maxRecDepth 20000

noncomputable def Circ.ps (B : Nat) (d : Circ) : List Piece :=
 [prowZ 3 encY 119 B d.syms.1 d.syms.2.1 d.syms.2.2, prowZ 3 enc3 86 B d.gates.1 d.gates.2.1 d.gates.2.2, prowZ 3 enc3 69 B d.lat.1 d.lat.2.1 d.lat.2.2,
  prowZ 1 encI 3 B d.cons.1 d.cons.2.1 d.cons.2.2, prowZ 1 encI 3 B d.bads.1 d.bads.2.1 d.bads.2.2, prowZ 1 encI 3 B d.outs.1 d.outs.2.1 d.outs.2.2, prowZ 1 encI 3 B d.ins.1 d.ins.2.1 d.ins.2.2]
structure CapC (d : Circ) : Prop where
 ins : d.ins.2.2.length ≤ d.ins.2.1 ∧ (d.ins.1 = none → d.ins.2.1 = 0)
 lat : d.lat.2.2.length ≤ d.lat.2.1 ∧ (d.lat.1 = none → d.lat.2.1 = 0)
 outs : d.outs.2.2.length ≤ d.outs.2.1 ∧ (d.outs.1 = none → d.outs.2.1 = 0)
 bads : d.bads.2.2.length ≤ d.bads.2.1 ∧ (d.bads.1 = none → d.bads.2.1 = 0)
 cons : d.cons.2.2.length ≤ d.cons.2.1 ∧ (d.cons.1 = none → d.cons.2.1 = 0)
 gates : d.gates.2.2.length ≤ d.gates.2.1 ∧ (d.gates.1 = none → d.gates.2.1 = 0)
 syms : d.syms.2.2.length ≤ d.syms.2.1 ∧ (d.syms.1 = none → d.syms.2.1 = 0)
theorem rowZ_row {α : Type} {s : Nat} {enc : α → List Value} {el B cap i : Nat} {a : Option Addr} {l : List α} {w : World} {ps : List Piece} (hE : Enc s enc) (hS : Lt.Sep B w ps) (h : ps[i]? = some (prowZ s enc el B a cap l)) : Row s enc w a l := by
 by_cases hl : l = []
 ·subst hl; exact Row.nil s enc w a
 ·exact (hS.rowZ h hl).row hE
structure OwnC (B : Nat) (w : World) (d : Circ) : Prop where
 sep : Lt.Sep B w (d.ps B)
 cap : CapC d
theorem OwnC.at {B : Nat} {w : World} {d : Circ} (h : OwnC B w d) : CAt w d :=
 ⟨⟨rowZ_row encI_ok h.sep (i := 6) rfl, h.cap.ins.1, h.cap.ins.2⟩, ⟨rowZ_row enc3_ok h.sep (i := 2) rfl, h.cap.lat.1, h.cap.lat.2⟩, ⟨rowZ_row encI_ok h.sep (i := 5) rfl, h.cap.outs.1, h.cap.outs.2⟩, ⟨rowZ_row encI_ok h.sep (i := 4) rfl, h.cap.bads.1, h.cap.bads.2⟩,
  ⟨rowZ_row encI_ok h.sep (i := 3) rfl, h.cap.cons.1, h.cap.cons.2⟩, ⟨rowZ_row enc3_ok h.sep (i := 1) rfl, h.cap.gates.1, h.cap.gates.2⟩, ⟨rowZ_row encY_ok h.sep (i := 0) rfl, h.cap.syms.1, h.cap.syms.2⟩⟩
theorem OwnC.ext {B : Nat} {w w' : World} {d : Circ} (h : OwnC B w d) (hx : Ext w w') : OwnC B w' d := ⟨h.sep.ext hx, h.cap⟩

set_option maxHeartbeats 16000000 in
theorem law11_Own (c : Circ) (w : World) (hC : CAt w c) (hz : SzC c.t 100000) (hz2 : c.t.syms.length ≤ 100000) :
  Lt.Spec Tryz.prog 9 [c.val] w (fun v w' => Ext w w' ∧ ∃ d : Circ, v = d.val ∧ d.t = c.t ∧ OwnC w.heap.size w' d) := by
 have z1 : c.ins.2.2.length ≤ 100000 := hz.1
 have z2 : c.lat.2.2.length ≤ 100000 := hz.2.1
 have z3 : c.outs.2.2.length ≤ 100000 := hz.2.2.1
 have z4 : c.bads.2.2.length ≤ 100000 := hz.2.2.2.1
 have z5 : c.cons.2.2.length ≤ 100000 := hz.2.2.2.2.1
 have z6 : c.gates.2.2.length ≤ 100000 := hz.2.2.2.2.2
 have z7 : c.syms.2.2.length ≤ 100000 := hz2
 have hS : Lt.Sep w.heap.size w [] := Sep.none'
 have Ri := hC.ins.row
 have Ro := hC.outs.row
 have Rb := hC.bads.row
 have Rn := hC.cons.row
 have Rl := hC.lat.row
 have Rg := hC.gates.row
 have Ry := hC.syms.row
 have ni := hC.ins.none
 have no := hC.outs.none
 have nb := hC.bads.none
 have nn := hC.cons.none
 have nl := hC.lat.none
 have ng := hC.gates.none
 have ny := hC.syms.none
 refine Spec.of _ Tryz.func9 rfl Tryz.ntmps9 (by kernel_rfl) rfl ?_
 repeat' (first
  | (apply WL.box; (iterate 3 exact rfl); intro gb w' hb hge hc hx; have hcc := hc; ((obtain ⟨h1, h2, h3, _⟩ := hc)); (have hcells := hcc; obtain ⟨y0, y1, y2, y3, y4, y5, y6, y7, y8, _⟩ := hcc; obtain ⟨gc, rfl⟩ : ∃ x, x = gb := ⟨_, rfl⟩; obtain ⟨wc, rfl⟩ : ∃ x, x = w' := ⟨_, rfl⟩; obtain ⟨hxc, rfl⟩ : ∃ x, x = hx := ⟨_, rfl⟩))
  | (apply WL.alloc tOk; (iterate 3 exact rfl); intro gb w' hb hge hx; replace hS := Sep.newCell (Sep.ext hS extA) hx hb hge (by (exact Below.size extA)); (try simp only [List.set_cons_zero, List.set_cons_succ] at hS); (try have hC0 := hS.cell (i := 0) rfl); (try have hD0 := (cells_heap hC0).1); (try have hE0 := (cells_heap hC0).2.1); (try have hF0 := (cells_heap hC0).2.2.1); (try have hG0 := (cells_heap hC0).2.2.2.1); (try have hC1 := hS.cell (i := 1) rfl); (try have hD1 := (cells_heap hC1).1); (try have hE1 := (cells_heap hC1).2.1); (try have hF1 := (cells_heap hC1).2.2.1); (try have hG1 := (cells_heap hC1).2.2.2.1); (first | (have h_0 := g2; clear h_0) | (obtain ⟨g2, rfl⟩ : ∃ x, x = gb := ⟨_, rfl⟩)))
  | (apply WL.storeB (w0 := wc) tOk; (iterate 4 exact rfl); assumption; (exact extA); (iterate 3 exact rfl); (exact extA); ((focus (apply Nat.le_trans; rotate_left; assumption; exact Below.size extA; done))); intro w' hb hc hX' hU; have hcc := hc; obtain ⟨h1, h2, _⟩ := hc; (replace hS := Sep.updCell (i := 0) rfl hU hb hS extA (by (exact Below.size extA))); (try simp only [List.set_cons_zero, List.set_cons_succ] at hS); (try have hC0 := hS.cell (i := 0) rfl); (try have hD0 := (cells_heap hC0).1); (try have hE0 := (cells_heap hC0).2.1); (try have hF0 := (cells_heap hC0).2.2.1); (try have hG0 := (cells_heap hC0).2.2.2.1); (try have hC1 := hS.cell (i := 1) rfl); (try have hD1 := (cells_heap hC1).1); (try have hE1 := (cells_heap hC1).2.1); (try have hF1 := (cells_heap hC1).2.2.1); (try have hG1 := (cells_heap hC1).2.2.2.1))
  | (show WL _ _ _ _ _ _ _; first | apply WL.nil | (refine WL.au (k := ?_)))
  | (show Z _ _ _ _ _; apply Z.then_normal)
  | (show W _ _ _ _ _ _; first | apply W.seq | apply W.region)
  | fail)
 replace hS : Lt.Sep w.heap.size w' [pcell gb c.vals.toArray 27, pcell g2 (Value.cells (.agg #[.int .i64 0, .slice none 0 0, .slice none 0 0, .slice none 0 0, .slice none 0 0, .slice none 0 0, .slice none 0 0, .slice none 0 0, .string ⟨#[]⟩])) 27] := hS
 (try simp only [List.set_cons_zero, List.set_cons_succ] at hS); (try have hC0 := hS.cell (i := 0) rfl); (try have hD0 := (cells_heap hC0).1); (try have hE0 := (cells_heap hC0).2.1); (try have hF0 := (cells_heap hC0).2.2.1); (try have hG0 := (cells_heap hC0).2.2.2.1); (try have hC1 := hS.cell (i := 1) rfl); (try have hD1 := (cells_heap hC1).1); (try have hE1 := (cells_heap hC1).2.1); (try have hF1 := (cells_heap hC1).2.2.1); (try have hG1 := (cells_heap hC1).2.2.2.1)
 obtain ⟨w1, rfl⟩ : ∃ x, x = w' := ⟨_, rfl⟩
 have hX1 : Ext wc w1 := extA
 have hX2 : Ext w w1 := extA
 have hw1 : w.heap.size ≤ w1.heap.size := Below.size hX2
 repeat' (first
  | (show W _ _ (.region 2 _ _) _ _ _; apply W.regionI 17 [prLit 3 w1.heap.size, .is (.pointer (some ⟨gc, 0 + 1, none⟩)), .is (rowVal c.ins), prRow 1 encI 3 w1.heap.size c.ins.2.2, prLit 3 w1.heap.size, .is (.pointer (some ⟨gc, 0 + 1 + 1 + 1, none⟩)), .is (rowVal c.outs), prRow 1 encI 3 w1.heap.size c.outs.2.2, prLit 3 w1.heap.size, .is (.pointer (some ⟨gc, 0 + 1 + 1 + 1 + 1, none⟩)), .is (rowVal c.bads), prRow 1 encI 3 w1.heap.size c.bads.2.2, prLit 3 w1.heap.size, .is (.pointer (some ⟨gc, 0 + 1 + 1 + 1 + 1 + 1, none⟩)), .is (rowVal c.cons), prRow 1 encI 3 w1.heap.size c.cons.2.2, .is (.pointer (some ⟨gb, 0 + 1, none⟩))] tMix; kernel_rfl; exact rfl; kernel_rfl; kernel_rfl; exact rfl; exact rfl)
  | (show OBL _ _ _ _ _ _ _ _; apply OBL.nil)
  | (show OBL _ _ _ _ _ _ 0 _; apply OBL.cons (ds := []); (iterate 3 exact rfl); kernel_rfl; intro w8 hw8 rest8)
  | (show OBL _ _ _ _ _ _ 1 _; apply OBL.cons (ds := []); (iterate 3 exact rfl); kernel_rfl; intro w8 hw8 rest8)
  | (show OBL _ _ _ _ _ _ 2 _; apply OBL.cons (ds := [1]); (iterate 3 exact rfl); kernel_rfl; intro w8 hw8 rest8)
  | (show OBL _ _ _ _ _ _ 3 _; apply OBL.cons (ds := [0, 2]); (iterate 3 exact rfl); kernel_rfl; intro w8 hw8 rest8)
  | (show OBL _ _ _ _ _ _ 4 _; apply OBL.cons (ds := []); (iterate 3 exact rfl); kernel_rfl; intro w8 hw8 rest8)
  | (show OBL _ _ _ _ _ _ 5 _; apply OBL.cons (ds := []); (iterate 3 exact rfl); kernel_rfl; intro w8 hw8 rest8)
  | (show OBL _ _ _ _ _ _ 6 _; apply OBL.cons (ds := [5]); (iterate 3 exact rfl); kernel_rfl; intro w8 hw8 rest8)
  | (show OBL _ _ _ _ _ _ 7 _; apply OBL.cons (ds := [4, 6, 3]); (iterate 3 exact rfl); kernel_rfl; intro w8 hw8 rest8)
  | (show OBL _ _ _ _ _ _ 8 _; apply OBL.cons (ds := []); (iterate 3 exact rfl); kernel_rfl; intro w8 hw8 rest8)
  | (show OBL _ _ _ _ _ _ 9 _; apply OBL.cons (ds := []); (iterate 3 exact rfl); kernel_rfl; intro w8 hw8 rest8)
  | (show OBL _ _ _ _ _ _ 10 _; apply OBL.cons (ds := [9]); (iterate 3 exact rfl); kernel_rfl; intro w8 hw8 rest8)
  | (show OBL _ _ _ _ _ _ 11 _; apply OBL.cons (ds := [8, 10, 7]); (iterate 3 exact rfl); kernel_rfl; intro w8 hw8 rest8)
  | (show OBL _ _ _ _ _ _ 12 _; apply OBL.cons (ds := []); (iterate 3 exact rfl); kernel_rfl; intro w8 hw8 rest8)
  | (show OBL _ _ _ _ _ _ 13 _; apply OBL.cons (ds := []); (iterate 3 exact rfl); kernel_rfl; intro w8 hw8 rest8)
  | (show OBL _ _ _ _ _ _ 14 _; apply OBL.cons (ds := [13]); (iterate 3 exact rfl); kernel_rfl; intro w8 hw8 rest8)
  | (show OBL _ _ _ _ _ _ 15 _; apply OBL.cons (ds := [12, 14, 11]); (iterate 3 exact rfl); kernel_rfl; intro w8 hw8 rest8)
  | (show OBL _ _ _ _ _ _ 16 _; apply OBL.cons (ds := [0, 1, 2, 3]); (iterate 3 exact rfl); kernel_rfl; intro w8 hw8 rest8)
  | (show NO _ _ _ _ _ _ _ _ _ _; first | apply NO.nil | (apply NO.is; exact rfl; exact rfl) | (apply NO.ex; exact rfl; exact rfl; (first | (rintro _ ⟨gl, rfl, hlb, hlge⟩) | (rintro _ ⟨ar, cr, rfl, hOr⟩))))
  | (intro w8 hw8; show NF _ _ _ _ _ _ _ _ _)
  | (show NF _ _ _ _ _ _ _ _ _; first | (apply NF.nilT; intro hap; replace hS := Sep.news [prowZ 1 encI 3 w.heap.size ar2_15 cr2_15 c.cons.2.2, prowZ 1 encI 3 w.heap.size ar2_11 cr2_11 c.bads.2.2, prowZ 1 encI 3 w.heap.size ar2_7 cr2_7 c.outs.2.2, prowZ 1 encI 3 w.heap.size ar2_3 cr2_3 c.ins.2.2] hS hw8 (by rintro q hq; simp only [List.mem_cons, List.not_mem_nil, or_false] at hq; rcases hq with rfl | rfl | rfl | rfl <;> exact prowZ_new (by assumption) hw1) (apartS hap) hw1; simp only [List.cons_append, List.nil_append] at hS; (try simp only [List.set_cons_zero, List.set_cons_succ] at hS); (try have hD0 := (cells_heap hC0).1); (try have hE0 := (cells_heap hC0).2.1); (try have hF0 := (cells_heap hC0).2.2.1); (try have hG0 := (cells_heap hC0).2.2.2.1); (try have hD1 := (cells_heap hC1).1); (try have hE1 := (cells_heap hC1).2.1); (try have hF1 := (cells_heap hC1).2.2.1); (try have hG1 := (cells_heap hC1).2.2.2.1); (try have hC4 := hS.cell (i := 4) rfl); (try have hD4 := (cells_heap hC4).1); (try have hE4 := (cells_heap hC4).2.1); (try have hF4 := (cells_heap hC4).2.2.1); (try have hG4 := (cells_heap hC4).2.2.2.1)) | (apply NF.is; exact rfl; exact rfl))
  | (show NF _ _ _ _ _ _ (0 :: _) _ _; apply NF.ex; exact rfl; exact rfl; rintro _ ⟨gl2_0, rfl, hlb2_0, hlge2_0⟩)
  | (show NF _ _ _ _ _ _ (3 :: _) _ _; apply NF.ex; exact rfl; exact rfl; rintro _ ⟨ar2_3, cr2_3, rfl, hOr2_3⟩)
  | (show NF _ _ _ _ _ _ (4 :: _) _ _; apply NF.ex; exact rfl; exact rfl; rintro _ ⟨gl2_4, rfl, hlb2_4, hlge2_4⟩)
  | (show NF _ _ _ _ _ _ (7 :: _) _ _; apply NF.ex; exact rfl; exact rfl; rintro _ ⟨ar2_7, cr2_7, rfl, hOr2_7⟩)
  | (show NF _ _ _ _ _ _ (8 :: _) _ _; apply NF.ex; exact rfl; exact rfl; rintro _ ⟨gl2_8, rfl, hlb2_8, hlge2_8⟩)
  | (show NF _ _ _ _ _ _ (11 :: _) _ _; apply NF.ex; exact rfl; exact rfl; rintro _ ⟨ar2_11, cr2_11, rfl, hOr2_11⟩)
  | (show NF _ _ _ _ _ _ (12 :: _) _ _; apply NF.ex; exact rfl; exact rfl; rintro _ ⟨gl2_12, rfl, hlb2_12, hlge2_12⟩)
  | (show NF _ _ _ _ _ _ (15 :: _) _ _; apply NF.ex; exact rfl; exact rfl; rintro _ ⟨ar2_15, cr2_15, rfl, hOr2_15⟩)
  | (show Z _ _ _ _ _; first | (apply Z.invIs; (exact extA)) | (apply Z.invLit; (exact extA); assumption; first | omega | (refine Nat.le_trans ?_ (by assumption); exact Below.size extA)) | (apply Z.invRow; (exact extA); assumption; assumption))
  | (apply WL.lit tOk; (iterate 6 exact rfl); (kernel_rfl); exact rfl; intro gb w' hb hge hc hx)
  | (apply WL.append0 tOk encI_ok; (iterate 10 exact rfl); assumption; (assumption); (exact extA); assumption; (exact extA); (exact rfl); (assumption); (omega); intro a' cap' w' hO hx hf0)
  | (apply WL.storeF (w0 := wc) tOk; (iterate 4 exact rfl); assumption; (exact extA); (iterate 4 exact rfl); (exact extA); ((focus (apply Nat.le_trans; rotate_left; assumption; exact Below.size extA))); intro w' hb hX' hU; replace hS := Sep.updCell (i := 4) rfl hU hb hS extA (by (exact Below.size extA)); (try simp only [List.set_cons_zero, List.set_cons_succ] at hS); (try have hD0 := (cells_heap hC0).1); (try have hE0 := (cells_heap hC0).2.1); (try have hF0 := (cells_heap hC0).2.2.1); (try have hG0 := (cells_heap hC0).2.2.2.1); (try have hD1 := (cells_heap hC1).1); (try have hE1 := (cells_heap hC1).2.1); (try have hF1 := (cells_heap hC1).2.2.1); (try have hG1 := (cells_heap hC1).2.2.2.1); (try have hC4 := hS.cell (i := 4) rfl); (try have hD4 := (cells_heap hC4).1); (try have hE4 := (cells_heap hC4).2.1); (try have hF4 := (cells_heap hC4).2.2.1); (try have hG4 := (cells_heap hC4).2.2.2.1))
  | (show WL _ _ _ _ _ _ _; first | apply WL.nil | (refine WL.au (k := ?_)))
  | (show Z _ _ _ _ _; apply Z.then_normal)
  | (show W _ _ _ _ _ _; apply W.seq)
  | fail)
 obtain ⟨w2, rfl⟩ : ∃ x, x = w' := ⟨_, rfl⟩
 have hX3 : Ext wc w2 := extA
 have hw2 : w.heap.size ≤ w2.heap.size := Nat.le_trans (Below.size hxc) (Below.size hX3)
 repeat' (first
  | (show W _ _ (.region 3 _ _) _ _ _; apply W.regionI 13 [prLit 69 w2.heap.size, .is (.pointer (some ⟨gc, 0 + 1 + 1, none⟩)), .is (rowVal c.lat), prRow 3 enc3 69 w2.heap.size c.lat.2.2, prLit 86 w2.heap.size, .is (.pointer (some ⟨gc, 0 + 1 + 1 + 1 + 1 + 1 + 1, none⟩)), .is (rowVal c.gates), prRow 3 enc3 86 w2.heap.size c.gates.2.2, prLit 119 w2.heap.size, .is (.pointer (some ⟨gc, 0 + 1 + 1 + 1 + 1 + 1 + 1 + 1, none⟩)), .is (rowVal c.syms), prRow 3 encY 119 w2.heap.size c.syms.2.2, .is (.pointer (some ⟨gb, 0 + 2, none⟩))] tMix; kernel_rfl; exact rfl; kernel_rfl; kernel_rfl; exact rfl; exact rfl)
  | (show OBL _ _ _ _ _ _ _ _; apply OBL.nil)
  | (show OBL _ _ _ _ _ _ 0 _; apply OBL.cons (ds := []); (iterate 3 exact rfl); kernel_rfl; intro w8 hw8 rest8)
  | (show OBL _ _ _ _ _ _ 1 _; apply OBL.cons (ds := []); (iterate 3 exact rfl); kernel_rfl; intro w8 hw8 rest8)
  | (show OBL _ _ _ _ _ _ 2 _; apply OBL.cons (ds := [1]); (iterate 3 exact rfl); kernel_rfl; intro w8 hw8 rest8)
  | (show OBL _ _ _ _ _ _ 3 _; apply OBL.cons (ds := [0, 2]); (iterate 3 exact rfl); kernel_rfl; intro w8 hw8 rest8)
  | (show OBL _ _ _ _ _ _ 4 _; apply OBL.cons (ds := []); (iterate 3 exact rfl); kernel_rfl; intro w8 hw8 rest8)
  | (show OBL _ _ _ _ _ _ 5 _; apply OBL.cons (ds := []); (iterate 3 exact rfl); kernel_rfl; intro w8 hw8 rest8)
  | (show OBL _ _ _ _ _ _ 6 _; apply OBL.cons (ds := [5]); (iterate 3 exact rfl); kernel_rfl; intro w8 hw8 rest8)
  | (show OBL _ _ _ _ _ _ 7 _; apply OBL.cons (ds := [4, 6, 3]); (iterate 3 exact rfl); kernel_rfl; intro w8 hw8 rest8)
  | (show OBL _ _ _ _ _ _ 8 _; apply OBL.cons (ds := []); (iterate 3 exact rfl); kernel_rfl; intro w8 hw8 rest8)
  | (show OBL _ _ _ _ _ _ 9 _; apply OBL.cons (ds := []); (iterate 3 exact rfl); kernel_rfl; intro w8 hw8 rest8)
  | (show OBL _ _ _ _ _ _ 10 _; apply OBL.cons (ds := [9]); (iterate 3 exact rfl); kernel_rfl; intro w8 hw8 rest8)
  | (show OBL _ _ _ _ _ _ 11 _; apply OBL.cons (ds := [8, 10, 7]); (iterate 3 exact rfl); kernel_rfl; intro w8 hw8 rest8)
  | (show OBL _ _ _ _ _ _ 12 _; apply OBL.cons (ds := [0, 1, 2, 3]); (iterate 3 exact rfl); kernel_rfl; intro w8 hw8 rest8)
  | (show NO _ _ _ _ _ _ _ _ _ _; first | apply NO.nil | (apply NO.is; exact rfl; exact rfl) | (apply NO.ex; exact rfl; exact rfl; (first | (rintro _ ⟨gl, rfl, hlb, hlge⟩) | (rintro _ ⟨ar, cr, rfl, hOr⟩))))
  | (intro w8 hw8; show NF _ _ _ _ _ _ _ _ _)
  | (show NF _ _ _ _ _ _ _ _ _; first | (apply NF.nilT; intro hap; replace hS := Sep.news [prowZ 3 encY 119 w.heap.size ar3_11 cr3_11 c.syms.2.2, prowZ 3 enc3 86 w.heap.size ar3_7 cr3_7 c.gates.2.2, prowZ 3 enc3 69 w.heap.size ar3_3 cr3_3 c.lat.2.2] hS hw8 (by rintro q hq; simp only [List.mem_cons, List.not_mem_nil, or_false] at hq; rcases hq with rfl | rfl | rfl <;> exact prowZ_new (by assumption) hw2) (apartS hap) hw2; simp only [List.cons_append, List.nil_append] at hS; (try simp only [List.set_cons_zero, List.set_cons_succ] at hS); (try have hD0 := (cells_heap hC0).1); (try have hE0 := (cells_heap hC0).2.1); (try have hF0 := (cells_heap hC0).2.2.1); (try have hG0 := (cells_heap hC0).2.2.2.1); (try have hD1 := (cells_heap hC1).1); (try have hE1 := (cells_heap hC1).2.1); (try have hF1 := (cells_heap hC1).2.2.1); (try have hG1 := (cells_heap hC1).2.2.2.1); (try have hD4 := (cells_heap hC4).1); (try have hE4 := (cells_heap hC4).2.1); (try have hF4 := (cells_heap hC4).2.2.1); (try have hG4 := (cells_heap hC4).2.2.2.1)) | (apply NF.is; exact rfl; exact rfl))
  | (show NF _ _ _ _ _ _ (0 :: _) _ _; apply NF.ex; exact rfl; exact rfl; rintro _ ⟨gl3_0, rfl, hlb3_0, hlge3_0⟩)
  | (show NF _ _ _ _ _ _ (3 :: _) _ _; apply NF.ex; exact rfl; exact rfl; rintro _ ⟨ar3_3, cr3_3, rfl, hOr3_3⟩)
  | (show NF _ _ _ _ _ _ (4 :: _) _ _; apply NF.ex; exact rfl; exact rfl; rintro _ ⟨gl3_4, rfl, hlb3_4, hlge3_4⟩)
  | (show NF _ _ _ _ _ _ (7 :: _) _ _; apply NF.ex; exact rfl; exact rfl; rintro _ ⟨ar3_7, cr3_7, rfl, hOr3_7⟩)
  | (show NF _ _ _ _ _ _ (8 :: _) _ _; apply NF.ex; exact rfl; exact rfl; rintro _ ⟨gl3_8, rfl, hlb3_8, hlge3_8⟩)
  | (show NF _ _ _ _ _ _ (11 :: _) _ _; apply NF.ex; exact rfl; exact rfl; rintro _ ⟨ar3_11, cr3_11, rfl, hOr3_11⟩)
  | (show Z _ _ _ _ _; first | (apply Z.invIs; (exact extA)) | (apply Z.invLit; (exact extA); assumption; first | omega | (refine Nat.le_trans ?_ (by assumption); exact Below.size extA)) | (apply Z.invRow; (exact extA); assumption; assumption))
  | (apply WL.lit tOk; (iterate 6 exact rfl); (kernel_rfl); exact rfl; intro gb w' hb hge hc hx)
  | (apply WL.append0 tOk enc3_ok; (iterate 10 exact rfl); assumption; (assumption); (exact extA); assumption; (exact extA); (exact rfl); (assumption); (omega); intro a' cap' w' hO hx hf0)
  | (apply WL.append0 tOk encY_ok; (iterate 10 exact rfl); assumption; (assumption); (exact extA); assumption; (exact extA); (exact rfl); (assumption); (omega); intro a' cap' w' hO hx hf0)
  | (apply WL.storeF (w0 := wc) tOk; (iterate 4 exact rfl); assumption; (exact extA); (iterate 4 exact rfl); (exact extA); ((focus (apply Nat.le_trans; rotate_left; assumption; exact Below.size extA))); intro w' hb hX' hU; replace hS := Sep.updCell (i := 7) rfl hU hb hS extA (by (exact Below.size extA)); (try simp only [List.set_cons_zero, List.set_cons_succ] at hS); (try have hD0 := (cells_heap hC0).1); (try have hE0 := (cells_heap hC0).2.1); (try have hF0 := (cells_heap hC0).2.2.1); (try have hG0 := (cells_heap hC0).2.2.2.1); (try have hD1 := (cells_heap hC1).1); (try have hE1 := (cells_heap hC1).2.1); (try have hF1 := (cells_heap hC1).2.2.1); (try have hG1 := (cells_heap hC1).2.2.2.1); (try have hD4 := (cells_heap hC4).1); (try have hE4 := (cells_heap hC4).2.1); (try have hF4 := (cells_heap hC4).2.2.1); (try have hG4 := (cells_heap hC4).2.2.2.1))
  | (show WL _ _ _ _ _ _ _; first | apply WL.nil | (refine WL.au (k := ?_)))
  | (show Z _ _ _ _ _; apply Z.then_normal)
  | (show W _ _ _ _ _ _; first | apply W.seq | apply W.region)
  | fail)
 obtain ⟨d, hd⟩ : ∃ d : Circ, d = ⟨c.max, (ar2_3, cr2_3, c.ins.2.2), (ar3_3, cr3_3, c.lat.2.2), (ar2_7, cr2_7, c.outs.2.2), (ar2_11, cr2_11, c.bads.2.2), (ar2_15, cr2_15, c.cons.2.2), (ar3_7, cr3_7, c.gates.2.2), (ar3_11, cr3_11, c.syms.2.2), c.com⟩ := ⟨_, rfl⟩
 have hS' : Lt.Sep w.heap.size w' (d.ps w.heap.size ++ [pcell gb d.vals.toArray 27, pcell g2 (Value.cells (.agg #[.int .i64 0, .slice none 0 0, .slice none 0 0, .slice none 0 0, .slice none 0 0, .slice none 0 0, .slice none 0 0, .slice none 0 0, .string ⟨#[]⟩])) 27]) := by rw [hd]; exact hS
 have hcap : CapC d := by
  rw [hd]
  exact ⟨⟨hOr2_3.capLe, hOr2_3.noneCap⟩, ⟨hOr3_3.capLe, hOr3_3.noneCap⟩, ⟨hOr2_7.capLe, hOr2_7.noneCap⟩, ⟨hOr2_11.capLe, hOr2_11.noneCap⟩, ⟨hOr2_15.capLe, hOr2_15.noneCap⟩, ⟨hOr3_7.capLe, hOr3_7.noneCap⟩, ⟨hOr3_11.capLe, hOr3_11.noneCap⟩⟩
 have hdt : d.t = c.t := by rw [hd]
 have hcd : Cells w' gb 0 d.vals := cells_heap (hS'.cell (i := 7) rfl)
 have hc8 := hS'.cell (i := 8) rfl
 clear hd
 obtain ⟨w3, rfl⟩ : ∃ x, x = w' := ⟨_, rfl⟩
 repeat' (first
  | (apply WL.storeB (w0 := wc) tOk; (iterate 4 exact rfl); assumption; (exact extA); (iterate 3 exact rfl); (exact extA); (assumption); intro w' hb hc hX' hU; have hcc := hc; obtain ⟨h1, h2, _⟩ := hc)
  | (show WL _ _ _ _ _ _ _; first | apply WL.nil | (refine WL.au (k := ?_)))
  | (show Z _ _ _ _ _; apply Z.then_normal)
  | (show W _ _ _ _ _ _; apply W.ret)
  | fail)
 exact Z.bodyC tOk Tryz.results9 rfl rfl rfl rfl (cells_heap hb) fun m => ⟨hxc.trans (Ext.at extA m), d, rfl, hdt, ⟨((hS'.updCell (i := 8) rfl hU hb (Ext.refl _) (Nat.le_trans (Below.size hxc) (Below.size extA))).takeN 7).ext ((Ext.refl _).at m), hcap⟩⟩
end Go.Proofs.YteidpnpbfagaeaaGreat
namespace Go.Lt
open Go.RowKit
set_option linter.unusedVariables false
theorem Sep.cons_iff {B : Nat} {w : World} {p : Piece} {ps : List Piece} : Sep B w (p :: ps) ↔ (p.P w ∧ ∀ k, p.b = some k → B ≤ k ∧ k < w.heap.size) ∧ (∀ q ∈ ps, p.b = none ∨ p.b ≠ q.b) ∧ (∀ q ∈ ps, q.b = none ∨ q.b ≠ p.b) ∧ Sep B w ps := by
 constructor
 ·intro h
  refine ⟨h.holds 0 p rfl, fun q hq => ?_, fun q hq => ?_, ⟨fun i q hi => h.holds (i + 1) q hi, fun i j q r h1 h2 hne => h.apart (i + 1) (j + 1) q r h1 h2 (by omega)⟩⟩
  ·obtain ⟨i, hi⟩ := List.mem_iff_getElem?.1 hq
   exact h.apart 0 (i + 1) p q rfl hi (by omega)
  ·obtain ⟨i, hi⟩ := List.mem_iff_getElem?.1 hq
   exact h.apart (i + 1) 0 q p hi rfl (by omega)
 ·rintro ⟨h1, h2, h3, h4⟩
  refine ⟨fun i q hi => ?_, fun i j q r hi hj hne => ?_⟩
  ·cases i with
   | zero => cases hi; exact h1
   | succ i => exact h4.holds i q hi
  ·cases i with
   | zero =>
    cases hi
    cases j with
    | zero => exact absurd rfl hne
    | succ j => exact h2 r (List.mem_of_getElem? (i := j) hj)
   | succ i =>
    cases j with
    | zero => cases hj; exact h3 q (List.mem_of_getElem? (i := i) hi)
    | succ j => exact h4.apart i j q r hi hj (by omega)
theorem Sep.ofPerm {B : Nat} {w : World} {ps qs : List Piece} (hp : ps.Perm qs) : Sep B w ps → Sep B w qs := by
 induction hp with
 | nil => exact id
 | cons x hp ih =>
  intro h
  obtain ⟨h1, h2, h3, h4⟩ := Sep.cons_iff.1 h
  exact Sep.cons_iff.2 ⟨h1, fun q hq => h2 q (hp.mem_iff.2 hq), fun q hq => h3 q (hp.mem_iff.2 hq), ih h4⟩
 | swap x y l =>
  intro h
  obtain ⟨h1, h2, h3, h4⟩ := Sep.cons_iff.1 h
  obtain ⟨k1, k2, k3, k4⟩ := Sep.cons_iff.1 h4
  refine Sep.cons_iff.2 ⟨k1, fun q hq => ?_, fun q hq => ?_, Sep.cons_iff.2 ⟨h1, fun q hq => h2 q (List.mem_cons_of_mem _ hq), fun q hq => h3 q (List.mem_cons_of_mem _ hq), k4⟩⟩
  ·rcases List.mem_cons.1 hq with rfl | hq
   ·exact h3 x (List.mem_cons_self ..)
   ·exact k2 q hq
  ·rcases List.mem_cons.1 hq with rfl | hq
   ·exact h2 x (List.mem_cons_self ..)
   ·exact k3 q hq
 | trans _ _ ih1 ih2 => exact fun h => ih2 (ih1 h)
end Go.Lt
namespace Go.Proofs.YteidpnpbfagaeaaGreat
open Go Go.Lt Go.RowKit
set_option linter.unusedVariables false
set_option linter.unusedSimpArgs false
set_option maxRecDepth 20000

abbrev Fr := RowV (Int × Int) × RowV Int
abbrev encUF : Fr → List Value := fun f => [rowVal f.1, rowVal f.2]
theorem encUF_ok : Enc 2 encUF := ⟨fun _ => rfl, by intro x u hu; simp only [encUF, List.mem_cons, List.not_mem_nil, or_false] at hu; rcases hu with rfl | rfl <;> rfl, by decide⟩
def Known (w0 : World) (R : List Piece) (P : World → Prop) : Prop := ∀ w, Ext w0 w → (∀ p ∈ R, p.P w) → P w
theorem Known.more {w0 : World} {R : List Piece} {P : World → Prop} (h : Known w0 R P) (p : Piece) : Known w0 (p :: R) P := fun w hX hR => h w hX fun q hq => hR q (List.mem_cons_of_mem _ hq)
theorem Known.sep {w0 w : World} {R ps : List Piece} {P : World → Prop} (h : Known w0 R P) (hX : Ext w0 w) {B : Nat} (hS : Lt.Sep B w ps) (hsub : ∀ p ∈ R, p ∈ ps) : P w :=
 h w hX fun p hp => by
  obtain ⟨i, hi⟩ := List.mem_iff_getElem?.1 (hsub p hp)
  exact (hS.holds i p hi).1
structure UM where
 gf : Nat
 gs : Nat
 r : Nat
 d : Circ
 aN : Option Addr
 cN : Nat
 aA : Option Addr
 cA : Nat
structure UX where
 a : Option Addr
 cap : Nat
 af : Option Addr
 cf : Nat
 fr : List Fr
 as' : Option Addr
 cs : Nat
 st : List (RowV Int)
 R : List Piece
noncomputable abbrev UM.vals (m : UM) (af : Option Addr) (nf cf : Nat) (as' : Option Addr) (ns cs : Nat) : List Value :=
 [.int .i64 m.d.max, rowVal m.d.ins, rowVal m.d.lat, rowVal m.d.outs, rowVal m.d.bads, rowVal m.d.cons, rowVal m.d.gates, rowVal m.d.syms, .string m.d.com,
  .slice m.aN (cNet m.d.t).1.length m.cN, .slice m.aA (cNet m.d.t).2.length m.cA, .pointer (some ⟨m.gs, 0, none⟩), .slice af nf cf, .slice as' ns cs]
noncomputable abbrev unP (B : Nat) (m : UM) (N : List (Int × Int)) (a : Option Addr) (cap : Nat) (af : Option Addr) (cf : Nat) (fr : List Fr) (as' : Option Addr) (cs : Nat) (st : List (RowV Int)) (R : List Piece) : List Piece :=
 stN B m.gs a cap m.r N ++ (pcell m.gf (m.vals af fr.length cf as' st.length cs).toArray 100 :: prow 2 encUF 107 B af cf fr :: prow 1 encRow 22 B as' cs st :: R)
structure URows (m : UM) (fr : List Fr) (st : List (RowV Int)) (w : World) : Prop where
 c : CAt w m.d
 n : Row 2 encN w m.aN (cNet m.d.t).1
 a : Row 1 encI w m.aA (cNet m.d.t).2
 vars : ∀ f ∈ fr, Row 2 encN w f.1.1 f.1.2.2
 ins : ∀ f ∈ fr, Row 1 encI w f.2.1 f.2.2.2
 st : ∀ s ∈ st, Row 1 encI w s.1 s.2.2
structure UKn (w0 : World) (m : UM) (u : UnV) (fr : List Fr) (st : List (RowV Int)) (R : List Piece) : Prop where
 hv : fr.map (fun f => f.1.2.2) = u.own.map (signsL m.d.t)
 hi : fr.map (fun f => f.2.2.2) = u.ins
 hs : st.map (fun r => r.2.2) = u.st
 sn : ∀ s ∈ st, s.1 = none → s.2.1 = 0
 rows : Known w0 R (URows m fr st)
structure UAt (w0 w : World) (m : UM) (u : UnV) (x : UX) (rest : List Piece) : Prop where
 ext : Ext w0 w
 sep : Lt.Sep w0.heap.size w (unP w0.heap.size m u.N x.a x.cap x.af x.cf x.fr x.as' x.cs x.st x.R ++ rest)
 kn : UKn w0 m u x.fr x.st x.R
theorem UAt.rows {w0 w : World} {m : UM} {u : UnV} {x : UX} {rest : List Piece} (h : UAt w0 w m u x rest) : URows m x.fr x.st w :=
 h.kn.rows.sep h.ext h.sep fun p hp => List.mem_append_left _ (List.mem_append_right _ (List.mem_cons_of_mem _ (List.mem_cons_of_mem _ (List.mem_cons_of_mem _ hp))))
theorem UAt.up {w0 w w' : World} {m : UM} {u : UnV} {x : UX} {rest : List Piece} (h : UAt w0 w m u x rest) (hx : Ext w w') : UAt w0 w' m u x rest := ⟨h.ext.trans hx, h.sep.ext hx, h.kn⟩
theorem UAt.lf {w0 w : World} {m : UM} {u : UnV} {x : UX} {rest : List Piece} (h : UAt w0 w m u x rest) : x.fr.length = u.own.length ∧ x.fr.length = u.ins.length ∧ x.st.length = u.st.length := by
 have h1 := congrArg List.length h.kn.hv
 have h2 := congrArg List.length h.kn.hi
 have h3 := congrArg List.length h.kn.hs
 simp only [List.length_map] at h1 h2 h3
 exact ⟨h1, h2, h3⟩
theorem map_get' {α β : Type} {f : α → β} {l : List α} {r : List β} (h : l.map f = r) {i : Nat} {x : α} (hx : l[i]? = some x) : r[i]? = some (f x) := by rw [← h, List.getElem?_map, hx]; rfl
theorem UAt.frame {w0 w : World} {m : UM} {u : UnV} {x : UX} {rest : List Piece} (h : UAt w0 w m u x rest) {k : Nat} (hk : k < u.own.length) : ∃ f, x.fr[k]? = some f ∧ f.1.2.2 = signsL m.d.t (u.own.getD k []) ∧ f.2.2.2 = rowU u.ins (k : Nat) ∧ Row 2 encN w f.1.1 (signsL m.d.t (u.own.getD k [])) ∧ Row 1 encI w f.2.1 (rowU u.ins (k : Nat)) := by
 obtain ⟨l1, l2, l3⟩ := h.lf
 obtain ⟨f, hf⟩ := getI x.fr (show k < x.fr.length by omega)
 have hm := List.mem_of_getElem? hf
 obtain ⟨o, ho⟩ := getI u.own hk
 have h1 := map_get' h.kn.hv hf
 have h2 := map_get' h.kn.hi hf
 rw [List.getElem?_map, ho] at h1
 have e1 : f.1.2.2 = signsL m.d.t (u.own.getD k []) := by rw [getD_of ho]; exact (Option.some.inj h1).symm
 have e2 : f.2.2.2 = rowU u.ins (k : Nat) := by
  unfold rowU; rw [if_pos (by omega), Int.toNat_natCast, getD_of h2]
 refine ⟨f, hf, e1, e2, ?_, ?_⟩
 ·rw [← e1]; exact h.rows.vars f hm
 ·rw [← e2]; exact h.rows.ins f hm
theorem UAt.state {w0 w : World} {m : UM} {u : UnV} {x : UX} {rest : List Piece} (h : UAt w0 w m u x rest) {k : Nat} (hk : k < u.st.length) : ∃ s, x.st[k]? = some s ∧ s.2.2 = rowU u.st (k : Nat) ∧ Row 1 encI w s.1 (rowU u.st (k : Nat)) := by
 obtain ⟨l1, l2, l3⟩ := h.lf
 obtain ⟨s, hs⟩ := getI x.st (show k < x.st.length by omega)
 have h1 := map_get' h.kn.hs hs
 have e : s.2.2 = rowU u.st (k : Nat) := by unfold rowU; rw [if_pos (by omega), Int.toNat_natCast, getD_of h1]
 refine ⟨s, hs, e, ?_⟩
 rw [← e]; exact h.rows.st s (List.mem_of_getElem? hs)
theorem UAt.cells {w0 w : World} {m : UM} {u : UnV} {x : UX} {rest : List Piece} (h : UAt w0 w m u x rest) : Cells w m.gf 0 (m.vals x.af x.fr.length x.cf x.as' x.st.length x.cs) := by
 have h1 := cells_heap (h.sep.cell (i := 3) (gb := m.gf) (cs := (m.vals x.af x.fr.length x.cf x.as' x.st.length x.cs).toArray) (t := 100) rfl)
 simpa using h1
theorem UAt.frow {w0 w : World} {m : UM} {u : UnV} {x : UX} {rest : List Piece} (h : UAt w0 w m u x rest) : Own 2 encUF 107 w0.heap.size w x.af x.cf x.fr := h.sep.row (i := 4) rfl
theorem UAt.srow {w0 w : World} {m : UM} {u : UnV} {x : UX} {rest : List Piece} (h : UAt w0 w m u x rest) : Own 1 encRow 22 w0.heap.size w x.as' x.cs x.st := h.sep.row (i := 5) rfl
end Go.Proofs.YteidpnpbfagaeaaGreat
namespace Go.Proofs.YteidpnpbfagaeaaGreat
open Go Go.Lt Go.RowKit
set_option linter.unusedVariables false
set_option linter.unusedSimpArgs false
set_option maxRecDepth 20000

abbrev rsN (B gs : Nat) (a : Option Addr) (cap : Nat) (N : List (Int × Int)) : List Piece := [pcell gs #[.slice a N.length cap] 65, prow 2 encN 84 B a cap N]
abbrev AtRs (w0 : World) (gs : Nat) (rest : List Piece) (q : Int × List (Int × Int)) (v : Value) (w' : World) : Prop :=
 Ext w0 w' ∧ ∃ a' cap', v = .int .i64 q.1 ∧ Sep w0.heap.size w' (rsN w0.heap.size gs a' cap' q.2 ++ rest)
abbrev KeepsR (w0 : World) (gs : Nat) (rest : List Piece) (p : World → Prop) : Prop :=
 ∀ w' a' cap' N', Ext w0 w' → Sep w0.heap.size w' (rsN w0.heap.size gs a' cap' N' ++ rest) → p w'

theorem rs_Has (gs cap : Nat) (a : Option Addr) (N : List (Int × Int)) (x : Int) (w : World) (hc : w.heap[gs]? = some (.cells #[.slice a N.length cap] 65 (0, 0))) (hN : N.length ≤ 1048576) :
  Still Tryz.prog 143 [.pointer (some ⟨gs, 0, none⟩), .int .i64 x] w (.bool (dec (hasL N x))) := by
 obtain ⟨h1, _⟩ := cells_heap hc
 refine Spec.of _ Tryz.func143 rfl Tryz.ntmps143 (by kernel_rfl) rfl ?_
 repeat' (first
  | (apply WL.nilc; (iterate 3 exact rfl))
  | (show WL _ _ _ _ _ _ _; first | apply WL.nil | (refine WL.au (k := ?_)) | (apply WL.guardF; exact rfl; exact rfl) | (apply WL.gD; exact rfl; exact rfl; all_goals intro _))
  | (show Z _ _ _ _ _; apply Z.then_normal)
  | (show W _ _ _ _ _ _; first | apply W.seq | apply W.region | apply W.ret)
  | fail)
 all_goals (refine Z.body1 Tryz.results143 rfl fun m => ⟨?_, m, rfl⟩; unfold hasL; (first | exact congrArg Value.bool (dec_false (by omega)).symm | exact congrArg Value.bool (dec_congr (by omega))))
theorem rs_Not (l : Int) (w : World) (h : l ≤ 9223372036854775807) : Still Tryz.prog 95 [.int .i64 l] w (.int .i64 (notL l)) := by
 refine Spec.of _ Tryz.func95 rfl Tryz.ntmps95 (by kernel_rfl) rfl ?_
 repeat' (first
  | (show WL _ _ _ _ _ _ _; first | apply WL.nil | (refine WL.au (k := ?_)))
  | (show Z _ _ _ _ _; first | apply Z.then_normal | apply Z.then_ret)
  | (show W _ _ _ _ _ _; first | apply W.seq | apply W.region | apply W.skip | apply W.ret | (apply W.condD; exact rfl; all_goals intro _))
  | fail)
 all_goals (refine Z.body1 Tryz.results95 rfl fun m => ⟨?_, m, rfl⟩; congr 1; unfold notL Lt.xor1; first | (rw [if_pos (by assumption)]; done) | (rw [if_neg (by assumption), if_pos (by omega)]; done) | (rw [if_neg (by assumption), if_neg (by omega)]; done))
set_option maxHeartbeats 4000000 in
theorem rs_put (gs cap : Nat) (a : Option Addr) (N : List (Int × Int)) (x : Int × Int) (rest : List Piece) (w w0 : World) (hX : Ext w0 w) (hS : Sep w0.heap.size w (rsN w0.heap.size gs a cap N ++ rest)) (hN : N.length < 1048576) :
  Lt.Spec Tryz.prog 119 [.pointer (some ⟨gs, 0, none⟩), .agg (encN x).toArray] w (AtRs w0 gs rest (2 * ((N.length : Int) + 1), N ++ [x])) := by
 have hR1 := hS.row (i := 1) rfl
 have hC0 := hS.cell (i := 0) rfl
 have hgs := (hS.lt (i := 0) rfl rfl)
 obtain ⟨hD0, _⟩ := cells_heap hC0
 have hBC : ∀ k, blk a = some k → w0.heap.size ≤ k := fun k hk => (hR1.blk_lt k hk).1
 have hne : blk a ≠ some gs := fun h => by
  rcases hS.apart 1 0 _ _ rfl rfl (by decide) with h1 | h1
  ·rw [show (prow 2 encN 84 w0.heap.size a cap N).b = blk a from rfl] at h1; rw [h1] at h; cases h
  ·exact h1 h
 refine Spec.of _ Tryz.func119 rfl Tryz.ntmps119 (by kernel_rfl) rfl ?_
 repeat' (first
  | (apply WL.box; (iterate 3 exact rfl); intro gb w' hb hge hc hx; have hcc := hc; ((obtain ⟨h1, h2, h3, _⟩ := hc)))
  | (show WL _ _ _ _ _ _ _; first | apply WL.nil | (refine WL.au (k := ?_)))
  | (show Z _ _ _ _ _; apply Z.then_normal)
  | (show W _ _ _ _ _ _; first | apply W.seq | apply W.region)
  | fail)
 have hx1 := hx
 obtain ⟨g3, rfl⟩ : ∃ x, x = gb := ⟨_, rfl⟩
 have hnx : blk a ≠ some g3 := fun h => by have := (hR1.blk_lt g3 h).2; omega
 have hD0' := hx1.cell hD0
 have hNl : (N ++ [x]).length = N.length + 1 := by simp
 repeat' (first
  | (apply WL.nilc; (iterate 3 exact rfl))
  | (apply FL.nilc; (iterate 3 exact rfl))
  | (show W _ _ (.region 1 _ _) _ _ _; apply W.regionGB (.fl true 0 (.fl true 1 (.fl true 2 (.fl true 3 (.fl false 4 (.fl false 5 (.br 6 (.br 7 (.fl true 8 (.fl true 9 (.br 10 .done .stop))) .stop) .stop))))))) [5, 6, 7] (blk a) tMix; kernel_rfl)
  | (apply WL.lit tOk; (iterate 6 exact rfl); (kernel_rfl); exact rfl; intro gb w' hb hge hc hx)
  | (apply WL.append1 (z := (x)) tOk encN_ok; (iterate 10 exact rfl); assumption; (exact extA); (exact rfl); (assumption); exact rfl; exact rfl; (exact extA); (omega); intro a' cap' w' hO hX' hU hF; (replace hS := Sep.updRow (i := 1) rfl hU hO hF hS extA (by (exact Below.size extA))); (try simp only [List.set_cons_zero, List.set_cons_succ] at hS); (try have hR1 := hS.row (i := 1) rfl); (try have hC0 := hS.cell (i := 0) rfl); (try have hD0 := (cells_heap hC0).1))
  | (apply WL.storeF (w0 := w0) tOk; (iterate 4 exact rfl); assumption; (exact extA); (iterate 4 exact rfl); (exact extA); (omega); intro w' hb hX' hU; replace hS := Sep.updCell (i := 0) rfl hU hb hS extA (by (exact Below.size extA)); (try simp only [List.set_cons_zero, List.set_cons_succ] at hS); (try have hR1 := hS.row (i := 1) rfl); (try have hC0 := hS.cell (i := 0) rfl); (try have hD0 := (cells_heap hC0).1))
  | (show WL _ _ _ _ _ _ _; first | apply WL.nil | (refine WL.au (k := ?_)))
  | (show SG _ _ _ _ _ _ _ _ _; first | apply SG.done | (apply SG.fl0; exact rfl) | (apply SG.fl1; exact rfl; (focus ((intro m; first | assumption | (apply Ext.at; (exact extA)) | apply But.of_at; first | exact But.upd (by assumption) | exact But.ext extA | (refine But.trans ?_ (But.upd (by assumption)); exact But.ext extA) | exact But.at _ _ _); done))) | (apply SG.br1; exact rfl))
  | (show FL _ _ _ _ _ _ _ _; first | apply FL.nilS | (refine FL.au (k := ?_)) | (apply FL.loadG tOk; (iterate 5 exact rfl); (assumption); (assumption)) | (apply FL.loadAG tOk; (iterate 5 exact rfl); (assumption); exact rfl; (assumption)))
  | (show Z _ _ _ _ _; first | (apply Z.sgL; exact rfl) | (apply Z.sgE; (focus ((intro m; first | assumption | (apply Ext.at; (exact extA)) | apply But.of_at; first | exact But.upd (by assumption) | exact But.ext extA | (refine But.trans ?_ (But.upd (by assumption)); exact But.ext extA) | exact But.at _ _ _); done))))
  | (show Z _ _ _ _ _; apply Z.then_normal)
  | (show W _ _ _ _ _ _; first | apply W.seq | apply W.region | apply W.ret)
  | fail)
 all_goals (
  refine Z.body1 Tryz.results119 rfl fun m => ⟨Ext.at (by assumption) m, a', cap', ?_, hS.ext ((Ext.refl _).at m)⟩
  rw [hNl]; rfl)
theorem rs_Input (gs cap : Nat) (a : Option Addr) (N : List (Int × Int)) (rest : List Piece) (w w0 : World) (hX : Ext w0 w) (hS : Sep w0.heap.size w (rsN w0.heap.size gs a cap N ++ rest)) (hN : N.length < 1048576) :
  Lt.Spec Tryz.prog 55 [.pointer (some ⟨gs, 0, none⟩)] w (AtRs w0 gs rest (2 * ((N.length : Int) + 1), N ++ [(-1, 0)])) := by
 refine Spec.of _ Tryz.func55 rfl Tryz.ntmps55 (by kernel_rfl) rfl ?_
 repeat' (first
  | (apply WL.build tOk; (iterate 7 exact rfl); kernel_rfl)
  | (((show WL _ _ _ (⟨_, .call ⟨.value (.func 119), _, _⟩, _, _, _, _⟩ :: _) _ _ _); apply WL.call; (iterate 4 exact rfl); exact rs_put gs cap a N (-1, 0) rest _ w0 hX hS hN; rintro v' w' ⟨hX2, a', cap', rfl, hS2⟩))
  | (show WL _ _ _ _ _ _ _; first | apply WL.nil | (refine WL.au (k := ?_)))
  | (show Z _ _ _ _ _; apply Z.then_normal)
  | (show W _ _ _ _ _ _; first | apply W.seq | apply W.region | apply W.ret)
  | fail)
 exact Z.body1 Tryz.results55 rfl fun m => ⟨hX2.at m, a', cap', rfl, hS2.ext ((Ext.refl _).at m)⟩

theorem andV_comm_ways {N : List (Int × Int)} {x y : Int} (hx : hasL N x) (hy : hasL N y) :
  ((x = 0 ∨ y = 0 ∨ x = notL y) → andV N x y = (0, N)) ∧
  (¬ (x = 0 ∨ y = 0 ∨ x = notL y) → (x = 1 ∨ x = y) → andV N x y = (y, N)) ∧
  (¬ (x = 0 ∨ y = 0 ∨ x = notL y) → ¬ (x = 1 ∨ x = y) → y = 1 → andV N x y = (x, N)) ∧
  (¬ (x = 0 ∨ y = 0 ∨ x = notL y) → ¬ (x = 1 ∨ x = y) → ¬ y = 1 → ∀ a b : Int, a ≤ b → ((a = x ∧ b = y) ∨ (a = y ∧ b = x)) →
   (∀ i : Nat, N[i]? = some (a, b) → (∀ j : Nat, j < i → N[j]? ≠ some (a, b)) → andV N x y = (2 * ((i : Int) + 1), N)) ∧
   ((∀ j : Nat, N[j]? ≠ some (a, b)) → andV N x y = (2 * ((N.length : Int) + 1), N ++ [(a, b)]))) := by
 obtain ⟨p, q, hpq, hle, hw⟩ := andV_ways N x y
 have hh : hasL N p ∧ hasL N q := by rcases hpq with ⟨rfl, rfl⟩ | ⟨rfl, rfl⟩; exact ⟨hx, hy⟩; exact ⟨hy, hx⟩
 have hx0 := hx.1
 have hy0 := hy.1
 have hn : notL y = if y % 2 = 0 then y + 1 else y - 1 := by rw [notL_xor1 hy0]; rfl
 have hpx : Lt.xor1 q = if q % 2 = 0 then q + 1 else q - 1 := rfl
 rw [hpx] at hw
 rw [hn]
 refine ⟨fun h => ?_, fun h h1 => ?_, fun h h1 h2 => ?_, fun h h1 h2 a b hab hc => ?_⟩
 ·rcases hw with ⟨h1, _⟩ | ⟨_, _, hw⟩ | ⟨_, h1, _, _⟩ | ⟨_, h1, _⟩ | ⟨_, h1, _⟩
  ·exact absurd hh h1
  ·exact hw
  all_goals (exfalso; rcases hpq with ⟨rfl, rfl⟩ | ⟨rfl, rfl⟩ <;> split at h <;> (try split at h1) <;> omega)
 ·rcases hw with ⟨h3, _⟩ | ⟨_, h3, hw⟩ | ⟨_, h3, h4, hw⟩ | ⟨_, h3, _⟩ | ⟨_, h3, _⟩
  ·exact absurd hh h3
  ·exfalso; rcases hpq with ⟨rfl, rfl⟩ | ⟨rfl, rfl⟩ <;> split at h <;> split at h3 <;> omega
  ·rw [hw]; congr 1; rcases hpq with ⟨rfl, rfl⟩ | ⟨rfl, rfl⟩ <;> split at h <;> split at h3 <;> omega
  all_goals (exfalso; rcases hpq with ⟨rfl, rfl⟩ | ⟨rfl, rfl⟩ <;> omega)
 ·rcases hw with ⟨h3, _⟩ | ⟨_, h3, hw⟩ | ⟨_, h3, h4, hw⟩ | ⟨_, h3, _⟩ | ⟨_, h3, _⟩
  ·exact absurd hh h3
  ·exfalso; rcases hpq with ⟨rfl, rfl⟩ | ⟨rfl, rfl⟩ <;> split at h <;> split at h3 <;> omega
  ·rw [hw]; congr 1; rcases hpq with ⟨rfl, rfl⟩ | ⟨rfl, rfl⟩ <;> split at h <;> split at h3 <;> omega
  all_goals (exfalso; rcases hpq with ⟨rfl, rfl⟩ | ⟨rfl, rfl⟩ <;> omega)
 ·have e : p = a ∧ q = b := by
   rcases hpq with ⟨rfl, rfl⟩ | ⟨rfl, rfl⟩ <;> rcases hc with ⟨rfl, rfl⟩ | ⟨rfl, rfl⟩ <;> omega
  obtain ⟨rfl, rfl⟩ := e
  rcases hw with ⟨h3, _⟩ | ⟨_, h3, hw⟩ | ⟨_, h3, h4, hw⟩ | ⟨_, h3, i, i1, i2, i3, hw⟩ | ⟨_, h3, h4, hw⟩
  ·exact absurd hh h3
  ·exfalso; rcases hpq with ⟨rfl, rfl⟩ | ⟨rfl, rfl⟩ <;> split at h <;> split at h3 <;> omega
  ·exfalso; rcases hpq with ⟨rfl, rfl⟩ | ⟨rfl, rfl⟩ <;> split at h <;> split at h3 <;> omega
  ·refine ⟨fun j hj hj2 => ?_, fun hj => absurd i2 (hj i)⟩
   have : i = j := by
    rcases Nat.lt_trichotomy i j with hl | hl | hl
    ·exact absurd i2 (hj2 i hl)
    ·exact hl
    ·exact absurd hj (i3 j hl)
   rw [hw, this]
  ·exact ⟨fun j hj _ => absurd hj (h4 j), fun _ => hw⟩
end Go.Proofs.YteidpnpbfagaeaaGreat
namespace Go.Proofs.YteidpnpbfagaeaaGreat
open Go Go.Lt Go.RowKit
set_option linter.unusedVariables false
set_option linter.unusedSimpArgs false
set_option maxRecDepth 20000

set_option maxHeartbeats 8000000 in
theorem rs_AndLe (gs cap : Nat) (a : Option Addr) (N : List (Int × Int)) (x y : Int) (rest : List Piece) (w w0 : World) (hX : Ext w0 w) (hS : Sep w0.heap.size w (rsN w0.heap.size gs a cap N ++ rest)) (hN : N.length < 1048576) (hxy : x ≤ y) :
  Lt.Spec Tryz.prog 144 [.pointer (some ⟨gs, 0, none⟩), .int .i64 x, .int .i64 y] w (AtRs w0 gs rest (andV N x y)) := by
 have hR1 := hS.row (i := 1) rfl
 have RN := Own.row encN_ok hR1
 have hC0 := hS.cell (i := 0) rfl
 obtain ⟨hD0, _⟩ := cells_heap hC0
 by_cases hx : hasL N x
 ·by_cases hy : hasL N y
  ·have hx' : 0 ≤ x ∧ x < 2 * ((N.length : Int) + 1) := hx
   have hy' : 0 ≤ y ∧ y < 2 * ((N.length : Int) + 1) := hy
   obtain ⟨g1, g2, g3, g4⟩ := andV_comm_ways hx hy
   refine Spec.of _ Tryz.func144 rfl Tryz.ntmps144 (by kernel_rfl) rfl ?_
   repeat' (first
    | ((show WL _ _ _ (⟨_, .call ⟨.value (.func 143), _, _⟩, _, _, _, _⟩ :: _) _ _ _); apply WL.callS; (iterate 4 exact rfl); exact rs_Has gs cap a N x _ hC0 (by omega))
    | ((show WL _ _ _ (⟨_, .call ⟨.value (.func 143), _, _⟩, _, _, _, _⟩ :: _) _ _ _); apply WL.callS; (iterate 4 exact rfl); exact rs_Has gs cap a N y _ hC0 (by omega))
    | ((show WL _ _ _ (⟨_, .call ⟨.value (.func 95), _, _⟩, _, _, _, _⟩ :: _) _ _ _); apply WL.callS; (iterate 4 exact rfl); exact rs_Not y _ (by omega))
    | (apply WL.gF; exact rfl; exact rfl; (focus (first | (rw [dec_true hx]; rfl) | exact dec_false (by omega); done)))
    | (apply W.condKF; exact rfl; (focus (first | (rw [dec_true hy]; rfl) | exact dec_false (by omega); done)))
    | (show WL _ _ _ _ _ _ _; first | apply WL.nil | (refine WL.au (k := ?_)) | (apply WL.guardF; exact rfl; exact rfl) | (apply WL.gD; exact rfl; exact rfl; all_goals intro _))
    | (show Z _ _ _ _ _; first | apply Z.then_normal | apply Z.then_ret)
    | (show W _ _ _ _ _ _; first | apply W.seq | apply W.region | apply W.block | apply W.skip | apply W.ret | (apply W.condT; exact rfl) | (apply W.condD; exact rfl; all_goals intro _))
    | fail)
   all_goals first
    | (rw [g1 (by omega)]; exact Z.body1 Tryz.results144 rfl fun m => ⟨hX.at m, a, cap, rfl, hS.ext ((Ext.refl _).at m)⟩)
    | (rw [g2 (by omega) (by omega)]; exact Z.body1 Tryz.results144 rfl fun m => ⟨hX.at m, a, cap, rfl, hS.ext ((Ext.refl _).at m)⟩)
    | (rw [g3 (by omega) (by omega) (by omega)]; exact Z.body1 Tryz.results144 rfl fun m => ⟨hX.at m, a, cap, rfl, hS.ext ((Ext.refl _).at m)⟩)
    | skip
   have g5 := g4 (by omega) (by omega) (by omega) x y (by omega) (by omega)
   refine W.loop1 N.length (fun k => k ≤ N.length ∧ ∀ j : Nat, j < k → N[j]? ≠ some (x, y)) (fun k => [(0, .pointer (some ⟨gs, 0, none⟩)), (1, .int .i64 x), (2, .int .i64 y), (7, .int .i64 k)]) ⟨by omega, fun j h => by omega⟩ (fun k h => h.1) ⟨rfl, rfl, rfl, rfl, trivial⟩ ?_
   rintro k ⟨hk, hno⟩
   by_cases hlt : k < N.length
   ·obtain ⟨z, hz⟩ := getI N hlt
    by_cases z1 : z.1 = x
    ·by_cases z2 : z.2 = y
     ·have hzp : z = (x, y) := Prod.ext z1 z2
      rw [g5.1 k (by rw [hz, hzp]) hno]
      repeat' (first
       | (apply WL.nilc; (iterate 3 exact rfl))
       | (apply WL.gT; exact rfl; exact rfl; (focus (exact dec_true (by omega))))
       | (apply W.condKT; exact rfl; (focus (exact dec_true (by omega))))
       | (show WL _ _ _ _ _ _ _; first | apply WL.nil | (refine WL.au (k := ?_)) | (apply WL.index tOk; (iterate 8 exact rfl); assumption; (exact extA); exact rfl; omega; assumption; intro b off h; have hcc := h; first | (obtain ⟨h1, h2, h3, h4, h5, h6, _⟩ := h) | (obtain ⟨h1, h2, h3, _⟩ := h) | (obtain ⟨h1, h2, _⟩ := h) | (obtain ⟨h1, _⟩ := h)))
       | (show Z _ _ _ _ _; first | apply Z.then_normal | apply Z.then_ret | apply Z.block_ret)
       | (show W _ _ _ _ _ _; first | apply W.seq | apply W.region | apply W.block | apply W.skip | apply W.ret)
       | fail)
      exact Z.body1 Tryz.results144 rfl fun m => ⟨hX.at m, a, cap, rfl, hS.ext ((Ext.refl _).at m)⟩
     ·repeat' (first
       | (apply WL.nilc; (iterate 3 exact rfl))
       | (apply WL.gT; exact rfl; exact rfl; (focus (exact dec_true (by omega))))
       | (apply W.condKT; exact rfl; (focus (exact dec_true (by omega))))
       | (apply W.condKF; exact rfl; (focus (exact dec_false z2; done)))
       | (show WL _ _ _ _ _ _ _; first | apply WL.nil | (refine WL.au (k := ?_)) | (apply WL.index tOk; (iterate 8 exact rfl); assumption; (exact extA); exact rfl; omega; assumption; intro b off h; have hcc := h; first | (obtain ⟨h1, h2, h3, h4, h5, h6, _⟩ := h) | (obtain ⟨h1, h2, h3, _⟩ := h) | (obtain ⟨h1, h2, _⟩ := h) | (obtain ⟨h1, _⟩ := h)))
       | (show Z _ _ _ _ _; first | apply Z.then_normal | apply Z.block_normal)
       | (show W _ _ _ _ _ _; first | apply W.seq | apply W.region | apply W.block | apply W.skip)
       | fail)
      exact Z.again1 ⟨by omega, fun j hj hh => by
       by_cases hjk : j = k
       ·subst hjk; rw [hz] at hh; cases hh; exact z2 rfl
       ·exact hno j (by omega) hh⟩ ⟨rfl, rfl, rfl, rfl, trivial⟩
    ·repeat' (first
      | (apply WL.nilc; (iterate 3 exact rfl))
      | (apply WL.gF; exact rfl; exact rfl; (focus (exact dec_false z1; done)))
      | (apply W.condKT; exact rfl; (focus (exact dec_true (by omega))))
      | (show WL _ _ _ _ _ _ _; first | apply WL.nil | (refine WL.au (k := ?_)) | (apply WL.index tOk; (iterate 8 exact rfl); assumption; (exact extA); exact rfl; omega; assumption; intro b off h; have hcc := h; first | (obtain ⟨h1, h2, h3, h4, h5, h6, _⟩ := h) | (obtain ⟨h1, h2, h3, _⟩ := h) | (obtain ⟨h1, h2, _⟩ := h) | (obtain ⟨h1, _⟩ := h)) | (apply WL.guardF; exact rfl; exact rfl))
      | (show Z _ _ _ _ _; first | apply Z.then_normal | apply Z.block_normal)
      | (show W _ _ _ _ _ _; first | apply W.seq | apply W.region | apply W.block | apply W.skip | (apply W.condF; exact rfl))
      | fail)
     exact Z.again1 ⟨by omega, fun j hj hh => by
      by_cases hjk : j = k
      ·subst hjk; rw [hz] at hh; cases hh; exact z1 rfl
      ·exact hno j (by omega) hh⟩ ⟨rfl, rfl, rfl, rfl, trivial⟩
   ·obtain rfl : k = N.length := by omega
    rw [g5.2 (fun j hh => by
     by_cases hj : j < N.length
     ·exact hno j hj hh
     ·rw [List.getElem?_eq_none (by omega)] at hh; cases hh)]
    repeat' (first
     | (apply WL.nilc; (iterate 3 exact rfl))
     | (apply WL.build tOk; (iterate 7 exact rfl); kernel_rfl)
     | (apply W.condKF; exact rfl; (focus (exact dec_false (by omega); done)))
     | (((show WL _ _ _ (⟨_, .call ⟨.value (.func 119), _, _⟩, _, _, _, _⟩ :: _) _ _ _); apply WL.call; (iterate 4 exact rfl); exact rs_put gs cap a N (x, y) rest _ w0 hX hS hN; rintro v' w' ⟨hX2, a', cap', rfl, hS2⟩))
     | (show WL _ _ _ _ _ _ _; first | apply WL.nil | (refine WL.au (k := ?_)))
     | (show Z _ _ _ _ _; first | apply Z.then_normal | apply Z.then_exit | apply Z.block_exit)
     | (show W _ _ _ _ _ _; first | apply W.seq | apply W.region | apply W.ret | apply W.exit)
     | fail)
    exact Z.body1 Tryz.results144 rfl fun m => ⟨hX2.at m, a', cap', rfl, hS2.ext ((Ext.refl _).at m)⟩
  ·rw [andV_no (fun h => hy h.2)]
   refine Spec.of _ Tryz.func144 rfl Tryz.ntmps144 (by kernel_rfl) rfl ?_
   repeat' (first
    | ((show WL _ _ _ (⟨_, .call ⟨.value (.func 143), _, _⟩, _, _, _, _⟩ :: _) _ _ _); apply WL.callS; (iterate 4 exact rfl); exact rs_Has gs cap a N x _ hC0 (by omega))
    | ((show WL _ _ _ (⟨_, .call ⟨.value (.func 143), _, _⟩, _, _, _, _⟩ :: _) _ _ _); apply WL.callS; (iterate 4 exact rfl); exact rs_Has gs cap a N y _ hC0 (by omega))
    | (apply WL.gF; exact rfl; exact rfl; (focus ((rw [dec_true hx]; rfl))))
    | (apply W.condKT; exact rfl; (focus ((rw [dec_false hy]; rfl); done)))
    | (show WL _ _ _ _ _ _ _; first | apply WL.nil | (refine WL.au (k := ?_)))
    | (show Z _ _ _ _ _; first | apply Z.then_normal | apply Z.then_ret)
    | (show W _ _ _ _ _ _; first | apply W.seq | apply W.region | apply W.ret)
    | fail)
   exact Z.body1 Tryz.results144 rfl fun m => ⟨hX.at m, a, cap, rfl, hS.ext ((Ext.refl _).at m)⟩
 ·rw [andV_no (fun h => hx h.1)]
  refine Spec.of _ Tryz.func144 rfl Tryz.ntmps144 (by kernel_rfl) rfl ?_
  repeat' (first
   | ((show WL _ _ _ (⟨_, .call ⟨.value (.func 143), _, _⟩, _, _, _, _⟩ :: _) _ _ _); apply WL.callS; (iterate 4 exact rfl); exact rs_Has gs cap a N x _ hC0 (by omega))
   | (apply WL.gT; exact rfl; exact rfl; (focus ((rw [dec_false hx]; rfl); done)))
   | (show WL _ _ _ _ _ _ _; first | apply WL.nil | (refine WL.au (k := ?_)) | (apply WL.guardF; exact rfl; exact rfl))
   | (show Z _ _ _ _ _; first | apply Z.then_normal | apply Z.then_ret)
   | (show W _ _ _ _ _ _; first | apply W.seq | apply W.region | apply W.ret | (apply W.condT; exact rfl))
   | fail)
  exact Z.body1 Tryz.results144 rfl fun m => ⟨hX.at m, a, cap, rfl, hS.ext ((Ext.refl _).at m)⟩

set_option maxHeartbeats 8000000 in
theorem rs_AndGt (gs cap : Nat) (a : Option Addr) (N : List (Int × Int)) (x y : Int) (rest : List Piece) (w w0 : World) (hX : Ext w0 w) (hS : Sep w0.heap.size w (rsN w0.heap.size gs a cap N ++ rest)) (hN : N.length < 1048576) (hxy : y < x) :
  Lt.Spec Tryz.prog 144 [.pointer (some ⟨gs, 0, none⟩), .int .i64 x, .int .i64 y] w (AtRs w0 gs rest (andV N x y)) := by
 have hR1 := hS.row (i := 1) rfl
 have RN := Own.row encN_ok hR1
 have hC0 := hS.cell (i := 0) rfl
 obtain ⟨hD0, _⟩ := cells_heap hC0
 by_cases hx : hasL N x
 ·by_cases hy : hasL N y
  ·have hx' : 0 ≤ x ∧ x < 2 * ((N.length : Int) + 1) := hx
   have hy' : 0 ≤ y ∧ y < 2 * ((N.length : Int) + 1) := hy
   obtain ⟨g1, g2, g3, g4⟩ := andV_comm_ways hx hy
   refine Spec.of _ Tryz.func144 rfl Tryz.ntmps144 (by kernel_rfl) rfl ?_
   repeat' (first
    | ((show WL _ _ _ (⟨_, .call ⟨.value (.func 143), _, _⟩, _, _, _, _⟩ :: _) _ _ _); apply WL.callS; (iterate 4 exact rfl); exact rs_Has gs cap a N x _ hC0 (by omega))
    | ((show WL _ _ _ (⟨_, .call ⟨.value (.func 143), _, _⟩, _, _, _, _⟩ :: _) _ _ _); apply WL.callS; (iterate 4 exact rfl); exact rs_Has gs cap a N y _ hC0 (by omega))
    | ((show WL _ _ _ (⟨_, .call ⟨.value (.func 95), _, _⟩, _, _, _, _⟩ :: _) _ _ _); apply WL.callS; (iterate 4 exact rfl); exact rs_Not y _ (by omega))
    | (apply WL.gF; exact rfl; exact rfl; (focus ((rw [dec_true hx]; rfl))))
    | (apply W.condKT; exact rfl; (focus (exact dec_true (by omega); done)))
    | (apply W.condKF; exact rfl; (focus ((rw [dec_true hy]; rfl))))
    | (show WL _ _ _ _ _ _ _; first | apply WL.nil | (refine WL.au (k := ?_)) | (apply WL.guardF; exact rfl; exact rfl) | (apply WL.gD; exact rfl; exact rfl; all_goals intro _))
    | (show Z _ _ _ _ _; first | apply Z.then_normal | apply Z.then_ret)
    | (show W _ _ _ _ _ _; first | apply W.seq | apply W.region | apply W.block | apply W.skip | apply W.ret | (apply W.condT; exact rfl) | (apply W.condD; exact rfl; all_goals intro _))
    | fail)
   all_goals first
    | (rw [g1 (by omega)]; exact Z.body1 Tryz.results144 rfl fun m => ⟨hX.at m, a, cap, rfl, hS.ext ((Ext.refl _).at m)⟩)
    | (rw [g2 (by omega) (by omega)]; exact Z.body1 Tryz.results144 rfl fun m => ⟨hX.at m, a, cap, rfl, hS.ext ((Ext.refl _).at m)⟩)
    | (rw [g3 (by omega) (by omega) (by omega)]; exact Z.body1 Tryz.results144 rfl fun m => ⟨hX.at m, a, cap, rfl, hS.ext ((Ext.refl _).at m)⟩)
    | skip
   have g5 := g4 (by omega) (by omega) (by omega) y x (by omega) (by omega)
   refine W.loop1 N.length (fun k => k ≤ N.length ∧ ∀ j : Nat, j < k → N[j]? ≠ some (y, x)) (fun k => [(0, .pointer (some ⟨gs, 0, none⟩)), (1, .int .i64 y), (2, .int .i64 x), (7, .int .i64 k)]) ⟨by omega, fun j h => by omega⟩ (fun k h => h.1) ⟨rfl, rfl, rfl, rfl, trivial⟩ ?_
   rintro k ⟨hk, hno⟩
   by_cases hlt : k < N.length
   ·obtain ⟨z, hz⟩ := getI N hlt
    by_cases z1 : z.1 = y
    ·by_cases z2 : z.2 = x
     ·have hzp : z = (y, x) := Prod.ext z1 z2
      rw [g5.1 k (by rw [hz, hzp]) hno]
      repeat' (first
       | (apply WL.nilc; (iterate 3 exact rfl))
       | (apply WL.gT; exact rfl; exact rfl; (focus (exact dec_true (by omega))))
       | (apply W.condKT; exact rfl; (focus (exact dec_true (by omega))))
       | (show WL _ _ _ _ _ _ _; first | apply WL.nil | (refine WL.au (k := ?_)) | (apply WL.index tOk; (iterate 8 exact rfl); assumption; (exact extA); exact rfl; omega; assumption; intro b off h; have hcc := h; first | (obtain ⟨h1, h2, h3, h4, h5, h6, _⟩ := h) | (obtain ⟨h1, h2, h3, _⟩ := h) | (obtain ⟨h1, h2, _⟩ := h) | (obtain ⟨h1, _⟩ := h)))
       | (show Z _ _ _ _ _; first | apply Z.then_normal | apply Z.then_ret | apply Z.block_ret)
       | (show W _ _ _ _ _ _; first | apply W.seq | apply W.region | apply W.block | apply W.skip | apply W.ret)
       | fail)
      exact Z.body1 Tryz.results144 rfl fun m => ⟨hX.at m, a, cap, rfl, hS.ext ((Ext.refl _).at m)⟩
     ·repeat' (first
       | (apply WL.nilc; (iterate 3 exact rfl))
       | (apply WL.gT; exact rfl; exact rfl; (focus (exact dec_true (by omega))))
       | (apply W.condKT; exact rfl; (focus (exact dec_true (by omega))))
       | (apply W.condKF; exact rfl; (focus (exact dec_false z2; done)))
       | (show WL _ _ _ _ _ _ _; first | apply WL.nil | (refine WL.au (k := ?_)) | (apply WL.index tOk; (iterate 8 exact rfl); assumption; (exact extA); exact rfl; omega; assumption; intro b off h; have hcc := h; first | (obtain ⟨h1, h2, h3, h4, h5, h6, _⟩ := h) | (obtain ⟨h1, h2, h3, _⟩ := h) | (obtain ⟨h1, h2, _⟩ := h) | (obtain ⟨h1, _⟩ := h)))
       | (show Z _ _ _ _ _; first | apply Z.then_normal | apply Z.block_normal)
       | (show W _ _ _ _ _ _; first | apply W.seq | apply W.region | apply W.block | apply W.skip)
       | fail)
      exact Z.again1 ⟨by omega, fun j hj hh => by
       by_cases hjk : j = k
       ·subst hjk; rw [hz] at hh; cases hh; exact z2 rfl
       ·exact hno j (by omega) hh⟩ ⟨rfl, rfl, rfl, rfl, trivial⟩
    ·repeat' (first
      | (apply WL.nilc; (iterate 3 exact rfl))
      | (apply WL.gF; exact rfl; exact rfl; (focus (exact dec_false z1; done)))
      | (apply W.condKT; exact rfl; (focus (exact dec_true (by omega))))
      | (show WL _ _ _ _ _ _ _; first | apply WL.nil | (refine WL.au (k := ?_)) | (apply WL.index tOk; (iterate 8 exact rfl); assumption; (exact extA); exact rfl; omega; assumption; intro b off h; have hcc := h; first | (obtain ⟨h1, h2, h3, h4, h5, h6, _⟩ := h) | (obtain ⟨h1, h2, h3, _⟩ := h) | (obtain ⟨h1, h2, _⟩ := h) | (obtain ⟨h1, _⟩ := h)) | (apply WL.guardF; exact rfl; exact rfl))
      | (show Z _ _ _ _ _; first | apply Z.then_normal | apply Z.block_normal)
      | (show W _ _ _ _ _ _; first | apply W.seq | apply W.region | apply W.block | apply W.skip | (apply W.condF; exact rfl))
      | fail)
     exact Z.again1 ⟨by omega, fun j hj hh => by
      by_cases hjk : j = k
      ·subst hjk; rw [hz] at hh; cases hh; exact z1 rfl
      ·exact hno j (by omega) hh⟩ ⟨rfl, rfl, rfl, rfl, trivial⟩
   ·obtain rfl : k = N.length := by omega
    rw [g5.2 (fun j hh => by
     by_cases hj : j < N.length
     ·exact hno j hj hh
     ·rw [List.getElem?_eq_none (by omega)] at hh; cases hh)]
    repeat' (first
     | (apply WL.nilc; (iterate 3 exact rfl))
     | (apply WL.build tOk; (iterate 7 exact rfl); kernel_rfl)
     | (apply W.condKF; exact rfl; (focus (exact dec_false (by omega); done)))
     | (((show WL _ _ _ (⟨_, .call ⟨.value (.func 119), _, _⟩, _, _, _, _⟩ :: _) _ _ _); apply WL.call; (iterate 4 exact rfl); exact rs_put gs cap a N (y, x) rest _ w0 hX hS hN; rintro v' w' ⟨hX2, a', cap', rfl, hS2⟩))
     | (show WL _ _ _ _ _ _ _; first | apply WL.nil | (refine WL.au (k := ?_)))
     | (show Z _ _ _ _ _; first | apply Z.then_normal | apply Z.then_exit | apply Z.block_exit)
     | (show W _ _ _ _ _ _; first | apply W.seq | apply W.region | apply W.ret | apply W.exit)
     | fail)
    exact Z.body1 Tryz.results144 rfl fun m => ⟨hX2.at m, a', cap', rfl, hS2.ext ((Ext.refl _).at m)⟩
  ·rw [andV_no (fun h => hy h.2)]
   refine Spec.of _ Tryz.func144 rfl Tryz.ntmps144 (by kernel_rfl) rfl ?_
   repeat' (first
    | ((show WL _ _ _ (⟨_, .call ⟨.value (.func 143), _, _⟩, _, _, _, _⟩ :: _) _ _ _); apply WL.callS; (iterate 4 exact rfl); exact rs_Has gs cap a N x _ hC0 (by omega))
    | ((show WL _ _ _ (⟨_, .call ⟨.value (.func 143), _, _⟩, _, _, _, _⟩ :: _) _ _ _); apply WL.callS; (iterate 4 exact rfl); exact rs_Has gs cap a N y _ hC0 (by omega))
    | (apply WL.gF; exact rfl; exact rfl; (focus ((rw [dec_true hx]; rfl))))
    | (apply W.condKT; exact rfl; (focus ((rw [dec_false hy]; rfl); done)))
    | (show WL _ _ _ _ _ _ _; first | apply WL.nil | (refine WL.au (k := ?_)))
    | (show Z _ _ _ _ _; first | apply Z.then_normal | apply Z.then_ret)
    | (show W _ _ _ _ _ _; first | apply W.seq | apply W.region | apply W.ret)
    | fail)
   exact Z.body1 Tryz.results144 rfl fun m => ⟨hX.at m, a, cap, rfl, hS.ext ((Ext.refl _).at m)⟩
 ·rw [andV_no (fun h => hx h.1)]
  refine Spec.of _ Tryz.func144 rfl Tryz.ntmps144 (by kernel_rfl) rfl ?_
  repeat' (first
   | ((show WL _ _ _ (⟨_, .call ⟨.value (.func 143), _, _⟩, _, _, _, _⟩ :: _) _ _ _); apply WL.callS; (iterate 4 exact rfl); exact rs_Has gs cap a N x _ hC0 (by omega))
   | (apply WL.gT; exact rfl; exact rfl; (focus ((rw [dec_false hx]; rfl); done)))
   | (show WL _ _ _ _ _ _ _; first | apply WL.nil | (refine WL.au (k := ?_)) | (apply WL.guardF; exact rfl; exact rfl))
   | (show Z _ _ _ _ _; first | apply Z.then_normal | apply Z.then_ret)
   | (show W _ _ _ _ _ _; first | apply W.seq | apply W.region | apply W.ret | (apply W.condT; exact rfl))
   | fail)
  exact Z.body1 Tryz.results144 rfl fun m => ⟨hX.at m, a, cap, rfl, hS.ext ((Ext.refl _).at m)⟩

theorem rs_And (gs cap : Nat) (a : Option Addr) (N : List (Int × Int)) (x y : Int) (rest : List Piece) (w w0 : World) (hX : Ext w0 w) (hS : Sep w0.heap.size w (rsN w0.heap.size gs a cap N ++ rest)) (hN : N.length < 1048576) :
  Lt.Spec Tryz.prog 144 [.pointer (some ⟨gs, 0, none⟩), .int .i64 x, .int .i64 y] w (AtRs w0 gs rest (andV N x y)) := by
 by_cases hxy : x ≤ y
 ·exact rs_AndLe gs cap a N x y rest w w0 hX hS hN hxy
 ·exact rs_AndGt gs cap a N x y rest w w0 hX hS hN (by omega)
theorem rs_Or (gs cap : Nat) (a : Option Addr) (N : List (Int × Int)) (x y : Int) (rest : List Piece) (w w0 : World) (hX : Ext w0 w) (hS : Sep w0.heap.size w (rsN w0.heap.size gs a cap N ++ rest)) (hN : N.length < 1048576) (hbx : x ≤ 9223372036854775807) (hby : y ≤ 9223372036854775807) :
  Lt.Spec Tryz.prog 126 [.pointer (some ⟨gs, 0, none⟩), .int .i64 x, .int .i64 y] w (AtRs w0 gs rest (orV N x y)) := by
 have hl := andV_len N (notL x) (notL y)
 have hle := andV_le N (notL x) (notL y)
 have hb9 : (andV N (notL x) (notL y)).1 ≤ 9223372036854775807 := by omega
 refine Spec.of _ Tryz.func126 rfl Tryz.ntmps126 (by kernel_rfl) rfl ?_
 repeat' (first
  | ((show WL _ _ _ (⟨_, .call ⟨.value (.func 95), _, _⟩, _, _, _, _⟩ :: _) _ _ _); apply WL.callS; (iterate 4 exact rfl); exact rs_Not _ _ (by assumption))
  | (((show WL _ _ _ (⟨_, .call ⟨.value (.func 144), _, _⟩, _, _, _, _⟩ :: _) _ _ _); apply WL.call; (iterate 4 exact rfl); exact rs_And gs cap a N _ _ rest _ w0 hX hS hN; rintro v' w' ⟨hX2, a', cap', rfl, hS2⟩))
  | (show WL _ _ _ _ _ _ _; first | apply WL.nil | (refine WL.au (k := ?_)))
  | (show Z _ _ _ _ _; apply Z.then_normal)
  | (show W _ _ _ _ _ _; first | apply W.seq | apply W.region | apply W.ret)
  | fail)
 exact Z.body1 Tryz.results126 rfl fun m => ⟨hX2.at m, a', cap', rfl, hS2.ext ((Ext.refl _).at m)⟩

set_option maxHeartbeats 4000000 in
theorem rs_Mux (gs cap : Nat) (a : Option Addr) (N : List (Int × Int)) (c x y : Int) (rest : List Piece) (w w0 : World) (hX : Ext w0 w) (hS : Sep w0.heap.size w (rsN w0.heap.size gs a cap N ++ rest)) (hN : N.length + 3 < 1048576) :
  Lt.Spec Tryz.prog 158 [.pointer (some ⟨gs, 0, none⟩), .int .i64 c, .int .i64 x, .int .i64 y] w (AtRs w0 gs rest (muxV N c x y)) := by
 have hC0 := hS.cell (i := 0) rfl
 by_cases hc : hasL N c
 ·by_cases hx : hasL N x
  ·by_cases hy : hasL N y
   ·have hh : hasL N c ∧ hasL N x ∧ hasL N y := ⟨hc, hx, hy⟩
    have e := muxV_yes hh
    have l1 := andV_len N c x
    have l2 := andV_len (andV N c x).2 (notL c) y
    have b1 := andV_has hh.1 hh.2.1
    have q3 : c ≤ 9223372036854775807 := by have := hc.2; omega
    have q1 : (andV N c x).1 ≤ 9223372036854775807 := by have := b1.2; omega
    have q2 : (andV (andV N c x).2 (notL c) y).1 ≤ 9223372036854775807 := by have := andV_le (andV N c x).2 (notL c) y; omega
    have k1 : (andV N c x).2.length < 1048576 := by omega
    have k2 : (andV (andV N c x).2 (notL c) y).2.length < 1048576 := by omega
    rw [e]
    refine Spec.of _ Tryz.func158 rfl Tryz.ntmps158 (by kernel_rfl) rfl ?_
    repeat' (first
     | ((show WL _ _ _ (⟨_, .call ⟨.value (.func 143), _, _⟩, _, _, _, _⟩ :: _) _ _ _); apply WL.callS; (iterate 4 exact rfl); exact rs_Has gs cap a N c _ hC0 (by omega))
     | ((show WL _ _ _ (⟨_, .call ⟨.value (.func 143), _, _⟩, _, _, _, _⟩ :: _) _ _ _); apply WL.callS; (iterate 4 exact rfl); exact rs_Has gs cap a N x _ hC0 (by omega))
     | ((show WL _ _ _ (⟨_, .call ⟨.value (.func 143), _, _⟩, _, _, _, _⟩ :: _) _ _ _); apply WL.callS; (iterate 4 exact rfl); exact rs_Has gs cap a N y _ hC0 (by omega))
     | ((show WL _ _ _ (⟨_, .call ⟨.value (.func 95), _, _⟩, _, _, _, _⟩ :: _) _ _ _); apply WL.callS; (iterate 4 exact rfl); exact rs_Not c _ q3)
     | (apply WL.gF; exact rfl; exact rfl; (focus (first | (rw [dec_true hc]; rfl) | (rw [dec_true hx]; rfl))))
     | (apply W.condKF; exact rfl; (focus ((rw [dec_true hy]; rfl); done)))
     | (((show WL _ _ _ (⟨_, .call ⟨.value (.func 144), _, _⟩, _, _, _, _⟩ :: _) _ _ _); apply WL.call; (iterate 4 exact rfl); exact rs_And gs _ _ N _ _ rest _ w0 hX hS (by omega); rintro v' w' ⟨hX2, a', cap', rfl, hS2⟩))
     | (((show WL _ _ _ (⟨_, .call ⟨.value (.func 144), _, _⟩, _, _, _, _⟩ :: _) _ _ _); apply WL.call; (iterate 4 exact rfl); exact rs_And gs _ _ (andV N c x).2 _ _ rest _ w0 hX2 hS2 k1; rintro v' w' ⟨hX2, a', cap', rfl, hS2⟩))
     | (((show WL _ _ _ (⟨_, .call ⟨.value (.func 126), _, _⟩, _, _, _, _⟩ :: _) _ _ _); apply WL.call; (iterate 4 exact rfl); exact rs_Or gs _ _ (andV (andV N c x).2 (notL c) y).2 _ _ rest _ w0 hX2 hS2 k2 q1 q2; rintro v' w' ⟨hX2, a', cap', rfl, hS2⟩))
     | (show WL _ _ _ _ _ _ _; first | apply WL.nil | (refine WL.au (k := ?_)))
     | (show Z _ _ _ _ _; apply Z.then_normal)
     | (show W _ _ _ _ _ _; first | apply W.seq | apply W.region | apply W.skip | apply W.ret)
     | fail)
    exact Z.body1 Tryz.results158 rfl fun m => ⟨hX2.at m, a', cap', rfl, hS2.ext ((Ext.refl _).at m)⟩
   ·rw [muxV_no (fun h => hy h.2.2)]
    refine Spec.of _ Tryz.func158 rfl Tryz.ntmps158 (by kernel_rfl) rfl ?_
    repeat' (first
     | ((show WL _ _ _ (⟨_, .call ⟨.value (.func 143), _, _⟩, _, _, _, _⟩ :: _) _ _ _); apply WL.callS; (iterate 4 exact rfl); exact rs_Has gs cap a N c _ hC0 (by omega))
     | ((show WL _ _ _ (⟨_, .call ⟨.value (.func 143), _, _⟩, _, _, _, _⟩ :: _) _ _ _); apply WL.callS; (iterate 4 exact rfl); exact rs_Has gs cap a N x _ hC0 (by omega))
     | ((show WL _ _ _ (⟨_, .call ⟨.value (.func 143), _, _⟩, _, _, _, _⟩ :: _) _ _ _); apply WL.callS; (iterate 4 exact rfl); exact rs_Has gs cap a N y _ hC0 (by omega))
     | (apply WL.gF; exact rfl; exact rfl; (focus (first | (rw [dec_true hc]; rfl) | (rw [dec_true hx]; rfl))))
     | (apply W.condKT; exact rfl; (focus ((rw [dec_false hy]; rfl); done)))
     | (show WL _ _ _ _ _ _ _; first | apply WL.nil | (refine WL.au (k := ?_)))
     | (show Z _ _ _ _ _; first | apply Z.then_normal | apply Z.then_ret)
     | (show W _ _ _ _ _ _; first | apply W.seq | apply W.region | apply W.ret)
     | fail)
    exact Z.body1 Tryz.results158 rfl fun m => ⟨hX.at m, a, cap, rfl, hS.ext ((Ext.refl _).at m)⟩
  ·rw [muxV_no (fun h => hx h.2.1)]
   refine Spec.of _ Tryz.func158 rfl Tryz.ntmps158 (by kernel_rfl) rfl ?_
   repeat' (first
    | ((show WL _ _ _ (⟨_, .call ⟨.value (.func 143), _, _⟩, _, _, _, _⟩ :: _) _ _ _); apply WL.callS; (iterate 4 exact rfl); exact rs_Has gs cap a N c _ hC0 (by omega))
    | ((show WL _ _ _ (⟨_, .call ⟨.value (.func 143), _, _⟩, _, _, _, _⟩ :: _) _ _ _); apply WL.callS; (iterate 4 exact rfl); exact rs_Has gs cap a N x _ hC0 (by omega))
    | (apply WL.gT; exact rfl; exact rfl; (focus ((rw [dec_false hx]; rfl); done)))
    | (apply WL.gF; exact rfl; exact rfl; (focus ((rw [dec_true hc]; rfl))))
    | (show WL _ _ _ _ _ _ _; first | apply WL.nil | (refine WL.au (k := ?_)) | (apply WL.guardF; exact rfl; exact rfl))
    | (show Z _ _ _ _ _; first | apply Z.then_normal | apply Z.then_ret)
    | (show W _ _ _ _ _ _; first | apply W.seq | apply W.region | apply W.ret | (apply W.condT; exact rfl))
    | fail)
   exact Z.body1 Tryz.results158 rfl fun m => ⟨hX.at m, a, cap, rfl, hS.ext ((Ext.refl _).at m)⟩
 ·rw [muxV_no (fun h => hc h.1)]
  refine Spec.of _ Tryz.func158 rfl Tryz.ntmps158 (by kernel_rfl) rfl ?_
  repeat' (first
   | ((show WL _ _ _ (⟨_, .call ⟨.value (.func 143), _, _⟩, _, _, _, _⟩ :: _) _ _ _); apply WL.callS; (iterate 4 exact rfl); exact rs_Has gs cap a N c _ hC0 (by omega))
   | (apply WL.gT; exact rfl; exact rfl; (focus ((rw [dec_false hc]; rfl); done)))
   | (show WL _ _ _ _ _ _ _; first | apply WL.nil | (refine WL.au (k := ?_)) | (apply WL.guardF; exact rfl; exact rfl))
   | (show Z _ _ _ _ _; first | apply Z.then_normal | apply Z.then_ret)
   | (show W _ _ _ _ _ _; first | apply W.seq | apply W.region | apply W.ret | (apply W.condT; exact rfl))
   | fail)
  exact Z.body1 Tryz.results158 rfl fun m => ⟨hX.at m, a, cap, rfl, hS.ext ((Ext.refl _).at m)⟩

theorem rs_Xor (gs cap : Nat) (a : Option Addr) (N : List (Int × Int)) (x y : Int) (rest : List Piece) (w w0 : World) (hX : Ext w0 w) (hS : Sep w0.heap.size w (rsN w0.heap.size gs a cap N ++ rest)) (hN : N.length + 3 < 1048576) (hby : y ≤ 9223372036854775807) :
  Lt.Spec Tryz.prog 125 [.pointer (some ⟨gs, 0, none⟩), .int .i64 x, .int .i64 y] w (AtRs w0 gs rest (xorV N x y)) := by
 refine Spec.of _ Tryz.func125 rfl Tryz.ntmps125 (by kernel_rfl) rfl ?_
 repeat' (first
  | ((show WL _ _ _ (⟨_, .call ⟨.value (.func 95), _, _⟩, _, _, _, _⟩ :: _) _ _ _); apply WL.callS; (iterate 4 exact rfl); exact rs_Not _ _ (by assumption))
  | (((show WL _ _ _ (⟨_, .call ⟨.value (.func 158), _, _⟩, _, _, _, _⟩ :: _) _ _ _); apply WL.call; (iterate 4 exact rfl); exact rs_Mux gs cap a N _ _ _ rest _ w0 hX hS hN; rintro v' w' ⟨hX2, a', cap', rfl, hS2⟩))
  | (show WL _ _ _ _ _ _ _; first | apply WL.nil | (refine WL.au (k := ?_)))
  | (show Z _ _ _ _ _; apply Z.then_normal)
  | (show W _ _ _ _ _ _; first | apply W.seq | apply W.region | apply W.ret)
  | fail)
 exact Z.body1 Tryz.results125 rfl fun m => ⟨hX2.at m, a', cap', rfl, hS2.ext ((Ext.refl _).at m)⟩

theorem all_snocA {N : List (Int × Int)} {L : List Int} {k : Nat} {z : Int} (hz : L[k]? = some z) (h : ∀ x ∈ L.take k, hasL N x) (hx : hasL N z) : ∀ x ∈ L.take (k + 1), hasL N x := by
 intro x hm
 rw [take_succ' hz] at hm
 rcases List.mem_append.1 hm with h1 | h1
 ·exact h x h1
 ·obtain rfl := List.mem_singleton.1 h1; exact hx
end Go.Proofs.YteidpnpbfagaeaaGreat
namespace Go.Proofs.YteidpnpbfagaeaaGreat
open Go Go.Lt Go.RowKit
set_option linter.unusedVariables false
set_option linter.unusedSimpArgs false
set_option maxRecDepth 20000

abbrev AtCopyR (w0 : World) (gs : Nat) (rest : List Piece) (q : List Int × List (Int × Int)) (v : Value) (w' : World) : Prop :=
 Ext w0 w' ∧ ∃ a' cap' la lc, v = .slice la q.1.length lc ∧ Sep w0.heap.size w' (rsN w0.heap.size gs a' cap' q.2 ++ (prow 1 encI 3 w0.heap.size la lc q.1 :: rest))
theorem Sep.back21 {B : Nat} {w : World} {p a b : Piece} {rs : List Piece} (hS : Sep B w (p :: a :: b :: rs)) : Sep B w (a :: b :: p :: rs) := by
 refine Sep.sub' (fun i => if i < 2 then i + 1 else if i < 3 then i - 2 else i) hS (fun i x h => ?_) (fun i j hi hj hne => ?_)
 ·match i, h with
  | 0, h => exact h
  | 1, h => exact h
  | 2, h => exact h
  | i + 3, h =>
   simp only [show ¬ i + 3 < 2 by omega, show ¬ i + 3 < 3 by omega, if_false]; exact h
 ·split <;> split <;> (try split) <;> (try split) <;> omega
theorem Sep.drop22 {B : Nat} {w : World} {p a b : Piece} {rs : List Piece} (hS : Sep B w (a :: b :: p :: rs)) : Sep B w (a :: b :: rs) := by
 refine Sep.sub' (fun i => if i < 2 then i else i + 1) hS (fun i x h => ?_) (fun i j hi hj hne => ?_)
 ·match i, h with
  | 0, h => exact h
  | 1, h => exact h
  | i + 2, h => simp only [show ¬ i + 2 < 2 by omega, if_false]; exact h
 ·split <;> split <;> omega
theorem litI_of {l : List Int} {x z : Int} (hz : l[(x / 2).toNat]? = some z) (h0 : 0 ≤ z) : litI l x = if x % 2 = 1 then notL z else z := by
 unfold litI xorI; rw [getD_of hz, notL_xor1 h0]

set_option maxHeartbeats 8000000 in
theorem rs_Copy (gs cap cn cl : Nat) (a an al : Option Addr) (N n : List (Int × Int)) (ins : List Int) (rest : List Piece) (w w0 : World) (hX : Ext w0 w) (hS : Sep w0.heap.size w (rsN w0.heap.size gs a cap N ++ rest)) (hN : N.length + n.length < 1048576) (hg : GoodNet n)
  (hn : KeepsR w0 gs rest (fun w' => Row 2 encN w' an n)) (hi : KeepsR w0 gs rest (fun w' => Row 1 encI w' al ins)) :
  Lt.Spec Tryz.prog 92 [.pointer (some ⟨gs, 0, none⟩), .slice an n.length cn, .slice al ins.length cl] w (AtCopyR w0 gs rest (copyV N n ins)) := by
 have hC0 := hS.cell (i := 0) rfl
 have RI := hi w a cap N hX hS
 have hli := RI.len
 refine Spec.of _ Tryz.func92 rfl Tryz.ntmps92 (by kernel_rfl) rfl ?_
 repeat' (first
  | (show WL _ _ _ _ _ _ _; first | apply WL.nil | (refine WL.au (k := ?_)))
  | (show Z _ _ _ _ _; apply Z.then_normal)
  | (show W _ _ _ _ _ _; first | apply W.seq | apply W.region | apply W.block)
  | fail)
 refine W.loop1 ins.length (fun k => k ≤ ins.length ∧ ∀ z ∈ ins.take k, hasL N z) (fun k => [(0, .pointer (some ⟨gs, 0, none⟩)), (1, .slice an n.length cn), (2, .slice al ins.length cl), (7, .int .i64 k)]) ⟨by omega, fun z h => by simp at h⟩ (fun k h => h.1) ⟨rfl, rfl, rfl, rfl, trivial⟩ ?_
 rintro k ⟨hk, hall⟩
 by_cases hlt : k < ins.length
 ·obtain ⟨z, hz⟩ := getI ins hlt
  by_cases hzz : hasL N z
  ·repeat' (first
    | (apply W.condKT; exact rfl; (focus (exact dec_true (by omega))))
    | (apply W.condKF; exact rfl; (focus ((rw [dec_true hzz]; rfl); done)))
    | ((show WL _ _ _ (⟨_, .call ⟨.value (.func 143), _, _⟩, _, _, _, _⟩ :: _) _ _ _); apply WL.callS; (iterate 4 exact rfl); exact rs_Has gs cap a N z _ hC0 (by omega))
    | (show WL _ _ _ _ _ _ _; first | apply WL.nil | (refine WL.au (k := ?_)) | (apply WL.index tOk; (iterate 8 exact rfl); assumption; (exact extA); exact rfl; omega; assumption; intro b off h; have hcc := h; first | (obtain ⟨h1, h2, h3, h4, h5, h6, _⟩ := h) | (obtain ⟨h1, h2, h3, _⟩ := h) | (obtain ⟨h1, h2, _⟩ := h) | (obtain ⟨h1, _⟩ := h)))
    | (show Z _ _ _ _ _; first | apply Z.then_normal | apply Z.block_normal)
    | (show W _ _ _ _ _ _; first | apply W.seq | apply W.region | apply W.block | apply W.skip)
    | fail)
   exact Z.again1 ⟨by omega, all_snocA hz hall hzz⟩ ⟨rfl, rfl, rfl, rfl, trivial⟩
  ·have e : copyV N n ins = ([], N) := by unfold copyV; rw [dec_false (fun h => hzz (h z (List.mem_of_getElem? hz)))]; rfl
   rw [e]
   have hS3 : Lt.Sep w0.heap.size w (rsN w0.heap.size gs a cap N ++ (prow 1 encI 3 w0.heap.size none 0 [] :: rest)) := Sep.back21 (Sep.newRow hS (Ext.refl _) Own.nil (fun k hk => by cases hk) hX.size)
   repeat' (first
    | (apply W.condKT; exact rfl; (focus (first | exact dec_true (by omega) | (rw [dec_false hzz]; rfl); done)))
    | ((show WL _ _ _ (⟨_, .call ⟨.value (.func 143), _, _⟩, _, _, _, _⟩ :: _) _ _ _); apply WL.callS; (iterate 4 exact rfl); exact rs_Has gs cap a N z _ hC0 (by omega))
    | (show WL _ _ _ _ _ _ _; first | apply WL.nil | (refine WL.au (k := ?_)) | (apply WL.index tOk; (iterate 8 exact rfl); assumption; (exact extA); exact rfl; omega; assumption; intro b off h; have hcc := h; first | (obtain ⟨h1, h2, h3, h4, h5, h6, _⟩ := h) | (obtain ⟨h1, h2, h3, _⟩ := h) | (obtain ⟨h1, h2, _⟩ := h) | (obtain ⟨h1, _⟩ := h)))
    | (show Z _ _ _ _ _; first | apply Z.then_normal | apply Z.then_ret | apply Z.block_ret)
    | (show W _ _ _ _ _ _; first | apply W.seq | apply W.region | apply W.block | apply W.skip | apply W.ret)
    | fail)
   exact Z.body1 Tryz.results92 rfl fun m => ⟨hX.at m, a, cap, none, 0, rfl, hS3.ext ((Ext.refl _).at m)⟩
 ·obtain rfl : k = ins.length := by omega
  rw [List.take_length] at hall
  have hh := hall
  have e : copyV N n ins = ((cto N n ins n.length).1, (cto N n ins n.length).2.2) := by unfold copyV; rw [dec_true hh]; rfl
  rw [e]
  repeat' (first
   | (apply W.condKF; exact rfl; (focus (exact dec_false (by omega); done)))
   | (apply WL.lit tOk; (iterate 6 exact rfl); (kernel_rfl); exact rfl; intro gb w' hb hge hc hx; have hO := Own.of_block ([(0 : Int)]) encI_ok hb hge rfl)
   | (show WL _ _ _ _ _ _ _; first | apply WL.nil | (refine WL.au (k := ?_)))
   | (show Z _ _ _ _ _; first | apply Z.then_normal | apply Z.then_exit | apply Z.block_exit)
   | (show W _ _ _ _ _ _; first | apply W.seq | apply W.region | apply W.block | apply W.exit)
   | fail)
  have hOl := hO.base hX.size
  have hS0 : Lt.Sep w0.heap.size w' (rsN w0.heap.size gs a cap N ++ (prow 1 encI 3 w0.heap.size (some ⟨gb, 0, none⟩) 1 [0] :: rest)) := Sep.back21 (Sep.newRow hS hx hOl (fun k hk => by cases hk; exact hge) hX.size)
  refine W.loopO n.length (fun k la lc w' => k ≤ n.length ∧ Ext w0 w' ∧ ∃ a' cap', Sep w0.heap.size w' (rsN w0.heap.size gs a' cap' (cto N n ins k).2.2 ++ (prow 1 encI 3 w0.heap.size la lc (cto N n ins k).1 :: rest)))
   (fun k la lc => [(0, .pointer (some ⟨gs, 0, none⟩)), (1, .slice an n.length cn), (2, .slice al ins.length cl), (8, .slice la (cto N n ins k).1.length lc), (9, .int .i64 (cto N n ins k).2.1), (10, .int .i64 k)])
   (some ⟨gb, 0, none⟩) _ ⟨by omega, hX.trans hx, a, cap, hS0⟩ (fun k la lc w' h => h.1) ⟨rfl, rfl, rfl, rfl, rfl, rfl, trivial⟩ ?_
  rintro k la lc w9 ⟨hk, hX9, a2, cap2, hS9⟩
  obtain ⟨i1, i2, i3, i4, i5, i6⟩ := cto_inv (N := N) hg hh k hk
  have Rn := hn _ _ _ _ hX9 (Sep.drop22 hS9)
  have Ri := hi _ _ _ _ hX9 (Sep.drop22 hS9)
  have hS := hS9
  (try simp only [List.set_cons_zero, List.set_cons_succ] at hS); (try have hR1 := hS.row (i := 1) rfl); (try have hR2 := hS.row (i := 2) rfl); (try have hC0 := hS.cell (i := 0) rfl); (try have hD0 := (cells_heap hC0).1)
  have RL := Own.row encI_ok hR2
  by_cases hlt : k < n.length
  ·obtain ⟨x, hxn⟩ := getI n hlt
   have hs := cto_succ (N := N) (ins := ins) hxn
   by_cases hin : 0 ≤ x.1
   ·have hgt := hg.gate hxn hin
    obtain ⟨za, hza⟩ := getI (cto N n ins k).1 (show (x.1 / 2).toNat < (cto N n ins k).1.length by omega)
    obtain ⟨zb, hzb⟩ := getI (cto N n ins k).1 (show (x.2 / 2).toNat < (cto N n ins k).1.length by omega)
    have ba : 0 ≤ za ∧ za ≤ 9223372036854775807 := by have := i2 za (List.mem_of_getElem? hza); unfold hasL at this; omega
    have bb : 0 ≤ zb ∧ zb ≤ 9223372036854775807 := by have := i2 zb (List.mem_of_getElem? hzb); unfold hasL at this; omega
    have e1 : (cto N n ins (k + 1)).1 = (cto N n ins k).1 ++ [(andV (cto N n ins k).2.2 (litI (cto N n ins k).1 x.1) (litI (cto N n ins k).1 x.2)).1] := by rw [hs, cstep, if_pos hin]
    have e2 : (cto N n ins (k + 1)).2.1 = (cto N n ins k).2.1 := by rw [hs, cstep, if_pos hin]
    have e3 : (cto N n ins (k + 1)).2.2 = (andV (cto N n ins k).2.2 (litI (cto N n ins k).1 x.1) (litI (cto N n ins k).1 x.2)).2 := by rw [hs, cstep, if_pos hin]
    rw [litI_of hza ba.1, litI_of hzb bb.1] at e1 e3
    by_cases pa : x.1 % 2 = 1 <;> by_cases pb : x.2 % 2 = 1
    all_goals (
     first
      | rw [if_pos pa, if_pos pb] at e1 e3
      | rw [if_pos pa, if_neg pb] at e1 e3
      | rw [if_neg pa, if_pos pb] at e1 e3
      | rw [if_neg pa, if_neg pb] at e1 e3
     repeat' (first
      | (apply W.condKT; exact rfl; (focus (exact dec_true (by omega))))
      | (apply W.condKF; exact rfl; (focus (exact dec_false (by omega); done)))
      | ((show WL _ _ _ (⟨_, .call ⟨.value (.func 95), _, _⟩, _, _, _, _⟩ :: _) _ _ _); apply WL.callS; (iterate 4 exact rfl); exact rs_Not za _ ba.2)
      | ((show WL _ _ _ (⟨_, .call ⟨.value (.func 95), _, _⟩, _, _, _, _⟩ :: _) _ _ _); apply WL.callS; (iterate 4 exact rfl); exact rs_Not zb _ bb.2)
      | (((show WL _ _ _ (⟨_, .call ⟨.value (.func 144), _, _⟩, _, _, _, _⟩ :: _) _ _ _); apply WL.call; (iterate 4 exact rfl); exact rs_And gs _ _ (cto N n ins k).2.2 _ _ (prow 1 encI 3 w0.heap.size la lc (cto N n ins k).1 :: rest) _ w0 hX9 hS9 (by omega); rintro v' w8 ⟨hX8, a8, cap8, rfl, hS⟩; (try simp only [List.set_cons_zero, List.set_cons_succ] at hS); (try have hR1 := hS.row (i := 1) rfl); (try have hR2 := hS.row (i := 2) rfl); (try have hC0 := hS.cell (i := 0) rfl); (try have hD0 := (cells_heap hC0).1)))
      | (apply WL.lit tOk; (iterate 6 exact rfl); (kernel_rfl); exact rfl; intro gb w' hb hge hc hx)
      | (apply WL.append1 tOk encI_ok; (iterate 10 exact rfl); assumption; (exact extA); (exact rfl); assumption; (exact rfl); exact rfl; (exact extA); (omega); intro a' cap' w' hO hX' hU hF; (replace hS := Sep.updRow (i := 2) rfl hU hO hF hS extA (by (exact Below.size extA))); (try simp only [List.set_cons_zero, List.set_cons_succ] at hS); (try have hR1 := hS.row (i := 1) rfl); (try have hR2 := hS.row (i := 2) rfl); (try have hC0 := hS.cell (i := 0) rfl); (try have hD0 := (cells_heap hC0).1))
      | (show WL _ _ _ _ _ _ _; first | apply WL.nil | (refine WL.au (k := ?_)) | (apply WL.index tOk; (iterate 8 exact rfl); assumption; (exact extA); exact rfl; omega; assumption; intro b off h; have hcc := h; first | (obtain ⟨h1, h2, h3, h4, h5, h6, _⟩ := h) | (obtain ⟨h1, h2, h3, _⟩ := h) | (obtain ⟨h1, h2, _⟩ := h) | (obtain ⟨h1, _⟩ := h)))
      | (show QL _ _ _ _ _ _ _; first | apply QL.nil | (refine QL.au (k := ?_)) | (apply QL.index tOk; (iterate 8 exact rfl); assumption; (exact extA); exact rfl; omega; assumption; intro b off h; have hcc := h; first | (obtain ⟨h1, h2, h3, h4, h5, h6, _⟩ := h) | (obtain ⟨h1, h2, h3, _⟩ := h) | (obtain ⟨h1, h2, _⟩ := h) | (obtain ⟨h1, _⟩ := h)))
      | (show Z _ _ _ _ _; first | apply Z.then_normal | apply Z.then_exit | apply Z.block_exit)
      | (show W _ _ _ _ _ _; first | apply W.seq | apply W.region | apply W.block | apply W.skip | apply W.exit | (apply W.regionD tMix; kernel_rfl))
      | fail)
     exact Z.againO a' cap' ⟨by omega, by assumption, a8, cap8, by rw [e3, e1]; exact hS⟩ (by repeat' first | exact trivial | (refine And.intro ?_ ?_) | exact rfl | (rw [e1]; exact rfl) | (rw [e2]; exact rfl)))
   ·by_cases hki : (cto N n ins k).2.1 < ins.length
    ·obtain ⟨z, hz⟩ := getI ins hki
     have e1 : (cto N n ins (k + 1)).1 = (cto N n ins k).1 ++ [z] := by rw [hs, cstep, if_neg hin, if_pos hki, getD_of hz]
     have e2 : (cto N n ins (k + 1)).2.1 = (cto N n ins k).2.1 + 1 := by rw [hs, cstep, if_neg hin, if_pos hki]
     have e2' : ((cto N n ins (k + 1)).2.1 : Int) = ((cto N n ins k).2.1 : Int) + 1 := by rw [e2]; rfl
     have e3 : (cto N n ins (k + 1)).2.2 = (cto N n ins k).2.2 := by rw [hs, cstep, if_neg hin, if_pos hki]
     repeat' (first
      | (apply W.condKT; exact rfl; (focus (exact dec_true (by omega))))
      | (apply W.condKF; exact rfl; (focus (exact dec_false (by omega); done)))
      | (apply WL.lit tOk; (iterate 6 exact rfl); (kernel_rfl); exact rfl; intro gb w' hb hge hc hx)
      | (apply WL.append1 (z := (z)) tOk encI_ok; (iterate 10 exact rfl); assumption; (exact extA); (exact rfl); (assumption); exact rfl; exact rfl; (exact extA); (omega); intro a' cap' w' hO hX' hU hF; (replace hS := Sep.updRow (i := 2) rfl hU hO hF hS extA (by (exact Below.size extA))); (try simp only [List.set_cons_zero, List.set_cons_succ] at hS); (try have hR1 := hS.row (i := 1) rfl); (try have hR2 := hS.row (i := 2) rfl); (try have hC0 := hS.cell (i := 0) rfl); (try have hD0 := (cells_heap hC0).1))
      | (show WL _ _ _ _ _ _ _; first | apply WL.nil | (refine WL.au (k := ?_)) | (apply WL.index tOk; (iterate 8 exact rfl); assumption; (exact extA); exact rfl; omega; assumption; intro b off h; have hcc := h; first | (obtain ⟨h1, h2, h3, h4, h5, h6, _⟩ := h) | (obtain ⟨h1, h2, h3, _⟩ := h) | (obtain ⟨h1, h2, _⟩ := h) | (obtain ⟨h1, _⟩ := h)))
      | (show Z _ _ _ _ _; first | apply Z.then_normal | apply Z.block_normal)
      | (show W _ _ _ _ _ _; first | apply W.seq | apply W.region | apply W.block | apply W.skip)
      | fail)
     exact Z.againO a' cap' ⟨by omega, by assumption, a2, cap2, by rw [e3, e1]; exact hS⟩ (by repeat' first | exact trivial | (refine And.intro ?_ ?_) | exact rfl | (rw [e1]; exact rfl) | (rw [e2']; exact rfl))
    ·have e1 : (cto N n ins (k + 1)).1 = (cto N n ins k).1 ++ [2 * (((cto N n ins k).2.2.length : Int) + 1)] := by rw [hs, cstep, if_neg hin, if_neg hki]
     have e2 : (cto N n ins (k + 1)).2.1 = (cto N n ins k).2.1 + 1 := by rw [hs, cstep, if_neg hin, if_neg hki]
     have e2' : ((cto N n ins (k + 1)).2.1 : Int) = ((cto N n ins k).2.1 : Int) + 1 := by rw [e2]; rfl
     have e3 : (cto N n ins (k + 1)).2.2 = (cto N n ins k).2.2 ++ [(-1, 0)] := by rw [hs, cstep, if_neg hin, if_neg hki]
     repeat' (first
      | (apply W.condKT; exact rfl; (focus (exact dec_true (by omega))))
      | (apply W.condKF; exact rfl; (focus (exact dec_false (by omega); done)))
      | (((show WL _ _ _ (⟨_, .call ⟨.value (.func 55), _, _⟩, _, _, _, _⟩ :: _) _ _ _); apply WL.call; (iterate 4 exact rfl); exact rs_Input gs _ _ (cto N n ins k).2.2 (prow 1 encI 3 w0.heap.size la lc (cto N n ins k).1 :: rest) _ w0 hX9 hS9 (by omega); rintro v' w8 ⟨hX8, a8, cap8, rfl, hS⟩; (try simp only [List.set_cons_zero, List.set_cons_succ] at hS); (try have hR1 := hS.row (i := 1) rfl); (try have hR2 := hS.row (i := 2) rfl); (try have hC0 := hS.cell (i := 0) rfl); (try have hD0 := (cells_heap hC0).1)))
      | (apply WL.lit tOk; (iterate 6 exact rfl); (kernel_rfl); exact rfl; intro gb w' hb hge hc hx)
      | (apply WL.append1 (z := (2 * (((cto N n ins k).2.2.length : Int) + 1))) tOk encI_ok; (iterate 10 exact rfl); assumption; (exact extA); (exact rfl); (assumption); exact rfl; exact rfl; (exact extA); (omega); intro a' cap' w' hO hX' hU hF; (replace hS := Sep.updRow (i := 2) rfl hU hO hF hS extA (by (exact Below.size extA))); (try simp only [List.set_cons_zero, List.set_cons_succ] at hS); (try have hR1 := hS.row (i := 1) rfl); (try have hR2 := hS.row (i := 2) rfl); (try have hC0 := hS.cell (i := 0) rfl); (try have hD0 := (cells_heap hC0).1))
      | (show WL _ _ _ _ _ _ _; first | apply WL.nil | (refine WL.au (k := ?_)) | (apply WL.index tOk; (iterate 8 exact rfl); assumption; (exact extA); exact rfl; omega; assumption; intro b off h; have hcc := h; first | (obtain ⟨h1, h2, h3, h4, h5, h6, _⟩ := h) | (obtain ⟨h1, h2, h3, _⟩ := h) | (obtain ⟨h1, h2, _⟩ := h) | (obtain ⟨h1, _⟩ := h)))
      | (show Z _ _ _ _ _; first | apply Z.then_normal | apply Z.block_normal)
      | (show W _ _ _ _ _ _; first | apply W.seq | apply W.region | apply W.block | apply W.skip)
      | fail)
     exact Z.againO a' cap' ⟨by omega, by assumption, a8, cap8, by rw [e3, e1]; exact hS⟩ (by repeat' first | exact trivial | (refine And.intro ?_ ?_) | exact rfl | (rw [e1]; exact rfl) | (rw [e2']; exact rfl))
  ·obtain rfl : k = n.length := by omega
   repeat' (first
    | (apply W.condKF; exact rfl; (focus (exact dec_false (by omega); done)))
    | (show WL _ _ _ _ _ _ _; first | apply WL.nil | (refine WL.au (k := ?_)))
    | (show Z _ _ _ _ _; first | apply Z.then_normal | apply Z.then_exit | apply Z.block_exit)
    | (show W _ _ _ _ _ _; first | apply W.seq | apply W.region | apply W.ret | apply W.exit)
    | fail)
   exact Z.body1 Tryz.results92 rfl fun m => ⟨hX9.at m, a2, cap2, la, lc, rfl, hS9.ext ((Ext.refl _).at m)⟩
end Go.Proofs.YteidpnpbfagaeaaGreat
