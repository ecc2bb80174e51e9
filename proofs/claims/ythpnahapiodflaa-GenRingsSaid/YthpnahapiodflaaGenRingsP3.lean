/- Part 3 of what the claim GenRings needs: lemmas and contracts, printed from longer texts. No conditions. -/
import Derived.Test.YthpnahapiodflaaRows
import Derived.Lib.SmallJoins
import Derived.KernelRfl
import Derived.WalkKit
import Derived.ProofKit
import Derived.Deep.Quiet
import Derived.Deep.LoopGhost
import Derived.StillTail
import Derived.Test.YthpnahapiodflaaProg
import Derived.OpenShut
import Derived.ShutString
import Derived.ChangeOld
import Derived.Deep.Slices
import Derived.SizedLaws
import Derived.Laws.StructEq
import Derived.Laws.Externs
import Derived.MapKept
import Derived.Test.YthpnahapiodflaaGenRingsP2
namespace Go.Proofs.Ythpnahapiodflaa
open Go Go.Lt Go.RowKit
set_option linter.unusedVariables false
set_option linter.unusedSimpArgs false
set_option maxRecDepth 20000

theorem slices_CloneN (a : Option Addr) (cap : Nat) (l : List (Int × Int)) (w : World) (R : Row 2 encN w a l) (hna : a = none → cap = 0) (hl : l.length ≤ 1048576) :
    Lt.Spec Try.prog 147 [.slice a l.length cap] w (IsFresh 2 encN 104 w l) := by
  by_cases ha : a = none
  · subst ha
    have hl0 : l = [] := by
      cases l with
      | nil => rfl
      | cons x r => obtain ⟨b, off, h1, _⟩ := R.elem 0 x rfl; cases h1
    subst hl0
    refine Spec.of _ Try.func147 rfl Try.ntmps147 (by kernel_rfl) rfl ?_
    repeat' (first
      | (apply WL.eqSl tOk; exact rfl; exact rfl; exact rfl; exact rfl; exact rfl; exact rfl)
      | (apply W.condKT; exact rfl; (focus (exact dec_true rfl; done)))
      | (show WL _ _ _ _ _ _ _; first | apply WL.nil | (refine WL.au (k := ?_)))
      | (show Z _ _ _ _ _; first | apply Z.then_normal | apply Z.then_ret)
      | (show W _ _ _ _ _ _; first | apply W.seq | apply W.region | apply W.ret))
    exact Z.body1 Try.results147 rfl fun m => ⟨(Ext.refl _).at m, none, 0, rfl, Own.nil⟩
  · refine Spec.of _ Try.func147 rfl Try.ntmps147 (by kernel_rfl) rfl ?_
    repeat' (first
      | (apply WL.eqSl tOk; exact rfl; exact rfl; exact rfl; exact rfl; exact rfl; exact rfl)
      | (apply W.condKF; exact rfl; (focus (exact dec_false ha; done)))
      | (apply WL.lit (len := 0) tOk; exact rfl; exact rfl; exact rfl; exact rfl; exact rfl; exact rfl; (first | exact rfl | kernel_rfl | (simp [Instr.fill, catCells]; done)); exact rfl; intro gb w' hb hge hc hx; have hO0 := Own.of_block0 (enc := encN) (s := 2) hb hge)
      | (apply WL.appendS tOk encN_ok; exact rfl; exact rfl; exact rfl; exact rfl; exact rfl; exact rfl; exact rfl; exact rfl; exact rfl; exact rfl; assumption; (exact extA); (first | exact rfl | (focus (simp only [List.length_set]; done)) | (focus (simp; done)) | (focus (simp [*]; done)) | omega | (focus (simp only [List.length_set]; omega))); assumption; (exact extA); (first | exact rfl | (focus (simp only [List.length_set]; done)) | (focus (simp; done)) | (focus (simp [*]; done)) | omega | (focus (simp only [List.length_set]; omega))); (first | assumption | (intro h; cases h) | exact Own.noneCap (by assumption)); exact rfl; (exact extA); (first | omega | (simp; omega) | (simp at *; omega)); intro a' cap' w' hO hX' hU hF)
      | (show WL _ _ _ _ _ _ _; first | apply WL.nil | (refine WL.au (k := ?_)))
      | (show Z _ _ _ _ _; apply Z.then_normal)
      | (show W _ _ _ _ _ _; first | apply W.seq | apply W.region | apply W.skip | apply W.ret))
    exact Z.body1 Try.results147 rfl fun m => ⟨Ext.at (by (exact extA)) m, a', cap', by rw [List.nil_append], by rw [List.nil_append] at hO; exact hO⟩
end Go.Proofs.Ythpnahapiodflaa
namespace Go.Proofs.Ythpnahapiodflaa
open Go Go.Lt Go.RowKit
set_option linter.unusedVariables false
set_option linter.unusedSimpArgs false
set_option maxRecDepth 20000

theorem aig_notA (l : Int) (w : World) (h : l ≤ 9223372036854775807) : Still Try.prog 130 [.int .i64 l] w (.int .i64 (notL l)) := by
  refine Spec.of _ Try.func130 rfl Try.ntmps130 (by kernel_rfl) rfl ?_
  repeat' (first
    | (apply WL.xorA; exact rfl; exact rfl; exact rfl; exact rfl; omega)
    | (show WL _ _ _ _ _ _ _; first | apply WL.nil | (refine WL.au (k := ?_)))
    | (show Z _ _ _ _ _; first | apply Z.then_normal | apply Z.then_ret)
    | (show W _ _ _ _ _ _; first | apply W.seq | apply W.region | apply W.skip | apply W.ret | (apply W.condD; exact rfl; all_goals intro _)))
  all_goals (refine Z.body1 Try.results130 rfl fun m => ⟨?_, m, rfl⟩; congr 1; unfold notL; first | rw [if_pos (by assumption)] | rw [if_neg (by assumption)])
end Go.Proofs.Ythpnahapiodflaa
namespace Go.Proofs.Ythpnahapiodflaa
open Go Go.Lt Go.RowKit
set_option linter.unusedVariables false
set_option linter.unusedSimpArgs false
set_option maxRecDepth 20000

/-- What a call on a store leaves: a literal, and these nodes. -/
abbrev AtSt (w0 : World) (gs r : Nat) (rest : List Piece) (q : Int × List (Int × Int)) (v : Value) (w' : World) : Prop :=
  Ext w0 w' ∧ ∃ a' cap', v = .int .i64 q.1 ∧ Sep w0.heap.size w' (stN w0.heap.size gs a' cap' r q.2 ++ rest)
/-- What holds wherever the store goes. -/
abbrev Keeps (w0 : World) (gs r : Nat) (rest : List Piece) (p : World → Prop) : Prop :=
  ∀ w' a' cap' N', Ext w0 w' → Sep w0.heap.size w' (stN w0.heap.size gs a' cap' r N' ++ rest) → p w'

theorem aig_And (gs r cap : Nat) (a : Option Addr) (N : List (Int × Int)) (x y : Int) (rest : List Piece) (w w0 : World) (hX : Ext w0 w) (hS : Sep w0.heap.size w (stN w0.heap.size gs a cap r N ++ rest)) (hN : N.length < 1048576) :
    Lt.Spec Try.prog 81 [.pointer (some ⟨gs, 0, none⟩), .int .i64 x, .int .i64 y] w (AtSt w0 gs r rest (andV N x y)) := by
  by_cases hxy : x ≤ y
  · refine (aig_AndLe gs r cap a N (gmN N) x y rest w w0 hX hS hN hxy).mono ?_
    rintro v w' ⟨h1, a', cap', h2, h3⟩
    rw [andF_M hxy] at h3
    have e : andV N x y = ((andF N (gmN N) x y).v, (andF N (gmN N) x y).N) := if_pos hxy
    rw [e]
    exact ⟨h1, a', cap', h2, h3⟩
  · refine (aig_AndGt gs r cap a N (gmN N) x y rest w w0 hX hS hN (by omega)).mono ?_
    rintro v w' ⟨h1, a', cap', h2, h3⟩
    rw [andF_M (by omega)] at h3
    have e : andV N x y = ((andF N (gmN N) y x).v, (andF N (gmN N) y x).N) := if_neg hxy
    rw [e]
    exact ⟨h1, a', cap', h2, h3⟩
theorem aig_InputV (gs r cap : Nat) (a : Option Addr) (N : List (Int × Int)) (rest : List Piece) (w w0 : World) (hX : Ext w0 w) (hS : Sep w0.heap.size w (stN w0.heap.size gs a cap r N ++ rest)) (hN : N.length < 1048576) :
    Lt.Spec Try.prog 99 [.pointer (some ⟨gs, 0, none⟩)] w (AtSt w0 gs r rest (2 * ((N.length : Int) + 1), N ++ [(-1, 0)])) := by
  refine (aig_Input gs r cap a N (gmN N) rest w w0 hX hS hN).mono ?_
  rintro v w' ⟨h1, a', cap', h2, h3⟩
  have e : gmN N = gmN (N ++ [(-1, 0)]) := (gm_snoc_in N (x := (-1, 0)) (by decide)).symm
  rw [e] at h3
  exact ⟨h1, a', cap', h2, h3⟩
theorem aig_NewV (w w0 : World) (rest : List Piece) (hX : Ext w0 w) (hS : Sep w0.heap.size w rest) :
    Lt.Spec Try.prog 97 [] w (fun v w' => Ext w w' ∧ ∃ gs r, v = .pointer (some ⟨gs, 0, none⟩) ∧ Sep w0.heap.size w' (stN w0.heap.size gs none 0 r [] ++ rest)) := by
  refine Spec.of _ Try.func97 rfl Try.ntmps97 (by kernel_rfl) rfl ?_
  repeat' (first
    | ((apply WL.makeMap (kv := kvN) (vv := vvI); exact rfl; exact rfl; intro r w1 hM hge1 hx1))
    | (apply WL.build tOk; exact rfl; exact rfl; exact rfl; exact rfl; exact rfl; exact rfl; exact rfl; kernel_rfl)
    | (apply WL.box; exact rfl; exact rfl; exact rfl; intro gb w' hb hge hc hx; have hcc := hc; (first | (obtain ⟨h1, h2, h3, _⟩ := hc) | (obtain ⟨h1, h2, _⟩ := hc)))
    | (show WL _ _ _ _ _ _ _; first | apply WL.nil | (refine WL.au (k := ?_)))
    | (show Z _ _ _ _ _; apply Z.then_normal)
    | (show W _ _ _ _ _ _; first | apply W.seq | apply W.region | apply W.ret))
  have hB : w0.heap.size ≤ w.heap.size := hX.size
  have hS1 : Lt.Sep w0.heap.size w1 (pmap kvN vvI r [] :: rest) := Sep.newMap hS hx1 hM hge1 hB
  have hS2 : Lt.Sep w0.heap.size w1 (prow 2 encN 104 w0.heap.size none 0 [] :: pmap kvN vvI r [] :: rest) := Sep.newRow hS1 (Ext.refl _) Own.nil (fun k hk => by cases hk) (Nat.le_trans hB hx1.size)
  have hS : Lt.Sep w0.heap.size w' (stN w0.heap.size gb none 0 r [] ++ rest) := Sep.newCell hS2 hx hb hge (Nat.le_trans hB hx1.size)
  exact Z.body1 Try.results97 rfl fun m => ⟨Ext.at (by (exact extA)) m, gb, r, rfl, hS.ext ((Ext.refl _).at m)⟩

noncomputable def orV (N : List (Int × Int)) (x y : Int) : Int × List (Int × Int) := (notL (andV N (notL x) (notL y)).1, (andV N (notL x) (notL y)).2)
noncomputable def muxV (N : List (Int × Int)) (c x y : Int) : Int × List (Int × Int) :=
  bif dec (hasL N c ∧ hasL N x ∧ hasL N y) then orV (andV (andV N c x).2 (notL c) y).2 (andV N c x).1 (andV (andV N c x).2 (notL c) y).1 else (-1, N)
noncomputable def xorV (N : List (Int × Int)) (x y : Int) : Int × List (Int × Int) := muxV N x (notL y) y
noncomputable def aTo (N : List (Int × Int)) (L : List Int) (k : Nat) : Int × List (Int × Int) := (L.take k).foldl (fun s z => andV s.2 s.1 z) (1, N)
noncomputable def allV (N : List (Int × Int)) (L : List Int) : Int × List (Int × Int) := bif dec (∀ z ∈ L, hasL N z) then aTo N L L.length else (-1, N)
theorem aTo_succ {N : List (Int × Int)} {L : List Int} {k : Nat} {z : Int} (h : L[k]? = some z) : aTo N L (k + 1) = andV (aTo N L k).2 (aTo N L k).1 z := by
  unfold aTo; rw [take_succ' h, List.foldl_append]; rfl

theorem notL_le {x b : Int} (h : x ≤ 2 * b + 1) : notL x ≤ 2 * b + 1 := by
  unfold notL Lt.xor1
  split
  · exact h
  · split <;> omega
theorem notL_ge {x : Int} (h : -1 ≤ x) : -1 ≤ notL x := by
  unfold notL Lt.xor1
  split
  · exact h
  · split <;> omega
theorem notL_has {N : List (Int × Int)} {x : Int} (h : hasL N x) : hasL N (notL x) := by
  unfold hasL at h ⊢
  unfold notL Lt.xor1
  split
  · omega
  · split <;> omega
theorem notL_xor1 {x : Int} (h : 0 ≤ x) : notL x = Lt.xor1 x := by unfold notL; rw [if_neg (by omega)]
theorem orV_len (N : List (Int × Int)) (x y : Int) : N.length ≤ (orV N x y).2.length ∧ (orV N x y).2.length ≤ N.length + 1 := andV_len _ _ _
theorem orV_has {N : List (Int × Int)} {x y : Int} (hx : hasL N x) (hy : hasL N y) : hasL (orV N x y).2 (orV N x y).1 := notL_has (andV_has (notL_has hx) (notL_has hy))
theorem orV_le (N : List (Int × Int)) (x y : Int) : -1 ≤ (orV N x y).1 ∧ (orV N x y).1 ≤ 2 * ((orV N x y).2.length : Int) + 1 := by
  have h := andV_le N (notL x) (notL y)
  exact ⟨notL_ge h.1, notL_le h.2⟩
theorem muxV_yes {N : List (Int × Int)} {c x y : Int} (h : hasL N c ∧ hasL N x ∧ hasL N y) : muxV N c x y = orV (andV (andV N c x).2 (notL c) y).2 (andV N c x).1 (andV (andV N c x).2 (notL c) y).1 := by unfold muxV; rw [dec_true h]; rfl
theorem muxV_no {N : List (Int × Int)} {c x y : Int} (h : ¬ (hasL N c ∧ hasL N x ∧ hasL N y)) : muxV N c x y = (-1, N) := by unfold muxV; rw [dec_false h]; rfl
theorem muxV_len (N : List (Int × Int)) (c x y : Int) : N.length ≤ (muxV N c x y).2.length ∧ (muxV N c x y).2.length ≤ N.length + 3 := by
  by_cases h : hasL N c ∧ hasL N x ∧ hasL N y
  · rw [muxV_yes h]
    have h1 := andV_len N c x
    have h2 := andV_len (andV N c x).2 (notL c) y
    have h3 := orV_len (andV (andV N c x).2 (notL c) y).2 (andV N c x).1 (andV (andV N c x).2 (notL c) y).1
    omega
  · rw [muxV_no h]; dsimp only; omega
theorem muxV_le (N : List (Int × Int)) (c x y : Int) : -1 ≤ (muxV N c x y).1 ∧ (muxV N c x y).1 ≤ 2 * ((muxV N c x y).2.length : Int) + 1 := by
  by_cases h : hasL N c ∧ hasL N x ∧ hasL N y
  · rw [muxV_yes h]; exact orV_le _ _ _
  · rw [muxV_no h]; dsimp only; omega
theorem muxV_has {N : List (Int × Int)} {c x y : Int} (hc : hasL N c) (hx : hasL N x) (hy : hasL N y) : hasL (muxV N c x y).2 (muxV N c x y).1 := by
  rw [muxV_yes ⟨hc, hx, hy⟩]
  have l2 := (andV_len (andV N c x).2 (notL c) y).1
  have l1 := (andV_len N c x).1
  exact orV_has (hasL_mono (andV_has hc hx) l2) (andV_has (hasL_mono (notL_has hc) l1) (hasL_mono hy l1))
theorem aTo_inv {N : List (Int × Int)} {L : List Int} (h : ∀ z ∈ L, hasL N z) : ∀ k, k ≤ L.length → hasL (aTo N L k).2 (aTo N L k).1 ∧ N.length ≤ (aTo N L k).2.length ∧ (aTo N L k).2.length ≤ N.length + k ∧ Grow N (aTo N L k).2
  | 0, _ => ⟨by unfold aTo hasL; simp; omega, Nat.le_refl _, Nat.le_refl _, .refl N⟩
  | k + 1, hk => by
    obtain ⟨z, hz⟩ := getI L (show k < L.length by omega)
    obtain ⟨i1, i2, i3, i4⟩ := aTo_inv h k (by omega)
    rw [aTo_succ hz]
    have hl := andV_len (aTo N L k).2 (aTo N L k).1 z
    exact ⟨andV_has i1 (hasL_mono (h z (List.mem_of_getElem? hz)) i2), by omega, by omega, .gate _ _ i4⟩

theorem aig_OrV (gs r cap : Nat) (a : Option Addr) (N : List (Int × Int)) (x y : Int) (rest : List Piece) (w w0 : World) (hX : Ext w0 w) (hS : Sep w0.heap.size w (stN w0.heap.size gs a cap r N ++ rest)) (hN : N.length < 1048576) (hbx : x ≤ 9223372036854775807) (hby : y ≤ 9223372036854775807) :
    Lt.Spec Try.prog 94 [.pointer (some ⟨gs, 0, none⟩), .int .i64 x, .int .i64 y] w (AtSt w0 gs r rest (orV N x y)) := by
  have hl := andV_len N (notL x) (notL y)
  have hle := andV_le N (notL x) (notL y)
  have hb9 : (andV N (notL x) (notL y)).1 ≤ 9223372036854775807 := by omega
  refine Spec.of _ Try.func94 rfl Try.ntmps94 (by kernel_rfl) rfl ?_
  repeat' (first
    | ((show WL _ _ _ (⟨_, .call ⟨.value (.func 130), _, _⟩, _, _, _, _⟩ :: _) _ _ _); apply WL.callS; exact rfl; exact rfl; exact rfl; exact rfl; exact aig_notA _ _ (by assumption))
    | (((show WL _ _ _ (⟨_, .call ⟨.value (.func 81), _, _⟩, _, _, _, _⟩ :: _) _ _ _); apply WL.call; exact rfl; exact rfl; exact rfl; exact rfl; exact aig_And gs r cap a N _ _ rest _ w0 hX hS hN; rintro v' w' ⟨hX2, a', cap', rfl, hS2⟩))
    | (show WL _ _ _ _ _ _ _; first | apply WL.nil | (refine WL.au (k := ?_)))
    | (show Z _ _ _ _ _; apply Z.then_normal)
    | (show W _ _ _ _ _ _; first | apply W.seq | apply W.region | apply W.ret))
  exact Z.body1 Try.results94 rfl fun m => ⟨hX2.at m, a', cap', rfl, hS2.ext ((Ext.refl _).at m)⟩

set_option maxHeartbeats 4000000 in
theorem aig_MuxV (gs r cap : Nat) (a : Option Addr) (N : List (Int × Int)) (c x y : Int) (rest : List Piece) (w w0 : World) (hX : Ext w0 w) (hS : Sep w0.heap.size w (stN w0.heap.size gs a cap r N ++ rest)) (hN : N.length + 3 < 1048576) (hbc : c ≤ 9223372036854775807) :
    Lt.Spec Try.prog 129 [.pointer (some ⟨gs, 0, none⟩), .int .i64 c, .int .i64 x, .int .i64 y] w (AtSt w0 gs r rest (muxV N c x y)) := by
  have hC0 := hS.cell (i := 0) rfl
  by_cases hh : hasL N c ∧ hasL N x ∧ hasL N y
  · have hall : ∀ z ∈ [c, x, y], hasL N z := by
      intro z hz; simp only [List.mem_cons, List.not_mem_nil, or_false] at hz; rcases hz with rfl | rfl | rfl
      · exact hh.1
      · exact hh.2.1
      · exact hh.2.2
    have e := muxV_yes hh
    have l1 := andV_len N c x
    have l2 := andV_len (andV N c x).2 (notL c) y
    have b1 := andV_has hh.1 hh.2.1
    have q0 : ¬ (andV N c x).1 < 0 := by have := b1.1; omega
    have q1 : (andV N c x).1 ≤ 9223372036854775807 := by have := b1.2; omega
    have q2 : (andV (andV N c x).2 (notL c) y).1 ≤ 9223372036854775807 := by have := andV_le (andV N c x).2 (notL c) y; omega
    have k1 : (andV N c x).2.length < 1048576 := by omega
    have k2 : (andV (andV N c x).2 (notL c) y).2.length < 1048576 := by omega
    refine Spec.of _ Try.func129 rfl Try.ntmps129 (by kernel_rfl) rfl ?_
    repeat' (first
      | (apply WL.lit tOk; exact rfl; exact rfl; exact rfl; exact rfl; exact rfl; exact rfl; (first | exact rfl | kernel_rfl | (simp [Instr.fill, catCells]; done)); exact rfl; intro gb w' hb hge hc hx; have hO := Own.of_block ([c, x, y]) encI_ok hb hge rfl)
      | ((show WL _ _ _ (⟨_, .call ⟨.value (.func 131), _, _⟩, _, _, _, _⟩ :: _) _ _ _); apply WL.callP; exact rfl; exact rfl; exact rfl; exact rfl; exact aig_has _ _ _ _ _ N [c, x, y] _ _ (Ext.heap (by (exact extA)) hC0) (Own.row encI_ok (by assumption)) (by omega); intro w' hx)
      | (apply W.condKF; exact rfl; (focus ((rw [dec_true hall]; rfl); done)))
      | (show WL _ _ _ _ _ _ _; first | apply WL.nil | (refine WL.au (k := ?_)))
      | (show Z _ _ _ _ _; apply Z.then_normal)
      | (show W _ _ _ _ _ _; first | apply W.seq | apply W.region | apply W.skip))
    have hS1 := hS.ext (show Ext w w' from (by (exact extA)))
    have hX1 : Ext w0 w' := (by (exact extA))
    rw [e]
    repeat' (first
      | ((show WL _ _ _ (⟨_, .call ⟨.value (.func 130), _, _⟩, _, _, _, _⟩ :: _) _ _ _); apply WL.callS; exact rfl; exact rfl; exact rfl; exact rfl; exact aig_notA _ _ (by assumption))
      | (apply W.condKF; exact rfl; (focus (exact dec_false q0; done)))
      | (((show WL _ _ _ (⟨_, .call ⟨.value (.func 81), _, _⟩, _, _, _, _⟩ :: _) _ _ _); apply WL.call; exact rfl; exact rfl; exact rfl; exact rfl; exact aig_And gs r _ _ N _ _ rest _ w0 hX1 hS1 (by omega); rintro v' w' ⟨hX2, a', cap', rfl, hS2⟩))
      | (((show WL _ _ _ (⟨_, .call ⟨.value (.func 81), _, _⟩, _, _, _, _⟩ :: _) _ _ _); apply WL.call; exact rfl; exact rfl; exact rfl; exact rfl; exact aig_And gs r _ _ (andV N c x).2 _ _ rest _ w0 hX2 hS2 k1; rintro v' w' ⟨hX2, a', cap', rfl, hS2⟩))
      | (((show WL _ _ _ (⟨_, .call ⟨.value (.func 94), _, _⟩, _, _, _, _⟩ :: _) _ _ _); apply WL.call; exact rfl; exact rfl; exact rfl; exact rfl; exact aig_OrV gs r _ _ (andV (andV N c x).2 (notL c) y).2 _ _ rest _ w0 hX2 hS2 k2 q1 q2; rintro v' w' ⟨hX2, a', cap', rfl, hS2⟩))
      | (show WL _ _ _ _ _ _ _; first | apply WL.nil | (refine WL.au (k := ?_)))
      | (show Z _ _ _ _ _; apply Z.then_normal)
      | (show W _ _ _ _ _ _; first | apply W.seq | apply W.region | apply W.skip | apply W.ret))
    exact Z.body1 Try.results129 rfl fun m => ⟨hX2.at m, a', cap', rfl, hS2.ext ((Ext.refl _).at m)⟩
  · have hall : ¬ ∀ z ∈ [c, x, y], hasL N z := fun h => hh ⟨h _ (by simp), h _ (by simp), h _ (by simp)⟩
    rw [muxV_no hh]
    refine Spec.of _ Try.func129 rfl Try.ntmps129 (by kernel_rfl) rfl ?_
    repeat' (first
      | (apply WL.lit tOk; exact rfl; exact rfl; exact rfl; exact rfl; exact rfl; exact rfl; (first | exact rfl | kernel_rfl | (simp [Instr.fill, catCells]; done)); exact rfl; intro gb w' hb hge hc hx; have hO := Own.of_block ([c, x, y]) encI_ok hb hge rfl)
      | ((show WL _ _ _ (⟨_, .call ⟨.value (.func 131), _, _⟩, _, _, _, _⟩ :: _) _ _ _); apply WL.callP; exact rfl; exact rfl; exact rfl; exact rfl; exact aig_has _ _ _ _ _ N [c, x, y] _ _ (Ext.heap (by (exact extA)) hC0) (Own.row encI_ok (by assumption)) (by omega); intro w' hx)
      | (apply W.condKT; exact rfl; (focus ((rw [dec_false hall]; rfl); done)))
      | (show WL _ _ _ _ _ _ _; first | apply WL.nil | (refine WL.au (k := ?_)))
      | (show Z _ _ _ _ _; first | apply Z.then_normal | apply Z.then_ret)
      | (show W _ _ _ _ _ _; first | apply W.seq | apply W.region | apply W.ret))
    have hS1 := hS.ext (show Ext w w' from (by (exact extA)))
    exact Z.body1 Try.results129 rfl fun m => ⟨Ext.at (by (exact extA)) m, a, cap, rfl, hS1.ext ((Ext.refl _).at m)⟩

theorem aig_XorV (gs r cap : Nat) (a : Option Addr) (N : List (Int × Int)) (x y : Int) (rest : List Piece) (w w0 : World) (hX : Ext w0 w) (hS : Sep w0.heap.size w (stN w0.heap.size gs a cap r N ++ rest)) (hN : N.length + 3 < 1048576) (hbx : x ≤ 9223372036854775807) (hby : y ≤ 9223372036854775807) :
    Lt.Spec Try.prog 80 [.pointer (some ⟨gs, 0, none⟩), .int .i64 x, .int .i64 y] w (AtSt w0 gs r rest (xorV N x y)) := by
  refine Spec.of _ Try.func80 rfl Try.ntmps80 (by kernel_rfl) rfl ?_
  repeat' (first
    | ((show WL _ _ _ (⟨_, .call ⟨.value (.func 130), _, _⟩, _, _, _, _⟩ :: _) _ _ _); apply WL.callS; exact rfl; exact rfl; exact rfl; exact rfl; exact aig_notA _ _ (by assumption))
    | (((show WL _ _ _ (⟨_, .call ⟨.value (.func 129), _, _⟩, _, _, _, _⟩ :: _) _ _ _); apply WL.call; exact rfl; exact rfl; exact rfl; exact rfl; exact aig_MuxV gs r cap a N _ _ _ rest _ w0 hX hS hN hbx; rintro v' w' ⟨hX2, a', cap', rfl, hS2⟩))
    | (show WL _ _ _ _ _ _ _; first | apply WL.nil | (refine WL.au (k := ?_)))
    | (show Z _ _ _ _ _; apply Z.then_normal)
    | (show W _ _ _ _ _ _; first | apply W.seq | apply W.region | apply W.ret))
  exact Z.body1 Try.results80 rfl fun m => ⟨hX2.at m, a', cap', rfl, hS2.ext ((Ext.refl _).at m)⟩

set_option maxHeartbeats 4000000 in
theorem aig_AllV (gs r cap cl : Nat) (a al : Option Addr) (N : List (Int × Int)) (L : List Int) (rest : List Piece) (w w0 : World) (hX : Ext w0 w) (hS : Sep w0.heap.size w (stN w0.heap.size gs a cap r N ++ rest)) (hN : N.length + L.length < 1048576) (hL : Keeps w0 gs r rest (fun w' => Row 1 encI w' al L)) :
    Lt.Spec Try.prog 83 [.pointer (some ⟨gs, 0, none⟩), .slice al L.length cl] w (AtSt w0 gs r rest (allV N L)) := by
  have hC0 := hS.cell (i := 0) rfl
  have RL := hL w a cap N hX hS
  have hll := RL.len
  by_cases hh : ∀ z ∈ L, hasL N z
  · have e : allV N L = aTo N L L.length := by unfold allV; rw [dec_true hh]; rfl
    rw [e]
    refine Spec.of _ Try.func83 rfl Try.ntmps83 (by kernel_rfl) rfl ?_
    repeat' (first
      | ((show WL _ _ _ (⟨_, .call ⟨.value (.func 131), _, _⟩, _, _, _, _⟩ :: _) _ _ _); apply WL.callP; exact rfl; exact rfl; exact rfl; exact rfl; exact aig_has _ _ _ _ _ N L _ _ hC0 RL (by omega); intro w' hx)
      | (apply W.condKF; exact rfl; (focus ((rw [dec_true hh]; rfl); done)))
      | (show WL _ _ _ _ _ _ _; first | apply WL.nil | (refine WL.au (k := ?_)))
      | (show Z _ _ _ _ _; apply Z.then_normal)
      | (show W _ _ _ _ _ _; first | apply W.seq | apply W.region | apply W.block | apply W.skip))
    refine W.loopO L.length (fun k a' cp w' => k ≤ L.length ∧ Ext w0 w' ∧ Sep w0.heap.size w' (stN w0.heap.size gs a' cp r (aTo N L k).2 ++ rest)) (fun k a' cp => [(0, .pointer (some ⟨gs, 0, none⟩)), (5, .int .i64 (aTo N L k).1), (12, .slice al L.length cl), (13, .int .i64 L.length), (14, .int .i64 k)]) a cap ⟨by omega, hX.trans hx, hS.ext hx⟩ (fun k a' cp w' h => h.1) ⟨rfl, rfl, rfl, rfl, rfl, trivial⟩ ?_
    rintro k a2 cp2 w2 ⟨hk, hX2, hS2⟩
    have R2 := hL _ _ _ _ hX2 hS2
    obtain ⟨i1, i2, i3, _⟩ := aTo_inv hh k hk
    by_cases hlt : k < L.length
    · obtain ⟨z, hz⟩ := getI L hlt
      have hs := aTo_succ (N := N) hz
      have i4 := (aTo_inv hh (k + 1) (by omega)).1
      have q0 : ¬ (andV (aTo N L k).2 (aTo N L k).1 z).1 < 0 := by rw [← hs]; have := i4.1; omega
      repeat' (first
        | (apply W.condKT; exact rfl; (focus (first | exact dec_true (by omega) | exact dec_false q0; done)))
        | (apply W.condKF; exact rfl; (focus (first | exact dec_true (by omega) | exact dec_false q0; done)))
        | (((show WL _ _ _ (⟨_, .call ⟨.value (.func 81), _, _⟩, _, _, _, _⟩ :: _) _ _ _); apply WL.call; exact rfl; exact rfl; exact rfl; exact rfl; exact aig_And gs r _ _ (aTo N L k).2 _ _ rest _ w0 hX2 hS2 (by omega); rintro v' w' ⟨hX2, a', cap', rfl, hS2⟩))
        | (show WL _ _ _ _ _ _ _; first | apply WL.nil | (refine WL.au (k := ?_)) | (apply WL.index tOk; exact rfl; exact rfl; exact rfl; exact rfl; exact rfl; exact rfl; exact rfl; exact rfl; assumption; (exact extA); exact rfl; omega; assumption; intro b off h; have hcc := h; first | (obtain ⟨h1, h2, h3, h4, h5, h6, _⟩ := h) | (obtain ⟨h1, h2, h3, _⟩ := h) | (obtain ⟨h1, h2, _⟩ := h) | (obtain ⟨h1, _⟩ := h)))
        | (show Z _ _ _ _ _; first | apply Z.then_normal | apply Z.block_normal)
        | (show W _ _ _ _ _ _; first | apply W.seq | apply W.region | apply W.block | apply W.skip))
      exact Z.againO a' cap' ⟨by omega, hX2, by rw [hs]; exact hS2⟩ (by repeat' first | exact trivial | (refine And.intro ?_ ?_) | exact rfl | (rw [hs]; exact rfl))
    · obtain rfl : k = L.length := by omega
      repeat' (first
        | (apply W.condKF; exact rfl; (focus (exact dec_false (by omega); done)))
        | (show WL _ _ _ _ _ _ _; first | apply WL.nil | (refine WL.au (k := ?_)))
        | (show Z _ _ _ _ _; first | apply Z.then_normal | apply Z.then_exit | apply Z.block_exit)
        | (show W _ _ _ _ _ _; first | apply W.seq | apply W.region | apply W.ret | apply W.exit))
      exact Z.body1 Try.results83 rfl fun m => ⟨hX2.at m, a2, cp2, rfl, hS2.ext ((Ext.refl _).at m)⟩
  · have e : allV N L = (-1, N) := by unfold allV; rw [dec_false hh]; rfl
    rw [e]
    refine Spec.of _ Try.func83 rfl Try.ntmps83 (by kernel_rfl) rfl ?_
    repeat' (first
      | ((show WL _ _ _ (⟨_, .call ⟨.value (.func 131), _, _⟩, _, _, _, _⟩ :: _) _ _ _); apply WL.callP; exact rfl; exact rfl; exact rfl; exact rfl; exact aig_has _ _ _ _ _ N L _ _ hC0 RL (by omega); intro w' hx)
      | (apply W.condKT; exact rfl; (focus ((rw [dec_false hh]; rfl); done)))
      | (show WL _ _ _ _ _ _ _; first | apply WL.nil | (refine WL.au (k := ?_)))
      | (show Z _ _ _ _ _; first | apply Z.then_normal | apply Z.then_ret)
      | (show W _ _ _ _ _ _; first | apply W.seq | apply W.region | apply W.ret))
    exact Z.body1 Try.results83 rfl fun m => ⟨Ext.at (hX.trans hx) m, a, cap, rfl, (hS.ext hx).ext ((Ext.refl _).at m)⟩
end Go.Proofs.Ythpnahapiodflaa
namespace Go.Proofs.Ythpnahapiodflaa
open Go Go.Lt Go.RowKit
set_option linter.unusedVariables false
set_option linter.unusedSimpArgs false
set_option maxRecDepth 20000

noncomputable def litI (l : List Int) (x : Int) : Int := xorI (l.getD (x / 2).toNat 0) (x % 2)
theorem Sep.back31 {B : Nat} {w : World} {p a b c : Piece} {rs : List Piece} (hS : Sep B w (p :: a :: b :: c :: rs)) : Sep B w (a :: b :: c :: p :: rs) := by
  refine Sep.sub' (fun i => if i < 3 then i + 1 else if i < 4 then i - 3 else i) hS (fun i x h => ?_) (fun i j hi hj hne => ?_)
  · match i, h with
    | 0, h => exact h
    | 1, h => exact h
    | 2, h => exact h
    | 3, h => exact h
    | i + 4, h =>
      simp only [show ¬ i + 4 < 3 by omega, show ¬ i + 4 < 4 by omega, if_false]; exact h
  · split <;> split <;> (try split) <;> (try split) <;> omega
end Go.Proofs.Ythpnahapiodflaa
namespace Go.Proofs.Ythpnahapiodflaa
open Go Go.Lt Go.RowKit
set_option linter.unusedVariables false
set_option linter.unusedSimpArgs false
set_option maxRecDepth 20000

/-- Nodes, and where variables are. -/
abbrev NA := List (Int × Int) × List Int
noncomputable def cput (s : NA) (l : Int) (x : Int × Int) : NA := (s.1 ++ [x], s.2.set (l / 2).toNat (2 * ((s.1.length : Int) + 1)))
noncomputable def cIn (s : NA) (ls : List Int) : NA := ls.foldl (fun s l => cput s l (-1, 0)) s
abbrev gAt (gs : List G3) (i : Nat) : G3 := gs.getD i (0, 0, 0)
noncomputable def cGate (gs : List G3) (s : NA) (i : Nat) : NA := cput s (gAt gs i).1 (litI s.2 (gAt gs i).2.1, litI s.2 (gAt gs i).2.2)
noncomputable def cGates (gs : List G3) (s : NA) (L : List Nat) : NA := L.foldl (cGate gs) s
def cAt0 (m : Int) : List Int := 0 :: List.replicate m.toNat (-1)
noncomputable def cNet (c : CirT) : NA := cGates c.gates (cIn ([], cAt0 c.max) (c.ins ++ c.lat.map (·.1))) (ordL c.gates)
theorem cIn_snoc (s : NA) (ls : List Int) (l : Int) : cIn s (ls ++ [l]) = cput (cIn s ls) l (-1, 0) := by unfold cIn; rw [List.foldl_append]; rfl
theorem cGates_snoc (gs : List G3) (s : NA) (L : List Nat) (i : Nat) : cGates gs s (L ++ [i]) = cGate gs (cGates gs s L) i := by unfold cGates; rw [List.foldl_append]; rfl

structure PutOk (s : NA) (q : List Int) (m : Nat) : Prop where
  len1 : s.1.length = q.length
  len2 : s.2.length = m + 1
  zero : s.2[0]? = some 0
  has : ∀ (i : Nat) (l : Int), q[i]? = some l → s.2[(l / 2).toNat]? = some (2 * ((i : Int) + 1))
  not : ∀ v : Nat, 1 ≤ v → v ≤ m → (∀ l ∈ q, (l / 2).toNat ≠ v) → s.2[v]? = some (-1)
theorem PutOk.start (m : Nat) : PutOk ([], cAt0 (m : Int)) [] m := by
  refine ⟨rfl, by simp [cAt0], rfl, fun i l h => by simp at h, fun v h1 h2 _ => ?_⟩
  show (0 :: List.replicate (m : Int).toNat (-1 : Int))[v]? = _
  obtain ⟨u, rfl⟩ : ∃ u, v = u + 1 := ⟨v - 1, by omega⟩
  rw [List.getElem?_cons_succ, List.getElem?_replicate, if_pos (by omega)]
theorem PutOk.push {s : NA} {q : List Int} {m : Nat} (h : PutOk s q m) {l : Int} (hl : 2 ≤ l ∧ l % 2 = 0 ∧ l ≤ 2 * (m : Int)) (hq : ∀ y ∈ q, 2 ≤ y ∧ y % 2 = 0) (hn : l ∉ q) (x : Int × Int) : PutOk (cput s l x) (q ++ [l]) m := by
  have hlen := h.len2
  have hs : ∀ y ∈ q, (l / 2).toNat ≠ (y / 2).toNat := fun y hy he => hn (by have := hq y hy; rw [show l = y by omega]; exact hy)
  refine ⟨by simp [cput, h.len1], by simp [cput, h.len2], ?_, fun i y hy => ?_, fun v h1 h2 h3 => ?_⟩
  · show (s.2.set _ _)[0]? = _
    rw [List.getElem?_set_ne (by omega)]; exact h.zero
  · show (s.2.set _ _)[(y / 2).toNat]? = _
    by_cases hi : i < q.length
    · rw [List.getElem?_append_left hi] at hy
      rw [List.getElem?_set_ne (hs y (List.mem_of_getElem? hy))]
      exact h.has i y hy
    · rw [List.getElem?_append_right (by omega)] at hy
      have h0 : i - q.length = 0 := by have := lt_of_get hy; simpa using this
      obtain rfl : i = q.length := by omega
      simp at hy; subst hy
      rw [List.getElem?_set_self (by omega), h.len1]
  · show (s.2.set _ _)[v]? = _
    rw [List.getElem?_set_ne (h3 l (by simp))]
    exact h.not v h1 h2 fun y hy => h3 y (by simp [hy])
theorem PutOk.ge {s : NA} {q : List Int} {m : Nat} (h : PutOk s q m) {l : Int} (hl : l / 2 = 0 ∨ ∃ y ∈ q, y / 2 = l / 2) : ∃ z, s.2[(l / 2).toNat]? = some z ∧ 0 ≤ z ∧ z % 2 = 0 ∧ z ≤ 2 * (s.1.length : Int) := by
  rcases hl with hl | ⟨y, hy, he⟩
  · exact ⟨0, by rw [hl]; exact h.zero, by decide, by decide, by omega⟩
  · obtain ⟨i, hi⟩ := List.mem_iff_getElem?.1 hy
    have h1 := h.has i y hi
    rw [he] at h1
    have h2 := lt_of_get hi
    have := h.len1
    exact ⟨_, h1, by omega, by omega, by omega⟩
theorem litI_some {l : List Int} {x z : Int} (hz : l[(x / 2).toNat]? = some z) : litI l x = xorI z (x % 2) := by unfold litI; rw [getD_of hz]
/-- All inputs and latches, put. -/
theorem cIn_ok {m : Nat} : ∀ (ls : List Int) (s : NA) (q : List Int), PutOk s q m → (∀ y ∈ q, 2 ≤ y ∧ y % 2 = 0) → (∀ l ∈ ls, 2 ≤ l ∧ l % 2 = 0 ∧ l ≤ 2 * (m : Int)) → (q ++ ls).Nodup → GoodNet s.1 → PutOk (cIn s ls) (q ++ ls) m ∧ GoodNet (cIn s ls).1
  | [], s, q, h, _, _, _, hg => by rw [List.append_nil]; exact ⟨h, hg⟩
  | l :: ls, s, q, h, hq, hl, hn, hg => by
    have hl1 := hl l (by simp)
    have hnl : l ∉ q := fun hm => by
      rw [List.nodup_append] at hn
      exact hn.2.2 l hm l (by simp) rfl
    have h1 := h.push hl1 hq hnl (-1, 0)
    have h2 := cIn_ok ls (cput s l (-1, 0)) (q ++ [l]) h1 (fun y hy => by
      rcases List.mem_append.1 hy with hy | hy
      · exact hq y hy
      · rw [List.mem_singleton.1 hy]; exact ⟨hl1.1, hl1.2.1⟩) (fun y hy => hl y (by simp [hy])) (by simpa using hn) (fun i x hx => ?_)
    · have e : q ++ [l] ++ ls = q ++ l :: ls := by simp
      rw [e] at h2
      exact h2
    · have hx' : (s.1 ++ [((-1, 0) : Int × Int)])[i]? = some x := hx
      by_cases hi : i < s.1.length
      · rw [List.getElem?_append_left hi] at hx'; exact hg i x hx'
      · rw [List.getElem?_append_right (by omega)] at hx'
        have h0 : i - s.1.length = 0 := by have := lt_of_get hx'; simpa using this
        rw [h0] at hx'
        simp at hx'; subst hx'
        unfold badNode; simp

/-- The literals in the order in which they are put. -/
noncomputable abbrev CirT.seq (c : CirT) : List Int := c.ins ++ c.lat.map (·.1) ++ (ordL c.gates).map (fun i => (gAt c.gates i).1)
abbrev CirT.inl (c : CirT) : List Int := c.ins ++ c.lat.map (·.1)
theorem gAt_of {gs : List G3} {i : Nat} {g : G3} (h : gs[i]? = some g) : gAt gs i = g := getD_of h
theorem GoodC'.gate {c : CirT} (h : GoodC' c) {i : Nat} {g : G3} (hg : c.gates[i]? = some g) : (2 ≤ g.1 ∧ g.1 % 2 = 0 ∧ g.1 ≤ 2 * c.max) ∧ (0 ≤ g.2.1 ∧ g.2.1 ≤ 2 * c.max + 1) ∧ (0 ≤ g.2.2 ∧ g.2.2 ≤ 2 * c.max + 1) := by
  have hm := List.mem_of_getElem? hg
  refine ⟨h.own _ (List.mem_append_right _ (List.mem_map.2 ⟨g, hm, rfl⟩)), h.used _ (List.mem_append_right _ (List.mem_flatMap.2 ⟨g, hm, by simp⟩)), h.used _ (List.mem_append_right _ (List.mem_flatMap.2 ⟨g, hm, by simp⟩))⟩
/-- What is used is put, if all gates are on which it may hang. -/
theorem used_put {c : CirT} (h : GoodC' c) {l : Int} (hl : l ∈ c.used) {T : List Nat} (hT : ∀ (j : Nat) (x : G3), c.gates[j]? = some x → j ∉ T → x.1 / 2 ≠ l / 2) : l / 2 = 0 ∨ ∃ y ∈ c.inl ++ T.map (fun i => (gAt c.gates i).1), y / 2 = l / 2 := by
  have h0 := h.used l hl
  rcases Int.lt_or_le 1 l with h1 | h1
  · right
    have h2 := h.has l hl h1
    rcases List.mem_append.1 h2 with h3 | h3
    · exact ⟨_, List.mem_append_left _ h3, by omega⟩
    · obtain ⟨g, hg, he⟩ := List.mem_map.1 h3
      obtain ⟨j, hj⟩ := List.mem_iff_getElem?.1 hg
      have hjT : j ∈ T := Classical.byContradiction fun hn => hT j g hj hn (by omega)
      exact ⟨g.1, List.mem_append_right _ (List.mem_map.2 ⟨j, hjT, by rw [gAt_of hj]⟩), by omega⟩
  · left; omega
theorem inl_once {c : CirT} (h : GoodC' c) : c.inl.Nodup := by
  have := h.once
  rw [List.nodup_append] at this
  exact this.1
/-- A gate's literal is put but once. -/
theorem gate_new {c : CirT} (h : GoodC' c) {i : Nat} {g : G3} (hg : c.gates[i]? = some g) {T : List Nat} (hT : ∀ j ∈ T, j < c.gates.length) (hi : i ∉ T) : g.1 ∉ c.inl ++ T.map (fun i => (gAt c.gates i).1) := by
  intro hm
  have ho := h.once
  rw [List.nodup_append] at ho
  rcases List.mem_append.1 hm with h1 | h1
  · exact ho.2.2 _ h1 _ (List.mem_map.2 ⟨g, List.mem_of_getElem? hg, rfl⟩) rfl
  · obtain ⟨j, hj, he⟩ := List.mem_map.1 h1
    obtain ⟨x, hx⟩ := getI c.gates (hT j hj)
    rw [gAt_of hx] at he
    have hp := List.pairwise_iff_getElem.1 (List.nodup_iff_pairwise_ne.1 ho.2.1)
    have li : i < (c.gates.map (·.1)).length := by rw [List.length_map]; exact lt_of_get hg
    have lj : j < (c.gates.map (·.1)).length := by rw [List.length_map]; exact lt_of_get hx
    have ei : (c.gates.map (·.1))[i] = g.1 := by have := (List.getElem?_eq_some_iff.1 hg).2; simp [this]
    have ej : (c.gates.map (·.1))[j] = x.1 := by have := (List.getElem?_eq_some_iff.1 hx).2; simp [this]
    have hne : i ≠ j := fun e => hi (by rw [e]; exact hj)
    rcases Nat.lt_or_gt_of_ne hne with h2 | h2
    · exact hp i j li lj h2 (by rw [ei, ej, he])
    · exact hp j i lj li h2 (by rw [ei, ej, he])
theorem net_to {c : CirT} (h : GoodC' c) : ∀ k, k ≤ (ordL c.gates).length →
    PutOk (cGates c.gates (cIn ([], cAt0 c.max) c.inl) ((ordL c.gates).take k)) (c.inl ++ ((ordL c.gates).take k).map (fun i => (gAt c.gates i).1)) c.max.toNat ∧ GoodNet (cGates c.gates (cIn ([], cAt0 c.max) c.inl) ((ordL c.gates).take k)).1 := by
  have hm : ((c.max.toNat : Nat) : Int) = c.max := by have := h.max; omega
  intro k
  induction k with
  | zero =>
    intro _
    have h1 := cIn_ok (m := c.max.toNat) c.inl ([], cAt0 c.max) [] (by have := PutOk.start c.max.toNat; rwa [hm] at this) (fun y hy => by cases hy) (fun l hl => by rw [hm]; exact h.own l (List.mem_append_left _ hl)) (by rw [List.nil_append]; exact inl_once h) (fun i x hx => by simp at hx)
    simpa [cGates] using h1
  | succ k ih =>
    intro hk
    obtain ⟨i, hi⟩ := getI (ordL c.gates) (show k < _ by omega)
    obtain ⟨h1, h2⟩ := ih (by omega)
    have hO := (ordL_is c.gates).1
    obtain ⟨g, hg, hn, hr⟩ := (hO k i hi).1
    have hgg := h.gate hg
    have hm' := List.mem_of_getElem? hg
    have ua : g.2.1 ∈ c.used := List.mem_append_right _ (List.mem_flatMap.2 ⟨g, hm', by simp⟩)
    have ub : g.2.2 ∈ c.used := List.mem_append_right _ (List.mem_flatMap.2 ⟨g, hm', by simp⟩)
    have pa := h1.ge (used_put h ua fun j x hx hj => (hr j x hx hj).1)
    have pb := h1.ge (used_put h ub fun j x hx hj => (hr j x hx hj).2)
    have hlt : ∀ j ∈ (ordL c.gates).take k, j < c.gates.length := fun j hj => hO.lt j (List.mem_of_mem_take hj)
    rw [take_succ' hi, cGates_snoc, List.map_append, ← List.append_assoc]
    have eg : gAt c.gates i = g := gAt_of hg
    have hsq : ∀ y ∈ c.inl ++ ((ordL c.gates).take k).map (fun i => (gAt c.gates i).1), 2 ≤ y ∧ y % 2 = 0 := fun y hy => by
      have : y ∈ c.own := by
        rcases List.mem_append.1 hy with hy | hy
        · exact List.mem_append_left _ hy
        · obtain ⟨j, hj, rfl⟩ := List.mem_map.1 hy
          obtain ⟨x, hx⟩ := getI c.gates (hlt j hj)
          exact List.mem_append_right _ (List.mem_map.2 ⟨x, List.mem_of_getElem? hx, by rw [gAt_of hx]⟩)
      exact ⟨(h.own y this).1, (h.own y this).2.1⟩
    have hp := h1.push (l := g.1) (by rw [hm]; exact hgg.1) hsq (gate_new h hg hlt hn)
    refine ⟨?_, ?_⟩
    · unfold cGate; rw [List.map_singleton, eg]; exact hp _
    · unfold cGate; rw [eg]
      intro j x hx
      have hx' : ((cGates c.gates (cIn ([], cAt0 c.max) c.inl) ((ordL c.gates).take k)).1 ++ [_])[j]? = some x := hx
      obtain ⟨za, a1, a2, a3, a4⟩ := pa
      obtain ⟨zb, b1, b2, b3, b4⟩ := pb
      rw [litI_some a1, litI_some b1] at hx'
      by_cases hj : j < (cGates c.gates (cIn ([], cAt0 c.max) c.inl) ((ordL c.gates).take k)).1.length
      · rw [List.getElem?_append_left hj] at hx'; exact h2 j x hx'
      · rw [List.getElem?_append_right (by omega)] at hx'
        have h0 : j - (cGates c.gates (cIn ([], cAt0 c.max) c.inl) ((ordL c.gates).take k)).1.length = 0 := by have := lt_of_get hx'; simpa using this
        rw [h0] at hx'
        simp only [List.getElem?_cons_zero, Option.some.injEq] at hx'
        subst hx'
        have ka : 0 ≤ xorI za (g.2.1 % 2) ∧ xorI za (g.2.1 % 2) ≤ za + 1 := by unfold xorI Lt.xor1; split <;> (try split) <;> omega
        have kb : 0 ≤ xorI zb (g.2.2 % 2) ∧ xorI zb (g.2.2 % 2) ≤ zb + 1 := by unfold xorI Lt.xor1; split <;> (try split) <;> omega
        unfold badNode
        dsimp only
        omega
theorem cNet_ok {c : CirT} (h : GoodC' c) : PutOk (cNet c) c.seq c.max.toNat ∧ GoodNet (cNet c).1 := by
  have h1 := net_to h _ (Nat.le_refl _)
  rw [List.take_length] at h1
  exact h1
/-- All gates are told. -/
theorem ord_all {c : CirT} (h : GoodC' c) {i : Nat} (hi : i < c.gates.length) : i ∈ ordL c.gates := by
  refine Classical.byContradiction fun hn => ?_
  have hO := (ordL_is c.gates).1
  have h1 := nodup_le c.gates.length (i :: ordL c.gates) (List.nodup_cons.2 ⟨hn, hO.nodup⟩) (fun j hj => by
    rcases List.mem_cons.1 hj with rfl | hj
    · exact hi
    · exact hO.lt j hj)
  have := h.ord
  simp only [List.length_cons] at h1
  omega
theorem seq_all {c : CirT} (h : GoodC' c) {l : Int} (hl : l ∈ c.own) : l ∈ c.seq := by
  rcases List.mem_append.1 hl with h1 | h1
  · exact List.mem_append_left _ h1
  · obtain ⟨g, hg, rfl⟩ := List.mem_map.1 h1
    obtain ⟨i, hi⟩ := List.mem_iff_getElem?.1 hg
    exact List.mem_append_right _ (List.mem_map.2 ⟨i, ord_all h (lt_of_get hi), by rw [gAt_of hi]⟩)
end Go.Proofs.Ythpnahapiodflaa
namespace Go.Proofs.Ythpnahapiodflaa
open Go Go.Lt Go.RowKit
set_option linter.unusedVariables false
set_option linter.unusedSimpArgs false
set_option maxRecDepth 20000

/-- Two results: rows of one's own. -/
def IsFresh2 {α β : Type} (s : Nat) (enc : α → List Value) (el : TypeId) (t : Nat) (encb : β → List Value) (elb : TypeId) (w : World) (L : List α) (M : List β) (v : Value) (w' : World) : Prop :=
  Ext w w' ∧ ∃ a cap b cb, v = .tuple #[.slice a L.length cap, .slice b M.length cb] ∧ Own s enc el w.heap.size w' a cap L ∧ Own t encb elb w.heap.size w' b cb M

end Go.Proofs.Ythpnahapiodflaa
namespace Go.Proofs.Ythpnahapiodflaa
open Go Go.Lt Go.RowKit
set_option linter.unusedVariables false
set_option linter.unusedSimpArgs false
set_option maxRecDepth 20000

theorem ref11_lit (a : Option Addr) (cap : Nat) (A : List Int) (l z : Int) (w : World) (R : Row 1 encI w a A) (h0 : 0 ≤ l) (hl : l ≤ 4294967296) (hz : A[(l / 2).toNat]? = some z) (hz0 : 0 ≤ z ∧ z ≤ 4294967296) :
    Still Try.prog 118 [.slice a A.length cap, .int .i64 l] w (.int .i64 (litI A l)) := by
  have hlt := lt_of_get hz
  have e0 : litI A l = xorI z (l % 2) := by unfold litI; rw [getD_of hz]
  by_cases h : l % 2 = 1
  · refine Spec.of _ Try.func118 rfl Try.ntmps118 (by kernel_rfl) rfl ?_
    repeat' (first
      | (apply W.condKT; exact rfl; (focus (exact dec_true h; done)))
      | (show WL _ _ _ _ _ _ _; first | apply WL.nil | (refine WL.au (k := ?_)))
      | (show QL _ _ _ _ _ _ _; first | apply QL.nil | (refine QL.au (k := ?_)) | (apply QL.index tOk; exact rfl; exact rfl; exact rfl; exact rfl; exact rfl; exact rfl; exact rfl; exact rfl; assumption; (exact extA); exact rfl; omega; assumption; intro b off h; have hcc := h; first | (obtain ⟨h1, h2, h3, h4, h5, h6, _⟩ := h) | (obtain ⟨h1, h2, h3, _⟩ := h) | (obtain ⟨h1, h2, _⟩ := h) | (obtain ⟨h1, _⟩ := h)))
      | (show Z _ _ _ _ _; first | apply Z.then_normal | apply Z.then_ret)
      | (show W _ _ _ _ _ _; first | apply W.seq | apply W.region | apply W.ret | (apply W.regionD tMix; kernel_rfl)))
    exact Z.body1 Try.results118 rfl fun m => ⟨by rw [e0, h]; congr 1; unfold xorI Lt.xor1; split <;> (try split) <;> omega, m, rfl⟩
  · refine Spec.of _ Try.func118 rfl Try.ntmps118 (by kernel_rfl) rfl ?_
    repeat' (first
      | (apply W.condKF; exact rfl; (focus (exact dec_false h; done)))
      | (show WL _ _ _ _ _ _ _; first | apply WL.nil | (refine WL.au (k := ?_)) | (apply WL.index tOk; exact rfl; exact rfl; exact rfl; exact rfl; exact rfl; exact rfl; exact rfl; exact rfl; assumption; (exact extA); exact rfl; omega; assumption; intro b off h; have hcc := h; first | (obtain ⟨h1, h2, h3, h4, h5, h6, _⟩ := h) | (obtain ⟨h1, h2, h3, _⟩ := h) | (obtain ⟨h1, h2, _⟩ := h) | (obtain ⟨h1, _⟩ := h)))
      | (show Z _ _ _ _ _; apply Z.then_normal)
      | (show W _ _ _ _ _ _; first | apply W.seq | apply W.region | apply W.skip | apply W.ret))
    exact Z.body1 Try.results118 rfl fun m => ⟨by rw [e0]; congr 1; unfold xorI Lt.xor1; split <;> (try split) <;> omega, m, rfl⟩

theorem cIn_len (s : NA) (ls : List Int) : (cIn s ls).1.length = s.1.length + ls.length ∧ (cIn s ls).2.length = s.2.length := by
  induction ls generalizing s with
  | nil => exact ⟨rfl, rfl⟩
  | cons l ls ih =>
    have := ih (cput s l (-1, 0))
    refine ⟨?_, ?_⟩
    · show (cIn (cput s l (-1, 0)) ls).1.length = _
      rw [this.1]; simp [cput]; omega
    · show (cIn (cput s l (-1, 0)) ls).2.length = _
      rw [this.2]; simp [cput]
theorem cIn_take (s : NA) {ls : List Int} {k : Nat} {x : Int} (h : ls[k]? = some x) : cIn s (ls.take (k + 1)) = cput (cIn s (ls.take k)) x (-1, 0) := by rw [take_succ' h, cIn_snoc]
theorem at_snoc (k : Nat) : (0 :: List.replicate k (-1 : Int)) ++ [-1] = 0 :: List.replicate (k + 1) (-1) := by rw [List.replicate_succ', List.cons_append]

noncomputable def cS1 (c : CirT) (k : Nat) : NA := cIn ([], cAt0 c.max) (c.ins.take k)
noncomputable def cS2 (c : CirT) (k : Nat) : NA := cIn (cS1 c c.ins.length) ((c.lat.map (·.1)).take k)
noncomputable def cS3 (c : CirT) (k : Nat) : NA := cGates c.gates (cS2 c c.lat.length) ((ordL c.gates).take k)
theorem cS1_0 (c : CirT) : cS1 c 0 = ([], cAt0 c.max) := by unfold cS1; rw [List.take_zero]; rfl
theorem cS1_s {c : CirT} {k : Nat} {x : Int} (h : c.ins[k]? = some x) : cS1 c (k + 1) = cput (cS1 c k) x (-1, 0) := cIn_take _ h
theorem cS1_len (c : CirT) {k : Nat} (h : k ≤ c.ins.length) : (cS1 c k).1.length = k ∧ (cS1 c k).2.length = c.max.toNat + 1 := by
  have := cIn_len ([], cAt0 c.max) (c.ins.take k)
  refine ⟨by unfold cS1; rw [this.1, List.length_take]; simp; omega, by unfold cS1; rw [this.2]; simp [cAt0]⟩
theorem cS2_0 (c : CirT) : cS2 c 0 = cS1 c c.ins.length := by unfold cS2; rw [List.take_zero]; rfl
theorem cS2_s {c : CirT} {k : Nat} {x : T3} (h : c.lat[k]? = some x) : cS2 c (k + 1) = cput (cS2 c k) x.1 (-1, 0) := cIn_take _ (by rw [List.getElem?_map, h]; rfl)
theorem cS2_len (c : CirT) {k : Nat} (h : k ≤ c.lat.length) : (cS2 c k).1.length = c.ins.length + k ∧ (cS2 c k).2.length = c.max.toNat + 1 := by
  have := cIn_len (cS1 c c.ins.length) ((c.lat.map (·.1)).take k)
  have h1 := cS1_len c (Nat.le_refl c.ins.length)
  refine ⟨by unfold cS2; rw [this.1, h1.1, List.length_take, List.length_map]; omega, by unfold cS2; rw [this.2, h1.2]⟩
theorem cS2_all (c : CirT) : cS2 c c.lat.length = cIn ([], cAt0 c.max) c.inl := by
  unfold cS2 cS1
  rw [List.take_length, show c.lat.length = (c.lat.map (·.1)).length from (List.length_map _).symm, List.take_length]
  unfold cIn; rw [← List.foldl_append]
theorem cS3_0 (c : CirT) : cS3 c 0 = cS2 c c.lat.length := by unfold cS3; rw [List.take_zero]; rfl
theorem cS3_s {c : CirT} {k i : Nat} (h : (ordL c.gates)[k]? = some i) : cS3 c (k + 1) = cGate c.gates (cS3 c k) i := by unfold cS3; rw [take_succ' h, cGates_snoc]
theorem cS3_len (c : CirT) {k : Nat} (h : k ≤ (ordL c.gates).length) : (cS3 c k).1.length = c.ins.length + c.lat.length + k ∧ (cS3 c k).2.length = c.max.toNat + 1 := by
  induction k with
  | zero => rw [cS3_0]; exact cS2_len c (Nat.le_refl _)
  | succ k ih =>
    obtain ⟨i, hi⟩ := getI (ordL c.gates) (show k < _ by omega)
    have := ih (by omega)
    rw [cS3_s hi]
    refine ⟨?_, ?_⟩
    · show (_ ++ [_]).length = _
      rw [List.length_append, this.1, List.length_singleton]; omega
    · show (List.set _ _ _).length = _
      rw [List.length_set, this.2]
theorem cS3_all (c : CirT) : cS3 c (ordL c.gates).length = cNet c := by unfold cS3 cNet; rw [List.take_length, cS2_all]
/-- What a gate's two are, when it is put. -/
theorem cS3_get {c : CirT} (h : GoodC' c) {k i : Nat} (hi : (ordL c.gates)[k]? = some i) : ∃ g za zb, c.gates[i]? = some g ∧ (cS3 c k).2[(g.2.1 / 2).toNat]? = some za ∧ (cS3 c k).2[(g.2.2 / 2).toNat]? = some zb ∧ (0 ≤ za ∧ za ≤ 2 * ((cS3 c k).1.length : Int)) ∧ (0 ≤ zb ∧ zb ≤ 2 * ((cS3 c k).1.length : Int)) := by
  have hO := (ordL_is c.gates).1
  obtain ⟨g, hg, hn, hr⟩ := (hO k i hi).1
  have h1 := (net_to h k (Nat.le_of_lt (lt_of_get hi))).1
  have e : cGates c.gates (cIn ([], cAt0 c.max) c.inl) ((ordL c.gates).take k) = cS3 c k := by unfold cS3; rw [cS2_all]
  rw [e] at h1
  have hm' := List.mem_of_getElem? hg
  have ua : g.2.1 ∈ c.used := List.mem_append_right _ (List.mem_flatMap.2 ⟨g, hm', by simp⟩)
  have ub : g.2.2 ∈ c.used := List.mem_append_right _ (List.mem_flatMap.2 ⟨g, hm', by simp⟩)
  obtain ⟨za, a1, a2, _, a3⟩ := h1.ge (used_put h ua fun j x hx hj => (hr j x hx hj).1)
  obtain ⟨zb, b1, b2, _, b3⟩ := h1.ge (used_put h ub fun j x hx hj => (hr j x hx hj).2)
  exact ⟨g, za, zb, hg, a1, b1, ⟨a2, a3⟩, ⟨b2, b3⟩⟩

set_option maxHeartbeats 32000000 in
theorem ref11_Net (c : Circ) (w : World) (hC : CAt w c) (hg : GoodC' c.t) (hz : SzC c.t 100000) :
    Lt.Spec Try.prog 54 [c.val] w (IsFresh2 2 encN 104 1 encI 3 w (cNet c.t).1 (cNet c.t).2) := by
  have z1 : c.ins.2.2.length ≤ 100000 := hz.1
  have z2 : c.lat.2.2.length ≤ 100000 := hz.2.1
  have z6 : c.gates.2.2.length ≤ 100000 := hz.2.2.2.2.2
  have hm : 0 ≤ c.max ∧ c.max ≤ 16777216 := hg.max
  have hown : ∀ x ∈ c.t.own, 2 ≤ x ∧ x % 2 = 0 ∧ x ≤ 2 * c.max := hg.own
  have hused : ∀ x ∈ c.t.used, 0 ≤ x ∧ x ≤ 2 * c.max + 1 := hg.used
  refine Spec.of _ Try.func54 rfl Try.ntmps54 (by kernel_rfl) rfl ?_
  repeat' (first
    | (apply WL.box; exact rfl; exact rfl; exact rfl; intro gb w' hb hge hc hx; have hcc := hc; (first | (obtain ⟨h1, h2, h3, _⟩ := hc) | (obtain ⟨h1, h2, _⟩ := hc)); (have hcells := hcc; obtain ⟨y0, y1, y2, y3, y4, y5, y6, _⟩ := hcc; obtain ⟨gc, rfl⟩ : ∃ x, x = gb := ⟨_, rfl⟩; obtain ⟨wc, rfl⟩ : ∃ x, x = w' := ⟨_, rfl⟩; obtain ⟨hxc, rfl⟩ : ∃ x, x = hx := ⟨_, rfl⟩))
    | (apply WL.lit (len := 0) tOk; exact rfl; exact rfl; exact rfl; exact rfl; exact rfl; exact rfl; (first | exact rfl | kernel_rfl | (simp [Instr.fill, catCells]; done)); exact rfl; intro gb w' hb hge hc hx; have hO0 := Own.of_block0 (enc := encN) (s := 2) hb hge; (have hS1 : Lt.Sep wc.heap.size w' [prow 2 encN 104 wc.heap.size (some ⟨gb, 0, none⟩) 0 []] := Sep.none'.newRow' hx hO0 (Nat.le_refl _); obtain ⟨g0, rfl⟩ : ∃ x, x = gb := ⟨_, rfl⟩; obtain ⟨w0, rfl⟩ : ∃ x, x = w' := ⟨_, rfl⟩; obtain ⟨hx0, rfl⟩ : ∃ x, x = hx := ⟨_, rfl⟩))
    | (apply WL.lit tOk; exact rfl; exact rfl; exact rfl; exact rfl; exact rfl; exact rfl; (first | exact rfl | kernel_rfl | (simp [Instr.fill, catCells]; done)); exact rfl; intro gb w' hb hge hc hx; have hO := Own.of_block ([(0 : Int)]) encI_ok hb hge rfl; (have hS2 := hS1.newRow' (s := 1) (enc := encI) (el := 3) (cap := 1) (l := [0]) hx hO (Below.size hx0); obtain ⟨g1, rfl⟩ : ∃ x, x = gb := ⟨_, rfl⟩; obtain ⟨w1, rfl⟩ : ∃ x, x = w' := ⟨_, rfl⟩; obtain ⟨hx1, rfl⟩ : ∃ x, x = hx := ⟨_, rfl⟩))
    | (show WL _ _ _ _ _ _ _; first | apply WL.nil | (refine WL.au (k := ?_)))
    | (show Z _ _ _ _ _; apply Z.then_normal)
    | (show W _ _ _ _ _ _; first | apply W.seq | apply W.region | apply W.block))
  have hX1 : Ext w w1 := (by (exact extA))
  have Ri := hC.ins.row.ext hxc
  have Rl := hC.lat.row.ext hxc
  have Rg := hC.gates.row.ext hxc
  refine W.loopO c.max.toNat (fun k d dp w' => k ≤ c.max.toNat ∧ Ext wc w' ∧ Lt.Sep wc.heap.size w' [prow 1 encI 3 wc.heap.size d dp (0 :: List.replicate k (-1 : Int)), prow 2 encN 104 wc.heap.size (some ⟨g0, 0, none⟩) 0 []]) (fun k d dp => [(1, .pointer (some ⟨gc, 0, none⟩)), (4, .slice (some ⟨g0, 0, none⟩) 0 0), (5, .slice d (0 :: List.replicate k (-1 : Int)).length dp), (6, .int .i64 ((k : Int) + 1))]) (some ⟨g1, 0, none⟩) 1 ⟨Nat.zero_le _, (by (exact extA)), hS2⟩ (fun k d dp w' h => h.1) ⟨rfl, rfl, rfl, rfl, trivial⟩ ?_
  rintro k d dp w2 ⟨hk, hX2, hS⟩
  have hlk : (0 :: List.replicate k (-1 : Int)).length = k + 1 := by simp
  have hR0 := hS.row (i := 0) rfl
  have hR1 := hS.row (i := 1) rfl
  by_cases hlt : k < c.max.toNat
  · repeat' (first
      | (apply W.condKT; exact rfl; (focus (exact dec_true (by omega); done)))
      | (apply WL.lit tOk; exact rfl; exact rfl; exact rfl; exact rfl; exact rfl; exact rfl; (first | exact rfl | kernel_rfl | (simp [Instr.fill, catCells]; done)); exact rfl; intro gb w' hb hge hc hx)
      | (apply WL.append1 (z := ((-1 : Int))) tOk encI_ok; exact rfl; exact rfl; exact rfl; exact rfl; exact rfl; exact rfl; exact rfl; exact rfl; exact rfl; exact rfl; assumption; (exact extA); (first | exact rfl | (focus (simp only [List.length_set]; done)) | (focus (simp; done)) | (focus (simp [*]; done)) | omega | (focus (simp only [List.length_set]; omega))); (first | assumption | (refine Cells.ext ?_ (by assumption); exact extA)); exact rfl; exact rfl; (exact extA); (first | omega | (simp; omega) | (simp at *; omega)); intro a' cap' w' hO hX' hU hF; (first | replace hS := Sep.updRow (i := 0) rfl hU hO hF hS (by (exact extA)) (by (first | exact Nat.le_refl _ | exact Below.size (by (exact extA)))) | replace hS := Sep.updRow (i := 1) rfl hU hO hF hS (by (exact extA)) (by (first | exact Nat.le_refl _ | exact Below.size (by (exact extA)))) | replace hS := Sep.updRow (i := 2) rfl hU hO hF hS (by (exact extA)) (by (first | exact Nat.le_refl _ | exact Below.size (by (exact extA)))) | replace hS := Sep.updRow (i := 3) rfl hU hO hF hS (by (exact extA)) (by (first | exact Nat.le_refl _ | exact Below.size (by (exact extA)))) | replace hS := Sep.updRow (i := 4) rfl hU hO hF hS (by (exact extA)) (by (first | exact Nat.le_refl _ | exact Below.size (by (exact extA)))) | replace hS := Sep.updRow (i := 5) rfl hU hO hF hS (by (exact extA)) (by (first | exact Nat.le_refl _ | exact Below.size (by (exact extA))))); (try simp only [List.set_cons_zero, List.set_cons_succ] at hS); (try have hR0 := hS.row (i := 0) rfl); (try have hR1 := hS.row (i := 1) rfl); (try have hR2 := hS.row (i := 2) rfl); (try have hR3 := hS.row (i := 3) rfl); (try have hR4 := hS.row (i := 4) rfl); (try have hC0 := hS.cell (i := 0) rfl); (try have hD0 := (cells_heap hC0).1); (try have hE0 := (cells_heap hC0).2.1); (try have hF0 := (cells_heap hC0).2.2.1); (try have hG0 := (cells_heap hC0).2.2.2.1); (try have hC1 := hS.cell (i := 1) rfl); (try have hD1 := (cells_heap hC1).1); (try have hE1 := (cells_heap hC1).2.1); (try have hF1 := (cells_heap hC1).2.2.1); (try have hG1 := (cells_heap hC1).2.2.2.1); (try have hC2 := hS.cell (i := 2) rfl); (try have hD2 := (cells_heap hC2).1); (try have hE2 := (cells_heap hC2).2.1); (try have hF2 := (cells_heap hC2).2.2.1); (try have hG2 := (cells_heap hC2).2.2.2.1); (try have hC3 := hS.cell (i := 3) rfl); (try have hD3 := (cells_heap hC3).1); (try have hE3 := (cells_heap hC3).2.1); (try have hF3 := (cells_heap hC3).2.2.1); (try have hG3 := (cells_heap hC3).2.2.2.1); (try have hC4 := hS.cell (i := 4) rfl); (try have hD4 := (cells_heap hC4).1); (try have hE4 := (cells_heap hC4).2.1); (try have hF4 := (cells_heap hC4).2.2.1); (try have hG4 := (cells_heap hC4).2.2.2.1); (try have hM0 := hS.map (i := 0) rfl); (try have hM1 := hS.map (i := 1) rfl); (try have hM2 := hS.map (i := 2) rfl); (try have hM3 := hS.map (i := 3) rfl); (try have hM4 := hS.map (i := 4) rfl))
      | (show WL _ _ _ _ _ _ _; first | apply WL.nil | (refine WL.au (k := ?_)))
      | (show Z _ _ _ _ _; first | apply Z.then_normal | apply Z.block_normal)
      | (show W _ _ _ _ _ _; first | apply W.seq | apply W.region | apply W.block | apply W.skip))
    exact Z.againO a' cap' ⟨by omega, (by (exact extA)), by rw [← at_snoc]; exact hS⟩ ⟨rfl, rfl, by rw [← at_snoc]; exact rfl, rfl, trivial⟩
  obtain rfl : k = c.max.toNat := by omega
  repeat' (first
    | (apply W.condKF; exact rfl; (focus (exact dec_false (by omega); done)))
    | (show WL _ _ _ _ _ _ _; first | apply WL.nil | (refine WL.au (k := ?_)))
    | (show Z _ _ _ _ _; first | apply Z.then_normal | apply Z.then_exit | apply Z.block_exit)
    | (show W _ _ _ _ _ _; first | apply W.seq | apply W.region | apply W.block | apply W.exit))
  have hown1 : ∀ x ∈ c.ins.2.2, 2 ≤ x ∧ x % 2 = 0 ∧ x ≤ 2 * c.max := fun x hx => hown x (List.mem_append_left _ (List.mem_append_left _ hx))
  have hown2 : ∀ x ∈ c.lat.2.2, 2 ≤ x.1 ∧ x.1 % 2 = 0 ∧ x.1 ≤ 2 * c.max := fun x hx => hown x.1 (List.mem_append_left _ (List.mem_append_right _ (List.mem_map.2 ⟨x, hx, rfl⟩)))
  have e10 := cS1_0 c.t
  refine W.loopO2 c.ins.2.2.length (fun k a cp d dp w' => k ≤ c.ins.2.2.length ∧ Ext wc w' ∧ Lt.Sep wc.heap.size w' [prow 1 encI 3 wc.heap.size d dp (cS1 c.t k).2, prow 2 encN 104 wc.heap.size a cp (cS1 c.t k).1]) (fun k a cp d dp => [(1, .pointer (some ⟨gc, 0, none⟩)), (4, .slice a (cS1 c.t k).1.length cp), (5, .slice d (cS1 c.t k).2.length dp), (7, .int .i64 k)]) (some ⟨g0, 0, none⟩) 0 d dp ⟨Nat.zero_le _, hX2, by rw [e10]; exact hS⟩ (fun k a cp d dp w' h => h.1) (by rw [e10]; exact ⟨rfl, rfl, rfl, rfl, trivial⟩) ?_
  clear hS hR0 hR1 hX2
  rintro k a cp d dp w2 ⟨hk, hX2, hS⟩
  have hR0 := hS.row (i := 0) rfl
  have hR1 := hS.row (i := 1) rfl
  have hl1 : (cS1 c.t k).1.length = k ∧ (cS1 c.t k).2.length = c.max.toNat + 1 := cS1_len c.t hk
  by_cases hlt : k < c.ins.2.2.length
  · obtain ⟨x, hgx⟩ := getI c.ins.2.2 hlt
    have hxo := hown1 x (List.mem_of_getElem? hgx)
    have e1 := cS1_s (c := c.t) hgx
    obtain ⟨yv, hgy⟩ := getI (cS1 c.t k).2 (show (x / 2).toNat < _ by omega)
    repeat' (first
      | (apply W.condKT; exact rfl; (focus (exact dec_true (by omega); done)))
      | (apply WL.build tOk; exact rfl; exact rfl; exact rfl; exact rfl; exact rfl; exact rfl; exact rfl; kernel_rfl)
      | (apply WL.lit tOk; exact rfl; exact rfl; exact rfl; exact rfl; exact rfl; exact rfl; (first | exact rfl | kernel_rfl | (simp [Instr.fill, catCells]; done)); exact rfl; intro gb w' hb hge hc hx)
      | (apply WL.append1 (z := (((-1 : Int), (0 : Int)))) tOk encN_ok; exact rfl; exact rfl; exact rfl; exact rfl; exact rfl; exact rfl; exact rfl; exact rfl; exact rfl; exact rfl; assumption; (exact extA); (first | exact rfl | (focus (simp only [List.length_set]; done)) | (focus (simp; done)) | (focus (simp [*]; done)) | omega | (focus (simp only [List.length_set]; omega))); (first | assumption | (refine Cells.ext ?_ (by assumption); exact extA)); exact rfl; exact rfl; (exact extA); (first | omega | (simp; omega) | (simp at *; omega)); intro a' cap' w' hO hX' hU hF; (first | replace hS := Sep.updRow (i := 0) rfl hU hO hF hS (by (exact extA)) (by (first | exact Nat.le_refl _ | exact Below.size (by (exact extA)))) | replace hS := Sep.updRow (i := 1) rfl hU hO hF hS (by (exact extA)) (by (first | exact Nat.le_refl _ | exact Below.size (by (exact extA)))) | replace hS := Sep.updRow (i := 2) rfl hU hO hF hS (by (exact extA)) (by (first | exact Nat.le_refl _ | exact Below.size (by (exact extA)))) | replace hS := Sep.updRow (i := 3) rfl hU hO hF hS (by (exact extA)) (by (first | exact Nat.le_refl _ | exact Below.size (by (exact extA)))) | replace hS := Sep.updRow (i := 4) rfl hU hO hF hS (by (exact extA)) (by (first | exact Nat.le_refl _ | exact Below.size (by (exact extA)))) | replace hS := Sep.updRow (i := 5) rfl hU hO hF hS (by (exact extA)) (by (first | exact Nat.le_refl _ | exact Below.size (by (exact extA))))); (try simp only [List.set_cons_zero, List.set_cons_succ] at hS); (try have hR0 := hS.row (i := 0) rfl); (try have hR1 := hS.row (i := 1) rfl); (try have hR2 := hS.row (i := 2) rfl); (try have hR3 := hS.row (i := 3) rfl); (try have hR4 := hS.row (i := 4) rfl); (try have hC0 := hS.cell (i := 0) rfl); (try have hD0 := (cells_heap hC0).1); (try have hE0 := (cells_heap hC0).2.1); (try have hF0 := (cells_heap hC0).2.2.1); (try have hG0 := (cells_heap hC0).2.2.2.1); (try have hC1 := hS.cell (i := 1) rfl); (try have hD1 := (cells_heap hC1).1); (try have hE1 := (cells_heap hC1).2.1); (try have hF1 := (cells_heap hC1).2.2.1); (try have hG1 := (cells_heap hC1).2.2.2.1); (try have hC2 := hS.cell (i := 2) rfl); (try have hD2 := (cells_heap hC2).1); (try have hE2 := (cells_heap hC2).2.1); (try have hF2 := (cells_heap hC2).2.2.1); (try have hG2 := (cells_heap hC2).2.2.2.1); (try have hC3 := hS.cell (i := 3) rfl); (try have hD3 := (cells_heap hC3).1); (try have hE3 := (cells_heap hC3).2.1); (try have hF3 := (cells_heap hC3).2.2.1); (try have hG3 := (cells_heap hC3).2.2.2.1); (try have hC4 := hS.cell (i := 4) rfl); (try have hD4 := (cells_heap hC4).1); (try have hE4 := (cells_heap hC4).2.1); (try have hF4 := (cells_heap hC4).2.2.1); (try have hG4 := (cells_heap hC4).2.2.2.1); (try have hM0 := hS.map (i := 0) rfl); (try have hM1 := hS.map (i := 1) rfl); (try have hM2 := hS.map (i := 2) rfl); (try have hM3 := hS.map (i := 3) rfl); (try have hM4 := hS.map (i := 4) rfl))
      | (show WL _ _ _ _ _ _ _; first | apply WL.nil | (refine WL.au (k := ?_)) | (apply WL.index tOk; exact rfl; exact rfl; exact rfl; exact rfl; exact rfl; exact rfl; exact rfl; exact rfl; assumption; (exact extA); exact rfl; omega; assumption; intro b off h; have hcc := h; first | (obtain ⟨h1, h2, h3, h4, h5, h6, _⟩ := h) | (obtain ⟨h1, h2, h3, _⟩ := h) | (obtain ⟨h1, h2, _⟩ := h) | (obtain ⟨h1, _⟩ := h)))
      | (show Z _ _ _ _ _; apply Z.then_normal)
      | (show W _ _ _ _ _ _; first | apply W.seq | apply W.region | apply W.block | apply W.skip))
    have le3 : ((cS1 c.t k).1 ++ [((-1 : Int), (0 : Int))]).length = k + 1 := by rw [List.length_append, hl1.1]; rfl
    have le5 : 2 * (((cS1 c.t k).1 ++ [((-1 : Int), (0 : Int))]).length : Int) = 2 * (((cS1 c.t k).1.length : Int) + 1) := by rw [le3, hl1.1]; rfl
    obtain ⟨a2, rfl⟩ : ∃ x, x = a' := ⟨_, rfl⟩; obtain ⟨cp2, rfl⟩ : ∃ x, x = cap' := ⟨_, rfl⟩
    repeat' (first
      | (apply WL.storeO (z' := (2 * (((cS1 c.t k).1 ++ [((-1 : Int), (0 : Int))]).length : Int))) tOk; exact rfl; exact rfl; exact rfl; exact rfl; assumption; (exact extA); exact rfl; exact rfl; exact rfl; exact encI_ok; assumption; exact rfl; (exact extA); intro w' hO hX' hU; (first | replace hS := Sep.updRow (i := 0) rfl hU hO (.inl rfl) hS (by (exact extA)) (by (first | exact Nat.le_refl _ | exact Below.size (by (exact extA)))) | replace hS := Sep.updRow (i := 1) rfl hU hO (.inl rfl) hS (by (exact extA)) (by (first | exact Nat.le_refl _ | exact Below.size (by (exact extA)))) | replace hS := Sep.updRow (i := 2) rfl hU hO (.inl rfl) hS (by (exact extA)) (by (first | exact Nat.le_refl _ | exact Below.size (by (exact extA)))) | replace hS := Sep.updRow (i := 3) rfl hU hO (.inl rfl) hS (by (exact extA)) (by (first | exact Nat.le_refl _ | exact Below.size (by (exact extA)))) | replace hS := Sep.updRow (i := 4) rfl hU hO (.inl rfl) hS (by (exact extA)) (by (first | exact Nat.le_refl _ | exact Below.size (by (exact extA)))) | replace hS := Sep.updRow (i := 5) rfl hU hO (.inl rfl) hS (by (exact extA)) (by (first | exact Nat.le_refl _ | exact Below.size (by (exact extA))))); (try simp only [List.set_cons_zero, List.set_cons_succ] at hS); (try have hR0 := hS.row (i := 0) rfl); (try have hR1 := hS.row (i := 1) rfl); (try have hR2 := hS.row (i := 2) rfl); (try have hR3 := hS.row (i := 3) rfl); (try have hR4 := hS.row (i := 4) rfl); (try have hC0 := hS.cell (i := 0) rfl); (try have hD0 := (cells_heap hC0).1); (try have hE0 := (cells_heap hC0).2.1); (try have hF0 := (cells_heap hC0).2.2.1); (try have hG0 := (cells_heap hC0).2.2.2.1); (try have hC1 := hS.cell (i := 1) rfl); (try have hD1 := (cells_heap hC1).1); (try have hE1 := (cells_heap hC1).2.1); (try have hF1 := (cells_heap hC1).2.2.1); (try have hG1 := (cells_heap hC1).2.2.2.1); (try have hC2 := hS.cell (i := 2) rfl); (try have hD2 := (cells_heap hC2).1); (try have hE2 := (cells_heap hC2).2.1); (try have hF2 := (cells_heap hC2).2.2.1); (try have hG2 := (cells_heap hC2).2.2.2.1); (try have hC3 := hS.cell (i := 3) rfl); (try have hD3 := (cells_heap hC3).1); (try have hE3 := (cells_heap hC3).2.1); (try have hF3 := (cells_heap hC3).2.2.1); (try have hG3 := (cells_heap hC3).2.2.2.1); (try have hC4 := hS.cell (i := 4) rfl); (try have hD4 := (cells_heap hC4).1); (try have hE4 := (cells_heap hC4).2.1); (try have hF4 := (cells_heap hC4).2.2.1); (try have hG4 := (cells_heap hC4).2.2.2.1); (try have hM0 := hS.map (i := 0) rfl); (try have hM1 := hS.map (i := 1) rfl); (try have hM2 := hS.map (i := 2) rfl); (try have hM3 := hS.map (i := 3) rfl); (try have hM4 := hS.map (i := 4) rfl))
      | (apply WL.indexO tOk; exact rfl; exact rfl; exact rfl; exact rfl; exact rfl; exact rfl; exact rfl; exact rfl; assumption; (exact extA); exact encI_ok; (first | exact rfl | (focus (simp only [List.length_set]; done)) | (focus (simp; done)) | (focus (simp [*]; done)) | omega | (focus (simp only [List.length_set]; omega))); omega; assumption; intro gb ha hc; cases ha; have hcc := hc; first | (obtain ⟨h1, h2, h3, _⟩ := hc) | (obtain ⟨h1, h2, _⟩ := hc) | (obtain ⟨h1, _⟩ := hc))
      | (show WL _ _ _ _ _ _ _; first | apply WL.nil | (refine WL.au (k := ?_)))
      | (show Z _ _ _ _ _; first | apply Z.then_normal | apply Z.block_normal)
      | (show W _ _ _ _ _ _; apply W.region))
    rw [le5] at hS
    exact Z.againO2 a2 cp2 (some ⟨gb, 0, none⟩) dp ⟨by omega, (by (exact extA)), by rw [e1]; exact hS⟩ (by repeat' first | exact trivial | (refine And.intro ?_ ?_) | exact rfl | (rw [e1]; exact rfl) | (rw [e1]; show _ = some (Value.slice _ (List.set _ _ _).length _); rw [List.length_set]; exact rfl))
  obtain rfl : k = c.ins.2.2.length := by omega
  repeat' (first
    | (apply W.condKF; exact rfl; (focus (exact dec_false (by omega); done)))
    | (show WL _ _ _ _ _ _ _; first | apply WL.nil | (refine WL.au (k := ?_)))
    | (show Z _ _ _ _ _; first | apply Z.then_normal | apply Z.then_exit | apply Z.block_exit)
    | (show W _ _ _ _ _ _; first | apply W.seq | apply W.region | apply W.block | apply W.exit))
  have e20 := cS2_0 c.t
  have e20 : cS2 c.t 0 = cS1 c.t c.ins.2.2.length := e20
  refine W.loopO2 c.lat.2.2.length (fun k a cp d dp w' => k ≤ c.lat.2.2.length ∧ Ext wc w' ∧ Lt.Sep wc.heap.size w' [prow 1 encI 3 wc.heap.size d dp (cS2 c.t k).2, prow 2 encN 104 wc.heap.size a cp (cS2 c.t k).1]) (fun k a cp d dp => [(1, .pointer (some ⟨gc, 0, none⟩)), (4, .slice a (cS2 c.t k).1.length cp), (5, .slice d (cS2 c.t k).2.length dp), (8, .int .i64 k)]) a cp d dp ⟨Nat.zero_le _, hX2, by rw [e20]; exact hS⟩ (fun k a cp d dp w' h => h.1) (by rw [e20]; exact ⟨rfl, rfl, rfl, rfl, trivial⟩) ?_
  clear hS hR0 hR1 hX2 hl1 hk
  rintro k a cp d dp w2 ⟨hk, hX2, hS⟩
  have hR0 := hS.row (i := 0) rfl
  have hR1 := hS.row (i := 1) rfl
  have hl1 : (cS2 c.t k).1.length = c.ins.2.2.length + k ∧ (cS2 c.t k).2.length = c.max.toNat + 1 := cS2_len c.t hk
  by_cases hlt : k < c.lat.2.2.length
  · obtain ⟨x, hgx⟩ := getI c.lat.2.2 hlt
    have hxo := hown2 x (List.mem_of_getElem? hgx)
    have e1 := cS2_s (c := c.t) hgx
    obtain ⟨yv, hgy⟩ := getI (cS2 c.t k).2 (show (x.1 / 2).toNat < _ by omega)
    have le3 : ((cS2 c.t k).1 ++ [((-1 : Int), (0 : Int))]).length = c.ins.2.2.length + k + 1 := by rw [List.length_append, hl1.1]; rfl
    have le5 : 2 * (((cS2 c.t k).1 ++ [((-1 : Int), (0 : Int))]).length : Int) = 2 * (((cS2 c.t k).1.length : Int) + 1) := by rw [le3, hl1.1]; rfl
    repeat' (first
      | (apply W.condKT; exact rfl; (focus (exact dec_true (by omega); done)))
      | (apply WL.build tOk; exact rfl; exact rfl; exact rfl; exact rfl; exact rfl; exact rfl; exact rfl; kernel_rfl)
      | (apply WL.lit tOk; exact rfl; exact rfl; exact rfl; exact rfl; exact rfl; exact rfl; (first | exact rfl | kernel_rfl | (simp [Instr.fill, catCells]; done)); exact rfl; intro gb w' hb hge hc hx)
      | (apply WL.append1 (z := (((-1 : Int), (0 : Int)))) tOk encN_ok; exact rfl; exact rfl; exact rfl; exact rfl; exact rfl; exact rfl; exact rfl; exact rfl; exact rfl; exact rfl; assumption; (exact extA); (first | exact rfl | (focus (simp only [List.length_set]; done)) | (focus (simp; done)) | (focus (simp [*]; done)) | omega | (focus (simp only [List.length_set]; omega))); (first | assumption | (refine Cells.ext ?_ (by assumption); exact extA)); exact rfl; exact rfl; (exact extA); (first | omega | (simp; omega) | (simp at *; omega)); intro a' cap' w' hO hX' hU hF; (first | replace hS := Sep.updRow (i := 0) rfl hU hO hF hS (by (exact extA)) (by (first | exact Nat.le_refl _ | exact Below.size (by (exact extA)))) | replace hS := Sep.updRow (i := 1) rfl hU hO hF hS (by (exact extA)) (by (first | exact Nat.le_refl _ | exact Below.size (by (exact extA)))) | replace hS := Sep.updRow (i := 2) rfl hU hO hF hS (by (exact extA)) (by (first | exact Nat.le_refl _ | exact Below.size (by (exact extA)))) | replace hS := Sep.updRow (i := 3) rfl hU hO hF hS (by (exact extA)) (by (first | exact Nat.le_refl _ | exact Below.size (by (exact extA)))) | replace hS := Sep.updRow (i := 4) rfl hU hO hF hS (by (exact extA)) (by (first | exact Nat.le_refl _ | exact Below.size (by (exact extA)))) | replace hS := Sep.updRow (i := 5) rfl hU hO hF hS (by (exact extA)) (by (first | exact Nat.le_refl _ | exact Below.size (by (exact extA))))); (try simp only [List.set_cons_zero, List.set_cons_succ] at hS); (try have hR0 := hS.row (i := 0) rfl); (try have hR1 := hS.row (i := 1) rfl); (try have hR2 := hS.row (i := 2) rfl); (try have hR3 := hS.row (i := 3) rfl); (try have hR4 := hS.row (i := 4) rfl); (try have hC0 := hS.cell (i := 0) rfl); (try have hD0 := (cells_heap hC0).1); (try have hE0 := (cells_heap hC0).2.1); (try have hF0 := (cells_heap hC0).2.2.1); (try have hG0 := (cells_heap hC0).2.2.2.1); (try have hC1 := hS.cell (i := 1) rfl); (try have hD1 := (cells_heap hC1).1); (try have hE1 := (cells_heap hC1).2.1); (try have hF1 := (cells_heap hC1).2.2.1); (try have hG1 := (cells_heap hC1).2.2.2.1); (try have hC2 := hS.cell (i := 2) rfl); (try have hD2 := (cells_heap hC2).1); (try have hE2 := (cells_heap hC2).2.1); (try have hF2 := (cells_heap hC2).2.2.1); (try have hG2 := (cells_heap hC2).2.2.2.1); (try have hC3 := hS.cell (i := 3) rfl); (try have hD3 := (cells_heap hC3).1); (try have hE3 := (cells_heap hC3).2.1); (try have hF3 := (cells_heap hC3).2.2.1); (try have hG3 := (cells_heap hC3).2.2.2.1); (try have hC4 := hS.cell (i := 4) rfl); (try have hD4 := (cells_heap hC4).1); (try have hE4 := (cells_heap hC4).2.1); (try have hF4 := (cells_heap hC4).2.2.1); (try have hG4 := (cells_heap hC4).2.2.2.1); (try have hM0 := hS.map (i := 0) rfl); (try have hM1 := hS.map (i := 1) rfl); (try have hM2 := hS.map (i := 2) rfl); (try have hM3 := hS.map (i := 3) rfl); (try have hM4 := hS.map (i := 4) rfl))
      | (show WL _ _ _ _ _ _ _; first | apply WL.nil | (refine WL.au (k := ?_)) | (apply WL.index tOk; exact rfl; exact rfl; exact rfl; exact rfl; exact rfl; exact rfl; exact rfl; exact rfl; assumption; (exact extA); exact rfl; omega; assumption; intro b off h; have hcc := h; first | (obtain ⟨h1, h2, h3, h4, h5, h6, _⟩ := h) | (obtain ⟨h1, h2, h3, _⟩ := h) | (obtain ⟨h1, h2, _⟩ := h) | (obtain ⟨h1, _⟩ := h)))
      | (show Z _ _ _ _ _; apply Z.then_normal)
      | (show W _ _ _ _ _ _; first | apply W.seq | apply W.region | apply W.block | apply W.skip))
    obtain ⟨a2, rfl⟩ : ∃ x, x = a' := ⟨_, rfl⟩; obtain ⟨cp2, rfl⟩ : ∃ x, x = cap' := ⟨_, rfl⟩
    repeat' (first
      | (apply WL.storeO (z' := (2 * (((cS2 c.t k).1 ++ [((-1 : Int), (0 : Int))]).length : Int))) tOk; exact rfl; exact rfl; exact rfl; exact rfl; assumption; (exact extA); exact rfl; exact rfl; exact rfl; exact encI_ok; assumption; exact rfl; (exact extA); intro w' hO hX' hU; (first | replace hS := Sep.updRow (i := 0) rfl hU hO (.inl rfl) hS (by (exact extA)) (by (first | exact Nat.le_refl _ | exact Below.size (by (exact extA)))) | replace hS := Sep.updRow (i := 1) rfl hU hO (.inl rfl) hS (by (exact extA)) (by (first | exact Nat.le_refl _ | exact Below.size (by (exact extA)))) | replace hS := Sep.updRow (i := 2) rfl hU hO (.inl rfl) hS (by (exact extA)) (by (first | exact Nat.le_refl _ | exact Below.size (by (exact extA)))) | replace hS := Sep.updRow (i := 3) rfl hU hO (.inl rfl) hS (by (exact extA)) (by (first | exact Nat.le_refl _ | exact Below.size (by (exact extA)))) | replace hS := Sep.updRow (i := 4) rfl hU hO (.inl rfl) hS (by (exact extA)) (by (first | exact Nat.le_refl _ | exact Below.size (by (exact extA)))) | replace hS := Sep.updRow (i := 5) rfl hU hO (.inl rfl) hS (by (exact extA)) (by (first | exact Nat.le_refl _ | exact Below.size (by (exact extA))))); (try simp only [List.set_cons_zero, List.set_cons_succ] at hS); (try have hR0 := hS.row (i := 0) rfl); (try have hR1 := hS.row (i := 1) rfl); (try have hR2 := hS.row (i := 2) rfl); (try have hR3 := hS.row (i := 3) rfl); (try have hR4 := hS.row (i := 4) rfl); (try have hC0 := hS.cell (i := 0) rfl); (try have hD0 := (cells_heap hC0).1); (try have hE0 := (cells_heap hC0).2.1); (try have hF0 := (cells_heap hC0).2.2.1); (try have hG0 := (cells_heap hC0).2.2.2.1); (try have hC1 := hS.cell (i := 1) rfl); (try have hD1 := (cells_heap hC1).1); (try have hE1 := (cells_heap hC1).2.1); (try have hF1 := (cells_heap hC1).2.2.1); (try have hG1 := (cells_heap hC1).2.2.2.1); (try have hC2 := hS.cell (i := 2) rfl); (try have hD2 := (cells_heap hC2).1); (try have hE2 := (cells_heap hC2).2.1); (try have hF2 := (cells_heap hC2).2.2.1); (try have hG2 := (cells_heap hC2).2.2.2.1); (try have hC3 := hS.cell (i := 3) rfl); (try have hD3 := (cells_heap hC3).1); (try have hE3 := (cells_heap hC3).2.1); (try have hF3 := (cells_heap hC3).2.2.1); (try have hG3 := (cells_heap hC3).2.2.2.1); (try have hC4 := hS.cell (i := 4) rfl); (try have hD4 := (cells_heap hC4).1); (try have hE4 := (cells_heap hC4).2.1); (try have hF4 := (cells_heap hC4).2.2.1); (try have hG4 := (cells_heap hC4).2.2.2.1); (try have hM0 := hS.map (i := 0) rfl); (try have hM1 := hS.map (i := 1) rfl); (try have hM2 := hS.map (i := 2) rfl); (try have hM3 := hS.map (i := 3) rfl); (try have hM4 := hS.map (i := 4) rfl))
      | (apply WL.indexO tOk; exact rfl; exact rfl; exact rfl; exact rfl; exact rfl; exact rfl; exact rfl; exact rfl; assumption; (exact extA); exact encI_ok; (first | exact rfl | (focus (simp only [List.length_set]; done)) | (focus (simp; done)) | (focus (simp [*]; done)) | omega | (focus (simp only [List.length_set]; omega))); omega; assumption; intro gb ha hc; cases ha; have hcc := hc; first | (obtain ⟨h1, h2, h3, _⟩ := hc) | (obtain ⟨h1, h2, _⟩ := hc) | (obtain ⟨h1, _⟩ := hc))
      | (show WL _ _ _ _ _ _ _; first | apply WL.nil | (refine WL.au (k := ?_)))
      | (show Z _ _ _ _ _; first | apply Z.then_normal | apply Z.block_normal)
      | (show W _ _ _ _ _ _; apply W.region))
    rw [le5] at hS
    exact Z.againO2 a2 cp2 (some ⟨gb, 0, none⟩) dp ⟨by omega, (by (exact extA)), by rw [e1]; exact hS⟩ (by repeat' first | exact trivial | (refine And.intro ?_ ?_) | exact rfl | (rw [e1]; exact rfl) | (rw [e1]; show _ = some (Value.slice _ (List.set _ _ _).length _); rw [List.length_set]; exact rfl))
  obtain rfl : k = c.lat.2.2.length := by omega
  have hgm : ∀ g ∈ c.gates.2.2, g.1 ∈ c.t.own ∧ g.2.1 ∈ c.t.used ∧ g.2.2 ∈ c.t.used := fun g hg =>
    ⟨List.mem_append.2 (.inr (List.mem_map.2 ⟨g, hg, rfl⟩)), List.mem_append.2 (.inr (List.mem_flatMap.2 ⟨g, hg, by simp⟩)), List.mem_append.2 (.inr (List.mem_flatMap.2 ⟨g, hg, by simp⟩))⟩
  have hok : gsOk c.gates.2.2 := fun g hg => by
    obtain ⟨r1, r2, r3⟩ := hgm g hg
    have := hown _ r1
    have := hused _ r2
    have := hused _ r3
    omega
  have hcells2 := hcells.ext hX2
  repeat' (first
    | (apply W.condKF; exact rfl; (focus (exact dec_false (by omega); done)))
    | ((show WL _ _ _ (⟨_, .call ⟨.value (.func 90), _, _⟩, _, _, _, _⟩ :: _) _ _ _); apply WL.call; exact rfl; exact rfl; exact rfl; exact rfl; exact ref11_Order c _ (Rg.ext (by (exact extA))) hok (by omega); rintro v' w' ⟨hx, a', cap', rfl, hO⟩; (obtain ⟨hOd, rfl⟩ : ∃ x, x = hO := ⟨_, rfl⟩; obtain ⟨hxd, rfl⟩ : ∃ x, x = hx := ⟨_, rfl⟩; obtain ⟨wd, rfl⟩ : ∃ x, x = w' := ⟨_, rfl⟩; obtain ⟨ad, rfl⟩ : ∃ x, x = a' := ⟨_, rfl⟩; obtain ⟨cd, rfl⟩ : ∃ x, x = cap' := ⟨_, rfl⟩))
    | (show WL _ _ _ _ _ _ _; first | apply WL.nil | (refine WL.au (k := ?_)))
    | (show Z _ _ _ _ _; first | apply Z.then_normal | apply Z.then_exit | apply Z.block_exit)
    | (show W _ _ _ _ _ _; first | apply W.seq | apply W.region | apply W.block | apply W.exit))
  have hS := hS.newRow' hxd hOd (Below.size hX2)
  have hXd : Ext wc wd := (by (exact extA))
  have e30 : cS3 c.t 0 = cS2 c.t c.lat.2.2.length := cS3_0 c.t
  have hnl : (natI (ordL c.gates.2.2)).length = (ordL c.gates.2.2).length := by simp [natI]
  refine W.loopO2 (ordL c.gates.2.2).length (fun k a cp d dp w' => k ≤ (ordL c.gates.2.2).length ∧ Ext wc w' ∧ Lt.Sep wc.heap.size w' [prow 1 encI 3 wc.heap.size ad cd (natI (ordL c.gates.2.2)), prow 1 encI 3 wc.heap.size d dp (cS3 c.t k).2, prow 2 encN 104 wc.heap.size a cp (cS3 c.t k).1]) (fun k a cp d dp => [(1, .pointer (some ⟨gc, 0, none⟩)), (4, .slice a (cS3 c.t k).1.length cp), (5, .slice d (cS3 c.t k).2.length dp), (9, .slice ad (natI (ordL c.gates.2.2)).length cd), (10, .int .i64 k)]) a cp d dp ⟨Nat.zero_le _, hXd, by rw [e30]; exact hS⟩ (fun k a cp d dp w' h => h.1) (by rw [e30]; exact ⟨rfl, rfl, rfl, rfl, rfl, trivial⟩) ?_
  have hol : (ordL c.gates.2.2).length ≤ c.gates.2.2.length := (ordL_is c.gates.2.2).1.le
  clear hS hR0 hR1 hX2 hl1 hk hXd
  rintro k a cp d dp w2 ⟨hk, hX2, hS⟩
  have hR0 := hS.row (i := 0) rfl
  have hR1 := hS.row (i := 1) rfl
  have hR2 := hS.row (i := 2) rfl
  have RO := Own.row encI_ok hR0
  have hl1 : (cS3 c.t k).1.length = c.ins.2.2.length + c.lat.2.2.length + k ∧ (cS3 c.t k).2.length = c.max.toNat + 1 := cS3_len c.t hk
  by_cases hlt : k < (ordL c.gates.2.2).length
  · obtain ⟨i, hi⟩ := getI (ordL c.gates.2.2) hlt
    obtain ⟨g, za, zb, hgg, hza, hzb, ka, kb⟩ := cS3_get hg (c := c.t) hi
    have hgg : c.gates.2.2[i]? = some g := hgg
    have hgo := hok g (List.mem_of_getElem? hgg)
    have hgw := hown g.1 (hgm g (List.mem_of_getElem? hgg)).1
    have hgl := lt_of_get hgg
    have hni : (natI (ordL c.gates.2.2))[k]? = some (i : Int) := by rw [natI, List.getElem?_map, hi]; rfl
    obtain ⟨yv, hgy⟩ := getI (cS3 c.t k).2 (show (g.1 / 2).toNat < _ by omega)
    have e1 : cS3 c.t (k + 1) = cput (cS3 c.t k) g.1 (litI (cS3 c.t k).2 g.2.1, litI (cS3 c.t k).2 g.2.2) := by rw [cS3_s (c := c.t) hi]; unfold cGate; rw [gAt_of hgg]
    have le3 : ((cS3 c.t k).1 ++ [(litI (cS3 c.t k).2 g.2.1, litI (cS3 c.t k).2 g.2.2)]).length = c.ins.2.2.length + c.lat.2.2.length + k + 1 := by rw [List.length_append, hl1.1]; rfl
    have le5 : 2 * (((cS3 c.t k).1 ++ [(litI (cS3 c.t k).2 g.2.1, litI (cS3 c.t k).2 g.2.2)]).length : Int) = 2 * (((cS3 c.t k).1.length : Int) + 1) := by rw [le3, hl1.1]; rfl
    have y6w : w2.cell? ⟨gc, 0 + 1 + 1 + 1 + 1 + 1 + 1, none⟩ = some (rowVal c.gates) := (hcells.ext hX2).2.2.2.2.2.2.1
    have Rg2 := Rg.ext hX2
    repeat' (first
      | (apply W.condKT; exact rfl; (focus (exact dec_true (by omega); done)))
      | (show W _ _ (.region 20 _ _) _ _ _; apply W.regionGX (.fl true 0 (.fl true 2 (.fl true 3 (.fl true 4 (.fl false 1 (.fl false 5 (.fl true 6 (.fl false 7 (.br 8 (.br 9 .done .stop) .stop))))))))) [5, 7, 8] tMix; kernel_rfl)
      | (apply WL.alloc tOk; exact rfl; exact rfl; exact rfl; intro gb w' hb hge hx; replace hS := Sep.newCell (Sep.ext hS (by (exact extA))) hx hb hge (by (first | exact Nat.le_refl _ | exact Below.size (by (exact extA)))); (try simp only [List.set_cons_zero, List.set_cons_succ] at hS); (try have hR0 := hS.row (i := 0) rfl); (try have hR1 := hS.row (i := 1) rfl); (try have hR2 := hS.row (i := 2) rfl); (try have hR3 := hS.row (i := 3) rfl); (try have hR4 := hS.row (i := 4) rfl); (try have hC0 := hS.cell (i := 0) rfl); (try have hD0 := (cells_heap hC0).1); (try have hE0 := (cells_heap hC0).2.1); (try have hF0 := (cells_heap hC0).2.2.1); (try have hG0 := (cells_heap hC0).2.2.2.1); (try have hC1 := hS.cell (i := 1) rfl); (try have hD1 := (cells_heap hC1).1); (try have hE1 := (cells_heap hC1).2.1); (try have hF1 := (cells_heap hC1).2.2.1); (try have hG1 := (cells_heap hC1).2.2.2.1); (try have hC2 := hS.cell (i := 2) rfl); (try have hD2 := (cells_heap hC2).1); (try have hE2 := (cells_heap hC2).2.1); (try have hF2 := (cells_heap hC2).2.2.1); (try have hG2 := (cells_heap hC2).2.2.2.1); (try have hC3 := hS.cell (i := 3) rfl); (try have hD3 := (cells_heap hC3).1); (try have hE3 := (cells_heap hC3).2.1); (try have hF3 := (cells_heap hC3).2.2.1); (try have hG3 := (cells_heap hC3).2.2.2.1); (try have hC4 := hS.cell (i := 4) rfl); (try have hD4 := (cells_heap hC4).1); (try have hE4 := (cells_heap hC4).2.1); (try have hF4 := (cells_heap hC4).2.2.1); (try have hG4 := (cells_heap hC4).2.2.2.1); (try have hM0 := hS.map (i := 0) rfl); (try have hM1 := hS.map (i := 1) rfl); (try have hM2 := hS.map (i := 2) rfl); (try have hM3 := hS.map (i := 3) rfl); (try have hM4 := hS.map (i := 4) rfl))
      | (apply WL.storeB (w0 := wc) tOk; exact rfl; exact rfl; exact rfl; exact rfl; assumption; (exact extA); exact rfl; exact rfl; exact rfl; (exact extA); (first | assumption | omega | (focus (apply Nat.le_trans; rotate_left; assumption; exact Below.size (by (exact extA)); done))); intro w' hb hc hX' hU; have hcc := hc; obtain ⟨h1, h2, _⟩ := hc; replace hS := Sep.updCell (i := 0) rfl hU hb hS (by (exact extA)) (by (first | exact Nat.le_refl _ | exact Below.size (by (exact extA)))); (try simp only [List.set_cons_zero, List.set_cons_succ] at hS); (try have hR0 := hS.row (i := 0) rfl); (try have hR1 := hS.row (i := 1) rfl); (try have hR2 := hS.row (i := 2) rfl); (try have hR3 := hS.row (i := 3) rfl); (try have hR4 := hS.row (i := 4) rfl); (try have hC0 := hS.cell (i := 0) rfl); (try have hD0 := (cells_heap hC0).1); (try have hE0 := (cells_heap hC0).2.1); (try have hF0 := (cells_heap hC0).2.2.1); (try have hG0 := (cells_heap hC0).2.2.2.1); (try have hC1 := hS.cell (i := 1) rfl); (try have hD1 := (cells_heap hC1).1); (try have hE1 := (cells_heap hC1).2.1); (try have hF1 := (cells_heap hC1).2.2.1); (try have hG1 := (cells_heap hC1).2.2.2.1); (try have hC2 := hS.cell (i := 2) rfl); (try have hD2 := (cells_heap hC2).1); (try have hE2 := (cells_heap hC2).2.1); (try have hF2 := (cells_heap hC2).2.2.1); (try have hG2 := (cells_heap hC2).2.2.2.1); (try have hC3 := hS.cell (i := 3) rfl); (try have hD3 := (cells_heap hC3).1); (try have hE3 := (cells_heap hC3).2.1); (try have hF3 := (cells_heap hC3).2.2.1); (try have hG3 := (cells_heap hC3).2.2.2.1); (try have hC4 := hS.cell (i := 4) rfl); (try have hD4 := (cells_heap hC4).1); (try have hE4 := (cells_heap hC4).2.1); (try have hF4 := (cells_heap hC4).2.2.1); (try have hG4 := (cells_heap hC4).2.2.2.1); (try have hM0 := hS.map (i := 0) rfl); (try have hM1 := hS.map (i := 1) rfl); (try have hM2 := hS.map (i := 2) rfl); (try have hM3 := hS.map (i := 3) rfl); (try have hM4 := hS.map (i := 4) rfl))
      | (show SX _ _ _ _ _ _ _ _ _; first | (apply SX.done; intro w' hx) | (apply SX.fl0; exact rfl) | (apply SX.fl1; exact rfl; (exact extA)) | (apply SX.br1; exact rfl; intro w' hx))
      | (show FL _ _ _ _ _ _ _ _; first | apply FL.nilX | (apply FL.loadE tOk; exact rfl; exact rfl; exact rfl; exact rfl; exact rfl; assumption) | (apply FL.loadAE tOk; exact rfl; exact rfl; exact rfl; exact rfl; exact rfl; assumption; exact rfl) | (apply FL.indexE tOk; exact rfl; exact rfl; exact rfl; exact rfl; exact rfl; exact rfl; exact rfl; exact rfl; assumption; exact rfl; omega; assumption; intro b off h; have hcc := h; first | (obtain ⟨h1, h2, h3, h4, h5, h6, _⟩ := h) | (obtain ⟨h1, h2, h3, _⟩ := h) | (obtain ⟨h1, h2, _⟩ := h) | (obtain ⟨h1, _⟩ := h)))
      | (show FL _ _ _ _ _ _ _ _; (refine FL.au (k := ?_)))
      | (show Z _ _ _ _ _; first | (apply Z.sxL; exact rfl) | (apply Z.sxE; (exact extA)))
      | (show WL _ _ _ _ _ _ _; first | apply WL.nil | (refine WL.au (k := ?_)))
      | (show Z _ _ _ _ _; apply Z.then_normal)
      | (show W _ _ _ _ _ _; first | apply W.seq | apply W.region | apply W.block | apply W.skip))
    replace hS := hS.ext hx
    (try simp only [List.set_cons_zero, List.set_cons_succ] at hS); (try have hR0 := hS.row (i := 0) rfl); (try have hR1 := hS.row (i := 1) rfl); (try have hR2 := hS.row (i := 2) rfl); (try have hR3 := hS.row (i := 3) rfl); (try have hR4 := hS.row (i := 4) rfl); (try have hC0 := hS.cell (i := 0) rfl); (try have hD0 := (cells_heap hC0).1); (try have hE0 := (cells_heap hC0).2.1); (try have hF0 := (cells_heap hC0).2.2.1); (try have hG0 := (cells_heap hC0).2.2.2.1); (try have hC1 := hS.cell (i := 1) rfl); (try have hD1 := (cells_heap hC1).1); (try have hE1 := (cells_heap hC1).2.1); (try have hF1 := (cells_heap hC1).2.2.1); (try have hG1 := (cells_heap hC1).2.2.2.1); (try have hC2 := hS.cell (i := 2) rfl); (try have hD2 := (cells_heap hC2).1); (try have hE2 := (cells_heap hC2).2.1); (try have hF2 := (cells_heap hC2).2.2.1); (try have hG2 := (cells_heap hC2).2.2.2.1); (try have hC3 := hS.cell (i := 3) rfl); (try have hD3 := (cells_heap hC3).1); (try have hE3 := (cells_heap hC3).2.1); (try have hF3 := (cells_heap hC3).2.2.1); (try have hG3 := (cells_heap hC3).2.2.2.1); (try have hC4 := hS.cell (i := 4) rfl); (try have hD4 := (cells_heap hC4).1); (try have hE4 := (cells_heap hC4).2.1); (try have hF4 := (cells_heap hC4).2.2.1); (try have hG4 := (cells_heap hC4).2.2.2.1); (try have hM0 := hS.map (i := 0) rfl); (try have hM1 := hS.map (i := 1) rfl); (try have hM2 := hS.map (i := 2) rfl); (try have hM3 := hS.map (i := 3) rfl); (try have hM4 := hS.map (i := 4) rfl)
    obtain ⟨w3, rfl⟩ : ∃ x, x = w' := ⟨_, rfl⟩
    have hX3 : Ext wc w3 := (by (exact extA))
    repeat' (first
      | (apply FL.build tOk; exact rfl; exact rfl; exact rfl; exact rfl; exact rfl; exact rfl; exact rfl; kernel_rfl)
      | (show W _ _ (.region 21 _ _) _ _ _; apply W.regionGB (.fl true 0 (.fl true 1 (.fl true 2 (.fl true 5 (.fl true 6 (.br 3 (.br 4 (.br 7 (.br 8 (.fl true 9 (.br 10 (.br 11 (.fl true 12 .done) .stop) .stop)) .stop) .stop) (.br 7 (.br 4 (.br 8 (.fl true 9 (.br 10 (.br 11 (.fl true 12 .done) .stop) .stop)) .stop) .stop) .stop)) (.br 7 (.br 3 (.br 4 (.br 8 (.fl true 9 (.br 10 (.br 11 (.fl true 12 .done) .stop) .stop)) .stop) .stop) .stop) .stop))))))) [] (none) tMix; kernel_rfl)
      | ((show WL _ _ _ (⟨_, .call ⟨.value (.func 118), _, _⟩, _, _, _, _⟩ :: _) _ _ _); apply WL.callS; exact rfl; exact rfl; exact rfl; exact rfl; exact ref11_lit _ _ (cS3 c.t k).2 g.2.1 _ _ ((Own.row encI_ok hR2).ext (by (exact extA))) (by omega) (by omega) hza (by omega))
      | ((show WL _ _ _ (⟨_, .call ⟨.value (.func 118), _, _⟩, _, _, _, _⟩ :: _) _ _ _); apply WL.callS; exact rfl; exact rfl; exact rfl; exact rfl; exact ref11_lit _ _ (cS3 c.t k).2 g.2.2 _ _ ((Own.row encI_ok hR2).ext (by (exact extA))) (by omega) (by omega) hzb (by omega))
      | (apply WL.lit tOk; exact rfl; exact rfl; exact rfl; exact rfl; exact rfl; exact rfl; (first | exact rfl | kernel_rfl | (simp [Instr.fill, catCells]; done)); exact rfl; intro gb w' hb hge hc hx)
      | (apply WL.append1 (z := ((litI (cS3 c.t k).2 g.2.1, litI (cS3 c.t k).2 g.2.2))) tOk encN_ok; exact rfl; exact rfl; exact rfl; exact rfl; exact rfl; exact rfl; exact rfl; exact rfl; exact rfl; exact rfl; assumption; (exact extA); (first | exact rfl | (focus (simp only [List.length_set]; done)) | (focus (simp; done)) | (focus (simp [*]; done)) | omega | (focus (simp only [List.length_set]; omega))); (first | assumption | (refine Cells.ext ?_ (by assumption); exact extA)); exact rfl; exact rfl; (exact extA); (first | omega | (simp; omega) | (simp at *; omega)); intro a' cap' w' hO hX' hU hF; (first | replace hS := Sep.updRow (i := 0) rfl hU hO hF hS (by (exact extA)) (by (first | exact Nat.le_refl _ | exact Below.size (by (exact extA)))) | replace hS := Sep.updRow (i := 1) rfl hU hO hF hS (by (exact extA)) (by (first | exact Nat.le_refl _ | exact Below.size (by (exact extA)))) | replace hS := Sep.updRow (i := 2) rfl hU hO hF hS (by (exact extA)) (by (first | exact Nat.le_refl _ | exact Below.size (by (exact extA)))) | replace hS := Sep.updRow (i := 3) rfl hU hO hF hS (by (exact extA)) (by (first | exact Nat.le_refl _ | exact Below.size (by (exact extA)))) | replace hS := Sep.updRow (i := 4) rfl hU hO hF hS (by (exact extA)) (by (first | exact Nat.le_refl _ | exact Below.size (by (exact extA)))) | replace hS := Sep.updRow (i := 5) rfl hU hO hF hS (by (exact extA)) (by (first | exact Nat.le_refl _ | exact Below.size (by (exact extA))))); (try simp only [List.set_cons_zero, List.set_cons_succ] at hS); (try have hR0 := hS.row (i := 0) rfl); (try have hR1 := hS.row (i := 1) rfl); (try have hR2 := hS.row (i := 2) rfl); (try have hR3 := hS.row (i := 3) rfl); (try have hR4 := hS.row (i := 4) rfl); (try have hC0 := hS.cell (i := 0) rfl); (try have hD0 := (cells_heap hC0).1); (try have hE0 := (cells_heap hC0).2.1); (try have hF0 := (cells_heap hC0).2.2.1); (try have hG0 := (cells_heap hC0).2.2.2.1); (try have hC1 := hS.cell (i := 1) rfl); (try have hD1 := (cells_heap hC1).1); (try have hE1 := (cells_heap hC1).2.1); (try have hF1 := (cells_heap hC1).2.2.1); (try have hG1 := (cells_heap hC1).2.2.2.1); (try have hC2 := hS.cell (i := 2) rfl); (try have hD2 := (cells_heap hC2).1); (try have hE2 := (cells_heap hC2).2.1); (try have hF2 := (cells_heap hC2).2.2.1); (try have hG2 := (cells_heap hC2).2.2.2.1); (try have hC3 := hS.cell (i := 3) rfl); (try have hD3 := (cells_heap hC3).1); (try have hE3 := (cells_heap hC3).2.1); (try have hF3 := (cells_heap hC3).2.2.1); (try have hG3 := (cells_heap hC3).2.2.2.1); (try have hC4 := hS.cell (i := 4) rfl); (try have hD4 := (cells_heap hC4).1); (try have hE4 := (cells_heap hC4).2.1); (try have hF4 := (cells_heap hC4).2.2.1); (try have hG4 := (cells_heap hC4).2.2.2.1); (try have hM0 := hS.map (i := 0) rfl); (try have hM1 := hS.map (i := 1) rfl); (try have hM2 := hS.map (i := 2) rfl); (try have hM3 := hS.map (i := 3) rfl); (try have hM4 := hS.map (i := 4) rfl); (obtain ⟨a2, rfl⟩ : ∃ x, x = a' := ⟨_, rfl⟩; obtain ⟨cp2, rfl⟩ : ∃ x, x = cap' := ⟨_, rfl⟩))
      | (apply WL.storeO (z' := (2 * (((cS3 c.t k).1 ++ [(litI (cS3 c.t k).2 g.2.1, litI (cS3 c.t k).2 g.2.2)]).length : Int))) tOk; exact rfl; exact rfl; exact rfl; exact rfl; assumption; (exact extA); exact rfl; exact rfl; exact rfl; exact encI_ok; assumption; exact rfl; (exact extA); intro w' hO hX' hU; (first | replace hS := Sep.updRow (i := 0) rfl hU hO (.inl rfl) hS (by (exact extA)) (by (first | exact Nat.le_refl _ | exact Below.size (by (exact extA)))) | replace hS := Sep.updRow (i := 1) rfl hU hO (.inl rfl) hS (by (exact extA)) (by (first | exact Nat.le_refl _ | exact Below.size (by (exact extA)))) | replace hS := Sep.updRow (i := 2) rfl hU hO (.inl rfl) hS (by (exact extA)) (by (first | exact Nat.le_refl _ | exact Below.size (by (exact extA)))) | replace hS := Sep.updRow (i := 3) rfl hU hO (.inl rfl) hS (by (exact extA)) (by (first | exact Nat.le_refl _ | exact Below.size (by (exact extA)))) | replace hS := Sep.updRow (i := 4) rfl hU hO (.inl rfl) hS (by (exact extA)) (by (first | exact Nat.le_refl _ | exact Below.size (by (exact extA)))) | replace hS := Sep.updRow (i := 5) rfl hU hO (.inl rfl) hS (by (exact extA)) (by (first | exact Nat.le_refl _ | exact Below.size (by (exact extA))))); (try simp only [List.set_cons_zero, List.set_cons_succ] at hS); (try have hR0 := hS.row (i := 0) rfl); (try have hR1 := hS.row (i := 1) rfl); (try have hR2 := hS.row (i := 2) rfl); (try have hR3 := hS.row (i := 3) rfl); (try have hR4 := hS.row (i := 4) rfl); (try have hC0 := hS.cell (i := 0) rfl); (try have hD0 := (cells_heap hC0).1); (try have hE0 := (cells_heap hC0).2.1); (try have hF0 := (cells_heap hC0).2.2.1); (try have hG0 := (cells_heap hC0).2.2.2.1); (try have hC1 := hS.cell (i := 1) rfl); (try have hD1 := (cells_heap hC1).1); (try have hE1 := (cells_heap hC1).2.1); (try have hF1 := (cells_heap hC1).2.2.1); (try have hG1 := (cells_heap hC1).2.2.2.1); (try have hC2 := hS.cell (i := 2) rfl); (try have hD2 := (cells_heap hC2).1); (try have hE2 := (cells_heap hC2).2.1); (try have hF2 := (cells_heap hC2).2.2.1); (try have hG2 := (cells_heap hC2).2.2.2.1); (try have hC3 := hS.cell (i := 3) rfl); (try have hD3 := (cells_heap hC3).1); (try have hE3 := (cells_heap hC3).2.1); (try have hF3 := (cells_heap hC3).2.2.1); (try have hG3 := (cells_heap hC3).2.2.2.1); (try have hC4 := hS.cell (i := 4) rfl); (try have hD4 := (cells_heap hC4).1); (try have hE4 := (cells_heap hC4).2.1); (try have hF4 := (cells_heap hC4).2.2.1); (try have hG4 := (cells_heap hC4).2.2.2.1); (try have hM0 := hS.map (i := 0) rfl); (try have hM1 := hS.map (i := 1) rfl); (try have hM2 := hS.map (i := 2) rfl); (try have hM3 := hS.map (i := 3) rfl); (try have hM4 := hS.map (i := 4) rfl))
      | (apply WL.indexO tOk; exact rfl; exact rfl; exact rfl; exact rfl; exact rfl; exact rfl; exact rfl; exact rfl; assumption; (exact extA); exact encI_ok; (first | exact rfl | (focus (simp only [List.length_set]; done)) | (focus (simp; done)) | (focus (simp [*]; done)) | omega | (focus (simp only [List.length_set]; omega))); omega; assumption; intro gb ha hc; cases ha; have hcc := hc; first | (obtain ⟨h1, h2, h3, _⟩ := hc) | (obtain ⟨h1, h2, _⟩ := hc) | (obtain ⟨h1, _⟩ := hc))
      | (show WL _ _ _ _ _ _ _; first | apply WL.nil | (refine WL.au (k := ?_)))
      | (show SG _ _ _ _ _ _ _ _ _; first | apply SG.done | (apply SG.fl0; exact rfl) | (apply SG.br1; exact rfl) | (apply SG.br; exact rfl))
      | (show FL _ _ _ _ _ _ _ _; first | apply FL.nilS | (refine FL.au (k := ?_)))
      | (show Z _ _ _ _ _; (apply Z.sgL; exact rfl))
      | (show Z _ _ _ _ _; first | apply Z.then_normal | apply Z.block_normal)
      | (show W _ _ _ _ _ _; apply W.region))
    all_goals
      rw [le5] at hS
      exact Z.againO2 a2 cp2 (some ⟨gb, 0, none⟩) dp ⟨by omega, (by (exact extA)), by rw [e1]; exact hS.drop 1⟩ (by repeat' first | exact trivial | (refine And.intro ?_ ?_) | exact rfl | (rw [e1]; exact rfl) | (rw [e1]; show _ = some (Value.slice _ (List.set _ _ _).length _); rw [List.length_set]; exact rfl))
  obtain rfl : k = (ordL c.gates.2.2).length := by omega
  repeat' (first
    | (apply W.condKF; exact rfl; (focus (exact dec_false (by omega); done)))
    | (show WL _ _ _ _ _ _ _; first | apply WL.nil | (refine WL.au (k := ?_)))
    | (show Z _ _ _ _ _; first | apply Z.then_normal | apply Z.then_exit | apply Z.block_exit)
    | (show W _ _ _ _ _ _; first | apply W.seq | apply W.region | apply W.ret | apply W.exit))
  have e39 : cS3 c.t (ordL c.gates.2.2).length = cNet c.t := cS3_all c.t
  rw [e39] at hR1 hR2
  have hwc := Below.size hxc
  exact Z.body2 Try.results54 rfl rfl fun m => ⟨Ext.at (by (exact extA)) m, a, cp, d, dp, by rw [e39], (hR2.base hwc).ext ((Ext.refl _).at m), (hR1.base hwc).ext ((Ext.refl _).at m)⟩
end Go.Proofs.Ythpnahapiodflaa
namespace Go.Proofs.Ythpnahapiodflaa
open Go Go.Lt Go.RowKit
set_option linter.unusedVariables false
set_option linter.unusedSimpArgs false
set_option maxRecDepth 20000

/-- So many values of some. -/
def brV (l : List Bool) (m : Nat) : List Bool := (List.range m).map fun i => l.getD i false
theorem brV_len (l : List Bool) (m : Nat) : (brV l m).length = m := by simp [brV]
theorem brV_get (l : List Bool) {m i : Nat} (h : i < m) : (brV l m)[i]? = some (l.getD i false) := by
  unfold brV; rw [List.getElem?_map, List.getElem?_range h]; rfl
theorem brV_succ (l : List Bool) (m : Nat) : brV l (m + 1) = brV l m ++ [l.getD m false] := by
  unfold brV; rw [List.range_succ, List.map_append]; rfl
theorem brV_self (l : List Bool) : brV l l.length = l := by
  apply List.ext_getElem?
  intro i
  by_cases h : i < l.length
  · rw [brV_get l h, List.getD, List.getElem?_eq_getElem h]; rfl
  · rw [List.getElem?_eq_none (by rw [brV_len]; omega), List.getElem?_eq_none (by omega)]
noncomputable def insV (c : CirT) (s i : List Bool) : List Bool := brV i c.ins.length ++ brV s c.lat.length
noncomputable def stepV (c : CirT) (s i : List Bool) : List Bool := values (cNet c).1 (insV c s i)
/-- A literal's value in a state, with an input. -/
noncomputable def litV (c : CirT) (s i : List Bool) (l : Int) : Bool := ofL (stepV c s i) (litI (cNet c).2 l)
noncomputable def nextV (c : CirT) (s i : List Bool) : List Bool := c.lat.map fun x => litV c s i x.2.1
theorem nextV_len (c : CirT) (s i : List Bool) : (nextV c s i).length = c.lat.length := by simp [nextV]
def StartsP (c : CirT) (s : List Bool) : Prop := s.length = c.lat.length ∧ ∀ (k : Nat) x b, c.lat[k]? = some x → s[k]? = some b → ¬ (x.2.2 = 0 ∧ b = true) ∧ ¬ (x.2.2 = 1 ∧ b = false)
def HoldsP (c : CirT) (s i : List Bool) : Prop := ∀ l ∈ c.cons, litV c s i l = true
def BadP (c : CirT) (s i : List Bool) (p : Int) : Prop := 0 ≤ p ∧ ∃ l, c.bads[p.toNat]? = some l ∧ litV c s i l = true
/-- The state in a step of a run. -/
noncomputable def stateV (c : CirT) (s : List Bool) (r : List (List Bool)) : Nat → List Bool
  | 0 => brV s c.lat.length
  | k + 1 => nextV c (stateV c s r k) (r.getD k [])
theorem stateV_len (c : CirT) (s : List Bool) (r : List (List Bool)) : ∀ k, (stateV c s r k).length = c.lat.length
  | 0 => brV_len _ _
  | _ + 1 => nextV_len _ _ _
noncomputable def statesV (c : CirT) (s : List Bool) (r : List (List Bool)) : List (List Bool) := (List.range r.length).map (stateV c s r)
theorem statesV_len (c : CirT) (s : List Bool) (r : List (List Bool)) : (statesV c s r).length = r.length := by simp [statesV]
theorem statesV_get (c : CirT) (s : List Bool) (r : List (List Bool)) {k : Nat} (h : k < r.length) : (statesV c s r)[k]? = some (stateV c s r k) := by
  unfold statesV; rw [List.getElem?_map, List.getElem?_range h]; rfl
def GoesP (c : CirT) (s : List Bool) (r : List (List Bool)) (k : Nat) : Prop := ∀ j i, j < k → r[j]? = some i → i.length = c.ins.length ∧ HoldsP c (stateV c s r j) i
/-- A run breaks a property. -/
def BreaksP (c : CirT) (s : List Bool) (r : List (List Bool)) (p : Int) : Prop :=
  StartsP c s ∧ r ≠ [] ∧ GoesP c s r r.length ∧ BadP c (stateV c s r (r.length - 1)) (r.getD (r.length - 1) []) p

/-- What a used literal's variable is. -/
theorem net_lit {c : CirT} (h : GoodC' c) {l : Int} (hl : l ∈ c.used) : ∃ z, (cNet c).2[(l / 2).toNat]? = some z ∧ 0 ≤ z ∧ z % 2 = 0 ∧ z ≤ 2 * ((cNet c).1.length : Int) := by
  have h0 := (cNet_ok h).1
  refine h0.ge ?_
  have h1 := h.used l hl
  rcases Int.lt_or_le 1 l with h2 | h2
  · exact .inr ⟨_, seq_all h (h.has l hl h2), by omega⟩
  · left; omega
theorem litV_ref {A : List Int} {V : List Bool} {l z : Int} (h1 : A[(l / 2).toNat]? = some z) (h2 : 0 ≤ z) : (ofL V z != decide (l % 2 = 1)) = ofL V (litI A l) := by
  rw [litI_some h1]
  unfold xorI
  by_cases h : l % 2 = 1
  · rw [if_pos h, ofL_xor1 _ h2, decide_eq_true h]; simp
  · rw [if_neg h, decide_eq_false h]; simp
theorem used_next {c : CirT} {x : T3} (h : x ∈ c.lat) : x.2.1 ∈ c.used := List.mem_append_left _ (List.mem_append_right _ (List.mem_map.2 ⟨x, h, rfl⟩))
theorem used_bad {c : CirT} {l : Int} (h : l ∈ c.bads) : l ∈ c.used := List.mem_append_left _ (List.mem_append_left _ (List.mem_append_left _ (List.mem_append_right _ h)))
theorem used_con {c : CirT} {l : Int} (h : l ∈ c.cons) : l ∈ c.used := List.mem_append_left _ (List.mem_append_left _ (List.mem_append_right _ h))
theorem net_len {c : CirT} (h : GoodC' c) (hz : SzC c 100000) : (cNet c).1.length ≤ 300000 := by
  rw [(cNet_ok h).1.len1]
  have h2 := (ordL_is c.gates).1.le
  obtain ⟨z1, z2, z3, z4, z5, z6⟩ := hz
  show (c.ins ++ c.lat.map (·.1) ++ (ordL c.gates).map (fun i => (gAt c.gates i).1)).length ≤ _
  simp; omega
end Go.Proofs.Ythpnahapiodflaa
namespace Go.Proofs.Ythpnahapiodflaa
open Go Go.Lt Go.RowKit
set_option linter.unusedVariables false
set_option linter.unusedSimpArgs false
set_option maxRecDepth 20000

/-- A machine in memory: the circuit, its net, and where its variables are. -/
structure MAt (w : World) (gm : Nat) (c : Circ) (rn : RowV (Int × Int)) (ra : RowV Int) : Prop where
  cells : Cells w gm 0 (c.vals ++ [rowVal rn, rowVal ra])
  cat : CAt w c
  net : Row 2 encN w rn.1 rn.2.2
  at_ : Row 1 encI w ra.1 ra.2.2
  en : rn.2.2 = (cNet c.t).1
  ea : ra.2.2 = (cNet c.t).2
  good : GoodC' c.t
  size : SzC c.t 100000
theorem MAt.ext {w w' : World} {gm : Nat} {c : Circ} {rn : RowV (Int × Int)} {ra : RowV Int} (h : MAt w gm c rn ra) (hx : Ext w w') : MAt w' gm c rn ra :=
  ⟨h.cells.ext hx, h.cat.ext hx, h.net.ext hx, h.at_.ext hx, h.en, h.ea, h.good, h.size⟩

theorem ref17_Brought (a : Option Addr) (cap : Nat) (l : List Bool) (m : Nat) (w : World) (R : Row 1 encB w a l) (hm : m ≤ 1048576) :
    Lt.Spec Try.prog 128 [.slice a l.length cap, .int .i64 (m : Nat)] w (IsFresh 1 encB 4 w (brV l m)) := by
  have hlen := R.len
  refine Spec.of _ Try.func128 rfl Try.ntmps128 (by kernel_rfl) rfl ?_
  repeat' (first
    | (apply WL.lit (len := 0) tOk; exact rfl; exact rfl; exact rfl; exact rfl; exact rfl; exact rfl; (first | exact rfl | kernel_rfl | (simp [Instr.fill, catCells]; done)); exact rfl; intro gb w' hb hge hc hx; have hO0 := Own.of_block0 (enc := encB) (s := 1) hb hge)
    | (show WL _ _ _ _ _ _ _; first | apply WL.nil | (refine WL.au (k := ?_)))
    | (show Z _ _ _ _ _; apply Z.then_normal)
    | (show W _ _ _ _ _ _; first | apply W.seq | apply W.region | apply W.block))
  refine W.loopO m (fun k d dp w' => k ≤ m ∧ Ext w w' ∧ Own 1 encB 4 w.heap.size w' d dp (brV l k)) (fun k d dp => [(0, .slice a l.length cap), (1, .int .i64 (m : Nat)), (5, .slice d (brV l k).length dp), (6, .int .i64 k)]) (some ⟨gb, 0, none⟩) 0 ⟨Nat.zero_le _, hx, hO0⟩ (fun k d dp w' h => h.1) ⟨rfl, rfl, rfl, rfl, trivial⟩ ?_
  rintro k d dp w' ⟨hk, hx', hO'⟩
  have hbl := brV_len l k
  have e1 := brV_succ l k
  by_cases hlt : k < m
  · by_cases hkl : k < l.length
    · obtain ⟨z, hz⟩ := getI l hkl
      rw [getD_of hz] at e1
      repeat' (first
        | (apply WL.gT; exact rfl; exact rfl; (focus (first | exact dec_true (by omega); done)))
        | (apply W.condKT; exact rfl; (focus (first | exact dec_true (by omega); done)))
        | (apply WL.lit tOk; exact rfl; exact rfl; exact rfl; exact rfl; exact rfl; exact rfl; (first | exact rfl | kernel_rfl | (simp [Instr.fill, catCells]; done)); exact rfl; intro gb w' hb hge hc hx)
        | (apply WL.append1 (z := (z)) tOk encB_ok; exact rfl; exact rfl; exact rfl; exact rfl; exact rfl; exact rfl; exact rfl; exact rfl; exact rfl; exact rfl; assumption; (exact extA); (first | exact rfl | (focus (simp only [List.length_set]; done)) | (focus (simp; done)) | (focus (simp [*]; done)) | omega | (focus (simp only [List.length_set]; omega))); (first | assumption | (refine Cells.ext ?_ (by assumption); exact extA)); exact rfl; exact rfl; (exact extA); (first | omega | (simp; omega) | (simp at *; omega)); intro a' cap' w' hO hX' hU hF)
        | (show WL _ _ _ _ _ _ _; first | apply WL.nil | (refine WL.au (k := ?_)) | (apply WL.index tOk; exact rfl; exact rfl; exact rfl; exact rfl; exact rfl; exact rfl; exact rfl; exact rfl; assumption; (exact extA); exact rfl; omega; assumption; intro b off h; have hcc := h; first | (obtain ⟨h1, h2, h3, h4, h5, h6, _⟩ := h) | (obtain ⟨h1, h2, h3, _⟩ := h) | (obtain ⟨h1, h2, _⟩ := h) | (obtain ⟨h1, _⟩ := h)))
        | (show Z _ _ _ _ _; first | apply Z.then_normal | apply Z.block_normal)
        | (show W _ _ _ _ _ _; first | apply W.seq | apply W.region | apply W.block | apply W.skip))
      exact Z.againO a' cap' ⟨by omega, hX', by rw [e1]; exact hO⟩ (by repeat' first | exact trivial | (refine And.intro ?_ ?_) | exact rfl | (rw [e1]; exact rfl))
    · rw [List.getD, List.getElem?_eq_none (by omega)] at e1
      have e1 : brV l (k + 1) = brV l k ++ [false] := e1
      repeat' (first
        | (apply WL.gF; exact rfl; exact rfl; (focus (first | exact dec_true (by omega) | exact dec_false (by omega); done)))
        | (apply W.condKT; exact rfl; (focus (first | exact dec_true (by omega) | exact dec_false (by omega); done)))
        | (apply WL.lit tOk; exact rfl; exact rfl; exact rfl; exact rfl; exact rfl; exact rfl; (first | exact rfl | kernel_rfl | (simp [Instr.fill, catCells]; done)); exact rfl; intro gb w' hb hge hc hx)
        | (apply WL.append1 (z := (false)) tOk encB_ok; exact rfl; exact rfl; exact rfl; exact rfl; exact rfl; exact rfl; exact rfl; exact rfl; exact rfl; exact rfl; assumption; (exact extA); (first | exact rfl | (focus (simp only [List.length_set]; done)) | (focus (simp; done)) | (focus (simp [*]; done)) | omega | (focus (simp only [List.length_set]; omega))); (first | assumption | (refine Cells.ext ?_ (by assumption); exact extA)); exact rfl; exact rfl; (exact extA); (first | omega | (simp; omega) | (simp at *; omega)); intro a' cap' w' hO hX' hU hF)
        | (show WL _ _ _ _ _ _ _; first | apply WL.nil | (refine WL.au (k := ?_)) | (apply WL.guardF; exact rfl; exact rfl))
        | (show Z _ _ _ _ _; first | apply Z.then_normal | apply Z.block_normal)
        | (show W _ _ _ _ _ _; first | apply W.seq | apply W.region | apply W.block | apply W.skip))
      exact Z.againO a' cap' ⟨by omega, hX', by rw [e1]; exact hO⟩ (by repeat' first | exact trivial | (refine And.intro ?_ ?_) | exact rfl | (rw [e1]; exact rfl))
  · obtain rfl : k = m := by omega
    repeat' (first
      | (apply W.condKF; exact rfl; (focus (exact dec_false (by omega); done)))
      | (show WL _ _ _ _ _ _ _; first | apply WL.nil | (refine WL.au (k := ?_)))
      | (show Z _ _ _ _ _; first | apply Z.then_normal | apply Z.then_exit | apply Z.block_exit)
      | (show W _ _ _ _ _ _; first | apply W.seq | apply W.region | apply W.ret | apply W.exit))
    exact Z.body1 Try.results128 rfl fun m => ⟨hx'.at m, d, dp, rfl, hO'⟩

set_option maxHeartbeats 4000000 in
theorem ref17_Lit (gm : Nat) (c : Circ) (rn : RowV (Int × Int)) (ra : RowV Int) (a b : Option Addr) (ca cb : Nat) (s i : List Bool) (l : Int) (w : World) (hM : MAt w gm c rn ra) (Rs : Row 1 encB w a s) (Ri : Row 1 encB w b i) (hl : l ∈ c.t.used) :
    Pure Try.prog 124 [.pointer (some ⟨gm, 0, none⟩), .slice a s.length ca, .slice b i.length cb, .int .i64 l] w (.bool (litV c.t s i l)) := by
  obtain ⟨hcells, hC, Rn, Ra, en, ea, hg, hz⟩ := hM
  have hcells0 := hcells
  obtain ⟨y0, y1, y2, y3, y4, y5, y6, y7, y8, y9, y10, _⟩ := hcells
  have hnl := Nat.le_trans (net_len hg hz) (show 300000 ≤ 1048576 by omega)
  have hng := (cNet_ok hg).2
  rw [← en] at hnl hng
  obtain ⟨z, z1, z2, z3, z4⟩ := net_lit hg hl
  have hlu := hg.used l hl
  have hmx := hg.max
  rw [← ea] at z1
  rw [← en] at z4
  have k1 : c.ins.2.2.length ≤ 100000 := hz.1
  have k2 : c.lat.2.2.length ≤ 100000 := hz.2.1
  have b1 := brV_len i c.ins.2.2.length
  have b2 := brV_len s c.lat.2.2.length
  have hvl := values_len' rn.2.2 (brV i c.ins.2.2.length ++ brV s c.lat.2.2.length)
  have ez : litV c.t s i l = (ofL (values rn.2.2 (brV i c.ins.2.2.length ++ brV s c.lat.2.2.length)) z != decide (l % 2 = 1)) := by
    rw [litV_ref z1 z2, en, ea]; rfl
  refine Spec.of _ Try.func124 rfl Try.ntmps124 (by kernel_rfl) rfl ?_
  repeat' (first
    | (apply FL.nilc; exact rfl; exact rfl; exact rfl)
    | (show W _ _ (.region 1 _ _) _ _ _; apply W.regionGX (.fl true 0 (.fl true 1 (.fl true 2 (.fl true 3 (.fl true 4 (.fl true 8 (.fl true 9 (.fl true 10 (.fl true 11 (.fl true 12 (.fl false 5 (.fl true 6 (.fl false 13 (.fl true 14 (.br 7 (.br 15 (.br 16 (.fl true 17 .done) .stop) .stop) .stop))))))))))))))) [7, 13, 14, 15, 16] tMix; kernel_rfl)
    | ((show WL _ _ _ (⟨_, .call ⟨.value (.func 128), _, _⟩, _, _, _, _⟩ :: _) _ _ _); apply WL.call; exact rfl; exact rfl; exact rfl; exact rfl; exact ref17_Brought _ _ i c.ins.2.2.length _ (Ri.ext (by (exact extA))) (by omega); rintro v' w' ⟨hx, a', cap', rfl, hO⟩; (obtain ⟨hO1, rfl⟩ : ∃ x, x = hO := ⟨_, rfl⟩; obtain ⟨a1, rfl⟩ : ∃ x, x = a' := ⟨_, rfl⟩; obtain ⟨c1, rfl⟩ : ∃ x, x = cap' := ⟨_, rfl⟩; obtain ⟨w1, rfl⟩ : ∃ x, x = w' := ⟨_, rfl⟩))
    | ((show WL _ _ _ (⟨_, .call ⟨.value (.func 128), _, _⟩, _, _, _, _⟩ :: _) _ _ _); apply WL.call; exact rfl; exact rfl; exact rfl; exact rfl; exact ref17_Brought _ _ s c.lat.2.2.length _ (Rs.ext (by (exact extA))) (by omega); rintro v' w' ⟨hx, a', cap', rfl, hO⟩; (obtain ⟨hO2, rfl⟩ : ∃ x, x = hO := ⟨_, rfl⟩; obtain ⟨a2, rfl⟩ : ∃ x, x = a' := ⟨_, rfl⟩; obtain ⟨c2, rfl⟩ : ∃ x, x = cap' := ⟨_, rfl⟩; have R2 := hO2.row encB_ok; have n2 := hO2.noneCap))
    | (apply WL.appendS tOk encB_ok; exact rfl; exact rfl; exact rfl; exact rfl; exact rfl; exact rfl; exact rfl; exact rfl; exact rfl; exact rfl; assumption; (exact extA); (first | exact rfl | (focus (simp only [List.length_set]; done)) | (focus (simp; done)) | (focus (simp [*]; done)) | omega | (focus (simp only [List.length_set]; omega))); assumption; (exact extA); (first | exact rfl | (focus (simp only [List.length_set]; done)) | (focus (simp; done)) | (focus (simp [*]; done)) | omega | (focus (simp only [List.length_set]; omega))); (first | assumption | (intro h; cases h) | exact Own.noneCap (by assumption)); exact rfl; (exact extA); (first | omega | (simp; omega) | (simp at *; omega)); intro a' cap' w' hO hX' hU hF)
    | (show SX _ _ _ _ _ _ _ _ _; first | (apply SX.done; intro w' hx) | (apply SX.fl0; exact rfl) | (apply SX.fl1; exact rfl; (exact extA)) | (apply SX.br1; exact rfl; intro w' hx))
    | (show FL _ _ _ _ _ _ _ _; first | apply FL.nilX | (apply FL.loadE tOk; exact rfl; exact rfl; exact rfl; exact rfl; exact rfl; assumption))
    | (show FL _ _ _ _ _ _ _ _; (refine FL.au (k := ?_)))
    | (show Z _ _ _ _ _; (apply Z.sxE; (exact extA)))
    | (show WL _ _ _ _ _ _ _; first | apply WL.nil | (refine WL.au (k := ?_)))
    | (show Z _ _ _ _ _; apply Z.then_normal)
    | (show W _ _ _ _ _ _; first | apply W.seq | apply W.region))
  obtain ⟨w5, rfl⟩ : ∃ x, x = w' := ⟨_, rfl⟩; obtain ⟨a5, rfl⟩ : ∃ x, x = a' := ⟨_, rfl⟩; obtain ⟨c5, rfl⟩ : ∃ x, x = cap' := ⟨_, rfl⟩
  have hX5 : Ext w w5 := (by (exact extA))
  have Rv := hO.row encB_ok
  have Ra5 := Ra.ext hX5
  clear y0 y1 y2 y3 y4 y5 y6 y7 y8 y9 y10
  have hcells := hcells0.ext hX5
  obtain ⟨y0, y1, y2, y3, y4, y5, y6, y7, y8, y9, y10, _⟩ := hcells
  repeat' (first
    | (apply FL.nilc; exact rfl; exact rfl; exact rfl)
    | (show W _ _ (.region 2 _ _) _ _ _; apply W.regionGX (.fl true 0 (.fl true 1 (.fl true 2 (.fl true 4 (.fl true 6 (.fl true 7 (.fl true 8 (.fl true 10 (.fl true 11 (.fl true 15 (.fl true 16 (.fl true 17 (.fl false 3 (.fl false 9 (.fl true 12 (.fl false 13 (.br 5 (.br 14 (.fl true 18 (.fl true 19 .done)) .stop) .stop))))))))))))))))) [5, 9, 12, 13, 14, 18] tMix; kernel_rfl)
    | ((show WL _ _ _ (⟨_, .call ⟨.value (.func 41), _, _⟩, _, _, _, _⟩ :: _) _ _ _); apply WL.call; exact rfl; exact rfl; exact rfl; exact rfl; exact ref07_Values _ _ _ _ rn.2.2 _ _ (Rn.ext (by (exact extA))) (Rv.ext (by (exact extA))) hng hnl; rintro v' w' ⟨hx, a', cap', rfl, hO⟩; (obtain ⟨hOv, rfl⟩ : ∃ x, x = hO := ⟨_, rfl⟩; obtain ⟨av, rfl⟩ : ∃ x, x = a' := ⟨_, rfl⟩; obtain ⟨cv, rfl⟩ : ∃ x, x = cap' := ⟨_, rfl⟩; have RV := hOv.row encB_ok))
    | ((show WL _ _ _ (⟨_, .call ⟨.value (.func 44), _, _⟩, _, _, _, _⟩ :: _) _ _ _); apply WL.callS; exact rfl; exact rfl; exact rfl; exact rfl; exact ref07_Of _ _ _ z _ (RV.ext (by (exact extA))) ⟨z2, by omega, by omega⟩)
    | (show SX _ _ _ _ _ _ _ _ _; first | (apply SX.done; intro w' hx) | (apply SX.fl0; exact rfl) | (apply SX.fl1; exact rfl; (exact extA)) | (apply SX.br1; exact rfl; intro w' hx))
    | (show FL _ _ _ _ _ _ _ _; first | apply FL.nilX | (apply FL.loadE tOk; exact rfl; exact rfl; exact rfl; exact rfl; exact rfl; assumption) | (apply FL.indexE tOk; exact rfl; exact rfl; exact rfl; exact rfl; exact rfl; exact rfl; exact rfl; exact rfl; assumption; exact rfl; omega; assumption; intro b off h; have hcc := h; first | (obtain ⟨h1, h2, h3, h4, h5, h6, _⟩ := h) | (obtain ⟨h1, h2, h3, _⟩ := h) | (obtain ⟨h1, h2, _⟩ := h) | (obtain ⟨h1, _⟩ := h)))
    | (show FL _ _ _ _ _ _ _ _; (refine FL.au (k := ?_)))
    | (show Z _ _ _ _ _; (apply Z.sxE; (exact extA)))
    | (show WL _ _ _ _ _ _ _; apply WL.nil)
    | (show Z _ _ _ _ _; apply Z.then_normal)
    | (show W _ _ _ _ _ _; apply W.ret))
  exact Z.body1 Try.results124 rfl fun m => ⟨by rw [ez]; exact congrArg Value.bool (by rw [dec_ne_dec]), Ext.at (by (exact extA)) m⟩

theorem ref17_Starts (gm : Nat) (c : Circ) (rn : RowV (Int × Int)) (ra : RowV Int) (a : Option Addr) (ca : Nat) (s : List Bool) (w : World) (hM : MAt w gm c rn ra) (Rs : Row 1 encB w a s) :
    Still Try.prog 65 [.pointer (some ⟨gm, 0, none⟩), .slice a s.length ca] w (.bool (dec (StartsP c.t s))) := by
  obtain ⟨hcells, hC, Rn, Ra, en, ea, hg, hz⟩ := hM
  obtain ⟨y0, y1, y2, _⟩ := hcells
  have k2 : c.lat.2.2.length ≤ 100000 := hz.2.1
  have Rl := hC.lat.row
  have hsl := Rs.len
  by_cases he : s.length = c.lat.2.2.length
  rotate_left
  · have e : dec (StartsP c.t s) = false := dec_false fun h => he h.1
    refine Spec.of _ Try.func65 rfl Try.ntmps65 (by kernel_rfl) rfl ?_
    repeat' (first
      | (apply WL.nilc; exact rfl; exact rfl; exact rfl)
      | (apply W.condKT; exact rfl; (focus (exact dec_true (by omega); done)))
      | (show WL _ _ _ _ _ _ _; first | apply WL.nil | (refine WL.au (k := ?_)))
      | (show Z _ _ _ _ _; first | apply Z.then_normal | apply Z.then_ret)
      | (show W _ _ _ _ _ _; first | apply W.seq | apply W.region | apply W.ret))
    exact Z.body1 Try.results65 rfl fun m => ⟨by rw [e], m, rfl⟩
  refine Spec.of _ Try.func65 rfl Try.ntmps65 (by kernel_rfl) rfl ?_
  repeat' (first
    | (apply WL.nilc; exact rfl; exact rfl; exact rfl)
    | (apply W.condKF; exact rfl; (focus (exact dec_false (by omega); done)))
    | (show WL _ _ _ _ _ _ _; first | apply WL.nil | (refine WL.au (k := ?_)))
    | (show Z _ _ _ _ _; apply Z.then_normal)
    | (show W _ _ _ _ _ _; first | apply W.seq | apply W.region | apply W.block | apply W.skip))
  refine W.loop1 s.length (fun k => k ≤ s.length ∧ ∀ (j : Nat) x b, j < k → c.lat.2.2[j]? = some x → s[j]? = some b → ¬ (x.2.2 = 0 ∧ b = true) ∧ ¬ (x.2.2 = 1 ∧ b = false)) (fun k => [(0, .pointer (some ⟨gm, 0, none⟩)), (1, .slice a s.length ca), (5, .int .i64 k)]) ⟨Nat.zero_le _, fun j x b h => by omega⟩ (fun k h => h.1) ⟨rfl, rfl, rfl, trivial⟩ ?_
  rintro k ⟨hk, hall⟩
  by_cases hlt : k < s.length
  · obtain ⟨b, hb⟩ := getI s hlt
    obtain ⟨x, hx⟩ := getI c.lat.2.2 (show k < c.lat.2.2.length by omega)
    have hstep : (¬ (x.2.2 = 0 ∧ b = true) ∧ ¬ (x.2.2 = 1 ∧ b = false)) → ∀ (j : Nat) x b, j < k + 1 → c.lat.2.2[j]? = some x → s[j]? = some b → ¬ (x.2.2 = 0 ∧ b = true) ∧ ¬ (x.2.2 = 1 ∧ b = false) := by
      intro h j y d hj h1 h2
      by_cases hjk : j = k
      · subst hjk; rw [hx] at h1; rw [hb] at h2; cases h1; cases h2; exact h
      · exact hall j y d (by omega) h1 h2
    by_cases h0 : x.2.2 = 0
    · cases b
      · repeat' (first
          | (apply WL.nilc; exact rfl; exact rfl; exact rfl)
          | (apply WL.gT; exact rfl; exact rfl; (focus (first | exact dec_true (by omega) | exact dec_false (by omega); done)))
          | (apply WL.gF; exact rfl; exact rfl; (focus (first | exact dec_true (by omega) | exact dec_false (by omega); done)))
          | (apply W.condKT; exact rfl; (focus (first | exact dec_true (by omega) | exact dec_false (by omega); done)))
          | (show WL _ _ _ _ _ _ _; first | apply WL.nil | (refine WL.au (k := ?_)) | (apply WL.index tOk; exact rfl; exact rfl; exact rfl; exact rfl; exact rfl; exact rfl; exact rfl; exact rfl; assumption; (exact extA); exact rfl; omega; assumption; intro b off h; have hcc := h; first | (obtain ⟨h1, h2, h3, h4, h5, h6, _⟩ := h) | (obtain ⟨h1, h2, h3, _⟩ := h) | (obtain ⟨h1, h2, _⟩ := h) | (obtain ⟨h1, _⟩ := h)) | (apply WL.guardF; exact rfl; exact rfl))
          | (show Z _ _ _ _ _; first | apply Z.then_normal | apply Z.block_normal)
          | (show W _ _ _ _ _ _; first | apply W.seq | apply W.region | apply W.block | apply W.skip | (apply W.condF; exact rfl)))
        exact Z.again1 ⟨by omega, hstep ⟨by simp, by omega⟩⟩ ⟨rfl, rfl, rfl, trivial⟩
      · have e : dec (StartsP c.t s) = false := dec_false fun h => (h.2 k x true hx hb).1 ⟨h0, rfl⟩
        repeat' (first
          | (apply WL.nilc; exact rfl; exact rfl; exact rfl)
          | (apply WL.gT; exact rfl; exact rfl; (focus (first | exact dec_true (by omega) | exact dec_false (by omega); done)))
          | (apply W.condKT; exact rfl; (focus (first | exact dec_true (by omega) | exact dec_false (by omega); done)))
          | (show WL _ _ _ _ _ _ _; first | apply WL.nil | (refine WL.au (k := ?_)) | (apply WL.index tOk; exact rfl; exact rfl; exact rfl; exact rfl; exact rfl; exact rfl; exact rfl; exact rfl; assumption; (exact extA); exact rfl; omega; assumption; intro b off h; have hcc := h; first | (obtain ⟨h1, h2, h3, h4, h5, h6, _⟩ := h) | (obtain ⟨h1, h2, h3, _⟩ := h) | (obtain ⟨h1, h2, _⟩ := h) | (obtain ⟨h1, _⟩ := h)) | (apply WL.guardF; exact rfl; exact rfl))
          | (show Z _ _ _ _ _; first | apply Z.then_normal | apply Z.then_ret | apply Z.block_ret)
          | (show W _ _ _ _ _ _; first | apply W.seq | apply W.region | apply W.block | apply W.skip | apply W.ret | (apply W.condT; exact rfl)))
        exact Z.body1 Try.results65 rfl fun m => ⟨by rw [e], m, rfl⟩
    · by_cases h1 : x.2.2 = 1
      · cases b
        · have e : dec (StartsP c.t s) = false := dec_false fun h => (h.2 k x false hx hb).2 ⟨h1, rfl⟩
          repeat' (first
            | (apply WL.nilc; exact rfl; exact rfl; exact rfl)
            | (apply WL.gT; exact rfl; exact rfl; (focus (first | exact dec_true (by omega) | exact dec_false (by omega); done)))
            | (apply WL.gF; exact rfl; exact rfl; (focus (first | exact dec_true (by omega) | exact dec_false (by omega); done)))
            | (apply W.condKT; exact rfl; (focus (first | exact dec_true (by omega) | exact dec_false (by omega); done)))
            | (show WL _ _ _ _ _ _ _; first | apply WL.nil | (refine WL.au (k := ?_)) | (apply WL.index tOk; exact rfl; exact rfl; exact rfl; exact rfl; exact rfl; exact rfl; exact rfl; exact rfl; assumption; (exact extA); exact rfl; omega; assumption; intro b off h; have hcc := h; first | (obtain ⟨h1, h2, h3, h4, h5, h6, _⟩ := h) | (obtain ⟨h1, h2, h3, _⟩ := h) | (obtain ⟨h1, h2, _⟩ := h) | (obtain ⟨h1, _⟩ := h)) | (apply WL.guardF; exact rfl; exact rfl))
            | (show Z _ _ _ _ _; first | apply Z.then_normal | apply Z.then_ret | apply Z.block_ret)
            | (show W _ _ _ _ _ _; first | apply W.seq | apply W.region | apply W.block | apply W.skip | apply W.ret | (apply W.condT; exact rfl)))
          exact Z.body1 Try.results65 rfl fun m => ⟨by rw [e], m, rfl⟩
        · repeat' (first
            | (apply WL.nilc; exact rfl; exact rfl; exact rfl)
            | (apply WL.gT; exact rfl; exact rfl; (focus (first | exact dec_true (by omega) | exact dec_false (by omega); done)))
            | (apply WL.gF; exact rfl; exact rfl; (focus (first | exact dec_true (by omega) | exact dec_false (by omega); done)))
            | (apply W.condKT; exact rfl; (focus (first | exact dec_true (by omega) | exact dec_false (by omega); done)))
            | (show WL _ _ _ _ _ _ _; first | apply WL.nil | (refine WL.au (k := ?_)) | (apply WL.index tOk; exact rfl; exact rfl; exact rfl; exact rfl; exact rfl; exact rfl; exact rfl; exact rfl; assumption; (exact extA); exact rfl; omega; assumption; intro b off h; have hcc := h; first | (obtain ⟨h1, h2, h3, h4, h5, h6, _⟩ := h) | (obtain ⟨h1, h2, h3, _⟩ := h) | (obtain ⟨h1, h2, _⟩ := h) | (obtain ⟨h1, _⟩ := h)) | (apply WL.guardF; exact rfl; exact rfl))
            | (show Z _ _ _ _ _; first | apply Z.then_normal | apply Z.block_normal)
            | (show W _ _ _ _ _ _; first | apply W.seq | apply W.region | apply W.block | apply W.skip | (apply W.condF; exact rfl)))
          exact Z.again1 ⟨by omega, hstep ⟨by omega, by simp⟩⟩ ⟨rfl, rfl, rfl, trivial⟩
      · repeat' (first
          | (apply WL.nilc; exact rfl; exact rfl; exact rfl)
          | (apply WL.gF; exact rfl; exact rfl; (focus (first | exact dec_true (by omega) | exact dec_false (by omega); done)))
          | (apply W.condKT; exact rfl; (focus (first | exact dec_true (by omega) | exact dec_false (by omega); done)))
          | (show WL _ _ _ _ _ _ _; first | apply WL.nil | (refine WL.au (k := ?_)) | (apply WL.index tOk; exact rfl; exact rfl; exact rfl; exact rfl; exact rfl; exact rfl; exact rfl; exact rfl; assumption; (exact extA); exact rfl; omega; assumption; intro b off h; have hcc := h; first | (obtain ⟨h1, h2, h3, h4, h5, h6, _⟩ := h) | (obtain ⟨h1, h2, h3, _⟩ := h) | (obtain ⟨h1, h2, _⟩ := h) | (obtain ⟨h1, _⟩ := h)) | (apply WL.guardF; exact rfl; exact rfl))
          | (show Z _ _ _ _ _; first | apply Z.then_normal | apply Z.block_normal)
          | (show W _ _ _ _ _ _; first | apply W.seq | apply W.region | apply W.block | apply W.skip | (apply W.condF; exact rfl)))
        exact Z.again1 ⟨by omega, hstep ⟨by omega, by omega⟩⟩ ⟨rfl, rfl, rfl, trivial⟩
  · obtain rfl : k = s.length := by omega
    have e : dec (StartsP c.t s) = true := dec_true ⟨he, fun j x b h1 h2 => hall j x b (lt_of_get h2) h1 h2⟩
    repeat' (first
      | (apply W.condKF; exact rfl; (focus (exact dec_false (by omega); done)))
      | (show WL _ _ _ _ _ _ _; first | apply WL.nil | (refine WL.au (k := ?_)))
      | (show Z _ _ _ _ _; first | apply Z.then_normal | apply Z.then_exit | apply Z.block_exit)
      | (show W _ _ _ _ _ _; first | apply W.seq | apply W.region | apply W.ret | apply W.exit))
    exact Z.body1 Try.results65 rfl fun m => ⟨by rw [e], m, rfl⟩

theorem nextT_succ {c : CirT} {s i : List Bool} {k : Nat} {x : T3} (h : c.lat[k]? = some x) : (c.lat.take (k + 1)).map (fun x => litV c s i x.2.1) = (c.lat.take k).map (fun x => litV c s i x.2.1) ++ [litV c s i x.2.1] := by
  rw [take_succ' h, List.map_append]; rfl
set_option maxHeartbeats 1000000 in
theorem ref17_Next (gm : Nat) (c : Circ) (rn : RowV (Int × Int)) (ra : RowV Int) (a b : Option Addr) (ca cb : Nat) (s i : List Bool) (w : World) (hM : MAt w gm c rn ra) (Rs : Row 1 encB w a s) (Ri : Row 1 encB w b i) :
    Lt.Spec Try.prog 68 [.pointer (some ⟨gm, 0, none⟩), .slice a s.length ca, .slice b i.length cb] w (IsFresh 1 encB 4 w (nextV c.t s i)) := by
  have hM' := hM
  obtain ⟨hcells, hC, Rn, Ra, en, ea, hg, hz⟩ := hM
  have k2 : c.lat.2.2.length ≤ 100000 := hz.2.1
  have Rl := hC.lat.row
  refine Spec.of _ Try.func68 rfl Try.ntmps68 (by kernel_rfl) rfl ?_
  repeat' (first
    | (apply WL.lit (len := 0) tOk; exact rfl; exact rfl; exact rfl; exact rfl; exact rfl; exact rfl; (first | exact rfl | kernel_rfl | (simp [Instr.fill, catCells]; done)); exact rfl; intro gb w' hb hge hc hx; have hO0 := Own.of_block0 (enc := encB) (s := 1) hb hge)
    | (show WL _ _ _ _ _ _ _; first | apply WL.nil | (refine WL.au (k := ?_)))
    | (show Z _ _ _ _ _; apply Z.then_normal)
    | (show W _ _ _ _ _ _; first | apply W.seq | apply W.region | apply W.block))
  refine W.loopO c.lat.2.2.length (fun k d dp w' => k ≤ c.lat.2.2.length ∧ Ext w w' ∧ Own 1 encB 4 w.heap.size w' d dp ((c.t.lat.take k).map (fun x => litV c.t s i x.2.1)))
    (fun k d dp => [(0, .pointer (some ⟨gm, 0, none⟩)), (1, .slice a s.length ca), (2, .slice b i.length cb), (7, .slice d ((c.t.lat.take k).map (fun x => litV c.t s i x.2.1)).length dp), (8, .int .i64 k)]) (some ⟨gb, 0, none⟩) 0 ⟨Nat.zero_le _, hx, hO0⟩ (fun k d dp w' h => h.1) ⟨rfl, rfl, rfl, rfl, rfl, trivial⟩ ?_
  rintro k d dp w1 ⟨hk, hx1, hO'⟩
  have hl : ((c.t.lat.take k).map (fun x => litV c.t s i x.2.1)).length = k := by rw [List.length_map, List.length_take]; exact Nat.min_eq_left hk
  have hc1 := hcells.ext hx1
  obtain ⟨y0, y1, y2, _⟩ := hc1
  have Rl1 := Rl.ext hx1
  by_cases hlt : k < c.lat.2.2.length
  · obtain ⟨x, hxx⟩ := getI c.lat.2.2 hlt
    have hu : x.2.1 ∈ c.t.used := used_next (List.mem_of_getElem? hxx)
    have e1 := nextT_succ (c := c.t) (s := s) (i := i) hxx
    repeat' (first
      | (apply WL.nilc; exact rfl; exact rfl; exact rfl)
      | (apply W.condKT; exact rfl; (focus (exact dec_true (by omega); done)))
      | ((show WL _ _ _ (⟨_, .call ⟨.value (.func 124), _, _⟩, _, _, _, _⟩ :: _) _ _ _); apply WL.callP; exact rfl; exact rfl; exact rfl; exact rfl; exact ref17_Lit gm c rn ra _ _ _ _ s i x.2.1 _ (hM'.ext (by (exact extA))) (Rs.ext (by (exact extA))) (Ri.ext (by (exact extA))) hu; intro w' hx)
      | (apply WL.lit tOk; exact rfl; exact rfl; exact rfl; exact rfl; exact rfl; exact rfl; (first | exact rfl | kernel_rfl | (simp [Instr.fill, catCells]; done)); exact rfl; intro gb w' hb hge hc hx)
      | (apply WL.append1 (z := (litV c.t s i x.2.1)) tOk encB_ok; exact rfl; exact rfl; exact rfl; exact rfl; exact rfl; exact rfl; exact rfl; exact rfl; exact rfl; exact rfl; assumption; (exact extA); (first | exact rfl | (focus (simp only [List.length_set]; done)) | (focus (simp; done)) | (focus (simp [*]; done)) | omega | (focus (simp only [List.length_set]; omega))); (first | assumption | (refine Cells.ext ?_ (by assumption); exact extA)); exact rfl; exact rfl; (exact extA); (first | omega | (simp; omega) | (simp at *; omega)); intro a' cap' w' hO hX' hU hF)
      | (show WL _ _ _ _ _ _ _; first | apply WL.nil | (refine WL.au (k := ?_)) | (apply WL.index tOk; exact rfl; exact rfl; exact rfl; exact rfl; exact rfl; exact rfl; exact rfl; exact rfl; assumption; (exact extA); exact rfl; omega; assumption; intro b off h; have hcc := h; first | (obtain ⟨h1, h2, h3, h4, h5, h6, _⟩ := h) | (obtain ⟨h1, h2, h3, _⟩ := h) | (obtain ⟨h1, h2, _⟩ := h) | (obtain ⟨h1, _⟩ := h)))
      | (show Z _ _ _ _ _; first | apply Z.then_normal | apply Z.block_normal)
      | (show W _ _ _ _ _ _; first | apply W.seq | apply W.region | apply W.block | apply W.skip))
    exact Z.againO a' cap' ⟨by omega, hX', by rw [e1]; exact hO⟩ (by repeat' first | exact trivial | (refine And.intro ?_ ?_) | exact rfl | (rw [e1]; exact rfl))
  · obtain rfl : k = c.lat.2.2.length := by omega
    have e9 : (c.t.lat.take c.lat.2.2.length).map (fun x => litV c.t s i x.2.1) = nextV c.t s i := by rw [List.take_of_length_le (Nat.le_refl _)]; rfl
    repeat' (first
      | (apply WL.nilc; exact rfl; exact rfl; exact rfl)
      | (apply W.condKF; exact rfl; (focus (exact dec_false (by omega); done)))
      | (show WL _ _ _ _ _ _ _; first | apply WL.nil | (refine WL.au (k := ?_)))
      | (show Z _ _ _ _ _; first | apply Z.then_normal | apply Z.then_exit | apply Z.block_exit)
      | (show W _ _ _ _ _ _; first | apply W.seq | apply W.region | apply W.ret | apply W.exit))
    rw [e9] at hO'
    exact Z.body1 Try.results68 rfl fun m => ⟨hx1.at m, d, dp, by rw [e9], hO'⟩
end Go.Proofs.Ythpnahapiodflaa
namespace Go.Lt
open Go.RowKit
set_option linter.unusedVariables false

theorem OwnRR.nil {α : Type} {s : Nat} {enc : α → List Value} {el elO B : Nat} {w : World} {a : Option Addr} {cap : Nat} (h : Own 1 encRow elO B w a cap ([] : List (RowV α))) : OwnRR s enc el elO B w a cap [] :=
  ⟨h, fun i r hr => by simp at hr, fun i r hr => by simp at hr, fun i j r q hr => by simp at hr⟩
/-- Rows told, and one more that is not put behind yet. -/
structure RR1 {α : Type} (s : Nat) (enc : α → List Value) (el elO B : Nat) (w : World) (a : Option Addr) (cap : Nat) (rs : List (RowV α)) (b : Option Addr) (dp : Nat) (S : List α) : Prop where
  rr : OwnRR s enc el elO B w a cap rs
  own : Own s enc el B w b dp S
  apartO : blk b = none ∨ blk b ≠ blk a
  apart : ∀ (i : Nat) (q : RowV α), rs[i]? = some q → blk q.1 = none ∨ blk q.1 ≠ blk b
section
variable {α : Type} {s : Nat} {enc : α → List Value} {el elO B : Nat} {w w1 w2 w3 : World} {a a' b : Option Addr} {cap cap' dp : Nat} {rs : List (RowV α)} {S : List α}
theorem RR1.ext (h : RR1 s enc el elO B w a cap rs b dp S) (hx : Ext w w1) : RR1 s enc el elO B w1 a cap rs b dp S := ⟨h.rr.ext hx, h.own.ext hx, h.apartO, h.apart⟩
theorem RR1.new (h : OwnRR s enc el elO B w1 a cap rs) (hx : Ext w1 w2) (hO : Own s enc el w1.heap.size w2 b dp S) (hB : B ≤ w1.heap.size) : RR1 s enc el elO B w2 a cap rs b dp S := by
  refine ⟨h.ext hx, hO.base hB, ?_, fun i q hq => ?_⟩
  · cases hb : blk b with
    | none => exact .inl rfl
    | some k =>
      refine .inr fun he => ?_
      have h1 := (hO.blk_lt k hb).1
      have h2 := (h.outer.blk_lt k he.symm).2
      omega
  · cases hb : blk q.1 with
    | none => exact .inl rfl
    | some k =>
      refine .inr fun he => ?_
      have h1 := ((h.inner i q hq).blk_lt k hb).2
      have h2 := (hO.blk_lt k he.symm).1
      omega
theorem RR1.first {g c0 : Nat} (hO : Own s enc el B w b dp S) (h : Own 1 encRow elO B w (some ⟨g, 0, none⟩) c0 ([] : List (RowV α))) (hg : ∀ k, blk b = some k → k ≠ g) : RR1 s enc el elO B w (some ⟨g, 0, none⟩) c0 [] b dp S := by
  refine ⟨OwnRR.nil h, hO, ?_, fun i q hq => by simp at hq⟩
  cases hb : blk b with
  | none => exact .inl rfl
  | some k =>
    refine .inr fun he => hg k hb ?_
    simp only [blk, Option.map_some, Option.some.injEq] at he; exact he
theorem RR1.push (h : RR1 s enc el elO B w2 a cap rs b dp S) (hU : Upd B a w2 w3) (hO : Own 1 encRow elO B w3 a' cap' (rs ++ [(b, dp, S)])) (hF : blk a' = blk a ∨ ∃ k, blk a' = some k ∧ w2.heap.size ≤ k) : OwnRR s enc el elO B w3 a' cap' (rs ++ [(b, dp, S)]) := by
  obtain ⟨hr, ho, hA, hI⟩ := h
  have get : ∀ (i : Nat) (q : RowV α), (rs ++ [(b, dp, S)])[i]? = some q → (i < rs.length ∧ rs[i]? = some q) ∨ (i = rs.length ∧ q = (b, dp, S)) := fun i q hq => by
    by_cases hi : i < rs.length
    · rw [List.getElem?_append_left hi] at hq; exact .inl ⟨hi, hq⟩
    · rw [List.getElem?_append_right (by omega)] at hq
      have h0 := lt_of_get hq
      simp at h0
      have h1 : i - rs.length = 0 := by omega
      rw [h1] at hq
      simp at hq
      exact .inr ⟨by omega, hq.symm⟩
  have lt2 : ∀ (i : Nat) (q : RowV α) (k : Nat), (rs ++ [(b, dp, S)])[i]? = some q → blk q.1 = some k → k < w2.heap.size := fun i q k hq hk => by
    rcases get i q hq with ⟨_, hq⟩ | ⟨_, rfl⟩
    · exact ((hr.inner i q hq).blk_lt k hk).2
    · exact (ho.blk_lt k hk).2
  have apA : ∀ (i : Nat) (q : RowV α), (rs ++ [(b, dp, S)])[i]? = some q → blk q.1 = none ∨ blk q.1 ≠ blk a := fun i q hq => by
    rcases get i q hq with ⟨_, hq⟩ | ⟨_, rfl⟩
    · exact hr.apartO i q hq
    · exact hA
  refine ⟨hO, fun i q hq => ?_, fun i q hq => ?_, fun i j q p h1 h2 hne => ?_⟩
  · rcases get i q hq with ⟨_, hq'⟩ | ⟨_, rfl⟩
    · exact hU.own (hr.inner i q hq') (hr.apartO i q hq')
    · exact hU.own ho hA
  · rcases hF with hF | ⟨k, hk, hle⟩
    · rw [hF]; exact apA i q hq
    · cases hb : blk q.1 with
      | none => exact .inl rfl
      | some b =>
        refine .inr fun he => ?_
        have := lt2 i q b hq hb
        rw [hk] at he
        have := Option.some.inj he
        omega
  · rcases get i q h1 with ⟨_, h1'⟩ | ⟨rfl, rfl⟩
    · rcases get j p h2 with ⟨_, h2'⟩ | ⟨rfl, rfl⟩
      · exact hr.apart i j q p h1' h2' hne
      · exact hI i q h1'
    · rcases get j p h2 with ⟨_, h2'⟩ | ⟨rfl, rfl⟩
      · show blk b = none ∨ blk b ≠ blk p.1
        cases hb : blk b with
        | none => exact .inl rfl
        | some k =>
          refine .inr fun he => ?_
          rcases hI j p h2' with h3 | h3
          · rw [h3] at he; cases he
          · exact h3 (by rw [hb]; exact he.symm)
      · exact absurd rfl hne
end
theorem OwnRR.base {α : Type} {s : Nat} {enc : α → List Value} {el elO B C : Nat} {w : World} {a : Option Addr} {cap : Nat} {rs : List (RowV α)} (h : OwnRR s enc el elO C w a cap rs) (hB : B ≤ C) : OwnRR s enc el elO B w a cap rs := ⟨h.outer.base hB, fun i r hr => (h.inner i r hr).base hB, h.apartO, h.apart⟩
theorem OwnRR.row {α : Type} {s : Nat} {enc : α → List Value} {el elO B : Nat} {w : World} {a : Option Addr} {cap : Nat} {rs : List (RowV α)} (h : OwnRR s enc el elO B w a cap rs) (hE : Enc s enc) {i : Nat} {r : RowV α} (hr : rs[i]? = some r) : Row s enc w r.1 r.2.2 := (h.inner i r hr).row hE
theorem OwnRR.at {α : Type} {s : Nat} {enc : α → List Value} {el elO B : Nat} {w : World} {a : Option Addr} {cap : Nat} {rs : List (RowV α)} (h : OwnRR s enc el elO B w a cap rs) (m : Nat) : OwnRR s enc el elO B (at' w m) a cap rs := h.ext ((Ext.refl w).at m)
end Go.Lt
namespace Go.Proofs.Ythpnahapiodflaa
open Go Go.Lt Go.RowKit
set_option linter.unusedVariables false
set_option linter.unusedSimpArgs false
set_option maxRecDepth 20000

set_option maxHeartbeats 1000000 in
theorem ref17_Bad (gm : Nat) (c : Circ) (rn : RowV (Int × Int)) (ra : RowV Int) (a b : Option Addr) (ca cb : Nat) (s i : List Bool) (p : Int) (w : World) (hM : MAt w gm c rn ra) (Rs : Row 1 encB w a s) (Ri : Row 1 encB w b i) :
    Pure Try.prog 70 [.pointer (some ⟨gm, 0, none⟩), .slice a s.length ca, .slice b i.length cb, .int .i64 p] w (.bool (dec (BadP c.t s i p))) := by
  have hM' := hM
  obtain ⟨hcells, hC, Rn, Ra, en, ea, hg, hz⟩ := hM
  obtain ⟨y0, y1, y2, y3, y4, _⟩ := hcells
  have Rb := hC.bads.row
  have hbl := Rb.len
  by_cases q1 : 0 ≤ p
  · by_cases q2 : p < c.bads.2.2.length
    · obtain ⟨l, hl⟩ := getI c.bads.2.2 (show p.toNat < c.bads.2.2.length by omega)
      have e : dec (BadP c.t s i p) = litV c.t s i l := by
        cases hv : litV c.t s i l
        · refine dec_false fun h => ?_
          obtain ⟨_, l', h1, h2⟩ := h
          have : c.bads.2.2[p.toNat]? = some l' := h1
          rw [hl] at this; cases this
          rw [hv] at h2; cases h2
        · exact dec_true ⟨q1, l, hl, hv⟩
      refine Spec.of _ Try.func70 rfl Try.ntmps70 (by kernel_rfl) rfl ?_
      repeat' (first
        | (apply WL.nilc; exact rfl; exact rfl; exact rfl)
        | (apply WL.gT; exact rfl; exact rfl; (focus (first | exact dec_true q1 | exact dec_true q2; done)))
        | ((show WL _ _ _ (⟨_, .call ⟨.value (.func 124), _, _⟩, _, _, _, _⟩ :: _) _ _ _); apply WL.callP; exact rfl; exact rfl; exact rfl; exact rfl; exact ref17_Lit gm c rn ra _ _ _ _ s i l _ (hM'.ext (by (exact extA))) (Rs.ext (by (exact extA))) (Ri.ext (by (exact extA))) (used_bad (List.mem_of_getElem? hl)); intro w' hx)
        | (show WL _ _ _ _ _ _ _; first | apply WL.nil | (refine WL.au (k := ?_)) | (apply WL.index tOk; exact rfl; exact rfl; exact rfl; exact rfl; exact rfl; exact rfl; exact rfl; exact rfl; assumption; (exact extA); exact rfl; omega; assumption; intro b off h; have hcc := h; first | (obtain ⟨h1, h2, h3, h4, h5, h6, _⟩ := h) | (obtain ⟨h1, h2, h3, _⟩ := h) | (obtain ⟨h1, h2, _⟩ := h) | (obtain ⟨h1, _⟩ := h)))
        | (show Z _ _ _ _ _; apply Z.then_normal)
        | (show W _ _ _ _ _ _; first | apply W.seq | apply W.region | apply W.ret))
      exact Z.body1 Try.results70 rfl fun m => ⟨by rw [e], Ext.at (by (exact extA)) m⟩
    · have e : dec (BadP c.t s i p) = false := dec_false fun h => by
        obtain ⟨_, l', h1, h2⟩ := h
        have := lt_of_get h1
        have : p.toNat < c.bads.2.2.length := this
        omega
      refine Spec.of _ Try.func70 rfl Try.ntmps70 (by kernel_rfl) rfl ?_
      repeat' (first
        | (apply WL.nilc; exact rfl; exact rfl; exact rfl)
        | (apply WL.gT; exact rfl; exact rfl; (focus (first | exact dec_true q1 | exact dec_false q2; done)))
        | (apply WL.gF; exact rfl; exact rfl; (focus (first | exact dec_true q1 | exact dec_false q2; done)))
        | (show WL _ _ _ _ _ _ _; first | apply WL.nil | (refine WL.au (k := ?_)) | (apply WL.guardF; exact rfl; exact rfl))
        | (show Z _ _ _ _ _; apply Z.then_normal)
        | (show W _ _ _ _ _ _; first | apply W.seq | apply W.region | apply W.ret))
      exact Z.body1 Try.results70 rfl fun m => ⟨by rw [e], Ext.at (by (exact extA)) m⟩
  · have e : dec (BadP c.t s i p) = false := dec_false fun h => q1 h.1
    refine Spec.of _ Try.func70 rfl Try.ntmps70 (by kernel_rfl) rfl ?_
    repeat' (first
      | (apply WL.gF; exact rfl; exact rfl; (focus (exact dec_false q1; done)))
      | (show WL _ _ _ _ _ _ _; first | apply WL.nil | (refine WL.au (k := ?_)) | (apply WL.guardF; exact rfl; exact rfl))
      | (show Z _ _ _ _ _; apply Z.then_normal)
      | (show W _ _ _ _ _ _; first | apply W.seq | apply W.region | apply W.ret))
    exact Z.body1 Try.results70 rfl fun m => ⟨by rw [e], Ext.at (by (exact extA)) m⟩

set_option maxHeartbeats 1000000 in
theorem ref17_Holds (gm : Nat) (c : Circ) (rn : RowV (Int × Int)) (ra : RowV Int) (a b : Option Addr) (ca cb : Nat) (s i : List Bool) (w : World) (hM : MAt w gm c rn ra) (Rs : Row 1 encB w a s) (Ri : Row 1 encB w b i) :
    Pure Try.prog 72 [.pointer (some ⟨gm, 0, none⟩), .slice a s.length ca, .slice b i.length cb] w (.bool (dec (HoldsP c.t s i))) := by
  have hM' := hM
  obtain ⟨hcells, hC, Rn, Ra, en, ea, hg, hz⟩ := hM
  have Rc := hC.cons.row
  have hbl := Rc.len
  refine Spec.of _ Try.func72 rfl Try.ntmps72 (by kernel_rfl) rfl ?_
  repeat' (first
    | (show WL _ _ _ _ _ _ _; first | apply WL.nil | (refine WL.au (k := ?_)))
    | (show Z _ _ _ _ _; apply Z.then_normal)
    | (show W _ _ _ _ _ _; first | apply W.seq | apply W.region | apply W.block))
  refine W.loopW c.cons.2.2.length (fun k w' => k ≤ c.cons.2.2.length ∧ Ext w w' ∧ ∀ (j : Nat) l, j < k → c.cons.2.2[j]? = some l → litV c.t s i l = true) (fun k => [(0, .pointer (some ⟨gm, 0, none⟩)), (1, .slice a s.length ca), (2, .slice b i.length cb), (7, .int .i64 k)]) ⟨Nat.zero_le _, Ext.refl _, fun j l h => by omega⟩ (fun k w' h => h.1) ⟨rfl, rfl, rfl, rfl, trivial⟩ ?_
  rintro k w1 ⟨hk, hx1, hall⟩
  have hc1 := hcells.ext hx1
  obtain ⟨y0, y1, y2, y3, y4, y5, _⟩ := hc1
  have Rc1 := Rc.ext hx1
  by_cases hlt : k < c.cons.2.2.length
  · obtain ⟨l, hl⟩ := getI c.cons.2.2 hlt
    have hu : l ∈ c.t.used := used_con (List.mem_of_getElem? hl)
    have hr := fun (w9 : World) (h9 : Ext w w9) => ref17_Lit gm c rn ra a b ca cb s i l w9 (hM'.ext h9) (Rs.ext h9) (Ri.ext h9) hu
    cases hv : litV c.t s i l <;> rw [hv] at hr
    · have e : dec (HoldsP c.t s i) = false := dec_false fun h => by have := h l (List.mem_of_getElem? hl); rw [hv] at this; cases this
      repeat' (first
        | (apply WL.nilc; exact rfl; exact rfl; exact rfl)
        | (apply W.condKT; exact rfl; (focus (first | exact dec_true (by omega); done)))
        | (((show WL _ _ _ (⟨_, .call ⟨.value (.func 124), _, _⟩, _, _, _, _⟩ :: _) _ _ _); apply WL.callP; exact rfl; exact rfl; exact rfl; exact rfl; exact hr _ (by (exact extA)); intro w' hx))
        | (show WL _ _ _ _ _ _ _; first | apply WL.nil | (refine WL.au (k := ?_)) | (apply WL.index tOk; exact rfl; exact rfl; exact rfl; exact rfl; exact rfl; exact rfl; exact rfl; exact rfl; assumption; (exact extA); exact rfl; omega; assumption; intro b off h; have hcc := h; first | (obtain ⟨h1, h2, h3, h4, h5, h6, _⟩ := h) | (obtain ⟨h1, h2, h3, _⟩ := h) | (obtain ⟨h1, h2, _⟩ := h) | (obtain ⟨h1, _⟩ := h)))
        | (show Z _ _ _ _ _; first | apply Z.then_normal | apply Z.then_ret | apply Z.block_ret)
        | (show W _ _ _ _ _ _; first | apply W.seq | apply W.region | apply W.block | apply W.skip | apply W.ret | (apply W.condT; exact rfl)))
      exact Z.body1 Try.results72 rfl fun m => ⟨by rw [e], Ext.at (by (exact extA)) m⟩
    · repeat' (first
        | (apply WL.nilc; exact rfl; exact rfl; exact rfl)
        | (apply W.condKT; exact rfl; (focus (first | exact dec_true (by omega); done)))
        | (((show WL _ _ _ (⟨_, .call ⟨.value (.func 124), _, _⟩, _, _, _, _⟩ :: _) _ _ _); apply WL.callP; exact rfl; exact rfl; exact rfl; exact rfl; exact hr _ (by (exact extA)); intro w' hx))
        | (show WL _ _ _ _ _ _ _; first | apply WL.nil | (refine WL.au (k := ?_)) | (apply WL.index tOk; exact rfl; exact rfl; exact rfl; exact rfl; exact rfl; exact rfl; exact rfl; exact rfl; assumption; (exact extA); exact rfl; omega; assumption; intro b off h; have hcc := h; first | (obtain ⟨h1, h2, h3, h4, h5, h6, _⟩ := h) | (obtain ⟨h1, h2, h3, _⟩ := h) | (obtain ⟨h1, h2, _⟩ := h) | (obtain ⟨h1, _⟩ := h)))
        | (show Z _ _ _ _ _; first | apply Z.then_normal | apply Z.block_normal)
        | (show W _ _ _ _ _ _; first | apply W.seq | apply W.region | apply W.block | apply W.skip | (apply W.condF; exact rfl)))
      refine Z.againW ⟨by omega, (by (exact extA)), fun j l' hj h1 => ?_⟩ ⟨rfl, rfl, rfl, rfl, trivial⟩
      by_cases hjk : j = k
      · subst hjk; rw [hl] at h1; cases h1; exact hv
      · exact hall j l' (by omega) h1
  · obtain rfl : k = c.cons.2.2.length := by omega
    have e : dec (HoldsP c.t s i) = true := dec_true fun l h => by
      obtain ⟨j, hj⟩ := List.mem_iff_getElem?.1 h
      exact hall j l (lt_of_get hj) hj
    repeat' (first
      | (apply WL.nilc; exact rfl; exact rfl; exact rfl)
      | (apply W.condKF; exact rfl; (focus (exact dec_false (by omega); done)))
      | (show WL _ _ _ _ _ _ _; first | apply WL.nil | (refine WL.au (k := ?_)))
      | (show Z _ _ _ _ _; first | apply Z.then_normal | apply Z.then_exit | apply Z.block_exit)
      | (show W _ _ _ _ _ _; first | apply W.seq | apply W.region | apply W.ret | apply W.exit))
    exact Z.body1 Try.results72 rfl fun m => ⟨by rw [e], Ext.at (by (exact extA)) m⟩

set_option maxHeartbeats 1000000 in
theorem ref17_New (c : Circ) (w : World) (hC : CAt w c) (hg : GoodC' c.t) (hz : SzC c.t 100000) :
    Lt.Spec Try.prog 61 [c.val] w (fun v w' => Ext w w' ∧ ∃ gm rn ra, v = .pointer (some ⟨gm, 0, none⟩) ∧ MAt w' gm c rn ra ∧ w.heap.size ≤ gm) := by
  refine Spec.of _ Try.func61 rfl Try.ntmps61 (by kernel_rfl) rfl ?_
  repeat' (first
    | (apply WL.box; exact rfl; exact rfl; exact rfl; intro gb w' hb hge hc hx; have hcc := hc; (first | (obtain ⟨h1, h2, h3, _⟩ := hc) | (obtain ⟨h1, h2, _⟩ := hc)); (first | (have h_0 := hcells; clear h_0) | (have hcells := hcc; obtain ⟨gc, rfl⟩ : ∃ x, x = gb := ⟨_, rfl⟩; obtain ⟨wc, rfl⟩ : ∃ x, x = w' := ⟨_, rfl⟩; obtain ⟨hxc, rfl⟩ : ∃ x, x = hx := ⟨_, rfl⟩)))
    | (((show WL _ _ _ (⟨_, .call ⟨.value (.func 54), _, _⟩, _, _, _, _⟩ :: _) _ _ _); apply WL.call; exact rfl; exact rfl; exact rfl; exact rfl; exact ref11_Net c _ (hC.ext (by (exact extA))) hg hz; rintro v' w7 ⟨hx7, am, cm, ab, cb, rfl, hOm, hOb⟩; have hcells7 := hcells.ext hx7; have Rm := hOm.row encN_ok; have Rb := hOb.row encI_ok))
    | (apply WL.build tOk; exact rfl; exact rfl; exact rfl; exact rfl; exact rfl; exact rfl; exact rfl; kernel_rfl)
    | (show WL _ _ _ _ _ _ _; first | apply WL.nil | (refine WL.au (k := ?_)))
    | (show Z _ _ _ _ _; apply Z.then_normal)
    | (show W _ _ _ _ _ _; first | apply W.seq | apply W.region | apply W.ret))
  have hcm : Cells w' gb 0 (c.vals ++ [.slice am (cNet c.t).1.length cm, .slice ab (cNet c.t).2.length cb]) := hcc
  exact Z.body1 Try.results61 rfl fun m => ⟨Ext.at (by (exact extA)) m, gb, (am, cm, (cNet c.t).1), (ab, cb, (cNet c.t).2), rfl, (MAt.mk hcm (hC.ext (by (exact extA))) (Rm.ext (by (exact extA))) (Rb.ext (by (exact extA))) rfl rfl hg hz : MAt w' gb c (am, cm, (cNet c.t).1) (ab, cb, (cNet c.t).2)).ext ((Ext.refl _).at m), Nat.le_trans (Below.size (show Ext w w7 from (by (exact extA)))) hge⟩

abbrev encRB : RowV Bool → List Value := encRow
theorem encRB_ok : Enc 1 encRB := encRow_ok
/-- A run by value: its rows, with where they lie. -/
structure RunV where
  st : RowV Bool
  ins : RowV (RowV Bool)
abbrev RunV.val (r : RunV) : Value := .agg #[rowVal r.st, rowVal r.ins]
abbrev RunV.s (r : RunV) : List Bool := r.st.2.2
abbrev RunV.i (r : RunV) : List (List Bool) := r.ins.2.2.map (·.2.2)
structure RAt (w : World) (r : RunV) : Prop where
  st : Row 1 encB w r.st.1 r.st.2.2
  ins : Row 1 encRB w r.ins.1 r.ins.2.2
  each : ∀ x ∈ r.ins.2.2, Row 1 encB w x.1 x.2.2
theorem RAt.ext {w w' : World} {r : RunV} (h : RAt w r) (hx : Ext w w') : RAt w' r := ⟨h.st.ext hx, h.ins.ext hx, fun x h1 => (h.each x h1).ext hx⟩
end Go.Proofs.Ythpnahapiodflaa
namespace Go.Proofs.Ythpnahapiodflaa
open Go Go.Lt Go.RowKit
set_option linter.unusedVariables false
set_option linter.unusedSimpArgs false
set_option maxRecDepth 20000

theorem runI_get {r : RunV} {k : Nat} {x : RowV Bool} (h : r.ins.2.2[k]? = some x) : r.i[k]? = some x.2.2 := by
  show (r.ins.2.2.map (·.2.2))[k]? = _
  rw [List.getElem?_map, h]; rfl
theorem runI_len (r : RunV) : r.i.length = r.ins.2.2.length := List.length_map _
theorem range_map_succ {α : Type} (f : Nat → α) (k : Nat) : (List.range (k + 1)).map f = (List.range k).map f ++ [f k] := by rw [List.range_succ, List.map_append]; rfl
set_option maxHeartbeats 2000000 in
theorem ref17_States (gm : Nat) (c : Circ) (rn : RowV (Int × Int)) (ra : RowV Int) (r : RunV) (w : World) (hM : MAt w gm c rn ra) (hR : RAt w r) (hn : r.ins.2.2.length ≤ 1048576) :
    Lt.Spec Try.prog 75 [.pointer (some ⟨gm, 0, none⟩), r.val] w (IsFreshRR 1 encB 4 22 w (statesV c.t r.s r.i)) := by
  have hM' := hM
  obtain ⟨hcells, hC, Rn, Ra, en, ea, hg, hz⟩ := hM
  have k2 : c.lat.2.2.length ≤ 100000 := hz.2.1
  refine Spec.of _ Try.func75 rfl Try.ntmps75 (by kernel_rfl) rfl ?_
  repeat' (first
    | (apply WL.box; exact rfl; exact rfl; exact rfl; intro gb w' hb hge hc hx; have hcc := hc; (first | (obtain ⟨h1, h2, h3, _⟩ := hc) | (obtain ⟨h1, h2, _⟩ := hc)); (obtain ⟨gr, rfl⟩ : ∃ x, x = gb := ⟨_, rfl⟩; obtain ⟨wr, rfl⟩ : ∃ x, x = w' := ⟨_, rfl⟩; obtain ⟨hxr, rfl⟩ : ∃ x, x = hx := ⟨_, rfl⟩))
    | (show WL _ _ _ _ _ _ _; first | apply WL.nil | (refine WL.au (k := ?_)))
    | (show Z _ _ _ _ _; apply Z.then_normal)
    | (show W _ _ _ _ _ _; first | apply W.seq | apply W.region))
  have hcr := hcells.ext hxr
  obtain ⟨y0, y1, y2, _⟩ := hcr
  repeat' (first
    | (apply FL.nilc; exact rfl; exact rfl; exact rfl)
    | (show W _ _ (.region 1 _ _) _ _ _; apply W.regionGX (.fl true 1 (.fl true 3 (.fl true 4 (.fl true 5 (.fl true 6 (.fl false 2 (.fl false 7 (.fl true 8 (.br 0 (.br 9 (.fl true 10 (.fl true 11 .done)) .stop) (.br 9 (.br 0 (.fl true 10 (.fl true 11 .done)) .stop) .stop)))))))))) [0, 7, 8, 9, 10] tMix; kernel_rfl)
    | (apply WL.lit (len := 0) tOk; exact rfl; exact rfl; exact rfl; exact rfl; exact rfl; exact rfl; (first | exact rfl | kernel_rfl | (simp [Instr.fill, catCells]; done)); exact rfl; intro gb w' hb hge hc hx; have hO0 := Own.of_block0 (enc := encRB) (s := 1) hb hge; (obtain ⟨g8, rfl⟩ : ∃ x, x = gb := ⟨_, rfl⟩))
    | ((show WL _ _ _ (⟨_, .call ⟨.value (.func 128), _, _⟩, _, _, _, _⟩ :: _) _ _ _); apply WL.call; exact rfl; exact rfl; exact rfl; exact rfl; exact ref17_Brought _ _ r.s c.lat.2.2.length _ (hR.st.ext (by (exact extA))) (by omega); rintro v' w' ⟨hx, a', cap', rfl, hO⟩)
    | (show SX _ _ _ _ _ _ _ _ _; first | (apply SX.done; intro w' hx) | (apply SX.fl0; exact rfl) | (apply SX.fl1; exact rfl; (exact extA)) | (apply SX.br1; exact rfl; intro w' hx) | (apply SX.br; exact rfl; (intro w' hx)))
    | (show FL _ _ _ _ _ _ _ _; first | apply FL.nilX | (apply FL.loadE tOk; exact rfl; exact rfl; exact rfl; exact rfl; exact rfl; assumption))
    | (show FL _ _ _ _ _ _ _ _; (refine FL.au (k := ?_)))
    | (show Z _ _ _ _ _; (apply Z.sxE; (exact extA)))
    | (show WL _ _ _ _ _ _ _; first | apply WL.nil | (refine WL.au (k := ?_)))
    | (show Z _ _ _ _ _; apply Z.then_normal)
    | (show W _ _ _ _ _ _; first | apply W.seq | apply W.region | apply W.block))
  all_goals
    have hXr : Ext wr w' := (by (exact extA))
    have h0 : RR1 1 encB 4 22 wr.heap.size w' (some ⟨g8, 0, none⟩) 0 [] a' cap' (brV r.s c.lat.2.2.length) := by
      refine RR1.first (Own.base (Own.ext hO (by (exact extA))) (Below.size (by (exact extA)))) (Own.base (Own.ext hO0 (by (exact extA))) (Below.size (by (exact extA)))) fun k hk => ?_
      first
      | exact Nat.ne_of_gt (Nat.lt_of_lt_of_le (Nat.lt_of_lt_of_le (heap_lt hb) (Below.size (by (exact extA)))) (hO.blk_lt k hk).1)
      | exact Nat.ne_of_lt (Nat.lt_of_lt_of_le (Nat.lt_of_lt_of_le (hO.blk_lt k hk).2 (Below.size (by (exact extA)))) hge)
    have hXw : Ext w w' := hxr.trans hXr
    obtain ⟨b0, rfl⟩ : ∃ x, x = a' := ⟨_, rfl⟩; obtain ⟨d0, rfl⟩ : ∃ x, x = cap' := ⟨_, rfl⟩; obtain ⟨w1, rfl⟩ : ∃ x, x = w' := ⟨_, rfl⟩
    clear hO hO0
    refine W.loopO2 r.ins.2.2.length (fun k a cp b dp w' => k ≤ r.ins.2.2.length ∧ Ext wr w' ∧ ∃ rs : List (RowV Bool), rs.length = k ∧ rs.map (fun q => q.2.2) = (List.range k).map (stateV c.t r.s r.i) ∧ RR1 1 encB 4 22 wr.heap.size w' a cp rs b dp (stateV c.t r.s r.i k))
      (fun k a cp b dp => [(0, .pointer (some ⟨gm, 0, none⟩)), (3, .pointer (some ⟨gr, 0, none⟩)), (5, .slice a k cp), (6, .slice b (stateV c.t r.s r.i k).length dp), (7, .int .i64 k)]) (some ⟨g8, 0, none⟩) 0 b0 d0 ⟨Nat.zero_le _, hXr, [], rfl, rfl, h0⟩ (fun k a cp b dp w' h => h.1) ⟨rfl, rfl, rfl, rfl, rfl, trivial⟩ ?_
    clear h0
    rintro k a cp b dp w2 ⟨hk, hX2, rs, hl, he, hR1⟩
    have hsl := stateV_len c.t r.s r.i k
    have hsl' : (stateV c.t r.s r.i k).length = c.lat.2.2.length := hsl
    have hcc2 := hcc.ext hX2
    obtain ⟨k1, k3, _⟩ := hcc2
    have hRi := hR.ins
    have hXw2 : Ext w w2 := hxr.trans hX2
    by_cases hlt : k < r.ins.2.2.length
    · obtain ⟨x, hx⟩ := getI r.ins.2.2 hlt
      have hxi := runI_get hx
      have hxr2 := hR.each x (List.mem_of_getElem? hx)
      have e1 : stateV c.t r.s r.i (k + 1) = nextV c.t (stateV c.t r.s r.i k) x.2.2 := by
        show nextV c.t _ (r.i.getD k []) = _; rw [getD_of hxi]
      have hOo : Own 1 encRB 22 wr.heap.size w2 a cp rs := hR1.rr.outer
      have RSt := hR1.own.row encB_ok
      repeat' (first
        | (apply W.condKT; exact rfl; (focus (exact dec_true (by omega); done)))
        | (apply WL.lit tOk; exact rfl; exact rfl; exact rfl; exact rfl; exact rfl; exact rfl; (first | exact rfl | kernel_rfl | (simp [Instr.fill, catCells]; done)); exact rfl; intro gb w' hb hge hc hx)
        | (apply WL.append1 (z := (((b, dp, stateV c.t r.s r.i k) : RowV Bool))) tOk encRB_ok; exact rfl; exact rfl; exact rfl; exact rfl; exact rfl; exact rfl; exact rfl; exact rfl; exact rfl; exact rfl; assumption; (exact extA); (first | exact rfl | (focus (simp only [List.length_set]; done)) | (focus (simp; done)) | (focus (simp [*]; done)) | omega | (focus (simp only [List.length_set]; omega))); (first | assumption | (refine Cells.ext ?_ (by assumption); exact extA)); exact rfl; exact rfl; (exact extA); (first | omega | (simp; omega) | (simp at *; omega)); intro a' cap' w' hO hX' hU hF)
        | (show WL _ _ _ _ _ _ _; first | apply WL.nil | (refine WL.au (k := ?_)))
        | (show Z _ _ _ _ _; apply Z.then_normal)
        | (show W _ _ _ _ _ _; first | apply W.seq | apply W.region | apply W.block | apply W.skip))
      have hXn : Ext wr w' := hX'
      have hR2 := (hR1.ext hx).push hU hO hF
      have hl2 : (rs ++ [((b, dp, stateV c.t r.s r.i k) : RowV Bool)]).length = k + 1 := by rw [List.length_append, hl]; rfl
      have he2 : (rs ++ [((b, dp, stateV c.t r.s r.i k) : RowV Bool)]).map (fun q => q.2.2) = (List.range (k + 1)).map (stateV c.t r.s r.i) := by rw [List.map_append, he, range_map_succ]; rfl
      have hget : (rs ++ [((b, dp, stateV c.t r.s r.i k) : RowV Bool)])[k]? = some (b, dp, stateV c.t r.s r.i k) := by rw [List.getElem?_append_right (by omega), hl]; simp
      have RSt2 : Row 1 encB w' b (stateV c.t r.s r.i k) := hR2.row encB_ok hget
      obtain ⟨k4, k5, _⟩ := hcc.ext hXn
      clear hOo RSt hO hU hF
      obtain ⟨w3, rfl⟩ : ∃ x, x = w' := ⟨_, rfl⟩; obtain ⟨a3, rfl⟩ : ∃ x, x = a' := ⟨_, rfl⟩; obtain ⟨c3, rfl⟩ : ∃ x, x = cap' := ⟨_, rfl⟩
      have hM3 := hM'.ext (hxr.trans hXn)
      have hRi3 := hRi.ext (hxr.trans hXn)
      have hxr3 := hxr2.ext (hxr.trans hXn)
      repeat' (first
        | ((show WL _ _ _ (⟨_, .call ⟨.value (.func 68), _, _⟩, _, _, _, _⟩ :: _) _ _ _); apply WL.call; exact rfl; exact rfl; exact rfl; exact rfl; exact ref17_Next gm c rn ra _ _ _ _ (stateV c.t r.s r.i k) x.2.2 _ (hM3.ext (by (exact extA))) (RSt2.ext (by (exact extA))) (hxr3.ext (by (exact extA))); rintro v' w' ⟨hx, a', cap', rfl, hO⟩)
        | (show WL _ _ _ _ _ _ _; first | apply WL.nil | (refine WL.au (k := ?_)) | (apply WL.index tOk; exact rfl; exact rfl; exact rfl; exact rfl; exact rfl; exact rfl; exact rfl; exact rfl; assumption; (exact extA); exact rfl; omega; assumption; intro b off h; have hcc := h; first | (obtain ⟨h1, h2, h3, h4, h5, h6, _⟩ := h) | (obtain ⟨h1, h2, h3, _⟩ := h) | (obtain ⟨h1, h2, _⟩ := h) | (obtain ⟨h1, _⟩ := h)))
        | (show Z _ _ _ _ _; first | apply Z.then_normal | apply Z.block_normal)
        | (show W _ _ _ _ _ _; apply W.region))
      rw [← e1] at hO ⊢
      exact Z.againO2 a3 c3 a' cap' ⟨by omega, hXn.trans (by (exact extA)), _, hl2, he2, RR1.new hR2 (by (exact extA)) hO (Below.size hXn)⟩ ⟨rfl, rfl, congrArg (fun z => some (Value.slice a3 z c3)) hl2, rfl, rfl, trivial⟩
    · obtain rfl : k = r.ins.2.2.length := by omega
      repeat' (first
        | (apply W.condKF; exact rfl; (focus (exact dec_false (by omega); done)))
        | (show WL _ _ _ _ _ _ _; first | apply WL.nil | (refine WL.au (k := ?_)))
        | (show Z _ _ _ _ _; first | apply Z.then_normal | apply Z.then_exit | apply Z.block_exit)
        | (show W _ _ _ _ _ _; first | apply W.seq | apply W.region | apply W.ret | apply W.exit))
      have he' : rs.map (fun q => q.2.2) = statesV c.t r.s r.i := by rw [he]; unfold statesV; rw [runI_len]
      refine Z.body1 Try.results75 rfl fun m => ⟨hXw2.at m, a, cp, rs, by rw [hl], (hR1.rr.base (Below.size hxr)).at m, he'⟩

theorem statesV_i (c : CirT) (r : RunV) {k : Nat} {rs : List (RowV Bool)} (h : rs.map (fun q => q.2.2) = statesV c r.s r.i) (hk : k < r.ins.2.2.length) : ∃ q, rs[k]? = some q ∧ q.2.2 = stateV c r.s r.i k := by
  have h1 : (rs.map (fun q => q.2.2))[k]? = some (stateV c r.s r.i k) := by rw [h]; exact statesV_get c r.s r.i (by rw [runI_len]; exact hk)
  rw [List.getElem?_map] at h1
  obtain ⟨q, hq, he⟩ := Option.map_eq_some_iff.1 h1
  exact ⟨q, hq, he⟩
set_option maxHeartbeats 2000000 in
theorem ref17_Breaks (gm : Nat) (c : Circ) (rn : RowV (Int × Int)) (ra : RowV Int) (r : RunV) (p : Int) (w : World) (hM : MAt w gm c rn ra) (hR : RAt w r) (hn : r.ins.2.2.length ≤ 1048576) :
    Pure Try.prog 77 [.pointer (some ⟨gm, 0, none⟩), r.val, .int .i64 p] w (.bool (dec (BreaksP c.t r.s r.i p))) := by
  have hM' := hM
  obtain ⟨hcells, hC, Rn, Ra, en, ea, hg, hz⟩ := hM
  have hil := runI_len r
  by_cases q1 : StartsP c.t r.s
  rotate_left
  · have e : dec (BreaksP c.t r.s r.i p) = false := dec_false fun h => q1 h.1
    refine Spec.of _ Try.func77 rfl Try.ntmps77 (by kernel_rfl) rfl ?_
    repeat' (first
      | (apply WL.box; exact rfl; exact rfl; exact rfl; intro gb w' hb hge hc hx; have hcc := hc; (first | (obtain ⟨h1, h2, h3, _⟩ := hc) | (obtain ⟨h1, h2, _⟩ := hc)))
      | (apply WL.gT; exact rfl; exact rfl; (focus (first | (rw [dec_false q1]; rfl); done)))
      | ((show WL _ _ _ (⟨_, .call ⟨.value (.func 65), _, _⟩, _, _, _, _⟩ :: _) _ _ _); apply WL.callS; exact rfl; exact rfl; exact rfl; exact rfl; exact ref17_Starts gm c rn ra _ _ r.s _ (hM'.ext (by (exact extA))) (hR.st.ext (by (exact extA))))
      | (show WL _ _ _ _ _ _ _; first | apply WL.nil | (refine WL.au (k := ?_)) | (apply WL.guardF; exact rfl; exact rfl))
      | (show Z _ _ _ _ _; first | apply Z.then_normal | apply Z.then_ret)
      | (show W _ _ _ _ _ _; first | apply W.seq | apply W.region | apply W.ret | (apply W.condT; exact rfl)))
    exact Z.body1 Try.results77 rfl fun m => ⟨by rw [e], Ext.at (by (exact extA)) m⟩
  by_cases q2 : r.ins.2.2.length = 0
  · have e : dec (BreaksP c.t r.s r.i p) = false := dec_false fun h => h.2.1 (List.eq_nil_of_length_eq_zero (by rw [hil]; exact q2))
    refine Spec.of _ Try.func77 rfl Try.ntmps77 (by kernel_rfl) rfl ?_
    repeat' (first
      | (apply WL.box; exact rfl; exact rfl; exact rfl; intro gb w' hb hge hc hx; have hcc := hc; (first | (obtain ⟨h1, h2, h3, _⟩ := hc) | (obtain ⟨h1, h2, _⟩ := hc)))
      | (apply WL.gF; exact rfl; exact rfl; (focus (first | (rw [dec_true q1]; rfl) | exact dec_true (by omega); done)))
      | (apply W.condKT; exact rfl; (focus (first | (rw [dec_true q1]; rfl) | exact dec_true (by omega); done)))
      | ((show WL _ _ _ (⟨_, .call ⟨.value (.func 65), _, _⟩, _, _, _, _⟩ :: _) _ _ _); apply WL.callS; exact rfl; exact rfl; exact rfl; exact rfl; exact ref17_Starts gm c rn ra _ _ r.s _ (hM'.ext (by (exact extA))) (hR.st.ext (by (exact extA))))
      | (show WL _ _ _ _ _ _ _; first | apply WL.nil | (refine WL.au (k := ?_)))
      | (show Z _ _ _ _ _; first | apply Z.then_normal | apply Z.then_ret)
      | (show W _ _ _ _ _ _; first | apply W.seq | apply W.region | apply W.ret))
    exact Z.body1 Try.results77 rfl fun m => ⟨by rw [e], Ext.at (by (exact extA)) m⟩
  refine Spec.of _ Try.func77 rfl Try.ntmps77 (by kernel_rfl) rfl ?_
  repeat' (first
    | (show W _ _ (.region 3 _ _) _ _ _; apply W.regionGX (.fl true 0 (.fl true 3 (.fl false 1 (.fl false 4 (.fl true 5 (.fl true 6 (.br 2 (.fl true 7 (.fl true 8 .done)) .stop))))))) [2, 4, 5, 6, 7] tMix; kernel_rfl)
    | (apply WL.box; exact rfl; exact rfl; exact rfl; intro gb w' hb hge hc hx; have hcc := hc; (first | (obtain ⟨h1, h2, h3, _⟩ := hc) | (obtain ⟨h1, h2, _⟩ := hc)); (obtain ⟨gr, rfl⟩ : ∃ x, x = gb := ⟨_, rfl⟩; obtain ⟨wr, rfl⟩ : ∃ x, x = w' := ⟨_, rfl⟩; obtain ⟨hxr, rfl⟩ : ∃ x, x = hx := ⟨_, rfl⟩))
    | (apply WL.gF; exact rfl; exact rfl; (focus (first | (rw [dec_true q1]; rfl) | exact dec_false (by omega); done)))
    | (apply W.condKF; exact rfl; (focus (first | (rw [dec_true q1]; rfl) | exact dec_false (by omega); done)))
    | ((show WL _ _ _ (⟨_, .call ⟨.value (.func 65), _, _⟩, _, _, _, _⟩ :: _) _ _ _); apply WL.callS; exact rfl; exact rfl; exact rfl; exact rfl; exact ref17_Starts gm c rn ra _ _ r.s _ (hM'.ext (by (exact extA))) (hR.st.ext (by (exact extA))))
    | (((show WL _ _ _ (⟨_, .call ⟨.value (.func 75), _, _⟩, _, _, _, _⟩ :: _) _ _ _); apply WL.call; exact rfl; exact rfl; exact rfl; exact rfl; exact ref17_States gm c rn ra r _ (hM'.ext (by (exact extA))) (hR.ext (by (exact extA))) hn; rintro v' w3 ⟨hx3, a3, c3, rs, rfl, hRR, he⟩))
    | (show SX _ _ _ _ _ _ _ _ _; first | (apply SX.done; intro w' hx) | (apply SX.fl0; exact rfl) | (apply SX.fl1; exact rfl; (exact extA)) | (apply SX.br1; exact rfl; intro w' hx))
    | (show FL _ _ _ _ _ _ _ _; first | apply FL.nilX | (apply FL.loadE tOk; exact rfl; exact rfl; exact rfl; exact rfl; exact rfl; assumption) | (apply FL.loadAE tOk; exact rfl; exact rfl; exact rfl; exact rfl; exact rfl; assumption; exact rfl))
    | (show FL _ _ _ _ _ _ _ _; (refine FL.au (k := ?_)))
    | (show Z _ _ _ _ _; (apply Z.sxE; (exact extA)))
    | (show WL _ _ _ _ _ _ _; first | apply WL.nil | (refine WL.au (k := ?_)))
    | (show Z _ _ _ _ _; apply Z.then_normal)
    | (show W _ _ _ _ _ _; first | apply W.seq | apply W.region | apply W.block | apply W.skip))
  have hX3 : Ext wr w' := (by (exact extA))
  have hRR' : OwnRR 1 encB 4 22 _ w' a3 c3 rs := hRR.ext (by (exact extA))
  clear hRR
  obtain ⟨w4, rfl⟩ : ∃ x, x = w' := ⟨_, rfl⟩
  have hrl : rs.length = r.ins.2.2.length := by have := congrArg List.length he; rw [List.length_map, statesV_len, hil] at this; exact this
  have Rrs : Row 1 encRB w4 a3 rs := hRR'.outer.row encRB_ok
  have hcc4 := hcc.ext hX3
  have hX0 : Ext w w4 := hxr.trans hX3
  have hM4 := hM'.ext hX0
  have hR4 := hR.ext hX0
  have hc4 := hcells.ext hX0
  have hnn : (r.ins.2.2.length : Int) - 1 = ((r.ins.2.2.length - 1 : Nat) : Int) := by omega
  refine W.loopW r.ins.2.2.length (fun k w' => k ≤ r.ins.2.2.length ∧ Ext w4 w' ∧ GoesP c.t r.s r.i k) (fun k => [(0, .pointer (some ⟨gm, 0, none⟩)), (2, .int .i64 p), (4, .pointer (some ⟨gr, 0, none⟩)), (7, .slice a3 rs.length c3), (8, .int .i64 ((r.ins.2.2.length : Int) - 1)), (9, .int .i64 k)]) ⟨Nat.zero_le _, Ext.refl _, fun j i h => by omega⟩ (fun k w' h => h.1) ⟨rfl, rfl, rfl, rfl, rfl, rfl, trivial⟩ ?_
  rintro k w5 ⟨hk, hX5, hgo⟩
  obtain ⟨k1, k3, _⟩ := hcc4.ext hX5
  obtain ⟨y0, y1, y2, _⟩ := hc4.ext hX5
  have Rrs5 := Rrs.ext hX5
  have hRi5 := hR4.ins.ext hX5
  by_cases hlt : k < r.ins.2.2.length
  · obtain ⟨x, hx⟩ := getI r.ins.2.2 hlt
    have hxi := runI_get hx
    have hxr := hR4.each x (List.mem_of_getElem? hx)
    obtain ⟨q, hq, hqe⟩ := statesV_i c.t r he hlt
    have Rq := hRR'.row encB_ok hq
    have hh := fun (w9 : World) (h9 : Ext w4 w9) => ref17_Holds gm c rn ra q.1 x.1 q.2.1 x.2.1 q.2.2 x.2.2 w9 (hM4.ext h9) (Rq.ext h9) (hxr.ext h9)
    have hx5 := fun (w9 : World) (h9 : Ext w5 w9) => hh w9 (hX5.trans h9)
    by_cases u1 : x.2.2.length = c.ins.2.2.length
    · by_cases u2 : HoldsP c.t q.2.2 x.2.2
      · have hstep : GoesP c.t r.s r.i (k + 1) := fun j i hj hi => by
          by_cases hjk : j = k
          · subst hjk; rw [hxi] at hi; cases hi; exact ⟨u1, hqe ▸ u2⟩
          · exact hgo j i (by omega) hi
        rw [dec_true u2] at hx5
        repeat' (first
          | (apply QL.nilc; exact rfl; exact rfl; exact rfl)
          | (apply QL.gF; exact rfl; exact rfl; (focus (first | exact dec_true (by omega) | exact dec_false (by omega); done)))
          | (apply W.condKT; exact rfl; (focus (first | exact dec_true (by omega) | exact dec_false (by omega); done)))
          | (apply QL.callP; exact rfl; exact rfl; exact rfl; exact rfl; exact hx5)
          | (show WL _ _ _ _ _ _ _; first | apply WL.nil | (refine WL.au (k := ?_)))
          | (show QL _ _ _ _ _ _ _; first | (apply QL.nilX; intro w' hx) | (refine QL.au (k := ?_)) | (apply QL.index tOk; exact rfl; exact rfl; exact rfl; exact rfl; exact rfl; exact rfl; exact rfl; exact rfl; assumption; (exact extA); exact rfl; omega; assumption; intro b off h; have hcc := h; first | (obtain ⟨h1, h2, h3, h4, h5, h6, _⟩ := h) | (obtain ⟨h1, h2, h3, _⟩ := h) | (obtain ⟨h1, h2, _⟩ := h) | (obtain ⟨h1, _⟩ := h)))
          | (show Z _ _ _ _ _; first | apply Z.then_normal | apply Z.block_normal)
          | (show W _ _ _ _ _ _; first | apply W.seq | apply W.region | apply W.block | apply W.skip | (apply W.condF; exact rfl) | (apply W.regionX tMix; kernel_rfl)))
        exact Z.againW ⟨by omega, (by (exact extA)), hstep⟩ ⟨rfl, rfl, rfl, rfl, rfl, rfl, trivial⟩
      · have e : dec (BreaksP c.t r.s r.i p) = false := dec_false fun h => u2 (by have := (h.2.2.1 k x.2.2 (by rw [hil]; exact hlt) hxi).2; rw [hqe]; exact this)
        rw [dec_false u2] at hx5
        repeat' (first
          | (apply QL.nilc; exact rfl; exact rfl; exact rfl)
          | (apply QL.gF; exact rfl; exact rfl; (focus (first | exact dec_true (by omega) | exact dec_false (by omega); done)))
          | (apply W.condKT; exact rfl; (focus (first | exact dec_true (by omega) | exact dec_false (by omega); done)))
          | (apply QL.callP; exact rfl; exact rfl; exact rfl; exact rfl; exact hx5)
          | (show WL _ _ _ _ _ _ _; first | apply WL.nil | (refine WL.au (k := ?_)))
          | (show QL _ _ _ _ _ _ _; first | (apply QL.nilX; intro w' hx) | (refine QL.au (k := ?_)) | (apply QL.index tOk; exact rfl; exact rfl; exact rfl; exact rfl; exact rfl; exact rfl; exact rfl; exact rfl; assumption; (exact extA); exact rfl; omega; assumption; intro b off h; have hcc := h; first | (obtain ⟨h1, h2, h3, h4, h5, h6, _⟩ := h) | (obtain ⟨h1, h2, h3, _⟩ := h) | (obtain ⟨h1, h2, _⟩ := h) | (obtain ⟨h1, _⟩ := h)))
          | (show Z _ _ _ _ _; first | apply Z.then_normal | apply Z.then_ret | apply Z.block_ret)
          | (show W _ _ _ _ _ _; first | apply W.seq | apply W.region | apply W.block | apply W.skip | apply W.ret | (apply W.condT; exact rfl) | (apply W.regionX tMix; kernel_rfl)))
        exact Z.body1 Try.results77 rfl fun m => ⟨by rw [e], Ext.at (by (exact extA)) m⟩
    · have e : dec (BreaksP c.t r.s r.i p) = false := dec_false fun h => u1 (h.2.2.1 k x.2.2 (by rw [hil]; exact hlt) hxi).1
      repeat' (first
        | (apply QL.nilc; exact rfl; exact rfl; exact rfl)
        | (apply QL.gT; exact rfl; exact rfl; (focus (first | exact dec_true (by omega) | exact dec_false (by omega); done)))
        | (apply W.condKT; exact rfl; (focus (first | exact dec_true (by omega) | exact dec_false (by omega); done)))
        | (show WL _ _ _ _ _ _ _; first | apply WL.nil | (refine WL.au (k := ?_)))
        | (show QL _ _ _ _ _ _ _; first | (apply QL.nilX; intro w' hx) | (refine QL.au (k := ?_)) | (apply QL.index tOk; exact rfl; exact rfl; exact rfl; exact rfl; exact rfl; exact rfl; exact rfl; exact rfl; assumption; (exact extA); exact rfl; omega; assumption; intro b off h; have hcc := h; first | (obtain ⟨h1, h2, h3, h4, h5, h6, _⟩ := h) | (obtain ⟨h1, h2, h3, _⟩ := h) | (obtain ⟨h1, h2, _⟩ := h) | (obtain ⟨h1, _⟩ := h)) | (apply QL.guardF; exact rfl; exact rfl))
        | (show Z _ _ _ _ _; first | apply Z.then_normal | apply Z.then_ret | apply Z.block_ret)
        | (show W _ _ _ _ _ _; first | apply W.seq | apply W.region | apply W.block | apply W.skip | apply W.ret | (apply W.condT; exact rfl) | (apply W.regionX tMix; kernel_rfl)))
      exact Z.body1 Try.results77 rfl fun m => ⟨by rw [e], Ext.at (by (exact extA)) m⟩
  · obtain rfl : k = r.ins.2.2.length := by omega
    obtain ⟨x, hx⟩ := getI r.ins.2.2 (show r.ins.2.2.length - 1 < r.ins.2.2.length by omega)
    have hxi := runI_get hx
    have hxr := hR4.each x (List.mem_of_getElem? hx)
    obtain ⟨q, hq, hqe⟩ := statesV_i c.t r he (show r.ins.2.2.length - 1 < r.ins.2.2.length by omega)
    have Rq := hRR'.row encB_ok hq
    have hh := fun (w9 : World) (h9 : Ext w5 w9) => ref17_Bad gm c rn ra q.1 x.1 q.2.1 x.2.1 q.2.2 x.2.2 p w9 (hM4.ext (hX5.trans h9)) (Rq.ext (hX5.trans h9)) (hxr.ext (hX5.trans h9))
    have e : dec (BreaksP c.t r.s r.i p) = dec (BadP c.t q.2.2 x.2.2 p) := dec_congr ⟨fun h => by
      have := h.2.2.2
      rw [hil, getD_of hxi, ← hqe] at this; exact this, fun h => ⟨q1, fun h0 => q2 (by rw [← hil, h0]; rfl), by rw [hil]; exact hgo, by rw [hil, getD_of hxi, ← hqe]; exact h⟩⟩
    have hq' : rs[((r.ins.2.2.length : Int) - 1).toNat]? = some q := by rw [hnn]; exact hq
    have hx' : r.ins.2.2[((r.ins.2.2.length : Int) - 1).toNat]? = some x := by rw [hnn]; exact hx
    repeat' (first
      | (apply W.condKF; exact rfl; (focus (exact dec_false (by omega); done)))
      | (apply QL.callP; exact rfl; exact rfl; exact rfl; exact rfl; exact hh)
      | (show WL _ _ _ _ _ _ _; first | apply WL.nil | (refine WL.au (k := ?_)))
      | (show QL _ _ _ _ _ _ _; first | (apply QL.nilX; intro w' hx) | (refine QL.au (k := ?_)) | (apply QL.index tOk; exact rfl; exact rfl; exact rfl; exact rfl; exact rfl; exact rfl; exact rfl; exact rfl; assumption; (exact extA); exact rfl; omega; assumption; intro b off h; have hcc := h; first | (obtain ⟨h1, h2, h3, h4, h5, h6, _⟩ := h) | (obtain ⟨h1, h2, h3, _⟩ := h) | (obtain ⟨h1, h2, _⟩ := h) | (obtain ⟨h1, _⟩ := h)))
      | (show Z _ _ _ _ _; first | apply Z.then_normal | apply Z.then_exit | apply Z.block_exit)
      | (show W _ _ _ _ _ _; first | apply W.seq | apply W.region | apply W.ret | apply W.exit | (apply W.regionX tMix; kernel_rfl)))
    exact Z.body1 Try.results77 rfl fun m => ⟨by rw [e], Ext.at (by (exact extA)) m⟩
end Go.Proofs.Ythpnahapiodflaa
namespace Go.Proofs.Ythpnahapiodflaa
open Go Go.Lt Go.RowKit
set_option linter.unusedVariables false
set_option linter.unusedSimpArgs false
set_option maxRecDepth 20000

/-- The first m nodes are inputs, and no others are. -/
structure OnlyG (m : Nat) (N : List (Int × Int)) : Prop where
  le : m ≤ N.length
  inp : ∀ i x, N[i]? = some x → i < m → x = (-1, 0)
  gate : ∀ i x, N[i]? = some x → m ≤ i → 0 ≤ x.1
theorem OnlyG.start (m : Nat) : OnlyG m (List.replicate m (-1, 0)) := by
  refine ⟨by simp, fun i x h hm => ?_, fun i x h hm => ?_⟩
  · rw [List.getElem?_replicate, if_pos hm] at h
    exact (Option.some.inj h).symm
  · have := lt_of_get h; simp at this; omega
def evenL (a n : Nat) : List Int := (List.range n).map fun i => 2 * (((a + i : Nat) : Int) + 1)
theorem evenL_len (a n : Nat) : (evenL a n).length = n := by simp [evenL]
theorem evenL_get (a n : Nat) {i : Nat} (h : i < n) : (evenL a n)[i]? = some (2 * (((a + i : Nat) : Int) + 1)) := by
  unfold evenL; rw [List.getElem?_map, List.getElem?_range h]; rfl
theorem evenL_succ (a n : Nat) : evenL a (n + 1) = evenL a n ++ [2 * (((a + n : Nat) : Int) + 1)] := by
  unfold evenL; rw [List.range_succ, List.map_append]; rfl
theorem evenL_app (a n m : Nat) : evenL a n ++ evenL (a + n) m = evenL a (n + m) := by
  induction m with
  | zero => simp [evenL]
  | succ m ih => rw [evenL_succ, ← List.append_assoc, ih, show n + (m + 1) = (n + m) + 1 by omega, evenL_succ, Nat.add_assoc]
theorem evenL_mem {a n : Nat} {x : Int} : x ∈ evenL a n ↔ x % 2 = 0 ∧ 2 * ((a : Int) + 1) ≤ x ∧ x ≤ 2 * ((a : Int) + n) := by
  unfold evenL
  rw [List.mem_map]
  constructor
  · rintro ⟨i, hi, rfl⟩
    have := List.mem_range.1 hi
    omega
  · rintro ⟨h1, h2, h3⟩
    exact ⟨(x / 2 - 1 - a).toNat, List.mem_range.2 (by omega), by omega⟩
theorem evenL_nodup (a n : Nat) : (evenL a n).Nodup := by
  unfold evenL
  rw [List.nodup_iff_pairwise_ne, List.pairwise_map]
  refine (List.nodup_iff_pairwise_ne.1 (List.nodup_range (n := n))).imp fun h he => h (by omega)
def gateG (i : Nat) (x : Int × Int) : T3 := (2 * ((i : Int) + 1), max x.1 x.2, min x.1 x.2)
def gatesG (N : List (Int × Int)) (m k : Nat) : List T3 := (List.range k).map fun i => gateG (m + i) (N.getD (m + i) (0, 0))
def latsG (a : Nat) (next reset : List Int) : List T3 := (List.range next.length).map fun i => (2 * (((a + i : Nat) : Int) + 1), next.getD i 0, reset.getD i 0)
theorem gatesG_len (N : List (Int × Int)) (m k : Nat) : (gatesG N m k).length = k := by simp [gatesG]
theorem latsG_len (a : Nat) (next reset : List Int) : (latsG a next reset).length = next.length := by simp [latsG]
theorem gatesG_get {N : List (Int × Int)} {m k i : Nat} {x : Int × Int} (h : i < k) (hx : N[m + i]? = some x) : (gatesG N m k)[i]? = some (gateG (m + i) x) := by
  unfold gatesG; rw [List.getElem?_map, List.getElem?_range h]; show some (gateG _ (N.getD _ _)) = _; rw [getD_of hx]
theorem latsG_get {a : Nat} {next reset : List Int} {i : Nat} (h : i < next.length) : (latsG a next reset)[i]? = some (2 * (((a + i : Nat) : Int) + 1), next.getD i 0, reset.getD i 0) := by
  unfold latsG; rw [List.getElem?_map, List.getElem?_range h]; rfl
theorem latsG_fst (a : Nat) (next reset : List Int) : (latsG a next reset).map (·.1) = evenL a next.length := by
  unfold latsG evenL; rw [List.map_map]; rfl
theorem gatesG_fst (N : List (Int × Int)) (m k : Nat) : (gatesG N m k).map (·.1) = evenL m k := by
  unfold gatesG evenL; rw [List.map_map]; rfl
/-- What else there is beside latches and gates. -/
structure Rest where
  outs : List Int
  bads : List Int
  cons : List Int
  syms : List Sy
  com : ByteArray
def genC (nin : Nat) (next reset : List Int) (bad : Rest) (N : List (Int × Int)) : CirT :=
  ⟨N.length, evenL 0 nin, latsG nin next reset, bad.outs, bad.bads, bad.cons, gatesG N (nin + next.length) (N.length - (nin + next.length)), bad.syms, bad.com⟩
/-- What may be done with. -/
structure GenOk (nin : Nat) (next reset : List Int) (bad : Rest) (N : List (Int × Int)) : Prop where
  good : GoodNet N
  only : OnlyG (nin + next.length) N
  len : N.length ≤ 16777216
  nexts : ∀ z ∈ next, hasL N z
  resets : ∀ i, i < next.length → reset.getD i 0 = 0 ∨ reset.getD i 0 = 1 ∨ reset.getD i 0 = 2 * (((nin + i : Nat) : Int) + 1)
  outs : ∀ z ∈ bad.outs, hasL N z
  bads : ∀ z ∈ bad.bads, hasL N z
  cons : ∀ z ∈ bad.cons, hasL N z
section
variable {nin : Nat} {next reset : List Int} {bad : Rest} {N : List (Int × Int)}
theorem genC_own (h : GenOk nin next reset bad N) : (genC nin next reset bad N).own = evenL 0 N.length := by
  show evenL 0 nin ++ (latsG nin next reset).map (·.1) ++ (gatesG N (nin + next.length) (N.length - (nin + next.length))).map (·.1) = _
  have e1 := evenL_app 0 nin next.length
  rw [Nat.zero_add] at e1
  have e2 := evenL_app 0 (nin + next.length) (N.length - (nin + next.length))
  rw [Nat.zero_add] at e2
  rw [latsG_fst, gatesG_fst, e1, e2]
  have := h.only.le
  rw [show nin + next.length + (N.length - (nin + next.length)) = N.length by omega]
theorem genC_gate (h : GenOk nin next reset bad N) {i : Nat} {g : T3} (hi : (genC nin next reset bad N).gates[i]? = some g) : ∃ x, N[nin + next.length + i]? = some x ∧ (0 ≤ x.1 ∧ 0 ≤ x.2) ∧ x.1 / 2 ≤ ((nin + next.length + i : Nat) : Int) ∧ x.2 / 2 ≤ ((nin + next.length + i : Nat) : Int) ∧ g = (2 * (((nin + next.length + i : Nat) : Int) + 1), max x.1 x.2, min x.1 x.2) := by
  have hl := lt_of_get hi
  have hl' : i < N.length - (nin + next.length) := by have : (genC nin next reset bad N).gates.length = _ := gatesG_len N _ _; omega
  obtain ⟨x, hx⟩ := getI N (show nin + next.length + i < N.length by omega)
  have h0 := h.only.gate _ _ hx (by omega)
  have hgt := h.good.gate hx h0
  have e : (genC nin next reset bad N).gates[i]? = some (gateG (nin + next.length + i) x) := gatesG_get hl' hx
  rw [e] at hi; cases hi
  exact ⟨x, hx, ⟨h0, hgt.2.1⟩, by omega, by omega, rfl⟩
theorem genC_used (h : GenOk nin next reset bad N) {x : Int} (hx : x ∈ (genC nin next reset bad N).used) : hasL N x := by
  rcases List.mem_append.1 hx with hx | hx
  · rcases List.mem_append.1 hx with hx | hx
    · rcases List.mem_append.1 hx with hx | hx
      · rcases List.mem_append.1 hx with hx | hx
        · exact h.outs x hx
        · exact h.bads x hx
      · exact h.cons x hx
    · obtain ⟨y, hy, rfl⟩ := List.mem_map.1 hx
      obtain ⟨i, hi⟩ := List.mem_iff_getElem?.1 hy
      have hl := lt_of_get hi
      have hl' : i < next.length := by have : (genC nin next reset bad N).lat.length = _ := latsG_len nin next reset; omega
      have e : (genC nin next reset bad N).lat[i]? = _ := latsG_get (a := nin) (reset := reset) hl'
      rw [e] at hi; cases hi
      obtain ⟨z, hz⟩ := getI next hl'
      show hasL N (next.getD i 0)
      rw [getD_of hz]; exact h.nexts z (List.mem_of_getElem? hz)
  · obtain ⟨g, hg, hm⟩ := List.mem_flatMap.1 hx
    obtain ⟨i, hi⟩ := List.mem_iff_getElem?.1 hg
    obtain ⟨y, hy, y1, y2, y3, rfl⟩ := genC_gate h hi
    have hlt := lt_of_get hy
    simp only [List.mem_cons, List.not_mem_nil, or_false] at hm
    unfold hasL
    rcases hm with rfl | rfl <;> omega
theorem genC_ordIs (h : GenOk nin next reset bad N) : IsOrd (genC nin next reset bad N).gates (List.range (genC nin next reset bad N).gates.length) := by
  have hfst : ∀ (j : Nat) (x : G3), (genC nin next reset bad N).gates[j]? = some x → x.1 / 2 = ((nin + next.length + j : Nat) : Int) + 1 := fun j x hj => by
    obtain ⟨y, _, _, _, _, rfl⟩ := genC_gate h hj
    show (2 * (((nin + next.length + j : Nat) : Int) + 1)) / 2 = _
    omega
  refine ⟨fun k i hk => ?_, fun i hi => ?_⟩
  · have hkl := lt_of_get hk
    rw [List.length_range] at hkl
    rw [List.getElem?_range hkl] at hk
    cases hk
    have ht : (List.range (genC nin next reset bad N).gates.length).take k = List.range k := by rw [List.take_range, Nat.min_eq_left (by omega)]
    rw [ht]
    refine ⟨?_, fun j hj => ?_⟩
    · obtain ⟨g, hg⟩ := getI (genC nin next reset bad N).gates hkl
      refine ⟨g, hg, by simp, fun j x hj hn => ?_⟩
      obtain ⟨y, hy, y1, y2, y3, rfl⟩ := genC_gate h hg
      have h1 := hfst j x hj
      have h2 : ¬ j < k := fun hh => hn (List.mem_range.2 hh)
      dsimp only
      omega
    · obtain ⟨_, _, hn, _⟩ := hj
      exact Nat.le_of_not_lt fun hh => hn (List.mem_range.2 hh)
  · obtain ⟨g, hg, hn, _⟩ := hi
    exact hn (List.mem_range.2 (lt_of_get hg))
theorem genC_ord (h : GenOk nin next reset bad N) : ordL (genC nin next reset bad N).gates = List.range (genC nin next reset bad N).gates.length := (genC_ordIs h).ord.symm
theorem genC_good (h : GenOk nin next reset bad N) : GoodC' (genC nin next reset bad N) := by
  have hl := h.len
  refine ⟨?_, fun x hx => ?_, fun x hx => ?_, fun x hx => ?_, ?_, fun x hx h1 => ?_, ?_⟩
  · show 0 ≤ (N.length : Int) ∧ (N.length : Int) ≤ 16777216; omega
  · rw [genC_own h, evenL_mem] at hx
    show 2 ≤ x ∧ x % 2 = 0 ∧ x ≤ 2 * (N.length : Int)
    omega
  · have := genC_used h hx
    show 0 ≤ x ∧ x ≤ 2 * (N.length : Int) + 1
    unfold hasL at this; omega
  · obtain ⟨i, hi⟩ := List.mem_iff_getElem?.1 hx
    have hl := lt_of_get hi
    have hl' : i < next.length := by have : (genC nin next reset bad N).lat.length = _ := latsG_len nin next reset; omega
    have e : (genC nin next reset bad N).lat[i]? = _ := latsG_get (a := nin) (reset := reset) hl'
    rw [e] at hi; cases hi
    exact h.resets i hl'
  · rw [genC_own h]; exact evenL_nodup _ _
  · have := genC_used h hx
    rw [genC_own h, evenL_mem]
    unfold hasL at this; omega
  · rw [genC_ord h, List.length_range]
/-- A gate's two, the greater one first. -/
def sw (x : Int × Int) : Int × Int := if 0 ≤ x.1 then (max x.1 x.2, min x.1 x.2) else x
theorem cIn_fst (ls : List Int) : ∀ s : NA, (cIn s ls).1 = s.1 ++ List.replicate ls.length (-1, 0) := by
  induction ls with
  | nil => intro s; simp [cIn]
  | cons l ls ih =>
    intro s
    show (cIn (cput s l (-1, 0)) ls).1 = _
    rw [ih]; show (s.1 ++ [(-1, 0)]) ++ _ = _
    simp [List.replicate_succ]
theorem genC_seq (h : GenOk nin next reset bad N) {k : Nat} (hk : k ≤ (genC nin next reset bad N).gates.length) : (genC nin next reset bad N).inl ++ ((ordL (genC nin next reset bad N).gates).take k).map (fun i => (gAt (genC nin next reset bad N).gates i).1) = evenL 0 (nin + next.length + k) := by
  have e0 : (genC nin next reset bad N).inl = evenL 0 (nin + next.length) := by
    show evenL 0 nin ++ (latsG nin next reset).map (·.1) = _
    have e1 := evenL_app 0 nin next.length
    rw [Nat.zero_add] at e1
    rw [latsG_fst, e1]
  have e1 := evenL_app 0 (nin + next.length) k
  rw [Nat.zero_add] at e1
  rw [e0, ← e1, genC_ord h, List.take_range, Nat.min_eq_left hk]
  congr 1
  unfold evenL
  refine List.map_congr_left fun i hi => ?_
  obtain ⟨g, hg⟩ := getI (genC nin next reset bad N).gates (show i < _ by have := List.mem_range.1 hi; omega)
  obtain ⟨y, _, _, _, _, rfl⟩ := genC_gate h hg
  rw [gAt_of hg]
theorem genC_at (h : GenOk nin next reset bad N) {k : Nat} (hk : k ≤ (genC nin next reset bad N).gates.length) {l : Int} (hl : 0 ≤ l ∧ l / 2 ≤ ((nin + next.length + k : Nat) : Int)) : litI (cGates (genC nin next reset bad N).gates (cIn ([], cAt0 (genC nin next reset bad N).max) (genC nin next reset bad N).inl) ((ordL (genC nin next reset bad N).gates).take k)).2 l = l := by
  have hp := (net_to (genC_good h) k (by rw [genC_ord h, List.length_range]; exact hk)).1
  rw [genC_seq h hk] at hp
  have hz : (cGates (genC nin next reset bad N).gates (cIn ([], cAt0 (genC nin next reset bad N).max) (genC nin next reset bad N).inl) ((ordL (genC nin next reset bad N).gates).take k)).2[(l / 2).toNat]? = some (2 * (l / 2)) := by
    by_cases h0 : l / 2 = 0
    · rw [h0]; exact hp.zero
    · have := hp.has ((l / 2).toNat - 1) _ (evenL_get 0 _ (show (l / 2).toNat - 1 < nin + next.length + k by omega))
      rw [show ((2 * (((0 + ((l / 2).toNat - 1) : Nat) : Int) + 1)) / 2).toNat = (l / 2).toNat by omega] at this
      rw [this]; congr 1; omega
  rw [litI_some hz]
  unfold xorI Lt.xor1
  split
  · rw [if_pos (by omega)]; omega
  · omega
theorem genC_to (h : GenOk nin next reset bad N) : ∀ k, k ≤ (genC nin next reset bad N).gates.length →
    (cGates (genC nin next reset bad N).gates (cIn ([], cAt0 (genC nin next reset bad N).max) (genC nin next reset bad N).inl) ((ordL (genC nin next reset bad N).gates).take k)).1 = (N.take (nin + next.length + k)).map sw
  | 0, _ => by
    have e0 : (genC nin next reset bad N).inl.length = nin + next.length := by
      show (evenL 0 nin ++ (latsG nin next reset).map (·.1)).length = _
      rw [List.length_append, evenL_len, List.length_map, latsG_len]
    show (cIn ([], cAt0 (genC nin next reset bad N).max) (genC nin next reset bad N).inl).1 = _
    rw [cIn_fst, e0, List.nil_append]
    apply List.ext_getElem?
    intro i
    have hle := h.only.le
    by_cases hi : i < nin + next.length
    · obtain ⟨x, hx⟩ := getI N (show i < N.length by omega)
      have hx0 := h.only.inp i x hx hi
      rw [List.getElem?_replicate, if_pos hi, List.getElem?_map, List.getElem?_take, if_pos (by omega), hx, hx0]; rfl
    · rw [List.getElem?_replicate, if_neg hi, List.getElem?_map, List.getElem?_take, if_neg (by omega)]; rfl
  | k + 1, hk => by
    have ih := genC_to h k (by omega)
    have ho : (ordL (genC nin next reset bad N).gates)[k]? = some k := by rw [genC_ord h, List.getElem?_range (by omega)]
    obtain ⟨g, hg⟩ := getI (genC nin next reset bad N).gates (show k < _ by omega)
    obtain ⟨y, hy, y1, y2, y3, hge⟩ := genC_gate h hg
    rw [take_succ' ho, cGates_snoc]
    unfold cGate cput
    rw [gAt_of hg, hge]
    show _ ++ [(litI _ (max y.1 y.2), litI _ (min y.1 y.2))] = _
    rw [genC_at h (by omega) (by omega), genC_at h (by omega) (by omega), ih, show nin + next.length + (k + 1) = (nin + next.length + k) + 1 by omega, take_succ' hy, List.map_append]
    congr 1
    show _ = [sw y]
    unfold sw; rw [if_pos (by omega)]
theorem genC_net (h : GenOk nin next reset bad N) : (cNet (genC nin next reset bad N)).1 = N.map sw ∧ ∀ l, hasL N l → litI (cNet (genC nin next reset bad N)).2 l = l := by
  have hlen : (genC nin next reset bad N).gates.length = N.length - (nin + next.length) := gatesG_len N _ _
  have hle := h.only.le
  have e : cNet (genC nin next reset bad N) = cGates (genC nin next reset bad N).gates (cIn ([], cAt0 (genC nin next reset bad N).max) (genC nin next reset bad N).inl) ((ordL (genC nin next reset bad N).gates).take (genC nin next reset bad N).gates.length) := by
    rw [List.take_of_length_le (by rw [genC_ord h, List.length_range]; exact Nat.le_refl _)]; rfl
  rw [e]
  refine ⟨?_, fun l hl => ?_⟩
  · rw [genC_to h _ (Nat.le_refl _), List.take_of_length_le (by omega)]
  · refine genC_at h (Nat.le_refl _) ?_
    unfold hasL at hl; omega
end
theorem vto_sw {N : List (Int × Int)} (hg : GoodNet N) (ins : List Bool) : ∀ k, k ≤ N.length → vto (N.map sw) ins k = vto N ins k
  | 0, _ => rfl
  | k + 1, h => by
    obtain ⟨x, hx⟩ := getI N (show k < N.length by omega)
    have hx' : (N.map sw)[k]? = some (sw x) := by rw [List.getElem?_map, hx]; rfl
    rw [vto_succ ins hx, vto_succ ins hx', vto_sw hg ins k (by omega)]
    unfold vstep sw
    by_cases h0 : 0 ≤ x.1
    · have h1 := (hg.gate hx h0).2.1
      rw [if_pos h0]
      rw [if_neg (show ¬ x.1 < 0 by omega), if_neg (show ¬ max x.1 x.2 < 0 by omega)]
      by_cases h2 : x.1 ≤ x.2
      · rw [show max x.1 x.2 = x.2 by omega, show min x.1 x.2 = x.1 by omega]
        simp only [Bool.and_comm]
      · rw [show max x.1 x.2 = x.1 by omega, show min x.1 x.2 = x.2 by omega]
    · rw [if_neg h0]
theorem values_sw {N : List (Int × Int)} (hg : GoodNet N) (ins : List Bool) : values (N.map sw) ins = values N ins := by
  unfold values; rw [List.length_map, vto_sw hg ins _ (Nat.le_refl _)]
theorem genC_step {nin : Nat} {next reset : List Int} {bad : Rest} {N : List (Int × Int)} (h : GenOk nin next reset bad N) (s i : List Bool) : stepV (genC nin next reset bad N) s i = values N (brV i nin ++ brV s next.length) := by
  unfold stepV insV
  rw [(genC_net h).1, values_sw h.good]
  show values N (brV i (evenL 0 nin).length ++ brV s (latsG nin next reset).length) = _
  rw [evenL_len, latsG_len]
theorem genC_lit {nin : Nat} {next reset : List Int} {bad : Rest} {N : List (Int × Int)} (h : GenOk nin next reset bad N) (s i : List Bool) {l : Int} (hl : hasL N l) : litV (genC nin next reset bad N) s i l = ofL (values N (brV i nin ++ brV s next.length)) l := by
  unfold litV
  rw [genC_step h, (genC_net h).2 l hl]
end Go.Proofs.Ythpnahapiodflaa
namespace Go.Lt
open Go.RowKit
set_option linter.unusedVariables false
set_option linter.unusedSimpArgs false

section arr
variable {P : Program} {T : Tab} {e : Env} {dd : Option Tmp} {t tt ty : TypeId} {x y : Operand} {ps : String} {af : Array Edge} {g : Option (Nat × Bool)}
end arr
section rules
variable {P : Program} {N : Nat} {e : Env} {w : World} {Q : Exit → Act → World → Prop} {C : World → Prop} {ops : List Oper} {l : List Oper} {T : Tab}
  {d : Nat} {tt t ty : TypeId} {ps : String} {af : Array Edge} {g : Option (Nat × Bool)} {x y : Operand}
end rules

section lift
variable {H : Type} {enc : TypeId × Value → H} {P : Program} {w : World} {base : Nat} {spare : Nat → Bool} {held : Bool}
end lift
end Go.Lt
namespace Go.Lt
open Go.ChangeShapes Go.WideShapes Go.ChangeAt Go.RowKit Go.Deep
end Go.Lt
namespace Go.Lt
open Go.RowKit
set_option linter.unusedVariables false
set_option linter.unusedSimpArgs false

/-- The block g holds these cells. -/
abbrev CellC (g : Nat) (cs : Array Value) (t : Nat) (w : World) : Prop := w.heap[g]? = some (.cells cs t (0, 0))
section
variable {P : Program} {T : Tab} {N d : Nat} {e : Env} {w : World} {ops l : List Oper} {Kf : Act → Prop} {tt t ty ct : TypeId} {ps : String} {af : Array Edge} {g : Option (Nat × Bool)} {x y : Operand}
theorem FL.loadC {gb off : Nat} {cs : Array Value} {v : Value} {i : TI} (hT : OkTab P T) (hg : gate ops e g = some true) (hd : Nat.blt d N = true) (hx : ev e x = some (.pointer (some ⟨gb, off, none⟩))) (ht : tget T t = some i) (ha : isAggD i.desc = false) (hv : cs[off]? = some v)
    (k : FL P N ops.toArray (CellC gb cs ct) l ((d, v) :: e) w Kf) : FL P N ops.toArray (CellC gb cs ct) (⟨some d, .load t x, tt, ps, af, g⟩ :: l) e w Kf := by
  refine FL.step hg hd ?_ k
  intro ρ hρ w' hw'
  have h1 := run_isAgg' (hT.at ht); rw [ha] at h1
  have h2 : w'.cell? ⟨gb, off, none⟩ = some v := by
    have hc := cells_heap hw'
    have key : ∀ (l : List Value) (o q : Nat) (u : Value), Cells w' gb o l → l[q]? = some u → w'.cell? ⟨gb, o + q, none⟩ = some u := by
      intro l
      induction l with
      | nil => intro o q u _ h; simp at h
      | cons a r ih =>
        intro o q u hl h
        obtain ⟨h3, h4⟩ := hl
        cases q with
        | zero => simp at h; subst h; exact h3
        | succ q =>
          have := ih (o + 1) q u h4 (by simpa using h)
          rw [show o + (q + 1) = o + 1 + q by omega]; exact this
    have := key _ 0 off v hc (by simpa using hv)
    simpa using this
  simp [execOp, hρ _ _ hx, Instr.loadAt, Instr.sureAddr, loadVar, h1, h2]
end
end Go.Lt
namespace Go.Lt
open Go.RowKit
set_option linter.unusedVariables false
set_option linter.unusedSimpArgs false

section
variable {P : Program} {T : Tab} {N : Nat} {e : Env} {w : World} {Q : Exit → Act → World → Prop} {ops : List Oper} {l : List Oper}
  {d : Nat} {tt t ty kt et : TypeId} {ps : String} {af : Array Edge} {g : Option (Nat × Bool)} {x y : Operand} {i : TI} {dd : Option Tmp}
end
end Go.Lt
namespace Go.Proofs.Ythpnahapiodflaa
open Go Go.Lt Go.RowKit
set_option linter.unusedVariables false
set_option linter.unusedSimpArgs false
set_option maxRecDepth 20000

theorem ofL_notL (v : List Bool) {l : Int} (h : 0 ≤ l) : ofL v (notL l) = !ofL v l := by rw [notL_xor1 h, ofL_xor1 v h]
theorem orV_of {N : List (Int × Int)} (hT : Tidy N) (ins : List Bool) {x y : Int} (hx : hasL N x) (hy : hasL N y) : ofL (values (orV N x y).2 ins) (orV N x y).1 = (ofL (values N ins) x || ofL (values N ins) y) := by
  have h1 := andV_of hT ins (notL_has hx) (notL_has hy)
  have h2 := (andV_has (notL_has hx) (notL_has hy)).1
  show ofL (values (andV N (notL x) (notL y)).2 ins) (notL (andV N (notL x) (notL y)).1) = _
  rw [ofL_notL _ h2, h1, ofL_notL _ hx.1, ofL_notL _ hy.1]
  cases ofL (values N ins) x <;> cases ofL (values N ins) y <;> rfl
theorem muxV_of {N : List (Int × Int)} (hT : Tidy N) (ins : List Bool) {c x y : Int} (hc : hasL N c) (hx : hasL N x) (hy : hasL N y) : ofL (values (muxV N c x y).2 ins) (muxV N c x y).1 = (ofL (values N ins) c && ofL (values N ins) x || !ofL (values N ins) c && ofL (values N ins) y) := by
  rw [muxV_yes ⟨hc, hx, hy⟩]
  have g1 : Grow N (andV N c x).2 := .gate c x (.refl N)
  have g2 : Grow (andV N c x).2 (andV (andV N c x).2 (notL c) y).2 := .gate _ _ (.refl _)
  have l1 := g1.len
  have l2 := g2.len
  have a1 := andV_has hc hx
  have a2 := andV_has (hasL_mono (notL_has hc) l1) (hasL_mono hy l1)
  rw [orV_of ((g1.trans g2).tidy hT) ins (hasL_mono a1 l2) a2, g2.of ins a1, andV_of hT ins hc hx, andV_of (g1.tidy hT) ins (hasL_mono (notL_has hc) l1) (hasL_mono hy l1), g1.of ins (notL_has hc), g1.of ins hy, ofL_notL _ hc.1]
theorem xorV_of {N : List (Int × Int)} (hT : Tidy N) (ins : List Bool) {x y : Int} (hx : hasL N x) (hy : hasL N y) : ofL (values (xorV N x y).2 ins) (xorV N x y).1 = (ofL (values N ins) x != ofL (values N ins) y) := by
  unfold xorV
  rw [muxV_of hT ins hx (notL_has hy) hy, ofL_notL _ hy.1]
  cases ofL (values N ins) x <;> cases ofL (values N ins) y <;> rfl

theorem aig_NetV (gs r cap : Nat) (a : Option Addr) (N : List (Int × Int)) (rest : List Piece) (w w0 : World) (hS : Sep w0.heap.size w (stN w0.heap.size gs a cap r N ++ rest)) (hN : N.length ≤ 1048576) :
    Lt.Spec Try.prog 103 [.pointer (some ⟨gs, 0, none⟩)] w (IsFresh 2 encN 104 w N) := by
  have hC0 := hS.cell (i := 0) rfl
  have hR1 := hS.row (i := 1) rfl
  obtain ⟨hD0, _⟩ := cells_heap hC0
  refine Spec.of _ Try.func103 rfl Try.ntmps103 (by kernel_rfl) rfl ?_
  repeat' (first
    | (apply WL.nilc; exact rfl; exact rfl; exact rfl)
    | (apply WL.eqNilS tOk; exact rfl; exact rfl; exact rfl; exact rfl; exact rfl; exact rfl)
    | ((show WL _ _ _ (⟨_, .call ⟨.value (.func 147), _, _⟩, _, _, _, _⟩ :: _) _ _ _); apply WL.call; exact rfl; exact rfl; exact rfl; exact rfl; exact slices_CloneN _ _ N _ (Own.row encN_ok hR1) (Own.noneCap hR1) hN; rintro v' w' ⟨hx, a', cap', rfl, hO⟩)
    | (show WL _ _ _ _ _ _ _; first | apply WL.nil | (refine WL.au (k := ?_)))
    | (show Z _ _ _ _ _; apply Z.then_normal)
    | (show W _ _ _ _ _ _; first | apply W.seq | apply W.region | apply W.skip | apply W.ret | (apply W.condF; exact rfl)))
  exact Z.body1 Try.results103 rfl fun m => ⟨Ext.at (by (exact extA)) m, a', cap', rfl, hO⟩
end Go.Proofs.Ythpnahapiodflaa
namespace Go.Proofs.Ythpnahapiodflaa
open Go Go.Lt Go.RowKit
set_option linter.unusedVariables false
set_option linter.unusedSimpArgs false
set_option maxRecDepth 20000

theorem OnlyG.and {m : Nat} {N : List (Int × Int)} (h : OnlyG m N) (x y : Int) : OnlyG m (andV N x y).2 := by
  obtain ⟨a, b, _, _, hw⟩ := andV_ways N x y
  rcases hw with ⟨_, hw⟩ | ⟨_, _, hw⟩ | ⟨_, _, _, hw⟩ | ⟨_, _, _, _, _, _, hw⟩ | ⟨h0, h1, h2, hw⟩ <;> rw [hw]
  · exact h
  · exact h
  · exact h
  · exact h
  · refine ⟨by have := h.le; simp; omega, fun i z hz hi => ?_, fun i z hz hi => ?_⟩
    · rcases get_snoc hz with k | ⟨rfl, rfl⟩
      · exact h.inp i z k hi
      · have := h.le; omega
    · rcases get_snoc hz with k | ⟨rfl, rfl⟩
      · exact h.gate i z k hi
      · show 0 ≤ a; omega
inductive GrowG : List (Int × Int) → List (Int × Int) → Prop
  | refl (N) : GrowG N N
  | gate {N M} (x y : Int) : GrowG N M → GrowG N (andV M x y).2
theorem GrowG.trans {N M K : List (Int × Int)} (h : GrowG N M) (k : GrowG M K) : GrowG N K := by
  induction k with
  | refl => exact h
  | gate x y _ ih => exact .gate x y ih
theorem GrowG.grow {N M : List (Int × Int)} (h : GrowG N M) : Grow N M := by
  induction h with
  | refl => exact .refl _
  | gate x y _ ih => exact .gate x y ih
theorem GrowG.only {m : Nat} {N M : List (Int × Int)} (h : GrowG N M) (hN : OnlyG m N) : OnlyG m M := by
  induction h with
  | refl => exact hN
  | gate x y _ ih => exact ih.and x y
theorem muxV_growG (N : List (Int × Int)) (c x y : Int) : GrowG N (muxV N c x y).2 := by
  by_cases h : hasL N c ∧ hasL N x ∧ hasL N y
  · rw [muxV_yes h]; exact .gate _ _ (.gate _ _ (.gate _ _ (.refl N)))
  · rw [muxV_no h]; exact .refl N
theorem xorV_growG (N : List (Int × Int)) (x y : Int) : GrowG N (xorV N x y).2 := muxV_growG _ _ _ _
theorem aTo_growG (N : List (Int × Int)) (L : List Int) : ∀ k, k ≤ L.length → GrowG N (aTo N L k).2
  | 0, _ => .refl N
  | k + 1, hk => by
    obtain ⟨z, hz⟩ := getI L (show k < L.length by omega)
    rw [aTo_succ hz]
    exact .gate _ _ (aTo_growG N L k (by omega))
theorem allV_growG (N : List (Int × Int)) (L : List Int) : GrowG N (allV N L).2 := by
  unfold allV
  by_cases h : ∀ z ∈ L, hasL N z
  · rw [dec_true h]; exact aTo_growG N L _ (Nat.le_refl _)
  · rw [dec_false h]; exact .refl N
theorem allV_yes {N : List (Int × Int)} {L : List Int} (h : ∀ z ∈ L, hasL N z) : allV N L = aTo N L L.length := by unfold allV; rw [dec_true h]; rfl
theorem aTo_of {N : List (Int × Int)} {L : List Int} (hT : Tidy N) (h : ∀ z ∈ L, hasL N z) (ins : List Bool) : ∀ k, k ≤ L.length → ofL (values (aTo N L k).2 ins) (aTo N L k).1 = (L.take k).all fun z => ofL (values N ins) z
  | 0, _ => by
    show ofL (values N ins) 1 = _
    rw [ofL_one]; simp
  | k + 1, hk => by
    obtain ⟨z, hz⟩ := getI L (show k < L.length by omega)
    obtain ⟨i1, i2, i3, i4⟩ := aTo_inv h k (by omega)
    have hz2 := h z (List.mem_of_getElem? hz)
    rw [aTo_succ hz, andV_of (i4.tidy hT) ins i1 (hasL_mono hz2 i2), aTo_of hT h ins k (by omega), i4.of ins hz2, take_succ' hz, List.all_append]
    simp
theorem allV_of {N : List (Int × Int)} {L : List Int} (hT : Tidy N) (h : ∀ z ∈ L, hasL N z) (ins : List Bool) : ofL (values (allV N L).2 ins) (allV N L).1 = L.all fun z => ofL (values N ins) z := by
  rw [allV_yes h, aTo_of hT h ins _ (Nat.le_refl _), List.take_length]
theorem allV_has {N : List (Int × Int)} {L : List Int} (h : ∀ z ∈ L, hasL N z) : hasL (allV N L).2 (allV N L).1 := by
  rw [allV_yes h]; exact (aTo_inv h _ (Nat.le_refl _)).1
theorem allV_len {N : List (Int × Int)} {L : List Int} (h : ∀ z ∈ L, hasL N z) : N.length ≤ (allV N L).2.length ∧ (allV N L).2.length ≤ N.length + L.length := by
  rw [allV_yes h]; exact ⟨(aTo_inv h _ (Nat.le_refl _)).2.1, (aTo_inv h _ (Nat.le_refl _)).2.2.1⟩
theorem tidy_ins : ∀ m : Nat, Tidy (List.replicate m (-1, 0))
  | 0 => Tidy.nil
  | m + 1 => by rw [List.replicate_succ']; exact (tidy_ins m).input

end Go.Proofs.Ythpnahapiodflaa
namespace Go.Proofs.Ythpnahapiodflaa
open Go Go.Lt Go.RowKit
set_option linter.unusedVariables false
set_option linter.unusedSimpArgs false
set_option maxRecDepth 20000

abbrev CirT.roots (c : CirT) : List Int := c.outs ++ c.bads ++ c.cons ++ c.lat.map (·.2.1)
/-- A variable is needed. -/
inductive NeedC (c : CirT) : Int → Prop
  | root {l : Int} (h : l ∈ c.roots) : NeedC c (l / 2)
  | left {g : T3} (h : g ∈ c.gates) (k : NeedC c (g.1 / 2)) : NeedC c (g.2.1 / 2)
  | right {g : T3} (h : g ∈ c.gates) (k : NeedC c (g.1 / 2)) : NeedC c (g.2.2 / 2)
theorem cnt_only {m : Nat} {N : List (Int × Int)} (h : OnlyG m N) : ∀ k, k ≤ m → cnt N k = k
  | 0, _ => rfl
  | k + 1, hk => by
    have hle := h.le
    obtain ⟨x, hx⟩ := getI N (show k < N.length by omega)
    rw [cnt_in hx (by rw [h.inp k x hx (by omega)]; decide), cnt_only h k (by omega)]
theorem ofL_even (V : List Bool) (k : Nat) : ofL V (2 * ((k : Int) + 1)) = V.getD (k + 1) false := by
  unfold ofL
  rw [show (2 * ((k : Int) + 1) / 2).toNat = k + 1 by omega, decide_eq_false (show ¬ 2 * ((k : Int) + 1) % 2 = 1 by omega)]
  simp
end Go.Proofs.Ythpnahapiodflaa
namespace Go.Proofs.Ythpnahapiodflaa
open Go Go.Lt Go.RowKit
set_option linter.unusedVariables false
set_option linter.unusedSimpArgs false
set_option maxRecDepth 20000

theorem only_lit {m : Nat} {N : List (Int × Int)} (h : OnlyG m N) (E : List Bool) {k : Nat} (hk : k < m) : ofL (values N E) (2 * ((k : Int) + 1)) = E.getD k false := by
  have hle := h.le
  obtain ⟨x, hx⟩ := getI N (show k < N.length by omega)
  have hxe := h.inp k x hx hk
  rw [ofL_even, values_in E hx (by rw [hxe]; decide), cnt_only h k (by omega)]

def numB : List Bool → Nat
  | [] => 0
  | b :: s => b.toNat + 2 * numB s
def cry (s : List Bool) (c : Bool) : Nat → Bool
  | 0 => c
  | k + 1 => s.getD k false && cry s c k
def incB : List Bool → Bool → List Bool
  | [], _ => []
  | b :: s, c => (b != c) :: incB s (b && c)
theorem incB_len : ∀ (s : List Bool) (c : Bool), (incB s c).length = s.length
  | [], _ => rfl
  | b :: s, c => congrArg (· + 1) (incB_len s (b && c))
theorem cry_cons (b : Bool) (s : List Bool) (c : Bool) : ∀ k, cry (b :: s) c (k + 1) = cry s (b && c) k
  | 0 => rfl
  | k + 1 => by
    show (s.getD k false && cry (b :: s) c (k + 1)) = (s.getD k false && cry s (b && c) k)
    rw [cry_cons b s c k]
theorem incB_get : ∀ (s : List Bool) (c : Bool) (k : Nat), k < s.length → (incB s c)[k]? = some (s.getD k false != cry s c k)
  | b :: s, c, 0, _ => rfl
  | b :: s, c, k + 1, h => by
    show (incB s (b && c))[k]? = _
    rw [incB_get s (b && c) k (by simpa using h), cry_cons]
    rfl
theorem numB_lt : ∀ s : List Bool, numB s < 2 ^ s.length
  | [] => by decide
  | b :: s => by
    have := numB_lt s
    show b.toNat + 2 * numB s < 2 ^ (s.length + 1)
    rw [Nat.pow_succ]
    cases b <;> simp <;> omega
theorem numB_is : ∀ (s : List Bool) (a : Nat), a < 2 ^ s.length → (numB s = a ↔ ∀ j, j < s.length → s.getD j false = a.testBit j)
  | [], a, h => by
    have : a = 0 := by simpa using h
    subst this
    exact ⟨fun _ j hj => absurd hj (Nat.not_lt_zero _), fun _ => rfl⟩
  | b :: s, a, h => by
    have h' : a / 2 < 2 ^ s.length := by
      have : a < 2 ^ (s.length + 1) := h
      rw [Nat.pow_succ] at this; omega
    have ih := numB_is s (a / 2) h'
    have e0 : a.testBit 0 = decide (a % 2 = 1) := Nat.testBit_zero a
    constructor
    · intro he
      have he : b.toNat + 2 * numB s = a := he
      intro j hj
      cases j with
      | zero =>
        show b = _
        rw [e0]
        cases b
        · simp at he; rw [decide_eq_false (by omega)]
        · simp at he; rw [decide_eq_true (by omega)]
      | succ j =>
        rw [Nat.testBit_succ]
        exact ih.1 (by cases b <;> simp at he <;> omega) j (by simpa using hj)
    · intro hh
      have h0 : b = a.testBit 0 := hh 0 (by simp)
      have h1 : numB s = a / 2 := ih.2 fun j hj => by rw [← Nat.testBit_succ]; exact hh (j + 1) (by simpa using hj)
      show b.toNat + 2 * numB s = a
      rw [h1, h0, e0]
      by_cases hp : a % 2 = 1
      · rw [decide_eq_true hp]; simp; omega
      · rw [decide_eq_false hp]; simp; omega
/-- A literal, or its inverse, as a bit says. -/
def litQ (l : Int) (b : Bool) : Int := if b then l else l + 1
theorem litQ_of {N : List (Int × Int)} (E : List Bool) {k : Nat} (b : Bool) : ofL (values N E) (litQ (2 * ((k : Int) + 1)) b) = (ofL (values N E) (2 * ((k : Int) + 1)) == b) := by
  unfold litQ
  cases b
  · have : 2 * ((k : Int) + 1) + 1 = Lt.xor1 (2 * ((k : Int) + 1)) := by unfold Lt.xor1; rw [if_pos (by omega)]
    rw [if_neg (by decide), this, ofL_xor1 _ (by omega)]
    cases ofL (values N E) (2 * ((k : Int) + 1)) <;> rfl
  · rw [if_pos rfl]
    cases ofL (values N E) (2 * ((k : Int) + 1)) <;> rfl
/-- A counter, so far. -/
structure CntS where
  next : List Int
  is : List Int
  carry : Int
  N : List (Int × Int)
noncomputable def cntTo (bits at_ : Nat) : Nat → CntS
  | 0 => ⟨[], [], 2, List.replicate (1 + bits) (-1, 0)⟩
  | k + 1 =>
    ⟨(cntTo bits at_ k).next ++ [(xorV (cntTo bits at_ k).N (2 * (((1 + k : Nat) : Int) + 1)) (cntTo bits at_ k).carry).1], (cntTo bits at_ k).is ++ [litQ (2 * (((1 + k : Nat) : Int) + 1)) (at_.testBit k)],
      (andV (xorV (cntTo bits at_ k).N (2 * (((1 + k : Nat) : Int) + 1)) (cntTo bits at_ k).carry).2 (cntTo bits at_ k).carry (2 * (((1 + k : Nat) : Int) + 1))).1,
      (andV (xorV (cntTo bits at_ k).N (2 * (((1 + k : Nat) : Int) + 1)) (cntTo bits at_ k).carry).2 (cntTo bits at_ k).carry (2 * (((1 + k : Nat) : Int) + 1))).2⟩
structure CntInv (bits at_ k : Nat) (s : CntS) : Prop where
  nlen : s.next.length = k
  ilen : s.is.length = k
  has : ∀ z ∈ s.next, hasL s.N z
  isHas : ∀ z ∈ s.is, hasL s.N z
  cHas : hasL s.N s.carry
  grow : GrowG (List.replicate (1 + bits) (-1, 0)) s.N
  len : s.N.length ≤ 1 + bits + 4 * k
  val : ∀ (E : List Bool) (j : Nat) (z : Int), s.next[j]? = some z → ofL (values s.N E) z = (E.getD (1 + j) false != cry (E.drop 1) (E.getD 0 false) j)
  cry : ∀ E : List Bool, ofL (values s.N E) s.carry = cry (E.drop 1) (E.getD 0 false) k
  isv : ∀ (j : Nat), j < k → s.is[j]? = some (litQ (2 * (((1 + j : Nat) : Int) + 1)) (at_.testBit j))
theorem xorV_len (N : List (Int × Int)) (x y : Int) : N.length ≤ (xorV N x y).2.length ∧ (xorV N x y).2.length ≤ N.length + 3 := muxV_len _ _ _ _
theorem xorV_has {N : List (Int × Int)} {x y : Int} (hx : hasL N x) (hy : hasL N y) : hasL (xorV N x y).2 (xorV N x y).1 := muxV_has hx (notL_has hy) hy
theorem cnt_inv (bits at_ : Nat) : ∀ k, k ≤ bits → CntInv bits at_ k (cntTo bits at_ k)
  | 0, _ => by
    refine ⟨rfl, rfl, fun z hz => absurd hz (by simp [cntTo]), fun z hz => absurd hz (by simp [cntTo]), ?_, .refl _, ?_, fun E j z h => ?_, fun E => ?_, fun j hj => absurd hj (Nat.not_lt_zero _)⟩
    · show hasL (List.replicate (1 + bits) (-1, 0)) 2
      unfold hasL; simp; omega
    · show (List.replicate (1 + bits) ((-1, 0) : Int × Int)).length ≤ _
      simp
    · have : ([] : List Int)[j]? = some z := h
      simp at this
    · exact only_lit (OnlyG.start (1 + bits)) E (k := 0) (by omega)
  | k + 1, hk => by
    have ih := cnt_inv bits at_ k (by omega)
    obtain ⟨i1, i2, i3, i4, i5, i6, i7, i8, i9, i10⟩ := ih
    have hl0 := i6.grow.len
    rw [List.length_replicate] at hl0
    have hT0 := tidy_ins (1 + bits)
    have hlk : hasL (cntTo bits at_ k).N (2 * (((1 + k : Nat) : Int) + 1)) := by unfold hasL; omega
    have lx := xorV_len (cntTo bits at_ k).N (2 * (((1 + k : Nat) : Int) + 1)) (cntTo bits at_ k).carry
    have hx := xorV_has hlk i5
    have gx := xorV_growG (cntTo bits at_ k).N (2 * (((1 + k : Nat) : Int) + 1)) (cntTo bits at_ k).carry
    have hT := i6.grow.tidy hT0
    have vx := fun E => xorV_of hT E hlk i5
    have hO := i6.only (OnlyG.start (1 + bits))
    have vl := fun E => only_lit hO E (k := 1 + k) (by omega)
    show CntInv bits at_ (k + 1) ⟨_, _, _, _⟩
    generalize hX : xorV (cntTo bits at_ k).N (2 * (((1 + k : Nat) : Int) + 1)) (cntTo bits at_ k).carry = X at lx hx gx vx
    generalize cntTo bits at_ k = s at *
    have hlX := hasL_mono hlk lx.1
    have hcX := hasL_mono i5 lx.1
    have hTX := gx.grow.tidy hT
    have ly := andV_len X.2 s.carry (2 * (((1 + k : Nat) : Int) + 1))
    have hy := andV_has hcX hlX
    have vy := fun E => andV_of hTX E hcX hlX
    have gy : GrowG X.2 (andV X.2 s.carry (2 * (((1 + k : Nat) : Int) + 1))).2 := .gate _ _ (.refl _)
    generalize andV X.2 s.carry (2 * (((1 + k : Nat) : Int) + 1)) = Y at ly hy vy gy
    have hsY : s.N.length ≤ Y.2.length := by omega
    have gsY := gx.trans gy
    refine ⟨by rw [List.length_append, i1]; rfl, by rw [List.length_append, i2]; rfl, fun z hz => ?_, fun z hz => ?_, hy, i6.trans gsY, by dsimp only; omega, fun E j z hz => ?_, fun E => ?_, fun j hj => ?_⟩
    · rcases List.mem_append.1 hz with hz | hz
      · exact hasL_mono (i3 z hz) hsY
      · rw [List.mem_singleton.1 hz]; exact hasL_mono hx ly.1
    · rcases List.mem_append.1 hz with hz | hz
      · exact hasL_mono (i4 z hz) hsY
      · rw [List.mem_singleton.1 hz]
        show hasL Y.2 _
        unfold hasL litQ
        split <;> omega
    · show ofL (values Y.2 E) z = _
      rcases get_snoc hz with hz | ⟨rfl, rfl⟩
      · rw [gsY.grow.of E (i3 z (List.mem_of_getElem? hz))]; exact i8 E j z hz
      · rw [gy.grow.of E hx, vx E, i1, i9 E, vl E]
    · show ofL (values Y.2 E) Y.1 = _
      rw [vy E, gx.grow.of E i5, gx.grow.of E hlk, i9 E, vl E]
      show _ = ((E.drop 1).getD k false && cry (E.drop 1) (E.getD 0 false) k)
      rw [Bool.and_comm]
      congr 1
      simp only [List.getD, List.getElem?_drop]
    · show (s.is ++ [_])[j]? = _
      by_cases hjk : j < k
      · rw [List.getElem?_append_left (by omega)]; exact i10 j hjk
      · obtain rfl : j = k := by omega
        rw [List.getElem?_append_right (by omega), i2, Nat.sub_self]; rfl

/-- What a run by inputs is given, and one step more. -/
def runL (nin : Nat) (ins : List Bool) : List (List Bool) := (List.range (ins.length + 1)).map fun i => if nin = 0 then [] else [ins.getD i false]
theorem runL_len (nin : Nat) (ins : List Bool) : (runL nin ins).length = ins.length + 1 := by simp [runL]
theorem runL_get (nin : Nat) (ins : List Bool) {k : Nat} (h : k ≤ ins.length) : (runL nin ins).getD k [] = if nin = 0 then [] else [ins.getD k false] := by
  have : (runL nin ins)[k]? = some (if nin = 0 then [] else [ins.getD k false]) := by unfold runL; rw [List.getElem?_map, List.getElem?_range (by omega)]; rfl
  rw [getD_of this]
abbrev badR (b : Int) : Rest := ⟨[], [b], [], [], ⟨#[]⟩⟩
section
variable {nin : Nat} {next reset : List Int} {b : Int} {N : List (Int × Int)}
theorem gen_next (h : GenOk nin next reset (badR b) N) (s i : List Bool) : nextV (genC nin next reset (badR b) N) s i = next.map fun z => ofL (values N (brV i nin ++ brV s next.length)) z := by
  apply List.ext_getElem?
  intro k
  unfold nextV
  show ((latsG nin next reset).map _)[k]? = _
  by_cases hk : k < next.length
  · obtain ⟨z, hz⟩ := getI next hk
    rw [List.getElem?_map, List.getElem?_map, hz, latsG_get hk, getD_of hz]
    show some (litV _ s i z) = _
    rw [genC_lit h s i (h.nexts z (List.mem_of_getElem? hz))]; rfl
  · rw [List.getElem?_eq_none (by rw [List.length_map, latsG_len]; omega), List.getElem?_eq_none (by rw [List.length_map]; omega)]
theorem gen_breaks (h : GenOk nin next reset (badR b) N) (hr : reset.length = next.length) (hrr : ∀ z ∈ reset, z = 0 ∨ z = 1) (hn : nin ≤ 1) (ins : List Bool) :
    BreaksP (genC nin next reset (badR b) N) (reset.map fun z => dec (z = 1)) (runL nin ins) 0 ↔ ofL (values N (brV [false] nin ++ brV (stateV (genC nin next reset (badR b) N) (reset.map fun z => dec (z = 1)) (runL nin ins) ins.length) next.length)) b = true := by
  have hll : (genC nin next reset (badR b) N).lat.length = next.length := latsG_len _ _ _
  have hil : (genC nin next reset (badR b) N).ins.length = nin := evenL_len _ _
  have hlast : (runL nin ins).getD ((runL nin ins).length - 1) [] = if nin = 0 then [] else [false] := by
    rw [runL_len, Nat.add_sub_cancel, runL_get nin ins (Nat.le_refl _)]
    have : ins.getD ins.length false = false := by simp [List.getD]
    rw [this]
  have hst : StartsP (genC nin next reset (badR b) N) (reset.map fun z => dec (z = 1)) := by
    refine ⟨by rw [List.length_map, hll, hr], fun k x v hx hv => ?_⟩
    have hk := lt_of_get hx
    rw [hll] at hk
    have hx' : (latsG nin next reset)[k]? = some x := hx
    rw [latsG_get hk] at hx'
    cases hx'
    obtain ⟨z, hz⟩ := getI reset (show k < reset.length by omega)
    rw [List.getElem?_map, hz] at hv
    cases hv
    rw [getD_of hz]
    dsimp only
    rcases hrr z (List.mem_of_getElem? hz) with rfl | rfl
    · rw [dec_false (by decide)]; simp
    · rw [dec_true (by decide)]; simp
  have hgo : GoesP (genC nin next reset (badR b) N) (reset.map fun z => dec (z = 1)) (runL nin ins) (runL nin ins).length := by
    intro j i hj hi
    rw [runL_len] at hj
    have e := runL_get nin ins (show j ≤ ins.length by omega)
    rw [getD_of hi] at e
    refine ⟨?_, (fun l hl => by cases hl)⟩
    rw [hil, e]
    split
    · rename_i h0; rw [h0]; rfl
    · show 1 = nin; omega
  have hb : ∀ S i, BadP (genC nin next reset (badR b) N) S i 0 ↔ litV (genC nin next reset (badR b) N) S i b = true := by
    intro S i
    constructor
    · rintro ⟨_, l, hl, hv⟩
      have hl' : ([b] : List Int)[0]? = some l := hl
      simp at hl'; subst hl'; exact hv
    · intro hv
      exact ⟨by decide, b, rfl, hv⟩
  have hbh : hasL N b := h.bads b (by simp)
  unfold BreaksP
  rw [hlast, runL_len, Nat.add_sub_cancel, hb, genC_lit h _ _ hbh]
  have e0 : brV (if nin = 0 then [] else [false]) nin = brV [false] nin := by
    rcases Nat.lt_or_ge nin 1 with h0 | h0
    · obtain rfl : nin = 0 := by omega
      rfl
    · obtain rfl : nin = 1 := by omega
      rfl
  rw [e0]
  exact ⟨fun h => h.2.2.2, fun h => ⟨hst, fun he => by have := congrArg List.length he; rw [runL_len] at this; simp at this, by rw [← runL_len nin ins]; exact hgo, h⟩⟩
end

noncomputable def cntN (bits a : Nat) : Int × List (Int × Int) := allV (cntTo bits a bits).N (cntTo bits a bits).is
noncomputable def cntC (bits a : Nat) : CirT := genC 1 (cntTo bits a bits).next (List.replicate bits 0) (badR (cntN bits a).1) (cntN bits a).2
theorem cntN_len (bits a : Nat) : (cntTo bits a bits).N.length ≤ (cntN bits a).2.length ∧ (cntN bits a).2.length ≤ 1 + 6 * bits := by
  have hi := cnt_inv bits a bits (Nat.le_refl _)
  have h1 := allV_len hi.isHas
  have h2 := hi.len
  have h3 := hi.ilen
  show _ ≤ (allV (cntTo bits a bits).N (cntTo bits a bits).is).2.length ∧ (allV (cntTo bits a bits).N (cntTo bits a bits).is).2.length ≤ _
  refine ⟨h1.1, ?_⟩
  have h4 := h1.2
  rw [h3] at h4
  omega
theorem cntC_ok {bits a : Nat} (hb : bits ≤ 20) : GenOk 1 (cntTo bits a bits).next (List.replicate bits 0) (badR (cntN bits a).1) (cntN bits a).2 := by
  have hi := cnt_inv bits a bits (Nat.le_refl _)
  have hl := cntN_len bits a
  have hg : GrowG (List.replicate (1 + bits) (-1, 0)) (cntN bits a).2 := hi.grow.trans (allV_growG _ _)
  refine ⟨(hg.grow.tidy (tidy_ins _)).good, by rw [hi.nlen]; exact hg.only (OnlyG.start _), by omega, fun z hz => hasL_mono (hi.has z hz) hl.1, fun i hii => .inl ?_, (fun z hz => by cases hz), (fun z hz => ?_), (fun z hz => by cases hz)⟩
  · rw [hi.nlen] at hii
    have : (List.replicate bits (0 : Int))[i]? = some 0 := by rw [List.getElem?_replicate, if_pos hii]
    exact getD_of this
  · rw [List.mem_singleton.1 hz]; exact allV_has hi.isHas
theorem brV_one (v : Bool) : brV [v] 1 = [v] := rfl
theorem cnt_next {bits a : Nat} (hb : bits ≤ 20) {s : List Bool} (hs : s.length = bits) (v : Bool) : nextV (cntC bits a) s [v] = incB s v := by
  have hi := cnt_inv bits a bits (Nat.le_refl _)
  have hg : GrowG (cntTo bits a bits).N (cntN bits a).2 := allV_growG _ _
  unfold cntC
  rw [gen_next (cntC_ok hb), hi.nlen, brV_one, show brV s bits = s by rw [← hs]; exact brV_self s]
  apply List.ext_getElem?
  intro k
  by_cases hk : k < bits
  · obtain ⟨z, hz⟩ := getI (cntTo bits a bits).next (show k < _ by rw [hi.nlen]; exact hk)
    rw [List.getElem?_map, hz, incB_get s v k (by omega)]
    show some (ofL _ z) = _
    rw [hg.grow.of _ (hi.has z (List.mem_of_getElem? hz)), hi.val _ k z hz]
    show some (([v] ++ s).getD (1 + k) false != cry s v k) = _
    rw [show ([v] ++ s).getD (1 + k) false = s.getD k false by rw [Nat.add_comm]; rfl]
  · rw [List.getElem?_eq_none (by rw [List.length_map, hi.nlen]; omega), List.getElem?_eq_none (by rw [incB_len]; omega)]
end Go.Proofs.Ythpnahapiodflaa
namespace Go.Lt
open Go.RowKit
set_option linter.unusedVariables false
set_option linter.unusedSimpArgs false

/-- What is known of an operation's value; which block is its own. -/
inductive Pr where
  | any : Pr
  | is : Value → Pr
  | ex (F : Value → World → Prop) (b : Value → Option Nat) (keep : ∀ x w w', F x w → Ext w w' → F x w') (lt : ∀ x w k, F x w → b x = some k → k < w.heap.size) : Pr
def Pr.holds : Pr → Value → World → Prop
  | .any, _, _ => True
  | .is v, x, _ => x = v
  | .ex F _ _ _, x, w => F x w
def Pr.bl : Pr → Value → Option Nat
  | .ex _ b _ _, x => b x
  | _, _ => none
theorem Pr.keeps : ∀ {p : Pr} {x : Value} {w w' : World}, p.holds x w → Ext w w' → p.holds x w'
  | .any, _, _, _, _, _ => trivial
  | .is _, _, _, _, h, _ => h
  | .ex _ _ k _, _, _, _, h, hx => k _ _ _ h hx
def prAt : List Pr → Nat → Pr
  | [], _ => .any
  | p :: _, 0 => p
  | _ :: r, i + 1 => prAt r i

section
variable {P : Program} {N : Nat} {prs : List Pr} {pre : List Oper}

/-- Slots become known, one by one. -/
def need (prs : List Pr) (pre : List Oper) (w : World) (K : Env → List (Option Nat) → Prop) : List Nat → Env → List (Option Nat) → Prop
  | [], E, bs => K E bs
  | j :: r, E, bs =>
    match dstAt pre j with
    | none => need prs pre w K r E bs
    | some d =>
      match prAt prs j with
      | .any => need prs pre w K r E bs
      | .is v => need prs pre w K r ((d, v) :: E) bs
      | .ex F b _ _ => ∀ x, F x w → need prs pre w K r ((d, x) :: E) (b x :: bs)

def valO (pre : List Oper) (a : Act) (j : Nat) : Value :=
  match dstAt pre j with
  | some d => a.tmps.getD d undef
  | none => undef
theorem Fit.cons {e : Env} {a : Act} (h : Fit N e a) {d : Nat} {v : Value} (hd : a.tmps[d]? = some v) : Fit N ((d, v) :: e) a := by
  refine ⟨h.size, h.defers, fun t u hu => ?_⟩
  rw [get_cons] at hu
  by_cases hdt : d = t
  · subst hdt; rw [if_pos rfl] at hu; cases hu; exact hd
  · rw [if_neg hdt] at hu; exact h.slots _ _ hu
theorem get_appE (e1 e2 : Env) (t : Nat) : get (e1 ++ e2) t = (get e1 t).or (get e2 t) := by
  induction e1 with
  | nil => simp [get]
  | cons p r ih =>
    obtain ⟨k, v⟩ := p
    rw [List.cons_append, get_cons, get_cons]
    by_cases hk : k = t
    · rw [if_pos hk, if_pos hk]; rfl
    · rw [if_neg hk, if_neg hk, ih]
/-- All slots of a frame. -/
def slotsE (a : Act) : Nat → Env
  | 0 => []
  | n + 1 => (n, a.tmps.getD n undef) :: slotsE a n
theorem slotsE_get {a : Act} : ∀ {n t : Nat}, t < n → get (slotsE a n) t = some (a.tmps.getD t undef)
  | n + 1, t, h => by
    rw [slotsE, get_cons]
    by_cases hk : n = t
    · subst hk; rw [if_pos rfl]
    · rw [if_neg hk]; exact slotsE_get (by omega)
theorem slotsE_lt {a : Act} : ∀ {n t : Nat} {v : Value}, get (slotsE a n) t = some v → t < n
  | 0, t, v, h => by cases h
  | n + 1, t, v, h => by
    rw [slotsE, get_cons] at h
    by_cases hk : n = t
    · omega
    · rw [if_neg hk] at h; have := slotsE_lt h; omega
theorem getD_some {a : Act} {t : Nat} (h : t < a.tmps.size) : a.tmps[t]? = some (a.tmps.getD t undef) := by
  simp [Array.getD_eq_getD_getElem?, h]
theorem Fit.all {e : Env} {a : Act} (h : Fit N e a) : Fit N (e ++ slotsE a N) a := by
  refine ⟨h.size, h.defers, fun t u hu => ?_⟩
  rw [get_appE] at hu
  cases hg : get e t with
  | some x => rw [hg] at hu; simp at hu; subst hu; exact h.slots _ _ hg
  | none =>
    rw [hg] at hu
    simp at hu
    have hlt := slotsE_lt hu
    rw [slotsE_get hlt] at hu
    cases hu
    exact getD_some (by rw [h.size]; exact hlt)

abbrev Apart (bs : List (Option Nat)) : Prop := bs.Pairwise fun x y => x = none ∨ x ≠ y
def postI (N d : Nat) (p : Pr) (w : World) (E : Env) : Exit → Act → World → Prop := onlyN fun a w' => ∃ v, Fit N ((d, v) :: E) a ∧ Ext w w' ∧ p.holds v w' ∧ ∀ k, p.bl v = some k → w.heap.size ≤ k
structure NO (P : Program) (N : Nat) (pre : List Oper) (prs : List Pr) (o : Oper) (d : Nat) (p : Pr) (w : World) (ds : List Nat) (E : Env) : Prop where
  go : ∀ bs, need prs pre w (fun E' _ => WL P N pre.toArray [o] E' w (postI N d p w E')) ds E bs
def depsOf (o : Oper) : List Nat := o.after.toList.filterMap fun e => if Region.binds .any e then some e.on else none
structure OBL (P : Program) (N : Nat) (pre : List Oper) (prs : List Pr) (e : Env) (w : World) (i : Nat) (l : List Oper) : Prop where
  go : ∀ (k : Nat) (o : Oper), l[k]? = some o → ∃ d, o.dst = some d ∧ d < N ∧ ∀ w', Ext w w' → ∀ rest, NO P N pre prs o d (prAt prs (i + k)) w' (depsOf o) (e ++ rest)
theorem OBL.nil {e : Env} {w : World} {i : Nat} : OBL P N pre prs e w i [] := ⟨fun k o h => by simp at h⟩
theorem OBL.cons {e : Env} {w : World} {i d : Nat} {o : Oper} {r : List Oper} {p : Pr} {ds : List Nat} (hd : o.dst = some d) (hN : Nat.blt d N = true) (hp : prAt prs i = p) (hds : depsOf o = ds)
    (h : ∀ w', Ext w w' → ∀ rest, NO P N pre prs o d p w' ds (e ++ rest)) (k : OBL P N pre prs e w (i + 1) r) : OBL P N pre prs e w i (o :: r) := by
  refine ⟨fun j o' hj => ?_⟩
  cases j with
  | zero => simp at hj; subst hj; exact ⟨d, hd, by simpa [Nat.blt_eq] using hN, by rw [Nat.add_zero, hp, hds]; exact h⟩
  | succ j =>
    have := k.go j o' (by simpa using hj)
    rwa [show i + 1 + j = i + (j + 1) by omega] at this
theorem NO.nil {o : Oper} {d : Nat} {p : Pr} {w : World} {E : Env} (h : WL P N pre.toArray [o] E w (postI N d p w E)) : NO P N pre prs o d p w [] E := ⟨fun _ => h⟩
theorem NO.any {o : Oper} {d j : Nat} {p : Pr} {w : World} {E : Env} {r : List Nat} (hp : prAt prs j = .any) (h : NO P N pre prs o d p w r E) : NO P N pre prs o d p w (j :: r) E := ⟨fun bs => by
  unfold need
  cases dstAt pre j with
  | none => exact h.go bs
  | some d => dsimp only; rw [hp]; exact h.go bs⟩
theorem NO.is {o : Oper} {d dj j : Nat} {p : Pr} {w : World} {E : Env} {v : Value} {r : List Nat} (hd : dstAt pre j = some dj) (hp : prAt prs j = .is v) (h : NO P N pre prs o d p w r ((dj, v) :: E)) : NO P N pre prs o d p w (j :: r) E := ⟨fun bs => by
  unfold need
  rw [hd]; dsimp only; rw [hp]; exact h.go bs⟩
theorem NO.ex {o : Oper} {d dj j : Nat} {p : Pr} {w : World} {E : Env} {F : Value → World → Prop} {b : Value → Option Nat} {kp : ∀ x w w', F x w → Ext w w' → F x w'} {lt : ∀ x w k, F x w → b x = some k → k < w.heap.size} {r : List Nat} (hd : dstAt pre j = some dj) (hp : prAt prs j = .ex F b kp lt)
    (h : ∀ x, F x w → NO P N pre prs o d p w r ((dj, x) :: E)) : NO P N pre prs o d p w (j :: r) E := ⟨fun bs => by
  unfold need
  rw [hd]; dsimp only; rw [hp]; exact fun x hx => (h x hx).go _⟩

structure InvI (N : Nat) (prs : List Pr) (pre : List Oper) (e : Env) (w0 : World) (L : Array Bool) (a : Act) (w : World) : Prop where
  ext : Ext w0 w
  fit : Fit N e a
  holds : ∀ i, i < pre.length → L.getD i false = true → (prAt prs i).holds (valO pre a i) w
  apart : ∀ i j, i < pre.length → j < pre.length → L.getD i false = true → L.getD j false = true → i ≠ j → (prAt prs i).bl (valO pre a i) = none ∨ (prAt prs i).bl (valO pre a i) ≠ (prAt prs j).bl (valO pre a j)

structure NF (P : Program) (N : Nat) (pre : List Oper) (prs : List Pr) (w : World) (K : Env → Prop) (ds : List Nat) (E : Env) (bs : List (Option Nat)) : Prop where
  go : need prs pre w (fun E' bs' => Apart bs' → K E') ds E bs
theorem NF.any {w : World} {K : Env → Prop} {E : Env} {bs : List (Option Nat)} {j : Nat} {r : List Nat} (hp : prAt prs j = .any) (h : NF P N pre prs w K r E bs) : NF P N pre prs w K (j :: r) E bs := ⟨by
  unfold need
  cases dstAt pre j with
  | none => exact h.go
  | some d => dsimp only; rw [hp]; exact h.go⟩
theorem NF.is {w : World} {K : Env → Prop} {E : Env} {bs : List (Option Nat)} {j dj : Nat} {v : Value} {r : List Nat} (hd : dstAt pre j = some dj) (hp : prAt prs j = .is v) (h : NF P N pre prs w K r ((dj, v) :: E) bs) : NF P N pre prs w K (j :: r) E bs := ⟨by
  unfold need
  rw [hd]; dsimp only; rw [hp]; exact h.go⟩
theorem NF.ex {w : World} {K : Env → Prop} {E : Env} {bs : List (Option Nat)} {j dj : Nat} {F : Value → World → Prop} {b : Value → Option Nat} {kp : ∀ x w w', F x w → Ext w w' → F x w'} {lt : ∀ x w k, F x w → b x = some k → k < w.heap.size} {r : List Nat} (hd : dstAt pre j = some dj) (hp : prAt prs j = .ex F b kp lt)
    (h : ∀ x, F x w → NF P N pre prs w K r ((dj, x) :: E) (b x :: bs)) : NF P N pre prs w K (j :: r) E bs := ⟨by
  unfold need
  rw [hd]; dsimp only; rw [hp]; exact fun x hx => (h x hx).go⟩
theorem InvI.start {e : Env} {w0 : World} {a : Act} {m n : Nat} (hf : Fit N e a) : InvI N prs pre e w0 (Array.replicate n false) a (at' w0 m) :=
  ⟨(Ext.refl _).at m, hf, fun i _ h => (by rw [getD_replicate_false] at h; cases h), fun i j _ _ h => (by rw [getD_replicate_false] at h; cases h)⟩
theorem OBL.lt {e : Env} {w0 : World} (hO : OBL P N pre prs e w0 0 pre) : ∀ j d, dstAt pre j = some d → d < N := fun j d hj => by
  rw [← dstAt_eq] at hj
  cases ho : pre.toArray[j]? with
  | none => rw [ho] at hj; cases hj
  | some q =>
    rw [ho] at hj
    simp only [Option.bind_some] at hj
    obtain ⟨d', h1, h2, _⟩ := hO.go j q (by simpa using ho)
    rw [h1] at hj; cases hj; exact h2

end

section
variable {N : Nat}
end

section rules
variable {P : Program} {N : Nat} {e : Env} {w : World} {Q : Exit → Act → World → Prop} {ops : List Oper} {l : List Oper} {T : Tab}
  {d : Nat} {tt : TypeId} {ps : String} {af : Array Edge} {g : Option (Nat × Bool)} {t : TypeId} {α : Type} {s : Nat} {enc : α → List Value} {B : Nat} {ti ei : TI} {el : TypeId}
end rules

open Classical in
/-- A row of one's own; if it is empty, nothing is said of it. -/
noncomputable def prowZ {α : Type} (s : Nat) (enc : α → List Value) (el B : Nat) (a : Option Addr) (cap : Nat) (l : List α) : Piece :=
  ⟨if l = [] then none else blk a, fun w => l ≠ [] → Own s enc el B w a cap l, fun {w w'} h hb hl => (h hl).keep fun k hk => hb k (by rw [if_neg hl]; exact hk)⟩
theorem Sep.rowZ {α : Type} {s : Nat} {enc : α → List Value} {el B cap i : Nat} {a : Option Addr} {l : List α} {w : World} {ps : List Piece} (hS : Sep B w ps) (h : ps[i]? = some (prowZ s enc el B a cap l)) (hl : l ≠ []) : Own s enc el B w a cap l := (hS.holds i _ h).1 hl
end Go.Lt
namespace Go.Proofs.Ythpnahapiodflaa
open Go Go.Lt Go.RowKit
set_option linter.unusedVariables false
set_option linter.unusedSimpArgs false
set_option maxRecDepth 20000

/-- The rows of a circuit, each in a block of its own. -/
noncomputable def Circ.ps (B : Nat) (d : Circ) : List Piece :=
  [prowZ 3 encY 110 B d.syms.1 d.syms.2.1 d.syms.2.2, prowZ 3 enc3 106 B d.gates.1 d.gates.2.1 d.gates.2.2, prowZ 3 enc3 69 B d.lat.1 d.lat.2.1 d.lat.2.2,
    prowZ 1 encI 3 B d.cons.1 d.cons.2.1 d.cons.2.2, prowZ 1 encI 3 B d.bads.1 d.bads.2.1 d.bads.2.2, prowZ 1 encI 3 B d.outs.1 d.outs.2.1 d.outs.2.2, prowZ 1 encI 3 B d.ins.1 d.ins.2.1 d.ins.2.2]
/-- Their rooms. -/
structure CapC (d : Circ) : Prop where
  ins : d.ins.2.2.length ≤ d.ins.2.1 ∧ (d.ins.1 = none → d.ins.2.1 = 0)
  lat : d.lat.2.2.length ≤ d.lat.2.1 ∧ (d.lat.1 = none → d.lat.2.1 = 0)
  outs : d.outs.2.2.length ≤ d.outs.2.1 ∧ (d.outs.1 = none → d.outs.2.1 = 0)
  bads : d.bads.2.2.length ≤ d.bads.2.1 ∧ (d.bads.1 = none → d.bads.2.1 = 0)
  cons : d.cons.2.2.length ≤ d.cons.2.1 ∧ (d.cons.1 = none → d.cons.2.1 = 0)
  gates : d.gates.2.2.length ≤ d.gates.2.1 ∧ (d.gates.1 = none → d.gates.2.1 = 0)
  syms : d.syms.2.2.length ≤ d.syms.2.1 ∧ (d.syms.1 = none → d.syms.2.1 = 0)
theorem rowZ_row {α : Type} {s : Nat} {enc : α → List Value} {el B cap i : Nat} {a : Option Addr} {l : List α} {w : World} {ps : List Piece} (hE : Enc s enc) (hS : Lt.Sep B w ps) (h : ps[i]? = some (prowZ s enc el B a cap l)) : Row s enc w a l := by
  by_cases hl : l = []
  · subst hl; exact Row.nil s enc w a
  · exact (hS.rowZ h hl).row hE
/-- A circuit of one's own. -/
structure OwnC (B : Nat) (w : World) (d : Circ) : Prop where
  sep : Lt.Sep B w (d.ps B)
  cap : CapC d
theorem OwnC.at {B : Nat} {w : World} {d : Circ} (h : OwnC B w d) : CAt w d :=
  ⟨⟨rowZ_row encI_ok h.sep (i := 6) rfl, h.cap.ins.1, h.cap.ins.2⟩, ⟨rowZ_row enc3_ok h.sep (i := 2) rfl, h.cap.lat.1, h.cap.lat.2⟩, ⟨rowZ_row encI_ok h.sep (i := 5) rfl, h.cap.outs.1, h.cap.outs.2⟩, ⟨rowZ_row encI_ok h.sep (i := 4) rfl, h.cap.bads.1, h.cap.bads.2⟩,
    ⟨rowZ_row encI_ok h.sep (i := 3) rfl, h.cap.cons.1, h.cap.cons.2⟩, ⟨rowZ_row enc3_ok h.sep (i := 1) rfl, h.cap.gates.1, h.cap.gates.2⟩, ⟨rowZ_row encY_ok h.sep (i := 0) rfl, h.cap.syms.1, h.cap.syms.2⟩⟩
theorem OwnC.ext {B : Nat} {w w' : World} {d : Circ} (h : OwnC B w d) (hx : Ext w w') : OwnC B w' d := ⟨h.sep.ext hx, h.cap⟩

end Go.Proofs.Ythpnahapiodflaa
namespace Go.Lt
open Go.RowKit
set_option linter.unusedVariables false

theorem Row.keep {α : Type} {s : Nat} {enc : α → List Value} {w w' : World} {a : Option Addr} {l : List α} (h : Row s enc w a l) (hb : ∀ k, blk a = some k → w'.heap[k]? = w.heap[k]?) : Row s enc w' a l := by
  refine ⟨h.len, fun i x hx => ?_⟩
  obtain ⟨b, off, h1, h2⟩ := h.elem i x hx
  refine ⟨b, off, h1, ?_⟩
  have e := hb b (by rw [h1]; rfl)
  have key : ∀ (L : List Value) (o : Nat), Cells w b o L → Cells w' b o L := by
    intro L
    induction L with
    | nil => intro o _; trivial
    | cons u r ih =>
      intro o hc
      refine ⟨?_, ih _ hc.2⟩
      have h3 := hc.1
      simp only [World.cell?] at h3 ⊢
      rw [e]; exact h3
  exact key _ _ h2
theorem get_app {α : Type} {l r : List α} {i : Nat} {x : α} (h : (l ++ r)[i]? = some x) : l[i]? = some x ∨ (l.length ≤ i ∧ r[i - l.length]? = some x) := by
  by_cases hi : i < l.length
  · rw [List.getElem?_append_left hi] at h; exact .inl h
  · rw [List.getElem?_append_right (by omega)] at h; exact .inr ⟨by omega, h⟩
theorem OwnRR.keep {α : Type} {s : Nat} {enc : α → List Value} {el elO B : Nat} {w w' : World} {a : Option Addr} {cap : Nat} {rs : List (RowV α)} (h : OwnRR s enc el elO B w a cap rs) (hb : ∀ k, B ≤ k → k < w.heap.size → w'.heap[k]? = w.heap[k]?) : OwnRR s enc el elO B w' a cap rs :=
  ⟨h.outer.keep fun k hk => hb k (h.outer.blk_lt k hk).1 (h.outer.blk_lt k hk).2, fun i r hr => (h.inner i r hr).keep fun k hk => hb k ((h.inner i r hr).blk_lt k hk).1 ((h.inner i r hr).blk_lt k hk).2, h.apartO, h.apart⟩
end Go.Lt
namespace Go.Proofs.Ythpnahapiodflaa
open Go Go.Lt Go.RowKit
set_option linter.unusedVariables false
set_option linter.unusedSimpArgs false
set_option maxRecDepth 20000

theorem Row.blk_lt {α : Type} {s : Nat} {enc : α → List Value} {w : World} {a : Option Addr} {l : List α} (hE : Enc s enc) (h : Row s enc w a l) (hl : l ≠ []) : ∃ k, blk a = some k ∧ k < w.heap.size := by
  cases l with
  | nil => exact absurd rfl hl
  | cons x r =>
    obtain ⟨b, off, h1, h2⟩ := h.elem 0 x rfl
    refine ⟨b, by rw [h1]; rfl, ?_⟩
    have hp := hE.pos
    have hxl := hE.len x
    cases hx : enc x with
    | nil => rw [hx] at hxl; simp at hxl; omega
    | cons u q => rw [hx] at h2; exact World.block_lt_of_cell? _ _ h2.1
/-- A row that is not in a block that changes. -/
theorem Row.but {α : Type} {s : Nat} {enc : α → List Value} {w w' : World} {a : Option Addr} {l : List α} {b : Option Nat} (hE : Enc s enc) (h : Row s enc w a l) (hb : But w b w') (hne : l ≠ [] → ∀ k, blk a = some k → b ≠ some k) : Row s enc w' a l := by
  by_cases hl : l = []
  · subst hl; exact Row.nil s enc w' a
  · obtain ⟨k, hk, hlt⟩ := Row.blk_lt hE h hl
    exact h.keep fun q hq => by rw [hk] at hq; cases hq; exact hb.block k hlt (fun h => hne hl k hk h.symm)
structure AllI (B bk : Nat) (w : World) (a : Option Addr) (cp : Nat) (rs : List (RowV Int)) : Prop where
  own : Own 1 encRow 23 B w a cp rs
  rows : ∀ r ∈ rs, Row 1 encI w r.1 r.2.2
  ne : ∀ r ∈ rs, r.2.2 ≠ [] → ∀ k, blk r.1 = some k → blk a ≠ some k ∧ k ≠ bk
theorem AllI.but {B bk cp : Nat} {w w' : World} {a : Option Addr} {rs : List (RowV Int)} (h : AllI B bk w a cp rs) (hb : But w (some bk) w') (hB : bk < B) : AllI B bk w' a cp rs :=
  ⟨h.own.keep fun k hk => hb.block k (h.own.blk_lt k hk).2 (fun he => by have h1 := (h.own.blk_lt k hk).1; have h2 := Option.some.inj he; omega), fun r hr => Row.but encI_ok (h.rows r hr) hb fun hl k hk he => (h.ne r hr hl k hk).2 (by cases he; rfl), h.ne⟩
theorem AllI.push {B bk cp cp' gb : Nat} {w w1 w2 : World} {a a' : Option Addr} {rs : List (RowV Int)} {xs : List Int} (h : AllI B bk w a cp rs) (hx : Ext w w1) (hc : Row 1 encI w1 (some ⟨gb, 0, none⟩) xs) (hge : w.heap.size ≤ gb) (hgl : gb < w1.heap.size) (hB : bk < w.heap.size)
    (hO : Own 1 encRow 23 B w2 a' cp' (rs ++ [(some ⟨gb, 0, none⟩, xs.length, xs)])) (hU : Upd B a w1 w2) (hF : blk a' = blk a ∨ ∃ k, blk a' = some k ∧ w1.heap.size ≤ k) : AllI B bk w2 a' cp' (rs ++ [(some ⟨gb, 0, none⟩, xs.length, xs)]) := by
  have hgna : blk a ≠ some gb := fun he => by have := (h.own.blk_lt gb he).2; omega
  have hnew : ∀ k, k < w1.heap.size → blk a ≠ some k → blk a' ≠ some k := fun k hk hne => by
    rcases hF with hF | ⟨q, hq, hql⟩
    · rw [hF]; exact hne
    · rw [hq]; intro he; cases he; omega
  refine ⟨hO, fun r hr => ?_, fun r hr hl k hk => ?_⟩
  · rcases List.mem_append.1 hr with hr | hr
    · exact Row.but encI_ok ((h.rows r hr).ext hx) hU.grown fun hl k hk he => (h.ne r hr hl k hk).1 he
    · obtain rfl := List.mem_singleton.1 hr
      exact Row.but encI_ok hc hU.grown fun hl k hk he => by cases hk; exact hgna he
  · rcases List.mem_append.1 hr with hr | hr
    · obtain ⟨q, hq, hlt⟩ := Row.blk_lt encI_ok (h.rows r hr) hl
      rw [hq] at hk
      have hqk := Option.some.inj hk
      subst hqk
      have := h.ne r hr hl q hq
      exact ⟨hnew q (Nat.lt_of_lt_of_le hlt hx.size) this.1, this.2⟩
    · obtain rfl := List.mem_singleton.1 hr
      have hk' : gb = k := Option.some.inj hk
      subst hk'
      exact ⟨hnew gb hgl hgna, by omega⟩
end Go.Proofs.Ythpnahapiodflaa
namespace Go.Proofs.Ythpnahapiodflaa
open Go Go.Lt Go.RowKit
set_option linter.unusedVariables false
set_option linter.unusedSimpArgs false
set_option maxRecDepth 20000

abbrev Once (gs : List G3) : Prop := ∀ (i j : Nat) (x y : G3), gs[i]? = some x → gs[j]? = some y → x.1 / 2 = y.1 / 2 → i = j
/-- A literal is of a gate that is not told. -/
def Bl (gs : List G3) (T : List Nat) (l : Int) : Prop := ∃ (j : Nat) (x : G3), gs[j]? = some x ∧ j ∉ T ∧ x.1 / 2 = l / 2
noncomputable def one (p : Prop) : Nat := bif dec p then 1 else 0
theorem one_yes {p : Prop} (h : p) : one p = 1 := by unfold one; rw [dec_true h]; rfl
theorem one_no {p : Prop} (h : ¬ p) : one p = 0 := by unfold one; rw [dec_false h]; rfl
theorem one_zero {p : Prop} : one p = 0 ↔ ¬ p := by
  by_cases h : p
  · rw [one_yes h]; simp [h]
  · rw [one_no h]; simp [h]
theorem one_le (p : Prop) : one p ≤ 1 := by
  by_cases h : p
  · rw [one_yes h]; exact Nat.le_refl _
  · rw [one_no h]; omega
noncomputable def lackG (gs : List G3) (T : List Nat) (g : G3) : Nat := one (Bl gs T g.2.1) + one (Bl gs T g.2.2)
theorem rdy_lack {gs : List G3} {T : List Nat} {i : Nat} {g : G3} (hg : gs[i]? = some g) : Rdy gs T i ↔ (i ∉ T ∧ lackG gs T g = 0) := by
  have h0 : lackG gs T g = 0 ↔ (¬ Bl gs T g.2.1 ∧ ¬ Bl gs T g.2.2) := by
    unfold lackG
    rw [Nat.add_eq_zero_iff, one_zero, one_zero]
  rw [h0]
  constructor
  · rintro ⟨g', hg', h1, h2⟩
    rw [hg] at hg'; cases hg'
    exact ⟨h1, fun ⟨j, x, h3, h4, h5⟩ => (h2 j x h3 h4).1 h5, fun ⟨j, x, h3, h4, h5⟩ => (h2 j x h3 h4).2 h5⟩
  · rintro ⟨h1, h2, h3⟩
    exact ⟨g, hg, h1, fun j x hx hj => ⟨fun he => h2 ⟨j, x, hx, hj, he⟩, fun he => h3 ⟨j, x, hx, hj, he⟩⟩⟩
/-- How often a gate hangs on one. -/
noncomputable def hangs (g : G3) (y : G3) : Nat := one (y.1 / 2 = g.2.1 / 2) + one (y.1 / 2 = g.2.2 / 2)
theorem bl_push {gs : List G3} (ho : Once gs) {T : List Nat} {i : Nat} {y : G3} (hy : gs[i]? = some y) (hi : i ∉ T) (l : Int) : one (Bl gs T l) = one (Bl gs (T ++ [i]) l) + one (y.1 / 2 = l / 2) := by
  by_cases h : y.1 / 2 = l / 2
  · rw [one_yes h, one_yes ⟨i, y, hy, hi, h⟩, one_no]
    rintro ⟨j, x, h1, h2, h3⟩
    exact h2 (List.mem_append_right _ (List.mem_singleton.2 (ho j i x y h1 hy (by omega))))
  · rw [one_no h, Nat.add_zero]
    by_cases hb : Bl gs T l
    · obtain ⟨j, x, h1, h2, h3⟩ := hb
      rw [one_yes ⟨j, x, h1, h2, h3⟩, one_yes]
      refine ⟨j, x, h1, fun hm => ?_, h3⟩
      rcases List.mem_append.1 hm with hm | hm
      · exact h2 hm
      · obtain rfl := List.mem_singleton.1 hm
        rw [hy] at h1; cases h1; exact h h3
    · rw [one_no hb, one_no]
      rintro ⟨j, x, h1, h2, h3⟩
      exact hb ⟨j, x, h1, fun hm => h2 (List.mem_append_left _ hm), h3⟩
theorem lack_push {gs : List G3} (ho : Once gs) {T : List Nat} {i : Nat} {y : G3} (hy : gs[i]? = some y) (hi : i ∉ T) (g : G3) : lackG gs T g = lackG gs (T ++ [i]) g + hangs g y := by
  unfold lackG hangs
  rw [bl_push ho hy hi g.2.1, bl_push ho hy hi g.2.2]; omega
/-- The gates that hang on one, as often as they do, up to a place. -/
noncomputable def abv (gs : List G3) (y : G3) : Nat → List Int
  | 0 => []
  | k + 1 => abv gs y k ++ (match gs[k]? with | some g => List.replicate (hangs g y) ((k : Nat) : Int) | none => [])
theorem abv_count {gs : List G3} {y : G3} {j : Nat} {g : G3} (hg : gs[j]? = some g) : ∀ k, (abv gs y k).count (j : Int) = if j < k then hangs g y else 0
  | 0 => by simp [abv]
  | k + 1 => by
    rw [abv, List.count_append, abv_count hg k]
    by_cases hjk : j = k
    · subst hjk
      rw [hg]
      simp
    · have e0 : ((match gs[k]? with | some g => List.replicate (hangs g y) ((k : Nat) : Int) | none => []) : List Int).count (j : Int) = 0 := by
        cases gs[k]? with
        | none => rfl
        | some g' =>
          refine List.count_eq_zero.2 fun hm => ?_
          have := (List.mem_replicate.1 hm).2
          omega
      rw [e0, Nat.add_zero]
      by_cases h : j < k
      · rw [if_pos h, if_pos (by omega)]
      · rw [if_neg h, if_neg (by omega)]
end Go.Proofs.Ythpnahapiodflaa
namespace Go.Proofs.Ythpnahapiodflaa
open Go Go.Lt Go.RowKit
set_option linter.unusedVariables false
set_option linter.unusedSimpArgs false
set_option maxRecDepth 20000

abbrev leT (t : List Int) (p q : Nat) : Prop := ∀ a b, t[p]? = some a → t[q]? = some b → a ≤ b
def HO (t : List Int) : Prop := ∀ j, 0 < j → j < t.length → leT t ((j - 1) / 2) j
def UpI (t : List Int) (i : Nat) : Prop := (∀ j, 0 < j → j < t.length → j ≠ i → leT t ((j - 1) / 2) j) ∧ ∀ j, 0 < j → j < t.length → (j - 1) / 2 = i → 0 < i → leT t ((i - 1) / 2) j
def DownI (t : List Int) (i : Nat) : Prop := (∀ j, 0 < j → j < t.length → (j - 1) / 2 ≠ i → leT t ((j - 1) / 2) j) ∧ ∀ j, 0 < j → j < t.length → (j - 1) / 2 = i → 0 < i → leT t ((i - 1) / 2) j
abbrev swp (t : List Int) (i k : Nat) (a b : Int) : List Int := (t.set i b).set k a
theorem swp_len (t : List Int) (i k : Nat) (a b : Int) : (swp t i k a b).length = t.length := by simp
theorem swp_get {t : List Int} {i k : Nat} {a b : Int} (hi : t[i]? = some a) (hk : t[k]? = some b) (j : Nat) : (swp t i k a b)[j]? = if j = k then some a else if j = i then some b else t[j]? := by
  have h1 := lt_of_get hi
  have h2 := lt_of_get hk
  unfold swp
  by_cases e1 : j = k
  · subst e1; rw [if_pos rfl, List.getElem?_set_self (by simpa using h2)]
  · rw [if_neg e1, List.getElem?_set_ne (fun h => e1 h.symm)]
    by_cases e2 : j = i
    · subst e2; rw [if_pos rfl, List.getElem?_set_self h1]
    · rw [if_neg e2, List.getElem?_set_ne (fun h => e2 h.symm)]
theorem swp_mem {t : List Int} {i k : Nat} {a b : Int} (hi : t[i]? = some a) (hk : t[k]? = some b) (x : Int) : x ∈ swp t i k a b ↔ x ∈ t := by
  rw [List.mem_iff_getElem?, List.mem_iff_getElem?]
  constructor
  · rintro ⟨j, hj⟩
    rw [swp_get hi hk] at hj
    split at hj
    · cases hj; exact ⟨i, hi⟩
    · split at hj
      · cases hj; exact ⟨k, hk⟩
      · exact ⟨j, hj⟩
  · rintro ⟨j, hj⟩
    by_cases e1 : j = k
    · subst e1
      rw [hk] at hj; cases hj
      by_cases e2 : i = j
      · subst e2; rw [hk] at hi; cases hi; exact ⟨i, by rw [swp_get hk hk, if_pos rfl]⟩
      · exact ⟨i, by rw [swp_get hi hk, if_neg e2, if_pos rfl]⟩
    · by_cases e2 : j = i
      · subst e2
        rw [hi] at hj; cases hj
        exact ⟨k, by rw [swp_get hi hk, if_pos rfl]⟩
      · exact ⟨j, by rw [swp_get hi hk, if_neg e1, if_neg e2]; exact hj⟩
theorem UpI.stop {t : List Int} {i : Nat} (h : UpI t i) (hi : i = 0 ∨ leT t ((i - 1) / 2) i) : HO t := fun j h0 hl => by
  by_cases he : j = i
  · subst he; rcases hi with hi | hi
    · omega
    · exact hi
  · exact h.1 j h0 hl he
theorem UpI.step {t : List Int} {i : Nat} {a b : Int} (h : UpI t i) (h0 : 0 < i) (hi : t[i]? = some a) (hp : t[(i - 1) / 2]? = some b) (hab : a < b) : UpI (swp t i ((i - 1) / 2) a b) ((i - 1) / 2) := by
  have hli := lt_of_get hi
  refine ⟨fun j j0 jl jne x y hx hy => ?_, fun j j0 jl je p0 x y hx hy => ?_⟩
  · rw [swp_len] at jl
    rw [swp_get hi hp] at hx hy
    rw [if_neg jne] at hy
    by_cases e1 : j = i
    · subst e1; rw [if_pos rfl] at hx hy; cases hx; cases hy; omega
    · rw [if_neg e1] at hy
      by_cases e2 : (j - 1) / 2 = (i - 1) / 2
      · rw [if_pos e2] at hx; cases hx
        have := h.1 j j0 jl e1 b y (by rw [e2]; exact hp) hy
        omega
      · rw [if_neg e2] at hx
        by_cases e3 : (j - 1) / 2 = i
        · rw [if_pos e3] at hx; cases hx
          exact h.2 j j0 jl e3 h0 _ y hp hy
        · rw [if_neg e3] at hx
          exact h.1 j j0 jl e1 x y hx hy
  · rw [swp_len] at jl
    rw [swp_get hi hp] at hx hy
    rw [if_neg (by omega), if_neg (by omega)] at hx
    have k1 := h.1 ((i - 1) / 2) p0 (lt_of_get hp) (by omega) x b hx hp
    rw [if_neg (by omega)] at hy
    by_cases e1 : j = i
    · rw [if_pos e1] at hy; cases hy; exact k1
    · rw [if_neg e1] at hy
      have := h.1 j j0 jl e1 b y (by rw [je]; exact hp) hy
      omega
theorem DownI.stop {t : List Int} {i : Nat} (h : DownI t i) (hc : ∀ j, 0 < j → j < t.length → (j - 1) / 2 = i → leT t i j) : HO t := fun j h0 hl => by
  by_cases he : (j - 1) / 2 = i
  · rw [he]; exact hc j h0 hl he
  · exact h.1 j h0 hl he
theorem DownI.step {t : List Int} {i f : Nat} {a b : Int} (h : DownI t i) (f0 : 0 < f) (hf : (f - 1) / 2 = i) (hi : t[i]? = some a) (hp : t[f]? = some b) (hab : b < a) (hc : ∀ j, 0 < j → j < t.length → (j - 1) / 2 = i → ∀ y, t[j]? = some y → b ≤ y) : DownI (swp t i f a b) f := by
  have hlf := lt_of_get hp
  refine ⟨fun j j0 jl jne x y hx hy => ?_, fun j j0 jl je p0 x y hx hy => ?_⟩
  · rw [swp_len] at jl
    rw [swp_get hi hp] at hx hy
    rw [if_neg jne] at hx
    by_cases e1 : (j - 1) / 2 = i
    · rw [if_pos e1] at hx; cases hx
      by_cases e2 : j = f
      · rw [if_pos e2] at hy; cases hy; omega
      · rw [if_neg e2, if_neg (by omega)] at hy
        exact hc j j0 jl e1 y hy
    · rw [if_neg e1] at hx
      rw [if_neg (fun e => e1 (by subst e; exact hf))] at hy
      by_cases e2 : j = i
      · rw [if_pos e2] at hy; cases hy
        subst e2
        exact h.2 f f0 hlf hf j0 x _ hx hp
      · rw [if_neg e2] at hy
        exact h.1 j j0 jl e1 x y hx hy
  · rw [swp_len] at jl
    rw [swp_get hi hp] at hx hy
    rw [hf, if_neg (by omega), if_pos rfl] at hx; cases hx
    rw [if_neg (by omega), if_neg (by omega)] at hy
    exact h.1 j j0 jl (by omega) _ y (by rw [je]; exact hp) hy
theorem HO.min {t : List Int} (h : HO t) {a : Int} (ha : t[0]? = some a) : ∀ (i : Nat) (b : Int), t[i]? = some b → a ≤ b := by
  intro i
  induction i using Nat.strongRecOn with
  | ind i ih =>
    intro b hb
    by_cases h0 : i = 0
    · subst h0; rw [ha] at hb; cases hb; exact Int.le_refl _
    · obtain ⟨c, hc⟩ := getI t (show (i - 1) / 2 < t.length by have := lt_of_get hb; omega)
      have h1 := ih ((i - 1) / 2) (by omega) c hc
      have h2 := h i (by omega) (lt_of_get hb) c b hc hb
      omega
/-- Where things stand. -/
structure AtOk (n : Nat) (t at_ : List Int) : Prop where
  len : at_.length = n
  pos : ∀ (i : Nat) (x : Int), t[i]? = some x → 0 ≤ x ∧ at_[x.toNat]? = some (i : Int)
  out : ∀ v : Nat, v < n → (v : Int) ∉ t → at_[v]? = some (-1)
theorem AtOk.inj {n : Nat} {t at_ : List Int} (h : AtOk n t at_) {i j : Nat} {x : Int} (hi : t[i]? = some x) (hj : t[j]? = some x) : i = j := by
  have h1 := (h.pos i x hi).2
  have h2 := (h.pos j x hj).2
  rw [h1] at h2
  have := Option.some.inj h2
  omega
theorem AtOk.lt {n : Nat} {t at_ : List Int} (h : AtOk n t at_) {i : Nat} {x : Int} (hi : t[i]? = some x) : 0 ≤ x ∧ x.toNat < n := by
  have h1 := h.pos i x hi
  exact ⟨h1.1, by rw [← h.len]; exact lt_of_get h1.2⟩
theorem AtOk.swap {n : Nat} {t at_ : List Int} (h : AtOk n t at_) {i k : Nat} {a b : Int} (hi : t[i]? = some a) (hk : t[k]? = some b) : AtOk n (swp t i k a b) ((at_.set b.toNat (i : Int)).set a.toNat (k : Int)) := by
  have la := h.lt hi
  have lb := h.lt hk
  have hl := h.len
  refine ⟨by simp [hl], fun j x hx => ?_, fun v hv hn => ?_⟩
  · rw [swp_get hi hk] at hx
    split at hx
    · rename_i e; cases hx; subst e
      exact ⟨la.1, List.getElem?_set_self (by simp; omega)⟩
    · rename_i e1
      split at hx
      · rename_i e2; obtain rfl := Option.some.inj hx; subst e2
        refine ⟨lb.1, ?_⟩
        by_cases e3 : a.toNat = b.toNat
        · have : a = b := by omega
          subst this
          exact absurd (h.inj hi hk) e1
        · rw [List.getElem?_set_ne e3, List.getElem?_set_self (by omega)]
      · rename_i e2
        have hp := h.pos j x hx
        refine ⟨hp.1, ?_⟩
        have n1 : a.toNat ≠ x.toNat := fun e => by
          have : a = x := by omega
          subst this; exact e2 (h.inj hx hi)
        have n2 : b.toNat ≠ x.toNat := fun e => by
          have : b = x := by omega
          subst this; exact e1 (h.inj hx hk)
        rw [List.getElem?_set_ne n1, List.getElem?_set_ne n2]
        exact hp.2
  · have hn' : (v : Int) ∉ t := fun hm => hn ((swp_mem hi hk _).2 hm)
    have n1 : a.toNat ≠ v := fun e => hn' (by rw [show (v : Int) = a by omega]; exact List.mem_of_getElem? hi)
    have n2 : b.toNat ≠ v := fun e => hn' (by rw [show (v : Int) = b by omega]; exact List.mem_of_getElem? hk)
    rw [List.getElem?_set_ne n1, List.getElem?_set_ne n2]
    exact h.out v hv hn'
theorem AtOk.push {n : Nat} {t at_ : List Int} (h : AtOk n t at_) {v : Nat} (hv : v < n) (hn : (v : Int) ∉ t) : AtOk n (t ++ [(v : Int)]) (at_.set v (t.length : Int)) := by
  have hl := h.len
  refine ⟨by simp [hl], fun j x hx => ?_, fun u hu hm => ?_⟩
  · by_cases hj : j < t.length
    · rw [List.getElem?_append_left hj] at hx
      have hp := h.pos j x hx
      refine ⟨hp.1, ?_⟩
      rw [List.getElem?_set_ne (fun e => hn (by rw [show (v : Int) = x by omega]; exact List.mem_of_getElem? hx))]
      exact hp.2
    · rw [List.getElem?_append_right (by omega)] at hx
      have h0 : j - t.length = 0 := by have := lt_of_get hx; simpa using this
      obtain rfl : j = t.length := by omega
      simp at hx; subst hx
      exact ⟨by omega, by rw [Int.toNat_natCast, List.getElem?_set_self (by omega)]⟩
  · rw [List.getElem?_set_ne (fun e => hm (by subst e; simp))]
    exact h.out u hu fun hh => hm (by simp [hh])
theorem HO.push {t : List Int} (h : HO t) (x : Int) : UpI (t ++ [x]) t.length := by
  refine ⟨fun j j0 jl jne => ?_, fun j j0 jl je _ => ?_⟩
  · simp at jl
    intro a b ha hb
    rw [List.getElem?_append_left (by omega)] at ha hb
    exact h j j0 (by omega) a b ha hb
  · simp at jl; omega
end Go.Proofs.Ythpnahapiodflaa
namespace Go.Proofs.Ythpnahapiodflaa
open Go Go.Lt Go.RowKit
set_option linter.unusedVariables false
set_option linter.unusedSimpArgs false
set_option maxRecDepth 20000

abbrev encF : Nat → List Value := fun b => [.float .f64 b]
abbrev hpP (B gh : Nat) (as_ : Option Addr) (cs : Nat) (F : List Nat) (tr : Option Addr) (ct nt : Nat) (t : List Int) (ap : Option Addr) (cp : Nat) (A : List Int) : List Piece :=
  [pcell gh #[.slice as_ F.length cs, .slice tr nt ct, .slice ap A.length cp] 177, prow 1 encF 187 B as_ cs F, prow 1 encI 3 B tr ct t, prow 1 encI 3 B ap cp A]
section
variable {B gh cs ct cp nt : Nat} {w w0 : World} {as_ tr ap : Option Addr} {F : List Nat} {t A : List Int} {rest : List Piece}
end
end Go.Proofs.Ythpnahapiodflaa
namespace Go.Proofs.Ythpnahapiodflaa
open Go Go.Lt Go.RowKit
set_option linter.unusedVariables false
set_option linter.unusedSimpArgs false
set_option maxRecDepth 20000

/-- A heap in memory, its tree in whatever state. -/
structure HpS (B : Nat) (w : World) (gh : Nat) (F : List Nat) (t A : List Int) (rest : List Piece) : Prop where
  at_ : AtOk F.length t A
  zero : ∀ x ∈ F, x = 0
  mem : ∃ as_ cs tr ct ap cp, Lt.Sep B w (hpP B gh as_ cs F tr ct t.length t ap cp A ++ rest)
theorem HpS.ext {B : Nat} {w w' : World} {gh : Nat} {F : List Nat} {t A : List Int} {rest : List Piece} (h : HpS B w gh F t A rest) (hx : Ext w w') : HpS B w' gh F t A rest :=
  ⟨h.at_, h.zero, let ⟨a, b, c, d, e, f, hS⟩ := h.mem; ⟨a, b, c, d, e, f, hS.ext hx⟩⟩
end Go.Proofs.Ythpnahapiodflaa
namespace Go.Proofs.Ythpnahapiodflaa
open Go Go.Lt Go.RowKit
set_option linter.unusedVariables false
set_option linter.unusedSimpArgs false
set_option maxRecDepth 20000

/-- One thing more in it. -/
structure HpB (w0 w : World) (gh : Nat) (F : List Nat) (rest : List Piece) (t A : List Int) (p : Int → Prop) : Prop where
  ext : Ext w0 w
  hp : HpS w0.heap.size w gh F t A rest
  ho : HO t
  mem : ∀ x, x ∈ t ↔ p x
end Go.Proofs.Ythpnahapiodflaa
namespace Go.Proofs.Ythpnahapiodflaa
open Go Go.Lt Go.RowKit
set_option linter.unusedVariables false
set_option linter.unusedSimpArgs false
set_option maxRecDepth 20000

abbrev nilR : RowV Int := (none, 0, [])
abbrev pI (B : Nat) (r : RowV Int) : Piece := prow 1 encI 3 B r.1 r.2.1 r.2.2
section
variable {B : Nat} {al : Option Addr} {cl : Nat} {lk : List Int} {ao : Option Addr} {co : Nat} {rs : List (RowV Int)} {rm : Nat} {M : List (Int × Int)} {ou : Option Addr} {cu : Nat} {out : List Int} {lit : RowV Int} {inn : List (RowV Int)} {k : Nat} {r : RowV Int}
end
theorem Sep.addNils {B : Nat} {w : World} {ps : List Piece} (hS : Lt.Sep B w ps) (n : Nat) : Lt.Sep B w (ps ++ (List.replicate n ((none, 0, []) : RowV Int)).map (pI B)) := by
  have key : ∀ (i : Nat) (p : Piece), (ps ++ (List.replicate n ((none, 0, []) : RowV Int)).map (pI B))[i]? = some p → ps[i]? = some p ∨ p = pI B (none, 0, []) := fun i p h => by
    rcases get_app h with h | ⟨_, h⟩
    · exact .inl h
    · rw [List.getElem?_map, List.getElem?_replicate] at h
      split at h
      · simp at h; exact .inr h.symm
      · cases h
  refine ⟨fun i p h => ?_, fun i j p q h1 h2 hne => ?_⟩
  · rcases key i p h with h | rfl
    · exact hS.holds i p h
    · exact ⟨Own.nil, fun k hk => by cases hk⟩
  · rcases key i p h1 with k1 | rfl
    · rcases key j q h2 with k2 | rfl
      · exact hS.apart i j p q k1 k2 hne
      · cases hb : p.b with
        | none => exact .inl rfl
        | some k => exact .inr (by simp [prow, blk])
    · exact .inl rfl
theorem HpB.mono {w0 w : World} {gh : Nat} {F : List Nat} {rest : List Piece} {t A : List Int} {p q : Int → Prop} (h : HpB w0 w gh F rest t A p) (k : ∀ x, p x ↔ q x) : HpB w0 w gh F rest t A q := ⟨h.ext, h.hp, h.ho, fun x => (h.mem x).trans (k x)⟩
def litJ (g : G3) : Nat → Int
  | 0 => g.2.1
  | _ => g.2.2
noncomputable def lackJ (gs : List G3) (g : G3) : Nat → Nat
  | 0 => 0
  | j + 1 => lackJ gs g j + one (Bl gs [] (litJ g j))
theorem lackJ_s (gs : List G3) (g : G3) (j : Nat) : lackJ gs g (j + 1) = lackJ gs g j + one (Bl gs [] (litJ g j)) := rfl
noncomputable def hangsJ (g y : G3) : Nat → Nat
  | 0 => 0
  | j + 1 => hangsJ g y j + one (y.1 / 2 = litJ g j / 2)
/-- While gate i is looked at. -/
structure StA (gs : List G3) (i : Nat) (g : G3) (j : Nat) (lk : List Int) (rs : List (RowV Int)) : Prop where
  llen : lk.length = gs.length
  old : ∀ (q : Nat) (x : G3), gs[q]? = some x → q < i → lk[q]? = some (lackG gs [] x : Int)
  now : lk[i]? = some (lackJ gs g j : Int)
  new : ∀ q : Nat, i < q → q < gs.length → lk[q]? = some 0
  rlen : rs.length = gs.length
  row : ∀ (q : Nat) (y : G3), gs[q]? = some y → ∃ r, rs[q]? = some r ∧ r.2.2 = abv gs y i ++ List.replicate (hangsJ g y j) ((i : Nat) : Int)
/-- Ahead of gate i. -/
structure StI (gs : List G3) (i : Nat) (lk : List Int) (rs : List (RowV Int)) : Prop where
  llen : lk.length = gs.length
  old : ∀ (q : Nat) (x : G3), gs[q]? = some x → q < i → lk[q]? = some (lackG gs [] x : Int)
  new : ∀ q : Nat, i ≤ q → q < gs.length → lk[q]? = some 0
  rlen : rs.length = gs.length
  row : ∀ (q : Nat) (y : G3), gs[q]? = some y → ∃ r, rs[q]? = some r ∧ r.2.2 = abv gs y i
theorem StI.first (gs : List G3) : StI gs 0 (List.replicate gs.length 0) (List.replicate gs.length (none, 0, [])) :=
  ⟨by simp, fun q x _ h => absurd h (Nat.not_lt_zero _), fun q _ h => by rw [List.getElem?_replicate, if_pos h], by simp, fun q y hy => ⟨(none, 0, []), by rw [List.getElem?_replicate, if_pos (lt_of_get hy)], rfl⟩⟩
theorem StI.enter {gs : List G3} {i : Nat} {g : G3} {lk : List Int} {rs : List (RowV Int)} (h : StI gs i lk rs) (hg : gs[i]? = some g) : StA gs i g 0 lk rs :=
  ⟨h.llen, h.old, h.new i (Nat.le_refl _) (lt_of_get hg), fun q h1 h2 => h.new q (by omega) h2, h.rlen, fun q y hy => by obtain ⟨r, h1, h2⟩ := h.row q y hy; exact ⟨r, h1, by rw [h2]; simp [hangsJ]⟩⟩
theorem StA.skip {gs : List G3} {i j : Nat} {g : G3} {lk : List Int} {rs : List (RowV Int)} (h : StA gs i g j lk rs) (hn : ∀ (q : Nat) (y : G3), gs[q]? = some y → y.1 / 2 ≠ litJ g j / 2) : StA gs i g (j + 1) lk rs := by
  have e1 : one (Bl gs [] (litJ g j)) = 0 := one_no fun ⟨q, y, h1, _, h2⟩ => hn q y h1 h2
  refine ⟨h.llen, h.old, by rw [h.now, lackJ_s, e1]; rfl, h.new, h.rlen, fun q y hy => ?_⟩
  obtain ⟨r, h1, h2⟩ := h.row q y hy
  exact ⟨r, h1, by rw [h2]; conv => rhs; rw [hangsJ]
                   rw [one_no (hn q y hy)]; rfl⟩
theorem StA.take {gs : List G3} (ho : Once gs) {i j k : Nat} {g y : G3} {lk : List Int} {rs : List (RowV Int)} {r : RowV Int} {a' : Option Addr} {cap' : Nat} (h : StA gs i g j lk rs) (hy : gs[k]? = some y) (he : y.1 / 2 = litJ g j / 2) (hr : rs[k]? = some r) :
    StA gs i g (j + 1) (lk.set i ((lackJ gs g j : Int) + 1)) (rs.set k (a', cap', r.2.2 ++ [((i : Nat) : Int)])) := by
  have e1 : one (Bl gs [] (litJ g j)) = 1 := one_yes ⟨k, y, hy, by simp, he⟩
  have hil := lt_of_get h.now
  refine ⟨by simp [h.llen], fun q x hx hq => by rw [List.getElem?_set_ne (by omega)]; exact h.old q x hx hq, ?_, fun q h1 h2 => by rw [List.getElem?_set_ne (by omega)]; exact h.new q h1 h2, by simp [h.rlen], fun q z hz => ?_⟩
  · rw [List.getElem?_set_self hil, lackJ_s, e1]; rfl
  · obtain ⟨r', h1, h2⟩ := h.row q z hz
    by_cases hq : k = q
    · subst hq
      rw [hr] at h1; cases h1
      rw [hy] at hz; cases hz
      refine ⟨_, List.getElem?_set_self (lt_of_get hr), ?_⟩
      show r.2.2 ++ _ = _
      rw [h2, hangsJ, one_yes he, List.append_assoc, List.replicate_succ']
    · refine ⟨r', by rw [List.getElem?_set_ne hq]; exact h1, ?_⟩
      rw [h2, hangsJ, one_no fun hh => hq (ho k q y z hy hz (by omega))]; rfl
def pH (T : List Nat) (lk : List Int) (x : Int) : Prop := ∃ j : Nat, x = (j : Int) ∧ j ∉ T ∧ lk[j]? = some 0
/-- While those above y are looked at: m of them. -/
structure StB (gs : List G3) (L : List Nat) (Y : List Int) (lk : List Int) : Prop where
  llen : lk.length = gs.length
  val : ∀ (q : Nat) (x : G3), gs[q]? = some x → lk[q]? = some ((lackG gs L x : Int) - (Y.count (q : Int) : Int))
theorem StB.rdy {gs : List G3} {L : List Nat} {lk : List Int} (h : StB gs L [] lk) (x : Int) : pH L lk x ↔ ∃ j : Nat, x = (j : Int) ∧ Rdy gs L j := by
  constructor
  · rintro ⟨j, h1, h2, h3⟩
    obtain ⟨g, hg⟩ := getI gs (show j < gs.length by have := lt_of_get h3; have := h.llen; omega)
    have := h.val j g hg
    rw [h3] at this
    have h4 := Option.some.inj this
    simp at h4
    exact ⟨j, h1, (rdy_lack hg).2 ⟨h2, by omega⟩⟩
  · rintro ⟨j, h1, h2⟩
    have h2' := h2
    obtain ⟨g, hg, _⟩ := h2'
    have h3 := (rdy_lack hg).1 h2
    exact ⟨j, h1, h3.1, by rw [h.val j g hg, h3.2]; simp⟩
theorem StB.next {gs : List G3} (ho : Once gs) {L : List Nat} {i : Nat} {y : G3} {lk : List Int} (hy : gs[i]? = some y) (hi : i ∉ L) (h : StB gs L (abv gs y gs.length) lk) : StB gs (L ++ [i]) [] lk := by
  refine ⟨h.llen, fun q x hx => ?_⟩
  rw [h.val q x hx, abv_count hx, if_pos (lt_of_get hx), lack_push ho hy hi x]
  simp <;> omega
/-- One is looked at: what it lacks falls by one. -/
theorem StB.step {gs : List G3} (ho : Once gs) {L : List Nat} {i k m : Nat} {y g : G3} {lk : List Int} (hy : gs[i]? = some y) (hi : i ∉ L) (hg : gs[k]? = some g) (h : StB gs L ((abv gs y gs.length).take m) lk) (hk : (abv gs y gs.length)[m]? = some (k : Int)) :
    ∃ v, lk[k]? = some v ∧ 1 ≤ v ∧ v ≤ 2 ∧ StB gs L ((abv gs y gs.length).take (m + 1)) (lk.set k (v - 1)) := by
  have h1 := h.val k g hg
  have hc := abv_count (y := y) hg gs.length
  rw [if_pos (lt_of_get hg)] at hc
  have hl := lack_push ho hy hi g
  have hle : ((abv gs y gs.length).take (m + 1)).count (k : Int) ≤ hangs g y := by
    rw [← hc]; exact (List.take_sublist _ _).count_le _
  have hs : ((abv gs y gs.length).take (m + 1)).count (k : Int) = ((abv gs y gs.length).take m).count (k : Int) + 1 := by
    rw [take_succ' hk, List.count_append]; simp
  have b1 := one_le (Bl gs L g.2.1)
  have b2 := one_le (Bl gs L g.2.2)
  have b3 : lackG gs L g = one (Bl gs L g.2.1) + one (Bl gs L g.2.2) := rfl
  refine ⟨_, h1, by omega, by omega, ⟨by simp [h.llen], fun q x hx => ?_⟩⟩
  by_cases hq : k = q
  · subst hq
    rw [hg] at hx; cases hx
    rw [List.getElem?_set_self (lt_of_get h1), hs]
    congr 1; omega
  · rw [List.getElem?_set_ne hq, h.val q x hx, take_succ' hk, List.count_append]
    have : [(k : Int)].count (q : Int) = 0 := List.count_eq_zero.2 (fun hm => hq (by have := List.mem_singleton.1 hm; omega))
    rw [this]; rfl
end Go.Proofs.Ythpnahapiodflaa
namespace Go.Lt
open Go.RowKit
set_option linter.unusedVariables false

theorem and1_any (a : Int) : IntKind.i64.wrap (BitVec.ofInt IntKind.i64.bits a &&& BitVec.ofInt IntKind.i64.bits 1).toNat = a % 2 := by
  show IntKind.i64.wrap (BitVec.ofInt 64 a &&& BitVec.ofInt 64 1).toNat = a % 2
  have h1 : (BitVec.ofInt 64 a &&& BitVec.ofInt 64 1).toNat = (BitVec.ofInt 64 a).toNat % 2 := by
    rw [BitVec.toNat_and, show (BitVec.ofInt 64 1).toNat = 1 from rfl, Nat.and_one_is_mod]
  have h2 : ((BitVec.ofInt 64 a).toNat : Int) = a % 18446744073709551616 := by
    rw [BitVec.toNat_ofInt]
    have : (0 : Int) ≤ a % ((2 ^ 64 : Nat) : Int) := Int.emod_nonneg _ (by decide)
    rw [Int.toNat_of_nonneg this]
    rfl
  rw [h1, IntWalk.i64_in _ (by omega)]
  omega
section rules
variable {P : Program} {N : Nat} {e : Env} {w : World} {Q : Exit → Act → World → Prop} {K : Act → World → Prop} {C : World → Prop} {ops : List Oper} {l : List Oper} {Kf : Act → Prop}
  {d : Nat} {tt t ty : TypeId} {ps : String} {af : Array Edge} {g : Option (Nat × Bool)} {x y : Operand} {a : Int}
theorem yandA {dd : Option Tmp} (hx : ev e x = some (.int .i64 a)) (hy : ev e y = some (.int .i64 1)) : Yields P e ⟨dd, .binOp .and t x y ty, tt, ps, af, g⟩ (.int .i64 (a % 2)) := by
  have := Yields.bin (P := P) (d := dd) (op := .and) (t := t) (ty := ty) (tt := tt) (ps := ps) (af := af) (g := g) hx hy (v := .int .i64 (IntKind.i64.wrap (BitVec.ofInt IntKind.i64.bits a &&& BitVec.ofInt IntKind.i64.bits 1).toNat)) rfl
  rwa [and1_any a] at this
theorem WL.andA (hg : gate ops e g = some true) (hd : Nat.blt d N = true) (hx : ev e x = some (.int .i64 a)) (hy : ev e y = some (.int .i64 1)) (k : WL P N ops.toArray l ((d, .int .i64 (a % 2)) :: e) w Q) : WL P N ops.toArray (⟨some d, .binOp .and t x y ty, tt, ps, af, g⟩ :: l) e w Q := WL.step hg hd (yandA hx hy).in k
theorem QL.andA (hg : gate ops e g = some true) (hd : Nat.blt d N = true) (hx : ev e x = some (.int .i64 a)) (hy : ev e y = some (.int .i64 1)) (k : QL P N C ops.toArray l ((d, .int .i64 (a % 2)) :: e) Q) : QL P N C ops.toArray (⟨some d, .binOp .and t x y ty, tt, ps, af, g⟩ :: l) e Q := QL.step hg hd (yandA hx hy).in k
theorem FL.andA (hg : gate ops e g = some true) (hd : Nat.blt d N = true) (hx : ev e x = some (.int .i64 a)) (hy : ev e y = some (.int .i64 1)) (k : FL P N ops.toArray C l ((d, .int .i64 (a % 2)) :: e) w Kf) : FL P N ops.toArray C (⟨some d, .binOp .and t x y ty, tt, ps, af, g⟩ :: l) e w Kf := FL.step hg hd (yandA hx hy).in k
end rules
end Go.Lt
namespace Go.Proofs.Ythpnahapiodflaa
open Go Go.Lt Go.RowKit
set_option linter.unusedVariables false
set_option linter.unusedSimpArgs false
set_option maxRecDepth 20000

/-- Up to a place all is -1, behind the first. -/
structure AtK (m k : Nat) (A : List Int) : Prop where
  len : A.length = m + 1
  zero : A[0]? = some 0
  neg : ∀ u : Nat, 1 ≤ u → u < k → A[u]? = some (-1)
theorem AtK.all {m : Nat} {A : List Int} (h : AtK m (m + 1) A) : A = cAt0 (m : Int) := by
  apply List.ext_getElem?
  intro u
  have hr := PutOk.start m
  by_cases hu : u < m + 1
  · cases u with
    | zero => rw [h.zero]; exact hr.zero.symm
    | succ u => rw [h.neg (u + 1) (by omega) hu]; exact (hr.not (u + 1) (by omega) (by omega) (fun l hl => by cases hl)).symm
  · rw [List.getElem?_eq_none (by have := h.len; omega)]
    have h2 : (cAt0 (m : Int)).length = m + 1 := hr.len2
    exact (List.getElem?_eq_none (by omega)).symm
end Go.Proofs.Ythpnahapiodflaa
namespace Go.Proofs.Ythpnahapiodflaa
open Go Go.Lt Go.RowKit
set_option linter.unusedVariables false
set_option linter.unusedSimpArgs false
set_option maxRecDepth 20000

theorem factLt : FactEq Try.prog 69 := ⟨by kernel_rfl, by kernel_rfl⟩
theorem factGt : FactEq Try.prog 106 := ⟨by kernel_rfl, by kernel_rfl⟩
theorem factSy : FactEq Try.prog 110 := ⟨by kernel_rfl, by kernel_rfl⟩
theorem enc3_inj {x y : T3} (h : enc3 x = enc3 y) : x = y := by
  obtain ⟨a, b, c⟩ := x
  obtain ⟨d, e, f⟩ := y
  simp only [enc3, List.cons.injEq, Value.int.injEq, true_and, and_true] at h
  obtain ⟨rfl, rfl, rfl⟩ := h
  rfl
theorem encY_inj {x y : Sy} (h : encY x = encY y) : x = y := by
  obtain ⟨a, b, c⟩ := x
  obtain ⟨d, e, f⟩ := y
  simp only [encY, List.cons.injEq, Value.int.injEq, Value.string.injEq, true_and, and_true] at h
  obtain ⟨rfl, rfl, rfl⟩ := h
  rfl
theorem ne_iff {α : Type} {enc : α → List Value} (inj : ∀ {x y}, enc x = enc y → x = y) {x y : α} (h : ¬ x = y) : enc x ≠ enc y := fun he => h (inj he)
end Go.Proofs.Ythpnahapiodflaa
namespace Go.Lt
open Go.RowKit
set_option linter.unusedVariables false
set_option linter.unusedSimpArgs false
section
variable {P : Program} {T : Tab} {e : Env} {dd : Option Tmp} {tt ty t : TypeId} {x y : Operand} {ps : String} {af : Array Edge} {g : Option (Nat × Bool)} {i : TI} {u v : ByteArray}
theorem loop_eq (u : ByteArray) : ∀ (n i : Nat) (r : List UInt8), u.size - i = n → ByteArray.toList.loop u i r = r.reverse ++ u.data.toList.drop i := by
  intro n
  induction n with
  | zero =>
    intro i r h
    unfold ByteArray.toList.loop
    rw [if_neg (by omega), List.drop_eq_nil_of_le (by show u.data.size ≤ i; have : u.size = u.data.size := rfl; omega), List.append_nil]
  | succ n ih =>
    intro i r h
    unfold ByteArray.toList.loop
    have hi : i < u.data.toList.length := by show i < u.data.size; have : u.size = u.data.size := rfl; omega
    rw [if_pos (by omega), ih (i + 1) _ (by omega), List.reverse_cons, List.append_assoc, List.drop_eq_getElem_cons hi]
    congr 1
    rw [List.singleton_append]
    congr 1
    show u.data[i]! = u.data.toList[i]
    have hi2 : i < u.data.size := hi
    rw [getElem!_pos u.data i hi2]; rfl
theorem bytesL (u : ByteArray) : u.toList = u.data.toList := by
  unfold ByteArray.toList
  rw [loop_eq u u.size 0 [] rfl]; rfl
theorem bytesL_inj {u v : ByteArray} (h : u.toList = v.toList) : u = v := by
  rw [bytesL, bytesL] at h
  exact ByteArray.ext (Array.ext' h)
theorem yneStr (hT : OkTab P T) (hx : ev e x = some (.string u)) (hy : ev e y = some (.string v)) (ht : tget T t = some i) (hd : i.desc = .string) : Yields P e ⟨dd, .binOp .neq t x y ty, tt, ps, af, g⟩ (.bool (dec (u ≠ v))) := by
  intro ρ hρ w
  have h1 : (eqGuard .neq t x y (.string u) (.string v)).run P w = .ok () w := by simp [eqGuard]
  have h3 : (!dec (u = v)) = dec (u ≠ v) := by
    by_cases hh : u = v
    · rw [dec_true hh, dec_false (fun h => h hh)]; rfl
    · rw [dec_false hh, dec_true hh]; rfl
  have h2 : (binOp .neq t (.string u) (.string v)).run P w = .ok (.bool (dec (u ≠ v))) w := by
    by_cases h : u = v
    · subst h; rw [dec_false (fun h => h rfl)]; simp [binOp, Op.stringOp]
    · rw [dec_true h]; have hh : ¬ u.toList = v.toList := fun q => h (bytesL_inj q); simp [binOp, Op.stringOp, hh]
  simp [execOp, hρ _ _ hx, hρ _ _ hy, h1, h2]
variable {N d : Nat} {w : World} {Q : Exit → Act → World → Prop} {C : World → Prop} {ops l : List Oper}
theorem WL.neStr (hT : OkTab P T) (hg : gate ops e g = some true) (hd : Nat.blt d N = true) (hx : ev e x = some (.string u)) (hy : ev e y = some (.string v)) (ht : tget T t = some i) (htd : i.desc = .string) (k : WL P N ops.toArray l ((d, .bool (dec (u ≠ v))) :: e) w Q) : WL P N ops.toArray (⟨some d, .binOp .neq t x y ty, tt, ps, af, g⟩ :: l) e w Q := WL.step hg hd (yneStr hT hx hy ht htd).in k
theorem QL.neStr (hT : OkTab P T) (hg : gate ops e g = some true) (hd : Nat.blt d N = true) (hx : ev e x = some (.string u)) (hy : ev e y = some (.string v)) (ht : tget T t = some i) (htd : i.desc = .string) (k : QL P N C ops.toArray l ((d, .bool (dec (u ≠ v))) :: e) Q) : QL P N C ops.toArray (⟨some d, .binOp .neq t x y ty, tt, ps, af, g⟩ :: l) e Q := QL.step hg hd (yneStr hT hx hy ht htd).in k
end
end Go.Lt
