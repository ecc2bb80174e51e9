/- What is put to a store: both, one of two, one of two as a third says, just one, all. No conditions. -/
import Derived.Test.YtfkdlepemiepdaaAigP
import Derived.Test.YtfkdlepemiepdaaAigNone
namespace Go.Proofs.Ytfkdlepemiepdaa
open Go Go.Lt Go.RowKit
set_option linter.unusedVariables false
set_option linter.unusedSimpArgs false

/-- What a call on a store leaves: a literal, and these nodes. -/
abbrev AtSt (w0 : World) (gs r : Nat) (rest : List Piece) (q : Int × List (Int × Int)) (v : Value) (w' : World) : Prop :=
  Ext w0 w' ∧ ∃ a' cap', v = .int .i64 q.1 ∧ Sep w0.heap.size w' (stN w0.heap.size gs a' cap' r q.2 ++ rest)
/-- What holds wherever the store goes. -/
abbrev Keeps (w0 : World) (gs r : Nat) (rest : List Piece) (p : World → Prop) : Prop :=
  ∀ w' a' cap' N', Ext w0 w' → Sep w0.heap.size w' (stN w0.heap.size gs a' cap' r N' ++ rest) → p w'

theorem aig_And (gs r cap : Nat) (a : Option Addr) (N : List (Int × Int)) (x y : Int) (rest : List Piece) (w w0 : World) (hX : Ext w0 w) (hS : Sep w0.heap.size w (stN w0.heap.size gs a cap r N ++ rest)) (hN : N.length < 1048576) :
    Lt.Spec Try.prog 106 [.pointer (some ⟨gs, 0, none⟩), .int .i64 x, .int .i64 y] w (AtSt w0 gs r rest (andV N x y)) := by
  by_cases hxy : x ≤ y
  · refine (aig_AndLe gs r cap a N (gmN N) x y rest w w0 hX hS hN hxy).mono ?_
    rintro v w' ⟨h1, a', cap', h2, h3⟩
    rw [andF_M hxy] at h3
    have e : andV N x y = ((andF N (gmN N) x y).v, (andF N (gmN N) x y).N) := if_pos hxy
    rw [e]
    exact ⟨h1, a', cap', h2, h3⟩
  · refine (aig_AndGt gs r cap a N (gmN N) x y rest w w0 hX hS hN (by omega)).mono ?_
    rintro v w' ⟨h1, a', cap', h2, h3⟩
    rw [andF_M (by omega)] at h3
    have e : andV N x y = ((andF N (gmN N) y x).v, (andF N (gmN N) y x).N) := if_neg hxy
    rw [e]
    exact ⟨h1, a', cap', h2, h3⟩
theorem aig_InputV (gs r cap : Nat) (a : Option Addr) (N : List (Int × Int)) (rest : List Piece) (w w0 : World) (hX : Ext w0 w) (hS : Sep w0.heap.size w (stN w0.heap.size gs a cap r N ++ rest)) (hN : N.length < 1048576) :
    Lt.Spec Try.prog 71 [.pointer (some ⟨gs, 0, none⟩)] w (AtSt w0 gs r rest (2 * ((N.length : Int) + 1), N ++ [(-1, 0)])) := by
  refine (aig_Input gs r cap a N (gmN N) rest w w0 hX hS hN).mono ?_
  rintro v w' ⟨h1, a', cap', h2, h3⟩
  have e : gmN N = gmN (N ++ [(-1, 0)]) := (gm_snoc_in N (x := (-1, 0)) (by decide)).symm
  rw [e] at h3
  exact ⟨h1, a', cap', h2, h3⟩
theorem aig_NewV (w w0 : World) (rest : List Piece) (hX : Ext w0 w) (hS : Sep w0.heap.size w rest) :
    Lt.Spec Try.prog 49 [] w (fun v w' => Ext w w' ∧ ∃ gs r, v = .pointer (some ⟨gs, 0, none⟩) ∧ Sep w0.heap.size w' (stN w0.heap.size gs none 0 r [] ++ rest)) := by
  refine Spec.of _ Try.func49 rfl Try.ntmps49 (by kernel_rfl) rfl ?_
  repeat' (first
    | ((apply WL.makeMap (kv := kvN) (vv := vvI); exact rfl; exact rfl; intro r w1 hM hge1 hx1))
    | (apply WL.build tOk; exact rfl; exact rfl; exact rfl; exact rfl; exact rfl; exact rfl; exact rfl; kernel_rfl)
    | (apply WL.box; exact rfl; exact rfl; exact rfl; intro gb w' hb hge hc hx; have hcc := hc; first | (obtain ⟨h1, h2, h3, _⟩ := hc) | (obtain ⟨h1, h2, _⟩ := hc))
    | (show WL _ _ _ _ _ _ _; first | apply WL.nil | (apply WL.pev tOk; exact rfl; exact rfl; exact rfl) | (apply WL.load tOk; exact rfl; exact rfl; exact rfl; exact rfl; exact rfl; (first | assumption | (focus (apply Ext.cell; rotate_left; assumption; (exact extA); done)))) | (apply WL.index tOk; exact rfl; exact rfl; exact rfl; exact rfl; exact rfl; exact rfl; exact rfl; exact rfl; assumption; (exact extA); exact rfl; omega; assumption; intro b off h; have hcc := h; first | (obtain ⟨h1, h2, h3, h4, h5, h6, _⟩ := h) | (obtain ⟨h1, h2, h3, _⟩ := h) | (obtain ⟨h1, h2, _⟩ := h) | (obtain ⟨h1, _⟩ := h)) | (apply WL.add; exact rfl; exact rfl; exact rfl; exact rfl; omega) | (apply WL.sub; exact rfl; exact rfl; exact rfl; exact rfl; omega) | (apply WL.mul; exact rfl; exact rfl; exact rfl; exact rfl; omega) | (apply WL.quo; exact rfl; exact rfl; exact rfl; exact rfl; omega) | (apply WL.rem; exact rfl; exact rfl; exact rfl; exact rfl; omega) | (apply WL.loadA tOk; exact rfl; exact rfl; exact rfl; exact rfl; exact rfl; (first | assumption | (focus (apply Cells.ext; rotate_left; assumption; (exact extA); done))); exact rfl) | (apply WL.guardF; exact rfl; exact rfl) | (apply WL.gD; exact rfl; exact rfl; all_goals intro _) | (apply WL.gN; exact rfl; exact rfl; all_goals intro _) | (apply WL.gB; exact rfl; exact rfl; all_goals intro _))
    | (show Z _ _ _ _ _; first | apply Z.tail | apply Z.then_normal | apply Z.block_normal | apply Z.then_exit | apply Z.block_exit | apply Z.then_ret | apply Z.block_ret | (apply Z.block_other; exact rfl))
    | (show W _ _ _ _ _ _; first | apply W.seq | apply W.region | apply W.block | apply W.skip | apply W.ret | apply W.exit | (apply W.condT; exact rfl) | (apply W.condF; exact rfl) | (apply W.condD; exact rfl; all_goals intro _) | (apply W.condN; exact rfl; all_goals intro _) | (apply W.condB; exact rfl; all_goals intro _)))
  have hB : w0.heap.size ≤ w.heap.size := hX.size
  have hS1 : Lt.Sep w0.heap.size w1 (pmap kvN vvI r [] :: rest) := Sep.newMap hS hx1 hM hge1 hB
  have hS2 : Lt.Sep w0.heap.size w1 (prow 2 encN 35 w0.heap.size none 0 [] :: pmap kvN vvI r [] :: rest) := Sep.newRow hS1 (Ext.refl _) Own.nil (fun k hk => by cases hk) (Nat.le_trans hB hx1.size)
  have hS : Lt.Sep w0.heap.size w' (stN w0.heap.size gb none 0 r [] ++ rest) := Sep.newCell hS2 hx hb hge (Nat.le_trans hB hx1.size)
  exact Z.body1 Try.results49 rfl fun m => ⟨Ext.at (by (exact extA)) m, gb, r, rfl, hS.ext ((Ext.refl _).at m)⟩

noncomputable def orV (N : List (Int × Int)) (x y : Int) : Int × List (Int × Int) := (notL (andV N (notL x) (notL y)).1, (andV N (notL x) (notL y)).2)
noncomputable def muxV (N : List (Int × Int)) (c x y : Int) : Int × List (Int × Int) :=
  bif dec (hasL N c ∧ hasL N x ∧ hasL N y) then orV (andV (andV N c x).2 (notL c) y).2 (andV N c x).1 (andV (andV N c x).2 (notL c) y).1 else (-1, N)
noncomputable def xorV (N : List (Int × Int)) (x y : Int) : Int × List (Int × Int) := muxV N x (notL y) y
noncomputable def aTo (N : List (Int × Int)) (L : List Int) (k : Nat) : Int × List (Int × Int) := (L.take k).foldl (fun s z => andV s.2 s.1 z) (1, N)
noncomputable def allV (N : List (Int × Int)) (L : List Int) : Int × List (Int × Int) := bif dec (∀ z ∈ L, hasL N z) then aTo N L L.length else (-1, N)
theorem aTo_succ {N : List (Int × Int)} {L : List Int} {k : Nat} {z : Int} (h : L[k]? = some z) : aTo N L (k + 1) = andV (aTo N L k).2 (aTo N L k).1 z := by
  unfold aTo; rw [take_succ' h, List.foldl_append]; rfl

theorem notL_le {x b : Int} (h : x ≤ 2 * b + 1) : notL x ≤ 2 * b + 1 := by
  unfold notL Lt.xor1
  split
  · exact h
  · split <;> omega
theorem notL_ge {x : Int} (h : -1 ≤ x) : -1 ≤ notL x := by
  unfold notL Lt.xor1
  split
  · exact h
  · split <;> omega
theorem notL_has {N : List (Int × Int)} {x : Int} (h : hasL N x) : hasL N (notL x) := by
  unfold hasL at h ⊢
  unfold notL Lt.xor1
  split
  · omega
  · split <;> omega
theorem notL_xor1 {x : Int} (h : 0 ≤ x) : notL x = Lt.xor1 x := by unfold notL; rw [if_neg (by omega)]
theorem orV_len (N : List (Int × Int)) (x y : Int) : N.length ≤ (orV N x y).2.length ∧ (orV N x y).2.length ≤ N.length + 1 := andV_len _ _ _
theorem orV_has {N : List (Int × Int)} {x y : Int} (hx : hasL N x) (hy : hasL N y) : hasL (orV N x y).2 (orV N x y).1 := notL_has (andV_has (notL_has hx) (notL_has hy))
theorem orV_le (N : List (Int × Int)) (x y : Int) : -1 ≤ (orV N x y).1 ∧ (orV N x y).1 ≤ 2 * ((orV N x y).2.length : Int) + 1 := by
  have h := andV_le N (notL x) (notL y)
  exact ⟨notL_ge h.1, notL_le h.2⟩
theorem orV_grow (N : List (Int × Int)) (x y : Int) : Grow N (orV N x y).2 := .gate _ _ (.refl N)
theorem muxV_yes {N : List (Int × Int)} {c x y : Int} (h : hasL N c ∧ hasL N x ∧ hasL N y) : muxV N c x y = orV (andV (andV N c x).2 (notL c) y).2 (andV N c x).1 (andV (andV N c x).2 (notL c) y).1 := by unfold muxV; rw [dec_true h]; rfl
theorem muxV_no {N : List (Int × Int)} {c x y : Int} (h : ¬ (hasL N c ∧ hasL N x ∧ hasL N y)) : muxV N c x y = (-1, N) := by unfold muxV; rw [dec_false h]; rfl
theorem muxV_grow (N : List (Int × Int)) (c x y : Int) : Grow N (muxV N c x y).2 := by
  by_cases h : hasL N c ∧ hasL N x ∧ hasL N y
  · rw [muxV_yes h]; exact .gate _ _ (.gate _ _ (.gate _ _ (.refl N)))
  · rw [muxV_no h]; exact .refl N
theorem muxV_len (N : List (Int × Int)) (c x y : Int) : N.length ≤ (muxV N c x y).2.length ∧ (muxV N c x y).2.length ≤ N.length + 3 := by
  by_cases h : hasL N c ∧ hasL N x ∧ hasL N y
  · rw [muxV_yes h]
    have h1 := andV_len N c x
    have h2 := andV_len (andV N c x).2 (notL c) y
    have h3 := orV_len (andV (andV N c x).2 (notL c) y).2 (andV N c x).1 (andV (andV N c x).2 (notL c) y).1
    omega
  · rw [muxV_no h]; dsimp only; omega
theorem muxV_le (N : List (Int × Int)) (c x y : Int) : -1 ≤ (muxV N c x y).1 ∧ (muxV N c x y).1 ≤ 2 * ((muxV N c x y).2.length : Int) + 1 := by
  by_cases h : hasL N c ∧ hasL N x ∧ hasL N y
  · rw [muxV_yes h]; exact orV_le _ _ _
  · rw [muxV_no h]; dsimp only; omega
theorem muxV_has {N : List (Int × Int)} {c x y : Int} (hc : hasL N c) (hx : hasL N x) (hy : hasL N y) : hasL (muxV N c x y).2 (muxV N c x y).1 := by
  rw [muxV_yes ⟨hc, hx, hy⟩]
  have l2 := (andV_len (andV N c x).2 (notL c) y).1
  have l1 := (andV_len N c x).1
  exact orV_has (hasL_mono (andV_has hc hx) l2) (andV_has (hasL_mono (notL_has hc) l1) (hasL_mono hy l1))
theorem aTo_inv {N : List (Int × Int)} {L : List Int} (h : ∀ z ∈ L, hasL N z) : ∀ k, k ≤ L.length → hasL (aTo N L k).2 (aTo N L k).1 ∧ N.length ≤ (aTo N L k).2.length ∧ (aTo N L k).2.length ≤ N.length + k ∧ Grow N (aTo N L k).2
  | 0, _ => ⟨by unfold aTo hasL; simp; omega, Nat.le_refl _, Nat.le_refl _, .refl N⟩
  | k + 1, hk => by
    obtain ⟨z, hz⟩ := getI L (show k < L.length by omega)
    obtain ⟨i1, i2, i3, i4⟩ := aTo_inv h k (by omega)
    rw [aTo_succ hz]
    have hl := andV_len (aTo N L k).2 (aTo N L k).1 z
    exact ⟨andV_has i1 (hasL_mono (h z (List.mem_of_getElem? hz)) i2), by omega, by omega, .gate _ _ i4⟩

/-! ### The walks -/
theorem aig_OrV (gs r cap : Nat) (a : Option Addr) (N : List (Int × Int)) (x y : Int) (rest : List Piece) (w w0 : World) (hX : Ext w0 w) (hS : Sep w0.heap.size w (stN w0.heap.size gs a cap r N ++ rest)) (hN : N.length < 1048576) (hbx : x ≤ 9223372036854775807) (hby : y ≤ 9223372036854775807) :
    Lt.Spec Try.prog 52 [.pointer (some ⟨gs, 0, none⟩), .int .i64 x, .int .i64 y] w (AtSt w0 gs r rest (orV N x y)) := by
  have hl := andV_len N (notL x) (notL y)
  have hle := andV_le N (notL x) (notL y)
  have hb9 : (andV N (notL x) (notL y)).1 ≤ 9223372036854775807 := by omega
  refine Spec.of _ Try.func52 rfl Try.ntmps52 (by kernel_rfl) rfl ?_
  repeat' (first
    | ((show WL _ _ _ (⟨_, .call ⟨.value (.func 109), _, _⟩, _, _, _, _⟩ :: _) _ _ _); apply WL.callS; exact rfl; exact rfl; exact rfl; exact rfl; exact aig_notA _ _ (by assumption))
    | (((show WL _ _ _ (⟨_, .call ⟨.value (.func 106), _, _⟩, _, _, _, _⟩ :: _) _ _ _); apply WL.call; exact rfl; exact rfl; exact rfl; exact rfl; exact aig_And gs r cap a N _ _ rest _ w0 hX hS hN; rintro v' w' ⟨hX2, a', cap', rfl, hS2⟩))
    | (show WL _ _ _ _ _ _ _; first | apply WL.nil | (apply WL.pev tOk; exact rfl; exact rfl; exact rfl) | (apply WL.load tOk; exact rfl; exact rfl; exact rfl; exact rfl; exact rfl; (first | assumption | (focus (apply Ext.cell; rotate_left; assumption; (exact extA); done)))) | (apply WL.index tOk; exact rfl; exact rfl; exact rfl; exact rfl; exact rfl; exact rfl; exact rfl; exact rfl; assumption; (exact extA); exact rfl; omega; assumption; intro b off h; have hcc := h; first | (obtain ⟨h1, h2, h3, h4, h5, h6, _⟩ := h) | (obtain ⟨h1, h2, h3, _⟩ := h) | (obtain ⟨h1, h2, _⟩ := h) | (obtain ⟨h1, _⟩ := h)) | (apply WL.add; exact rfl; exact rfl; exact rfl; exact rfl; omega) | (apply WL.sub; exact rfl; exact rfl; exact rfl; exact rfl; omega) | (apply WL.mul; exact rfl; exact rfl; exact rfl; exact rfl; omega) | (apply WL.quo; exact rfl; exact rfl; exact rfl; exact rfl; omega) | (apply WL.rem; exact rfl; exact rfl; exact rfl; exact rfl; omega) | (apply WL.loadA tOk; exact rfl; exact rfl; exact rfl; exact rfl; exact rfl; (first | assumption | (focus (apply Cells.ext; rotate_left; assumption; (exact extA); done))); exact rfl) | (apply WL.guardF; exact rfl; exact rfl) | (apply WL.gD; exact rfl; exact rfl; all_goals intro _) | (apply WL.gN; exact rfl; exact rfl; all_goals intro _) | (apply WL.gB; exact rfl; exact rfl; all_goals intro _))
    | (show Z _ _ _ _ _; first | apply Z.tail | apply Z.then_normal | apply Z.block_normal | apply Z.then_exit | apply Z.block_exit | apply Z.then_ret | apply Z.block_ret | (apply Z.block_other; exact rfl))
    | (show W _ _ _ _ _ _; first | apply W.seq | apply W.region | apply W.block | apply W.skip | apply W.ret | apply W.exit | (apply W.condT; exact rfl) | (apply W.condF; exact rfl) | (apply W.condD; exact rfl; all_goals intro _) | (apply W.condN; exact rfl; all_goals intro _) | (apply W.condB; exact rfl; all_goals intro _)))
  exact Z.body1 Try.results52 rfl fun m => ⟨hX2.at m, a', cap', rfl, hS2.ext ((Ext.refl _).at m)⟩

set_option maxHeartbeats 4000000 in
theorem aig_MuxV (gs r cap : Nat) (a : Option Addr) (N : List (Int × Int)) (c x y : Int) (rest : List Piece) (w w0 : World) (hX : Ext w0 w) (hS : Sep w0.heap.size w (stN w0.heap.size gs a cap r N ++ rest)) (hN : N.length + 3 < 1048576) (hbc : c ≤ 9223372036854775807) :
    Lt.Spec Try.prog 54 [.pointer (some ⟨gs, 0, none⟩), .int .i64 c, .int .i64 x, .int .i64 y] w (AtSt w0 gs r rest (muxV N c x y)) := by
  have hC0 := hS.cell (i := 0) rfl
  by_cases hh : hasL N c ∧ hasL N x ∧ hasL N y
  · have hall : ∀ z ∈ [c, x, y], hasL N z := by
      intro z hz; simp only [List.mem_cons, List.not_mem_nil, or_false] at hz; rcases hz with rfl | rfl | rfl
      · exact hh.1
      · exact hh.2.1
      · exact hh.2.2
    have e := muxV_yes hh
    have l1 := andV_len N c x
    have l2 := andV_len (andV N c x).2 (notL c) y
    have b1 := andV_has hh.1 hh.2.1
    have q0 : ¬ (andV N c x).1 < 0 := by have := b1.1; omega
    have q1 : (andV N c x).1 ≤ 9223372036854775807 := by have := b1.2; omega
    have q2 : (andV (andV N c x).2 (notL c) y).1 ≤ 9223372036854775807 := by have := andV_le (andV N c x).2 (notL c) y; omega
    have k1 : (andV N c x).2.length < 1048576 := by omega
    have k2 : (andV (andV N c x).2 (notL c) y).2.length < 1048576 := by omega
    refine Spec.of _ Try.func54 rfl Try.ntmps54 (by kernel_rfl) rfl ?_
    repeat' (first
      | (apply WL.lit tOk; exact rfl; exact rfl; exact rfl; exact rfl; exact rfl; exact rfl; (first | exact rfl | kernel_rfl | (simp [Instr.fill, catCells]; done)); exact rfl; intro gb w' hb hge hc hx; have hO := Own.of_block ([c, x, y]) encI_ok hb hge rfl)
      | ((show WL _ _ _ (⟨_, .call ⟨.value (.func 107), _, _⟩, _, _, _, _⟩ :: _) _ _ _); apply WL.callP; exact rfl; exact rfl; exact rfl; exact rfl; exact aig_has _ _ _ _ _ N [c, x, y] _ _ (Ext.heap (by (exact extA)) hC0) (Own.row encI_ok (by assumption)) (by omega); intro w' hx)
      | (apply WL.gT; exact rfl; exact rfl; (focus ((rw [dec_true hall]; rfl); done)))
      | (apply WL.gF; exact rfl; exact rfl; (focus ((rw [dec_true hall]; rfl); done)))
      | (apply W.condKT; exact rfl; (focus ((rw [dec_true hall]; rfl); done)))
      | (apply W.condKF; exact rfl; (focus ((rw [dec_true hall]; rfl); done)))
      | (show WL _ _ _ _ _ _ _; first | apply WL.nil | (apply WL.pev tOk; exact rfl; exact rfl; exact rfl) | (apply WL.load tOk; exact rfl; exact rfl; exact rfl; exact rfl; exact rfl; (first | assumption | (focus (apply Ext.cell; rotate_left; assumption; (exact extA); done)))) | (apply WL.index tOk; exact rfl; exact rfl; exact rfl; exact rfl; exact rfl; exact rfl; exact rfl; exact rfl; assumption; (exact extA); exact rfl; omega; assumption; intro b off h; have hcc := h; first | (obtain ⟨h1, h2, h3, h4, h5, h6, _⟩ := h) | (obtain ⟨h1, h2, h3, _⟩ := h) | (obtain ⟨h1, h2, _⟩ := h) | (obtain ⟨h1, _⟩ := h)) | (apply WL.add; exact rfl; exact rfl; exact rfl; exact rfl; omega) | (apply WL.sub; exact rfl; exact rfl; exact rfl; exact rfl; omega) | (apply WL.mul; exact rfl; exact rfl; exact rfl; exact rfl; omega) | (apply WL.quo; exact rfl; exact rfl; exact rfl; exact rfl; omega) | (apply WL.rem; exact rfl; exact rfl; exact rfl; exact rfl; omega) | (apply WL.loadA tOk; exact rfl; exact rfl; exact rfl; exact rfl; exact rfl; (first | assumption | (focus (apply Cells.ext; rotate_left; assumption; (exact extA); done))); exact rfl) | (apply WL.guardF; exact rfl; exact rfl) | (apply WL.gD; exact rfl; exact rfl; all_goals intro _) | (apply WL.gN; exact rfl; exact rfl; all_goals intro _) | (apply WL.gB; exact rfl; exact rfl; all_goals intro _))
      | (show Z _ _ _ _ _; first | apply Z.tail | apply Z.then_normal | apply Z.block_normal | apply Z.then_exit | apply Z.block_exit | apply Z.then_ret | apply Z.block_ret | (apply Z.block_other; exact rfl))
      | (show W _ _ _ _ _ _; first | apply W.seq | apply W.region | apply W.block | apply W.skip | apply W.ret | apply W.exit | (apply W.condT; exact rfl) | (apply W.condF; exact rfl) | (apply W.condD; exact rfl; all_goals intro _) | (apply W.condN; exact rfl; all_goals intro _) | (apply W.condB; exact rfl; all_goals intro _)))
    have hS1 := hS.ext (show Ext w w' from (by (exact extA)))
    have hX1 : Ext w0 w' := (by (exact extA))
    rw [e]
    repeat' (first
      | ((show WL _ _ _ (⟨_, .call ⟨.value (.func 109), _, _⟩, _, _, _, _⟩ :: _) _ _ _); apply WL.callS; exact rfl; exact rfl; exact rfl; exact rfl; exact aig_notA _ _ (by assumption))
      | (apply WL.gT; exact rfl; exact rfl; (focus (exact dec_false q0; done)))
      | (apply WL.gF; exact rfl; exact rfl; (focus (exact dec_false q0; done)))
      | (apply W.condKT; exact rfl; (focus (exact dec_false q0; done)))
      | (apply W.condKF; exact rfl; (focus (exact dec_false q0; done)))
      | (((show WL _ _ _ (⟨_, .call ⟨.value (.func 106), _, _⟩, _, _, _, _⟩ :: _) _ _ _); apply WL.call; exact rfl; exact rfl; exact rfl; exact rfl; exact aig_And gs r _ _ N _ _ rest _ w0 hX1 hS1 (by omega); rintro v' w' ⟨hX2, a', cap', rfl, hS2⟩))
      | (((show WL _ _ _ (⟨_, .call ⟨.value (.func 106), _, _⟩, _, _, _, _⟩ :: _) _ _ _); apply WL.call; exact rfl; exact rfl; exact rfl; exact rfl; exact aig_And gs r _ _ (andV N c x).2 _ _ rest _ w0 hX2 hS2 k1; rintro v' w' ⟨hX2, a', cap', rfl, hS2⟩))
      | (((show WL _ _ _ (⟨_, .call ⟨.value (.func 52), _, _⟩, _, _, _, _⟩ :: _) _ _ _); apply WL.call; exact rfl; exact rfl; exact rfl; exact rfl; exact aig_OrV gs r _ _ (andV (andV N c x).2 (notL c) y).2 _ _ rest _ w0 hX2 hS2 k2 q1 q2; rintro v' w' ⟨hX2, a', cap', rfl, hS2⟩))
      | (show WL _ _ _ _ _ _ _; first | apply WL.nil | (apply WL.pev tOk; exact rfl; exact rfl; exact rfl) | (apply WL.load tOk; exact rfl; exact rfl; exact rfl; exact rfl; exact rfl; (first | assumption | (focus (apply Ext.cell; rotate_left; assumption; (exact extA); done)))) | (apply WL.index tOk; exact rfl; exact rfl; exact rfl; exact rfl; exact rfl; exact rfl; exact rfl; exact rfl; assumption; (exact extA); exact rfl; omega; assumption; intro b off h; have hcc := h; first | (obtain ⟨h1, h2, h3, h4, h5, h6, _⟩ := h) | (obtain ⟨h1, h2, h3, _⟩ := h) | (obtain ⟨h1, h2, _⟩ := h) | (obtain ⟨h1, _⟩ := h)) | (apply WL.add; exact rfl; exact rfl; exact rfl; exact rfl; omega) | (apply WL.sub; exact rfl; exact rfl; exact rfl; exact rfl; omega) | (apply WL.mul; exact rfl; exact rfl; exact rfl; exact rfl; omega) | (apply WL.quo; exact rfl; exact rfl; exact rfl; exact rfl; omega) | (apply WL.rem; exact rfl; exact rfl; exact rfl; exact rfl; omega) | (apply WL.loadA tOk; exact rfl; exact rfl; exact rfl; exact rfl; exact rfl; (first | assumption | (focus (apply Cells.ext; rotate_left; assumption; (exact extA); done))); exact rfl) | (apply WL.guardF; exact rfl; exact rfl) | (apply WL.gD; exact rfl; exact rfl; all_goals intro _) | (apply WL.gN; exact rfl; exact rfl; all_goals intro _) | (apply WL.gB; exact rfl; exact rfl; all_goals intro _))
      | (show Z _ _ _ _ _; first | apply Z.tail | apply Z.then_normal | apply Z.block_normal | apply Z.then_exit | apply Z.block_exit | apply Z.then_ret | apply Z.block_ret | (apply Z.block_other; exact rfl))
      | (show W _ _ _ _ _ _; first | apply W.seq | apply W.region | apply W.block | apply W.skip | apply W.ret | apply W.exit | (apply W.condT; exact rfl) | (apply W.condF; exact rfl) | (apply W.condD; exact rfl; all_goals intro _) | (apply W.condN; exact rfl; all_goals intro _) | (apply W.condB; exact rfl; all_goals intro _)))
    exact Z.body1 Try.results54 rfl fun m => ⟨hX2.at m, a', cap', rfl, hS2.ext ((Ext.refl _).at m)⟩
  · have hall : ¬ ∀ z ∈ [c, x, y], hasL N z := fun h => hh ⟨h _ (by simp), h _ (by simp), h _ (by simp)⟩
    rw [muxV_no hh]
    refine Spec.of _ Try.func54 rfl Try.ntmps54 (by kernel_rfl) rfl ?_
    repeat' (first
      | (apply WL.lit tOk; exact rfl; exact rfl; exact rfl; exact rfl; exact rfl; exact rfl; (first | exact rfl | kernel_rfl | (simp [Instr.fill, catCells]; done)); exact rfl; intro gb w' hb hge hc hx; have hO := Own.of_block ([c, x, y]) encI_ok hb hge rfl)
      | ((show WL _ _ _ (⟨_, .call ⟨.value (.func 107), _, _⟩, _, _, _, _⟩ :: _) _ _ _); apply WL.callP; exact rfl; exact rfl; exact rfl; exact rfl; exact aig_has _ _ _ _ _ N [c, x, y] _ _ (Ext.heap (by (exact extA)) hC0) (Own.row encI_ok (by assumption)) (by omega); intro w' hx)
      | (apply WL.gT; exact rfl; exact rfl; (focus ((rw [dec_false hall]; rfl); done)))
      | (apply WL.gF; exact rfl; exact rfl; (focus ((rw [dec_false hall]; rfl); done)))
      | (apply W.condKT; exact rfl; (focus ((rw [dec_false hall]; rfl); done)))
      | (apply W.condKF; exact rfl; (focus ((rw [dec_false hall]; rfl); done)))
      | (show WL _ _ _ _ _ _ _; first | apply WL.nil | (apply WL.pev tOk; exact rfl; exact rfl; exact rfl) | (apply WL.load tOk; exact rfl; exact rfl; exact rfl; exact rfl; exact rfl; (first | assumption | (focus (apply Ext.cell; rotate_left; assumption; (exact extA); done)))) | (apply WL.index tOk; exact rfl; exact rfl; exact rfl; exact rfl; exact rfl; exact rfl; exact rfl; exact rfl; assumption; (exact extA); exact rfl; omega; assumption; intro b off h; have hcc := h; first | (obtain ⟨h1, h2, h3, h4, h5, h6, _⟩ := h) | (obtain ⟨h1, h2, h3, _⟩ := h) | (obtain ⟨h1, h2, _⟩ := h) | (obtain ⟨h1, _⟩ := h)) | (apply WL.add; exact rfl; exact rfl; exact rfl; exact rfl; omega) | (apply WL.sub; exact rfl; exact rfl; exact rfl; exact rfl; omega) | (apply WL.mul; exact rfl; exact rfl; exact rfl; exact rfl; omega) | (apply WL.quo; exact rfl; exact rfl; exact rfl; exact rfl; omega) | (apply WL.rem; exact rfl; exact rfl; exact rfl; exact rfl; omega) | (apply WL.loadA tOk; exact rfl; exact rfl; exact rfl; exact rfl; exact rfl; (first | assumption | (focus (apply Cells.ext; rotate_left; assumption; (exact extA); done))); exact rfl) | (apply WL.guardF; exact rfl; exact rfl) | (apply WL.gD; exact rfl; exact rfl; all_goals intro _) | (apply WL.gN; exact rfl; exact rfl; all_goals intro _) | (apply WL.gB; exact rfl; exact rfl; all_goals intro _))
      | (show Z _ _ _ _ _; first | apply Z.tail | apply Z.then_normal | apply Z.block_normal | apply Z.then_exit | apply Z.block_exit | apply Z.then_ret | apply Z.block_ret | (apply Z.block_other; exact rfl))
      | (show W _ _ _ _ _ _; first | apply W.seq | apply W.region | apply W.block | apply W.skip | apply W.ret | apply W.exit | (apply W.condT; exact rfl) | (apply W.condF; exact rfl) | (apply W.condD; exact rfl; all_goals intro _) | (apply W.condN; exact rfl; all_goals intro _) | (apply W.condB; exact rfl; all_goals intro _)))
    have hS1 := hS.ext (show Ext w w' from (by (exact extA)))
    exact Z.body1 Try.results54 rfl fun m => ⟨Ext.at (by (exact extA)) m, a, cap, rfl, hS1.ext ((Ext.refl _).at m)⟩

theorem aig_XorV (gs r cap : Nat) (a : Option Addr) (N : List (Int × Int)) (x y : Int) (rest : List Piece) (w w0 : World) (hX : Ext w0 w) (hS : Sep w0.heap.size w (stN w0.heap.size gs a cap r N ++ rest)) (hN : N.length + 3 < 1048576) (hbx : x ≤ 9223372036854775807) (hby : y ≤ 9223372036854775807) :
    Lt.Spec Try.prog 53 [.pointer (some ⟨gs, 0, none⟩), .int .i64 x, .int .i64 y] w (AtSt w0 gs r rest (xorV N x y)) := by
  refine Spec.of _ Try.func53 rfl Try.ntmps53 (by kernel_rfl) rfl ?_
  repeat' (first
    | ((show WL _ _ _ (⟨_, .call ⟨.value (.func 109), _, _⟩, _, _, _, _⟩ :: _) _ _ _); apply WL.callS; exact rfl; exact rfl; exact rfl; exact rfl; exact aig_notA _ _ (by assumption))
    | (((show WL _ _ _ (⟨_, .call ⟨.value (.func 54), _, _⟩, _, _, _, _⟩ :: _) _ _ _); apply WL.call; exact rfl; exact rfl; exact rfl; exact rfl; exact aig_MuxV gs r cap a N _ _ _ rest _ w0 hX hS hN hbx; rintro v' w' ⟨hX2, a', cap', rfl, hS2⟩))
    | (show WL _ _ _ _ _ _ _; first | apply WL.nil | (apply WL.pev tOk; exact rfl; exact rfl; exact rfl) | (apply WL.load tOk; exact rfl; exact rfl; exact rfl; exact rfl; exact rfl; (first | assumption | (focus (apply Ext.cell; rotate_left; assumption; (exact extA); done)))) | (apply WL.index tOk; exact rfl; exact rfl; exact rfl; exact rfl; exact rfl; exact rfl; exact rfl; exact rfl; assumption; (exact extA); exact rfl; omega; assumption; intro b off h; have hcc := h; first | (obtain ⟨h1, h2, h3, h4, h5, h6, _⟩ := h) | (obtain ⟨h1, h2, h3, _⟩ := h) | (obtain ⟨h1, h2, _⟩ := h) | (obtain ⟨h1, _⟩ := h)) | (apply WL.add; exact rfl; exact rfl; exact rfl; exact rfl; omega) | (apply WL.sub; exact rfl; exact rfl; exact rfl; exact rfl; omega) | (apply WL.mul; exact rfl; exact rfl; exact rfl; exact rfl; omega) | (apply WL.quo; exact rfl; exact rfl; exact rfl; exact rfl; omega) | (apply WL.rem; exact rfl; exact rfl; exact rfl; exact rfl; omega) | (apply WL.loadA tOk; exact rfl; exact rfl; exact rfl; exact rfl; exact rfl; (first | assumption | (focus (apply Cells.ext; rotate_left; assumption; (exact extA); done))); exact rfl) | (apply WL.guardF; exact rfl; exact rfl) | (apply WL.gD; exact rfl; exact rfl; all_goals intro _) | (apply WL.gN; exact rfl; exact rfl; all_goals intro _) | (apply WL.gB; exact rfl; exact rfl; all_goals intro _))
    | (show Z _ _ _ _ _; first | apply Z.tail | apply Z.then_normal | apply Z.block_normal | apply Z.then_exit | apply Z.block_exit | apply Z.then_ret | apply Z.block_ret | (apply Z.block_other; exact rfl))
    | (show W _ _ _ _ _ _; first | apply W.seq | apply W.region | apply W.block | apply W.skip | apply W.ret | apply W.exit | (apply W.condT; exact rfl) | (apply W.condF; exact rfl) | (apply W.condD; exact rfl; all_goals intro _) | (apply W.condN; exact rfl; all_goals intro _) | (apply W.condB; exact rfl; all_goals intro _)))
  exact Z.body1 Try.results53 rfl fun m => ⟨hX2.at m, a', cap', rfl, hS2.ext ((Ext.refl _).at m)⟩

set_option maxHeartbeats 4000000 in
theorem aig_AllV (gs r cap cl : Nat) (a al : Option Addr) (N : List (Int × Int)) (L : List Int) (rest : List Piece) (w w0 : World) (hX : Ext w0 w) (hS : Sep w0.heap.size w (stN w0.heap.size gs a cap r N ++ rest)) (hN : N.length + L.length < 1048576) (hL : Keeps w0 gs r rest (fun w' => Row 1 encI w' al L)) :
    Lt.Spec Try.prog 125 [.pointer (some ⟨gs, 0, none⟩), .slice al L.length cl] w (AtSt w0 gs r rest (allV N L)) := by
  have hC0 := hS.cell (i := 0) rfl
  have RL := hL w a cap N hX hS
  have hll := RL.len
  by_cases hh : ∀ z ∈ L, hasL N z
  · have e : allV N L = aTo N L L.length := by unfold allV; rw [dec_true hh]; rfl
    rw [e]
    refine Spec.of _ Try.func125 rfl Try.ntmps125 (by kernel_rfl) rfl ?_
    repeat' (first
      | ((show WL _ _ _ (⟨_, .call ⟨.value (.func 107), _, _⟩, _, _, _, _⟩ :: _) _ _ _); apply WL.callP; exact rfl; exact rfl; exact rfl; exact rfl; exact aig_has _ _ _ _ _ N L _ _ hC0 RL (by omega); intro w' hx)
      | (apply WL.gT; exact rfl; exact rfl; (focus ((rw [dec_true hh]; rfl); done)))
      | (apply WL.gF; exact rfl; exact rfl; (focus ((rw [dec_true hh]; rfl); done)))
      | (apply W.condKT; exact rfl; (focus ((rw [dec_true hh]; rfl); done)))
      | (apply W.condKF; exact rfl; (focus ((rw [dec_true hh]; rfl); done)))
      | (show WL _ _ _ _ _ _ _; first | apply WL.nil | (apply WL.pev tOk; exact rfl; exact rfl; exact rfl) | (apply WL.load tOk; exact rfl; exact rfl; exact rfl; exact rfl; exact rfl; (first | assumption | (focus (apply Ext.cell; rotate_left; assumption; (exact extA); done)))) | (apply WL.index tOk; exact rfl; exact rfl; exact rfl; exact rfl; exact rfl; exact rfl; exact rfl; exact rfl; assumption; (exact extA); exact rfl; omega; assumption; intro b off h; have hcc := h; first | (obtain ⟨h1, h2, h3, h4, h5, h6, _⟩ := h) | (obtain ⟨h1, h2, h3, _⟩ := h) | (obtain ⟨h1, h2, _⟩ := h) | (obtain ⟨h1, _⟩ := h)) | (apply WL.add; exact rfl; exact rfl; exact rfl; exact rfl; omega) | (apply WL.sub; exact rfl; exact rfl; exact rfl; exact rfl; omega) | (apply WL.mul; exact rfl; exact rfl; exact rfl; exact rfl; omega) | (apply WL.quo; exact rfl; exact rfl; exact rfl; exact rfl; omega) | (apply WL.rem; exact rfl; exact rfl; exact rfl; exact rfl; omega) | (apply WL.loadA tOk; exact rfl; exact rfl; exact rfl; exact rfl; exact rfl; (first | assumption | (focus (apply Cells.ext; rotate_left; assumption; (exact extA); done))); exact rfl) | (apply WL.guardF; exact rfl; exact rfl) | (apply WL.gD; exact rfl; exact rfl; all_goals intro _) | (apply WL.gN; exact rfl; exact rfl; all_goals intro _) | (apply WL.gB; exact rfl; exact rfl; all_goals intro _))
      | (show Z _ _ _ _ _; first | apply Z.tail | apply Z.then_normal | apply Z.block_normal | apply Z.then_exit | apply Z.block_exit | apply Z.then_ret | apply Z.block_ret | (apply Z.block_other; exact rfl))
      | (show W _ _ _ _ _ _; first | apply W.seq | apply W.region | apply W.block | apply W.skip | apply W.ret | apply W.exit | (apply W.condT; exact rfl) | (apply W.condF; exact rfl) | (apply W.condD; exact rfl; all_goals intro _) | (apply W.condN; exact rfl; all_goals intro _) | (apply W.condB; exact rfl; all_goals intro _)))
    refine W.loopO L.length (fun k a' cp w' => k ≤ L.length ∧ Ext w0 w' ∧ Sep w0.heap.size w' (stN w0.heap.size gs a' cp r (aTo N L k).2 ++ rest)) (fun k a' cp => [(0, .pointer (some ⟨gs, 0, none⟩)), (5, .int .i64 (aTo N L k).1), (12, .slice al L.length cl), (13, .int .i64 L.length), (14, .int .i64 k)]) a cap ⟨by omega, hX.trans hx, hS.ext hx⟩ (fun k a' cp w' h => h.1) ⟨rfl, rfl, rfl, rfl, rfl, trivial⟩ ?_
    rintro k a2 cp2 w2 ⟨hk, hX2, hS2⟩
    have R2 := hL _ _ _ _ hX2 hS2
    obtain ⟨i1, i2, i3, _⟩ := aTo_inv hh k hk
    by_cases hlt : k < L.length
    · obtain ⟨z, hz⟩ := getI L hlt
      have hs := aTo_succ (N := N) hz
      have i4 := (aTo_inv hh (k + 1) (by omega)).1
      have q0 : ¬ (andV (aTo N L k).2 (aTo N L k).1 z).1 < 0 := by rw [← hs]; have := i4.1; omega
      repeat' (first
        | (apply WL.gT; exact rfl; exact rfl; (focus (first | exact dec_true (by omega) | exact dec_false q0; done)))
        | (apply WL.gF; exact rfl; exact rfl; (focus (first | exact dec_true (by omega) | exact dec_false q0; done)))
        | (apply W.condKT; exact rfl; (focus (first | exact dec_true (by omega) | exact dec_false q0; done)))
        | (apply W.condKF; exact rfl; (focus (first | exact dec_true (by omega) | exact dec_false q0; done)))
        | (((show WL _ _ _ (⟨_, .call ⟨.value (.func 106), _, _⟩, _, _, _, _⟩ :: _) _ _ _); apply WL.call; exact rfl; exact rfl; exact rfl; exact rfl; exact aig_And gs r _ _ (aTo N L k).2 _ _ rest _ w0 hX2 hS2 (by omega); rintro v' w' ⟨hX2, a', cap', rfl, hS2⟩))
        | (show WL _ _ _ _ _ _ _; first | apply WL.nil | (apply WL.pev tOk; exact rfl; exact rfl; exact rfl) | (apply WL.load tOk; exact rfl; exact rfl; exact rfl; exact rfl; exact rfl; (first | assumption | (focus (apply Ext.cell; rotate_left; assumption; (exact extA); done)))) | (apply WL.index tOk; exact rfl; exact rfl; exact rfl; exact rfl; exact rfl; exact rfl; exact rfl; exact rfl; assumption; (exact extA); exact rfl; omega; assumption; intro b off h; have hcc := h; first | (obtain ⟨h1, h2, h3, h4, h5, h6, _⟩ := h) | (obtain ⟨h1, h2, h3, _⟩ := h) | (obtain ⟨h1, h2, _⟩ := h) | (obtain ⟨h1, _⟩ := h)) | (apply WL.add; exact rfl; exact rfl; exact rfl; exact rfl; omega) | (apply WL.sub; exact rfl; exact rfl; exact rfl; exact rfl; omega) | (apply WL.mul; exact rfl; exact rfl; exact rfl; exact rfl; omega) | (apply WL.quo; exact rfl; exact rfl; exact rfl; exact rfl; omega) | (apply WL.rem; exact rfl; exact rfl; exact rfl; exact rfl; omega) | (apply WL.loadA tOk; exact rfl; exact rfl; exact rfl; exact rfl; exact rfl; (first | assumption | (focus (apply Cells.ext; rotate_left; assumption; (exact extA); done))); exact rfl) | (apply WL.guardF; exact rfl; exact rfl) | (apply WL.gD; exact rfl; exact rfl; all_goals intro _) | (apply WL.gN; exact rfl; exact rfl; all_goals intro _) | (apply WL.gB; exact rfl; exact rfl; all_goals intro _))
        | (show Z _ _ _ _ _; first | apply Z.tail | apply Z.then_normal | apply Z.block_normal | apply Z.then_exit | apply Z.block_exit | apply Z.then_ret | apply Z.block_ret | (apply Z.block_other; exact rfl))
        | (show W _ _ _ _ _ _; first | apply W.seq | apply W.region | apply W.block | apply W.skip | apply W.ret | apply W.exit | (apply W.condT; exact rfl) | (apply W.condF; exact rfl) | (apply W.condD; exact rfl; all_goals intro _) | (apply W.condN; exact rfl; all_goals intro _) | (apply W.condB; exact rfl; all_goals intro _)))
      exact Z.againO a' cap' ⟨by omega, hX2, by rw [hs]; exact hS2⟩ (by repeat' first | exact trivial | (refine And.intro ?_ ?_) | exact rfl | (rw [hs]; exact rfl))
    · obtain rfl : k = L.length := by omega
      repeat' (first
        | (apply WL.gT; exact rfl; exact rfl; (focus (exact dec_false (by omega); done)))
        | (apply WL.gF; exact rfl; exact rfl; (focus (exact dec_false (by omega); done)))
        | (apply W.condKT; exact rfl; (focus (exact dec_false (by omega); done)))
        | (apply W.condKF; exact rfl; (focus (exact dec_false (by omega); done)))
        | (show WL _ _ _ _ _ _ _; first | apply WL.nil | (apply WL.pev tOk; exact rfl; exact rfl; exact rfl) | (apply WL.load tOk; exact rfl; exact rfl; exact rfl; exact rfl; exact rfl; (first | assumption | (focus (apply Ext.cell; rotate_left; assumption; (exact extA); done)))) | (apply WL.index tOk; exact rfl; exact rfl; exact rfl; exact rfl; exact rfl; exact rfl; exact rfl; exact rfl; assumption; (exact extA); exact rfl; omega; assumption; intro b off h; have hcc := h; first | (obtain ⟨h1, h2, h3, h4, h5, h6, _⟩ := h) | (obtain ⟨h1, h2, h3, _⟩ := h) | (obtain ⟨h1, h2, _⟩ := h) | (obtain ⟨h1, _⟩ := h)) | (apply WL.add; exact rfl; exact rfl; exact rfl; exact rfl; omega) | (apply WL.sub; exact rfl; exact rfl; exact rfl; exact rfl; omega) | (apply WL.mul; exact rfl; exact rfl; exact rfl; exact rfl; omega) | (apply WL.quo; exact rfl; exact rfl; exact rfl; exact rfl; omega) | (apply WL.rem; exact rfl; exact rfl; exact rfl; exact rfl; omega) | (apply WL.loadA tOk; exact rfl; exact rfl; exact rfl; exact rfl; exact rfl; (first | assumption | (focus (apply Cells.ext; rotate_left; assumption; (exact extA); done))); exact rfl) | (apply WL.guardF; exact rfl; exact rfl) | (apply WL.gD; exact rfl; exact rfl; all_goals intro _) | (apply WL.gN; exact rfl; exact rfl; all_goals intro _) | (apply WL.gB; exact rfl; exact rfl; all_goals intro _))
        | (show Z _ _ _ _ _; first | apply Z.tail | apply Z.then_normal | apply Z.block_normal | apply Z.then_exit | apply Z.block_exit | apply Z.then_ret | apply Z.block_ret | (apply Z.block_other; exact rfl))
        | (show W _ _ _ _ _ _; first | apply W.seq | apply W.region | apply W.block | apply W.skip | apply W.ret | apply W.exit | (apply W.condT; exact rfl) | (apply W.condF; exact rfl) | (apply W.condD; exact rfl; all_goals intro _) | (apply W.condN; exact rfl; all_goals intro _) | (apply W.condB; exact rfl; all_goals intro _)))
      exact Z.body1 Try.results125 rfl fun m => ⟨hX2.at m, a2, cp2, rfl, hS2.ext ((Ext.refl _).at m)⟩
  · have e : allV N L = (-1, N) := by unfold allV; rw [dec_false hh]; rfl
    rw [e]
    refine Spec.of _ Try.func125 rfl Try.ntmps125 (by kernel_rfl) rfl ?_
    repeat' (first
      | ((show WL _ _ _ (⟨_, .call ⟨.value (.func 107), _, _⟩, _, _, _, _⟩ :: _) _ _ _); apply WL.callP; exact rfl; exact rfl; exact rfl; exact rfl; exact aig_has _ _ _ _ _ N L _ _ hC0 RL (by omega); intro w' hx)
      | (apply WL.gT; exact rfl; exact rfl; (focus ((rw [dec_false hh]; rfl); done)))
      | (apply WL.gF; exact rfl; exact rfl; (focus ((rw [dec_false hh]; rfl); done)))
      | (apply W.condKT; exact rfl; (focus ((rw [dec_false hh]; rfl); done)))
      | (apply W.condKF; exact rfl; (focus ((rw [dec_false hh]; rfl); done)))
      | (show WL _ _ _ _ _ _ _; first | apply WL.nil | (apply WL.pev tOk; exact rfl; exact rfl; exact rfl) | (apply WL.load tOk; exact rfl; exact rfl; exact rfl; exact rfl; exact rfl; (first | assumption | (focus (apply Ext.cell; rotate_left; assumption; (exact extA); done)))) | (apply WL.index tOk; exact rfl; exact rfl; exact rfl; exact rfl; exact rfl; exact rfl; exact rfl; exact rfl; assumption; (exact extA); exact rfl; omega; assumption; intro b off h; have hcc := h; first | (obtain ⟨h1, h2, h3, h4, h5, h6, _⟩ := h) | (obtain ⟨h1, h2, h3, _⟩ := h) | (obtain ⟨h1, h2, _⟩ := h) | (obtain ⟨h1, _⟩ := h)) | (apply WL.add; exact rfl; exact rfl; exact rfl; exact rfl; omega) | (apply WL.sub; exact rfl; exact rfl; exact rfl; exact rfl; omega) | (apply WL.mul; exact rfl; exact rfl; exact rfl; exact rfl; omega) | (apply WL.quo; exact rfl; exact rfl; exact rfl; exact rfl; omega) | (apply WL.rem; exact rfl; exact rfl; exact rfl; exact rfl; omega) | (apply WL.loadA tOk; exact rfl; exact rfl; exact rfl; exact rfl; exact rfl; (first | assumption | (focus (apply Cells.ext; rotate_left; assumption; (exact extA); done))); exact rfl) | (apply WL.guardF; exact rfl; exact rfl) | (apply WL.gD; exact rfl; exact rfl; all_goals intro _) | (apply WL.gN; exact rfl; exact rfl; all_goals intro _) | (apply WL.gB; exact rfl; exact rfl; all_goals intro _))
      | (show Z _ _ _ _ _; first | apply Z.tail | apply Z.then_normal | apply Z.block_normal | apply Z.then_exit | apply Z.block_exit | apply Z.then_ret | apply Z.block_ret | (apply Z.block_other; exact rfl))
      | (show W _ _ _ _ _ _; first | apply W.seq | apply W.region | apply W.block | apply W.skip | apply W.ret | apply W.exit | (apply W.condT; exact rfl) | (apply W.condF; exact rfl) | (apply W.condD; exact rfl; all_goals intro _) | (apply W.condN; exact rfl; all_goals intro _) | (apply W.condB; exact rfl; all_goals intro _)))
    exact Z.body1 Try.results125 rfl fun m => ⟨Ext.at (hX.trans hx) m, a, cap, rfl, (hS.ext hx).ext ((Ext.refl _).at m)⟩
end Go.Proofs.Ytfkdlepemiepdaa
