/- Part 2 of what the claim BalanceTells needs: lemmas and contracts, printed from longer texts. No conditions. -/
import Derived.Test.YthpnahapiodflaaRows
import Derived.Lib.SmallJoins
import Derived.KernelRfl
import Derived.WalkKit
import Derived.ProofKit
import Derived.Deep.Quiet
import Derived.Deep.LoopGhost
import Derived.StillTail
import Derived.Test.YthpnahapiodflaaProg
import Derived.OpenShut
import Derived.ShutString
import Derived.ChangeOld
import Derived.Deep.Slices
import Derived.SizedLaws
import Derived.Laws.StructEq
import Derived.Laws.Externs
import Derived.MapKept
import Derived.Test.YthpnahapiodflaaBalanceTellsP1
namespace Go.Proofs.Ythpnahapiodflaa
open Go Go.Lt Go.RowKit
set_option linter.unusedVariables false
set_option linter.unusedSimpArgs false
set_option maxRecDepth 20000

/-- One place of a list more. -/
def bumpA (L : List Int) (l d : Int) : List Int := L.set (l / 2).toNat (L.getD (l / 2).toNat 0 + d)
theorem bumpA_len (L : List Int) (l d : Int) : (bumpA L l d).length = L.length := List.length_set
theorem bumpA_eq {L : List Int} {l d z : Int} (h : L[(l / 2).toNat]? = some z) : L.set (l / 2).toNat (z + d) = bumpA L l d := by rw [bumpA, getD_of h]
theorem bumpA_le {L : List Int} {m : Int} (h : ∀ v, 0 ≤ L.getD v 0 ∧ L.getD v 0 ≤ m) (l : Int) {d : Int} (hd : 0 ≤ d) : ∀ v, 0 ≤ (bumpA L l d).getD v 0 ∧ (bumpA L l d).getD v 0 ≤ m + d := by
  intro v
  have h1 := h v
  have h2 := h (l / 2).toNat
  unfold bumpA
  rw [List.getD, List.getElem?_set]
  rw [List.getD] at h1
  split
  · split
    · simp only [Option.getD_some]; omega
    · simp only [Option.getD_none]; omega
  · omega
def useN (L : List Int) (x : Int × Int) : List Int := if 0 ≤ x.1 then bumpA (bumpA L x.1 1) x.2 1 else L
def useTo (n : List (Int × Int)) (k : Nat) : List Int := (n.take k).foldl useN (List.replicate (n.length + 1) 0)
def useO (n : List (Int × Int)) (outs : List Int) (k : Nat) : List Int := (outs.take k).foldl (fun L l => bumpA L l 2) (useTo n n.length)
/-- How often variables are used. -/
def usesV (n : List (Int × Int)) (outs : List Int) : List Int := useO n outs outs.length
theorem useTo_succ {n : List (Int × Int)} {k : Nat} {x : Int × Int} (h : n[k]? = some x) : useTo n (k + 1) = useN (useTo n k) x := by
  unfold useTo; rw [take_succ' h, List.foldl_append]; rfl
theorem useO_succ {n : List (Int × Int)} {outs : List Int} {k : Nat} {x : Int} (h : outs[k]? = some x) : useO n outs (k + 1) = bumpA (useO n outs k) x 2 := by
  unfold useO; rw [take_succ' h, List.foldl_append]; rfl
theorem useTo_len (n : List (Int × Int)) : ∀ k, k ≤ n.length → (useTo n k).length = n.length + 1
  | 0, _ => by simp [useTo]
  | k + 1, h => by
    obtain ⟨x, hx⟩ := getI n (show k < n.length by omega)
    rw [useTo_succ hx, useN]
    split
    · rw [bumpA_len, bumpA_len]; exact useTo_len n k (by omega)
    · exact useTo_len n k (by omega)
theorem useO_len (n : List (Int × Int)) (outs : List Int) : ∀ k, k ≤ outs.length → (useO n outs k).length = n.length + 1
  | 0, _ => by simpa [useO] using useTo_len n n.length (Nat.le_refl _)
  | k + 1, h => by
    obtain ⟨x, hx⟩ := getI outs (show k < outs.length by omega)
    rw [useO_succ hx, bumpA_len]; exact useO_len n outs k (by omega)
theorem useTo_le (n : List (Int × Int)) : ∀ k, k ≤ n.length → ∀ v, 0 ≤ (useTo n k).getD v 0 ∧ (useTo n k).getD v 0 ≤ 2 * (k : Int)
  | 0, _, v => by
    simp only [useTo, List.take_zero, List.foldl_nil, List.getD, List.getElem?_replicate]
    split <;> simp
  | k + 1, h, v => by
    obtain ⟨x, hx⟩ := getI n (show k < n.length by omega)
    have ih := useTo_le n k (by omega)
    rw [useTo_succ hx, useN]
    split
    · have := bumpA_le (bumpA_le ih x.1 (d := 1) (by omega)) x.2 (d := 1) (by omega) v
      omega
    · have := ih v; omega
theorem useO_le (n : List (Int × Int)) (outs : List Int) : ∀ k, k ≤ outs.length → ∀ v, 0 ≤ (useO n outs k).getD v 0 ∧ (useO n outs k).getD v 0 ≤ 2 * (n.length : Int) + 2 * (k : Int)
  | 0, _, v => by
    have := useTo_le n n.length (Nat.le_refl _) v
    simpa [useO] using this
  | k + 1, h, v => by
    obtain ⟨x, hx⟩ := getI outs (show k < outs.length by omega)
    have := bumpA_le (useO_le n outs k (by omega)) x (d := 2) (by omega) v
    rw [useO_succ hx]; omega
theorem useO_zero (n : List (Int × Int)) (outs : List Int) : useO n outs 0 = useTo n n.length := rfl
theorem uses_len (n : List (Int × Int)) (outs : List Int) : (usesV n outs).length = n.length + 1 := useO_len n outs _ (Nat.le_refl _)

set_option maxHeartbeats 4000000 in
theorem balance_Uses (a b : Option Addr) (cap cb : Nat) (n : List (Int × Int)) (outs : List Int) (w : World) (R : Row 2 encN w a n) (Rb : Row 1 encI w b outs) (hg : GoodNet n) (hn : n.length ≤ 1048576) (ho : outs.length ≤ 1048576) (hk : ∀ l ∈ outs, 0 ≤ l ∧ l ≤ 2 * (n.length : Int) + 1) :
    Lt.Spec Try.prog 47 [.slice a n.length cap, .slice b outs.length cb] w (IsFresh 1 encI 3 w (usesV n outs)) := by
  refine Spec.of _ Try.func47 rfl Try.ntmps47 (by kernel_rfl) rfl ?_
  repeat' (first
    | (apply WL.make (w0 := w) tOk; exact rfl; exact rfl; exact rfl; exact rfl; exact rfl; exact rfl; exact rfl; exact rfl; exact rfl; exact encI_ok; exact rfl; exact rfl; (exact extA); (first | omega | (simp; omega) | (simp at *; omega)); intro gb w' hO hge hx)
    | (show WL _ _ _ _ _ _ _; first | apply WL.nil | (refine WL.au (k := ?_)))
    | (show Z _ _ _ _ _; apply Z.then_normal)
    | (show W _ _ _ _ _ _; first | apply W.seq | apply W.region | apply W.block))
  have en : ((n.length : Int) + 1).toNat = n.length + 1 := by omega
  rw [en] at hO ⊢
  obtain ⟨g0, rfl⟩ : ∃ x, x = gb := ⟨_, rfl⟩
  have e0 : List.replicate (n.length + 1) (0 : Int) = useTo n 0 := rfl
  have e0l : (useTo n 0).length = n.length + 1 := useTo_len n 0 (by omega)
  rw [e0] at hO ⊢
  refine W.loopW n.length (fun k w' => k ≤ n.length ∧ Ext w w' ∧ Own 1 encI 3 w.heap.size w' (some ⟨g0, 0, none⟩) (n.length + 1) (useTo n k))
    (fun k => [(0, .slice a n.length cap), (1, .slice b outs.length cb), (5, .slice (some ⟨g0, 0, none⟩) (n.length + 1) (n.length + 1)), (14, .slice a n.length cap), (15, .int .i64 n.length), (16, .int .i64 k)]) ⟨by omega, hx, hO⟩ (fun k w' h => h.1) (by repeat' first | exact trivial | (refine And.intro ?_ ?_) | exact rfl | (rw [e0l]; exact rfl)) ?_
  rintro k w' ⟨hk', hx', hO'⟩
  have hg0 := (hO'.blk_lt g0 rfl).2
  have hfl := useTo_len n k hk'
  by_cases hlt : k < n.length
  · obtain ⟨x, hxn⟩ := getI n hlt
    have hs := useTo_succ hxn
    by_cases h0 : 0 ≤ x.1
    · have hgt := hg.gate hxn h0
      obtain ⟨z1, hz1⟩ := getI (useTo n k) (show (x.1 / 2).toNat < _ by omega)
      have hl1 : ((useTo n k).set (x.1 / 2).toNat (z1 + 1)).length = n.length + 1 := by rw [List.length_set]; exact hfl
      obtain ⟨z2, hz2⟩ := getI ((useTo n k).set (x.1 / 2).toNat (z1 + 1)) (show (x.2 / 2).toNat < _ by omega)
      have b1 := useTo_le n k hk' (x.1 / 2).toNat
      have b2 := bumpA_le (useTo_le n k hk') x.1 (d := 1) (by omega) (x.2 / 2).toNat
      rw [useN, if_pos h0] at hs
      rw [← bumpA_eq hz1] at hs b2
      rw [← bumpA_eq hz2] at hs
      rw [getD_of hz1] at b1
      rw [getD_of hz2] at b2
      repeat' (first
        | (apply WL.alloc tOk; exact rfl; exact rfl; exact rfl; intro gb w' hb hge hx)
        | (apply WL.storeB (w0 := w) tOk; exact rfl; exact rfl; exact rfl; exact rfl; assumption; (exact extA); exact rfl; exact rfl; exact rfl; (exact extA); (first | assumption | omega | (focus (apply Nat.le_trans; rotate_left; assumption; exact Below.size (by (exact extA)); done))); intro w' hb hc hX' hU; have hcc := hc; obtain ⟨h1, h2, _⟩ := hc; have hO3 := Upd.own hU (Own.ext hO' hx) (Own.blk_ne hO' hge))
        | (apply W.condKT; exact rfl; (focus (first | exact dec_true (by omega); done)))
        | (apply WL.indexO tOk; exact rfl; exact rfl; exact rfl; exact rfl; exact rfl; exact rfl; exact rfl; exact rfl; assumption; (exact extA); exact encI_ok; (first | exact rfl | (focus (simp only [List.length_set]; done)) | (focus (simp; done)) | (focus (simp [*]; done)) | omega | (focus (simp only [List.length_set]; omega))); omega; assumption; intro gb ha hc; cases ha; have hcc := hc; first | (obtain ⟨h1, h2, h3, _⟩ := hc) | (obtain ⟨h1, h2, _⟩ := hc) | (obtain ⟨h1, _⟩ := hc))
        | (apply WL.storeO tOk; exact rfl; exact rfl; exact rfl; exact rfl; assumption; (exact extA); exact rfl; exact rfl; exact rfl; exact encI_ok; assumption; exact rfl; (exact extA); intro w' hO hX' hU)
        | (show WL _ _ _ _ _ _ _; first | apply WL.nil | (refine WL.au (k := ?_)) | (apply WL.index tOk; exact rfl; exact rfl; exact rfl; exact rfl; exact rfl; exact rfl; exact rfl; exact rfl; assumption; (exact extA); exact rfl; omega; assumption; intro b off h; have hcc := h; first | (obtain ⟨h1, h2, h3, h4, h5, h6, _⟩ := h) | (obtain ⟨h1, h2, h3, _⟩ := h) | (obtain ⟨h1, h2, _⟩ := h) | (obtain ⟨h1, _⟩ := h)))
        | (show Z _ _ _ _ _; apply Z.then_normal)
        | (show W _ _ _ _ _ _; first | apply W.seq | apply W.region | apply W.block | apply W.skip))
      obtain ⟨q1, q2, _⟩ := cells_heap (hU.heap hb (by omega))
      repeat' (first
        | (apply WL.indexO tOk; exact rfl; exact rfl; exact rfl; exact rfl; exact rfl; exact rfl; exact rfl; exact rfl; assumption; (exact extA); exact encI_ok; (first | exact rfl | (focus (simp only [List.length_set]; done)) | (focus (simp; done)) | (focus (simp [*]; done)) | omega | (focus (simp only [List.length_set]; omega))); omega; assumption; intro gb ha hc; cases ha; have hcc := hc; first | (obtain ⟨h1, h2, h3, _⟩ := hc) | (obtain ⟨h1, h2, _⟩ := hc) | (obtain ⟨h1, _⟩ := hc))
        | (apply WL.storeO tOk; exact rfl; exact rfl; exact rfl; exact rfl; assumption; (exact extA); exact rfl; exact rfl; exact rfl; exact encI_ok; assumption; exact rfl; (exact extA); intro w' hO hX' hU)
        | (show WL _ _ _ _ _ _ _; first | apply WL.nil | (refine WL.au (k := ?_)))
        | (show Z _ _ _ _ _; first | apply Z.then_normal | apply Z.block_normal)
        | (show W _ _ _ _ _ _; apply W.region))
      rw [← hs] at hO
      exact Z.againW ⟨by omega, by assumption, hO⟩ ⟨rfl, rfl, rfl, rfl, rfl, rfl, trivial⟩
    · repeat' (first
        | (apply WL.alloc tOk; exact rfl; exact rfl; exact rfl; intro gb w' hb hge hx)
        | (apply WL.storeB (w0 := w) tOk; exact rfl; exact rfl; exact rfl; exact rfl; assumption; (exact extA); exact rfl; exact rfl; exact rfl; (exact extA); (first | assumption | omega | (focus (apply Nat.le_trans; rotate_left; assumption; exact Below.size (by (exact extA)); done))); intro w' hb hc hX' hU; have hcc := hc; obtain ⟨h1, h2, _⟩ := hc; have hO3 := Upd.own hU (Own.ext hO' hx) (Own.blk_ne hO' hge))
        | (apply W.condKT; exact rfl; (focus (first | exact dec_true (by omega) | exact dec_false (by omega); done)))
        | (apply W.condKF; exact rfl; (focus (first | exact dec_true (by omega) | exact dec_false (by omega); done)))
        | (show WL _ _ _ _ _ _ _; first | apply WL.nil | (refine WL.au (k := ?_)) | (apply WL.index tOk; exact rfl; exact rfl; exact rfl; exact rfl; exact rfl; exact rfl; exact rfl; exact rfl; assumption; (exact extA); exact rfl; omega; assumption; intro b off h; have hcc := h; first | (obtain ⟨h1, h2, h3, h4, h5, h6, _⟩ := h) | (obtain ⟨h1, h2, h3, _⟩ := h) | (obtain ⟨h1, h2, _⟩ := h) | (obtain ⟨h1, _⟩ := h)))
        | (show Z _ _ _ _ _; first | apply Z.then_normal | apply Z.block_normal)
        | (show W _ _ _ _ _ _; first | apply W.seq | apply W.region | apply W.block | apply W.skip))
      exact Z.againW ⟨by omega, by assumption, by rw [hs, useN, if_neg h0]; exact hO3⟩ ⟨rfl, rfl, rfl, rfl, rfl, rfl, trivial⟩
  repeat' (first
    | (apply W.condKF; exact rfl; (focus (exact dec_false (by omega); done)))
    | (show WL _ _ _ _ _ _ _; first | apply WL.nil | (refine WL.au (k := ?_)))
    | (show Z _ _ _ _ _; first | apply Z.then_normal | apply Z.then_exit | apply Z.block_exit)
    | (show W _ _ _ _ _ _; first | apply W.seq | apply W.region | apply W.block | apply W.exit))
  obtain rfl : k = n.length := by omega
  rw [← useO_zero n outs] at hO'
  refine W.loopW outs.length (fun k w' => k ≤ outs.length ∧ Ext w w' ∧ Own 1 encI 3 w.heap.size w' (some ⟨g0, 0, none⟩) (n.length + 1) (useO n outs k))
    (fun k => [(5, .slice (some ⟨g0, 0, none⟩) (n.length + 1) (n.length + 1)), (40, .slice b outs.length cb), (41, .int .i64 outs.length), (42, .int .i64 k)]) ⟨by omega, hx', hO'⟩ (fun k w' h => h.1) ⟨rfl, rfl, rfl, rfl, trivial⟩ ?_
  clear hx' hO'
  rintro k w' ⟨hk', hx', hO'⟩
  have hfl := useO_len n outs k hk'
  by_cases hlt : k < outs.length
  · obtain ⟨x, hxn⟩ := getI outs hlt
    have hs := useO_succ (n := n) hxn
    have hb := hk x (List.mem_of_getElem? hxn)
    obtain ⟨z1, hz1⟩ := getI (useO n outs k) (show (x / 2).toNat < _ by omega)
    have b1 := useO_le n outs k hk' (x / 2).toNat
    rw [getD_of hz1] at b1
    rw [← bumpA_eq hz1] at hs
    repeat' (first
      | (apply W.condKT; exact rfl; (focus (first | exact dec_true (by omega); done)))
      | (apply WL.indexO tOk; exact rfl; exact rfl; exact rfl; exact rfl; exact rfl; exact rfl; exact rfl; exact rfl; assumption; (exact extA); exact encI_ok; (first | exact rfl | (focus (simp only [List.length_set]; done)) | (focus (simp; done)) | (focus (simp [*]; done)) | omega | (focus (simp only [List.length_set]; omega))); omega; assumption; intro gb ha hc; cases ha; have hcc := hc; first | (obtain ⟨h1, h2, h3, _⟩ := hc) | (obtain ⟨h1, h2, _⟩ := hc) | (obtain ⟨h1, _⟩ := hc))
      | (apply WL.storeO tOk; exact rfl; exact rfl; exact rfl; exact rfl; assumption; (exact extA); exact rfl; exact rfl; exact rfl; exact encI_ok; assumption; exact rfl; (exact extA); intro w' hO hX' hU)
      | (show WL _ _ _ _ _ _ _; first | apply WL.nil | (refine WL.au (k := ?_)) | (apply WL.index tOk; exact rfl; exact rfl; exact rfl; exact rfl; exact rfl; exact rfl; exact rfl; exact rfl; assumption; (exact extA); exact rfl; omega; assumption; intro b off h; have hcc := h; first | (obtain ⟨h1, h2, h3, h4, h5, h6, _⟩ := h) | (obtain ⟨h1, h2, h3, _⟩ := h) | (obtain ⟨h1, h2, _⟩ := h) | (obtain ⟨h1, _⟩ := h)))
      | (show Z _ _ _ _ _; first | apply Z.then_normal | apply Z.block_normal)
      | (show W _ _ _ _ _ _; first | apply W.seq | apply W.region | apply W.block | apply W.skip))
    rw [← hs] at hO
    exact Z.againW ⟨by omega, by assumption, hO⟩ ⟨rfl, rfl, rfl, rfl, trivial⟩
  repeat' (first
    | (apply W.condKF; exact rfl; (focus (exact dec_false (by omega); done)))
    | (show WL _ _ _ _ _ _ _; first | apply WL.nil | (refine WL.au (k := ?_)))
    | (show Z _ _ _ _ _; first | apply Z.then_normal | apply Z.then_exit | apply Z.block_exit)
    | (show W _ _ _ _ _ _; first | apply W.seq | apply W.region | apply W.ret | apply W.exit))
  obtain rfl : k = outs.length := by omega
  have e9 : useO n outs outs.length = usesV n outs := rfl
  rw [e9] at hO' hfl
  exact Z.body1 Try.results47 rfl fun m => ⟨hx'.at m, some ⟨g0, 0, none⟩, n.length + 1, by rw [hfl], hO'⟩
end Go.Proofs.Ythpnahapiodflaa
namespace Go.Proofs.Ythpnahapiodflaa
open Go Go.Lt Go.RowKit
set_option linter.unusedVariables false
set_option linter.unusedSimpArgs false
set_option maxRecDepth 20000

set_option maxHeartbeats 4000000 in
theorem ref48_Uses (a b : Option Addr) (cap cb : Nat) (n : List (Int × Int)) (outs : List Int) (w : World) (R : Row 2 encN w a n) (Rb : Row 1 encI w b outs) (hg : GoodNet n) (hn : n.length ≤ 1048576) (ho : outs.length ≤ 1048576) (hk : ∀ l ∈ outs, 0 ≤ l ∧ l ≤ 2 * (n.length : Int) + 1) :
    Lt.Spec Try.prog 48 [.slice a n.length cap, .slice b outs.length cb] w (IsFresh 1 encI 3 w (usesV n outs)) := by
  refine Spec.of _ Try.func48 rfl Try.ntmps48 (by kernel_rfl) rfl ?_
  repeat' (first
    | (apply WL.make (w0 := w) tOk; exact rfl; exact rfl; exact rfl; exact rfl; exact rfl; exact rfl; exact rfl; exact rfl; exact rfl; exact encI_ok; exact rfl; exact rfl; (exact extA); (first | omega | (simp; omega) | (simp at *; omega)); intro gb w' hO hge hx)
    | (show WL _ _ _ _ _ _ _; first | apply WL.nil | (refine WL.au (k := ?_)))
    | (show Z _ _ _ _ _; apply Z.then_normal)
    | (show W _ _ _ _ _ _; first | apply W.seq | apply W.region | apply W.block))
  have en : ((n.length : Int) + 1).toNat = n.length + 1 := by omega
  rw [en] at hO ⊢
  obtain ⟨g0, rfl⟩ : ∃ x, x = gb := ⟨_, rfl⟩
  have e0 : List.replicate (n.length + 1) (0 : Int) = useTo n 0 := rfl
  have e0l : (useTo n 0).length = n.length + 1 := useTo_len n 0 (by omega)
  rw [e0] at hO ⊢
  refine W.loopW n.length (fun k w' => k ≤ n.length ∧ Ext w w' ∧ Own 1 encI 3 w.heap.size w' (some ⟨g0, 0, none⟩) (n.length + 1) (useTo n k))
    (fun k => [(0, .slice a n.length cap), (1, .slice b outs.length cb), (5, .slice (some ⟨g0, 0, none⟩) (n.length + 1) (n.length + 1)), (6, .int .i64 k)]) ⟨by omega, hx, hO⟩ (fun k w' h => h.1) (by repeat' first | exact trivial | (refine And.intro ?_ ?_) | exact rfl | (rw [e0l]; exact rfl)) ?_
  rintro k w' ⟨hk', hx', hO'⟩
  have hg0 := (hO'.blk_lt g0 rfl).2
  have hfl := useTo_len n k hk'
  by_cases hlt : k < n.length
  · obtain ⟨x, hxn⟩ := getI n hlt
    have hs := useTo_succ hxn
    by_cases h0 : 0 ≤ x.1
    · have hgt := hg.gate hxn h0
      obtain ⟨z1, hz1⟩ := getI (useTo n k) (show (x.1 / 2).toNat < _ by omega)
      have hl1 : ((useTo n k).set (x.1 / 2).toNat (z1 + 1)).length = n.length + 1 := by rw [List.length_set]; exact hfl
      obtain ⟨z2, hz2⟩ := getI ((useTo n k).set (x.1 / 2).toNat (z1 + 1)) (show (x.2 / 2).toNat < _ by omega)
      have b1 := useTo_le n k hk' (x.1 / 2).toNat
      have b2 := bumpA_le (useTo_le n k hk') x.1 (d := 1) (by omega) (x.2 / 2).toNat
      rw [useN, if_pos h0] at hs
      rw [← bumpA_eq hz1] at hs b2
      rw [← bumpA_eq hz2] at hs
      rw [getD_of hz1] at b1
      rw [getD_of hz2] at b2
      repeat' (first
        | (apply W.condKT; exact rfl; (focus (first | exact dec_true (by omega); done)))
        | (apply W.regionQS 17 tMix; kernel_rfl; exact rfl; kernel_rfl; kernel_rfl)
        | (apply WL.indexO tOk; exact rfl; exact rfl; exact rfl; exact rfl; exact rfl; exact rfl; exact rfl; exact rfl; assumption; (exact extA); exact encI_ok; (first | exact rfl | (focus (simp only [List.length_set]; done)) | (focus (simp; done)) | (focus (simp [*]; done)) | omega | (focus (simp only [List.length_set]; omega))); omega; assumption; intro gb ha hc; cases ha; have hcc := hc; first | (obtain ⟨h1, h2, h3, _⟩ := hc) | (obtain ⟨h1, h2, _⟩ := hc) | (obtain ⟨h1, _⟩ := hc))
        | (apply QL.indexO tOk; exact rfl; exact rfl; exact rfl; exact rfl; exact rfl; exact rfl; exact rfl; exact rfl; assumption; (exact extA); exact encI_ok; (first | exact rfl | (focus (simp only [List.length_set]; done)) | (focus (simp; done)) | (focus (simp [*]; done)) | omega | (focus (simp only [List.length_set]; omega))); omega; assumption; intro gb ha hc; cases ha; have hcc := hc; first | (obtain ⟨h1, h2, h3, _⟩ := hc) | (obtain ⟨h1, h2, _⟩ := hc) | (obtain ⟨h1, _⟩ := hc))
        | (apply WL.storeO tOk; exact rfl; exact rfl; exact rfl; exact rfl; assumption; (exact extA); exact rfl; exact rfl; exact rfl; exact encI_ok; assumption; exact rfl; (exact extA); intro w' hO hX' hU)
        | (show WL _ _ _ _ _ _ _; first | apply WL.nil | (refine WL.au (k := ?_)) | (apply WL.index tOk; exact rfl; exact rfl; exact rfl; exact rfl; exact rfl; exact rfl; exact rfl; exact rfl; assumption; (exact extA); exact rfl; omega; assumption; intro b off h; have hcc := h; first | (obtain ⟨h1, h2, h3, h4, h5, h6, _⟩ := h) | (obtain ⟨h1, h2, h3, _⟩ := h) | (obtain ⟨h1, h2, _⟩ := h) | (obtain ⟨h1, _⟩ := h)))
        | (show QL _ _ _ _ _ _ _; first | apply QL.nil | (refine QL.au (k := ?_)) | (apply QL.index tOk; exact rfl; exact rfl; exact rfl; exact rfl; exact rfl; exact rfl; exact rfl; exact rfl; assumption; (exact extA); exact rfl; omega; assumption; intro b off h; have hcc := h; first | (obtain ⟨h1, h2, h3, h4, h5, h6, _⟩ := h) | (obtain ⟨h1, h2, h3, _⟩ := h) | (obtain ⟨h1, h2, _⟩ := h) | (obtain ⟨h1, _⟩ := h)))
        | (show Z _ _ _ _ _; first | apply Z.tail | apply Z.then_normal | apply Z.block_normal)
        | (show W _ _ _ _ _ _; first | apply W.seq | apply W.region | apply W.block | apply W.skip))
      rw [← hs] at hO
      exact Z.againW ⟨by omega, by assumption, hO⟩ ⟨rfl, rfl, rfl, rfl, trivial⟩
    · repeat' (first
        | (apply W.condKT; exact rfl; (focus (first | exact dec_true (by omega) | exact dec_false (by omega); done)))
        | (apply W.condKF; exact rfl; (focus (first | exact dec_true (by omega) | exact dec_false (by omega); done)))
        | (show WL _ _ _ _ _ _ _; first | apply WL.nil | (refine WL.au (k := ?_)) | (apply WL.index tOk; exact rfl; exact rfl; exact rfl; exact rfl; exact rfl; exact rfl; exact rfl; exact rfl; assumption; (exact extA); exact rfl; omega; assumption; intro b off h; have hcc := h; first | (obtain ⟨h1, h2, h3, h4, h5, h6, _⟩ := h) | (obtain ⟨h1, h2, h3, _⟩ := h) | (obtain ⟨h1, h2, _⟩ := h) | (obtain ⟨h1, _⟩ := h)))
        | (show Z _ _ _ _ _; first | apply Z.then_normal | apply Z.block_normal)
        | (show W _ _ _ _ _ _; first | apply W.seq | apply W.region | apply W.block | apply W.skip))
      exact Z.againW ⟨by omega, by assumption, by rw [hs, useN, if_neg h0]; exact hO'⟩ ⟨rfl, rfl, rfl, rfl, trivial⟩
  repeat' (first
    | (apply W.condKF; exact rfl; (focus (exact dec_false (by omega); done)))
    | (show WL _ _ _ _ _ _ _; first | apply WL.nil | (refine WL.au (k := ?_)))
    | (show Z _ _ _ _ _; first | apply Z.then_normal | apply Z.then_exit | apply Z.block_exit)
    | (show W _ _ _ _ _ _; first | apply W.seq | apply W.region | apply W.block | apply W.exit))
  obtain rfl : k = n.length := by omega
  rw [← useO_zero n outs] at hO'
  refine W.loopW outs.length (fun k w' => k ≤ outs.length ∧ Ext w w' ∧ Own 1 encI 3 w.heap.size w' (some ⟨g0, 0, none⟩) (n.length + 1) (useO n outs k))
    (fun k => [(1, .slice b outs.length cb), (5, .slice (some ⟨g0, 0, none⟩) (n.length + 1) (n.length + 1)), (7, .int .i64 k)]) ⟨by omega, hx', hO'⟩ (fun k w' h => h.1) ⟨rfl, rfl, rfl, trivial⟩ ?_
  clear hx' hO'
  rintro k w' ⟨hk', hx', hO'⟩
  have hfl := useO_len n outs k hk'
  by_cases hlt : k < outs.length
  · obtain ⟨x, hxn⟩ := getI outs hlt
    have hs := useO_succ (n := n) hxn
    have hb := hk x (List.mem_of_getElem? hxn)
    obtain ⟨z1, hz1⟩ := getI (useO n outs k) (show (x / 2).toNat < _ by omega)
    have b1 := useO_le n outs k hk' (x / 2).toNat
    rw [getD_of hz1] at b1
    rw [← bumpA_eq hz1] at hs
    repeat' (first
      | (apply W.condKT; exact rfl; (focus (first | exact dec_true (by omega); done)))
      | (apply W.regionQS 15 tMix; kernel_rfl; exact rfl; kernel_rfl; kernel_rfl)
      | (apply WL.indexO tOk; exact rfl; exact rfl; exact rfl; exact rfl; exact rfl; exact rfl; exact rfl; exact rfl; assumption; (exact extA); exact encI_ok; (first | exact rfl | (focus (simp only [List.length_set]; done)) | (focus (simp; done)) | (focus (simp [*]; done)) | omega | (focus (simp only [List.length_set]; omega))); omega; assumption; intro gb ha hc; cases ha; have hcc := hc; first | (obtain ⟨h1, h2, h3, _⟩ := hc) | (obtain ⟨h1, h2, _⟩ := hc) | (obtain ⟨h1, _⟩ := hc))
      | (apply QL.indexO tOk; exact rfl; exact rfl; exact rfl; exact rfl; exact rfl; exact rfl; exact rfl; exact rfl; assumption; (exact extA); exact encI_ok; (first | exact rfl | (focus (simp only [List.length_set]; done)) | (focus (simp; done)) | (focus (simp [*]; done)) | omega | (focus (simp only [List.length_set]; omega))); omega; assumption; intro gb ha hc; cases ha; have hcc := hc; first | (obtain ⟨h1, h2, h3, _⟩ := hc) | (obtain ⟨h1, h2, _⟩ := hc) | (obtain ⟨h1, _⟩ := hc))
      | (apply WL.storeO tOk; exact rfl; exact rfl; exact rfl; exact rfl; assumption; (exact extA); exact rfl; exact rfl; exact rfl; exact encI_ok; assumption; exact rfl; (exact extA); intro w' hO hX' hU)
      | (show WL _ _ _ _ _ _ _; first | apply WL.nil | (refine WL.au (k := ?_)))
      | (show QL _ _ _ _ _ _ _; first | apply QL.nil | (refine QL.au (k := ?_)) | (apply QL.index tOk; exact rfl; exact rfl; exact rfl; exact rfl; exact rfl; exact rfl; exact rfl; exact rfl; assumption; (exact extA); exact rfl; omega; assumption; intro b off h; have hcc := h; first | (obtain ⟨h1, h2, h3, h4, h5, h6, _⟩ := h) | (obtain ⟨h1, h2, h3, _⟩ := h) | (obtain ⟨h1, h2, _⟩ := h) | (obtain ⟨h1, _⟩ := h)))
      | (show Z _ _ _ _ _; first | apply Z.tail | apply Z.then_normal | apply Z.block_normal)
      | (show W _ _ _ _ _ _; first | apply W.seq | apply W.region | apply W.block | apply W.skip))
    rw [← hs] at hO
    exact Z.againW ⟨by omega, by assumption, hO⟩ ⟨rfl, rfl, rfl, trivial⟩
  repeat' (first
    | (apply W.condKF; exact rfl; (focus (exact dec_false (by omega); done)))
    | (show WL _ _ _ _ _ _ _; first | apply WL.nil | (refine WL.au (k := ?_)))
    | (show Z _ _ _ _ _; first | apply Z.then_normal | apply Z.then_exit | apply Z.block_exit)
    | (show W _ _ _ _ _ _; first | apply W.seq | apply W.region | apply W.ret | apply W.exit))
  obtain rfl : k = outs.length := by omega
  have e9 : useO n outs outs.length = usesV n outs := rfl
  rw [e9] at hO' hfl
  exact Z.body1 Try.results48 rfl fun m => ⟨hx'.at m, some ⟨g0, 0, none⟩, n.length + 1, by rw [hfl], hO'⟩
end Go.Proofs.Ythpnahapiodflaa
namespace Go.Proofs.Ythpnahapiodflaa
open Go Go.Lt Go.RowKit
set_option linter.unusedVariables false
set_option linter.unusedSimpArgs false
set_option maxRecDepth 20000

theorem bumpA_get {L : List Int} {l d : Int} {u : Nat} (hu : u < L.length) : (bumpA L l d).getD u 0 = L.getD u 0 + (if (l / 2).toNat = u then d else 0) := by
  unfold bumpA
  rw [List.getD, List.getElem?_set]
  by_cases h : (l / 2).toNat = u
  · subst h
    rw [if_pos rfl, if_pos rfl, if_pos hu, Option.getD_some]
  · rw [if_neg h, if_neg h, List.getD]; omega
theorem useTo_get {n : List (Int × Int)} {i : Nat} {x : Int × Int} (h : n[i]? = some x) {u : Nat} (hu : u ≤ n.length) :
    (useTo n (i + 1)).getD u 0 = (useTo n i).getD u 0 + (if 0 ≤ x.1 then (if (x.1 / 2).toNat = u then 1 else 0) + (if (x.2 / 2).toNat = u then 1 else 0) else 0) := by
  have hi := lt_of_get h
  have hl := useTo_len n i (by omega)
  rw [useTo_succ h, useN]
  split
  · rw [bumpA_get (by rw [bumpA_len]; omega), bumpA_get (by omega)]; omega
  · omega
theorem useTo_mono (n : List (Int × Int)) {u : Nat} (hu : u ≤ n.length) (i : Nat) : ∀ j, i ≤ j → j ≤ n.length → (useTo n i).getD u 0 ≤ (useTo n j).getD u 0 := by
  intro j hij hj
  induction j with
  | zero => obtain rfl : i = 0 := by omega
            exact Int.le_refl _
  | succ j ih =>
    by_cases he : i = j + 1
    · subst he; exact Int.le_refl _
    · obtain ⟨x, hx⟩ := getI n (show j < n.length by omega)
      have := ih (by omega) (by omega)
      rw [useTo_get hx hu]
      split
      · split <;> split <;> omega
      · omega
theorem uses_ge (n : List (Int × Int)) (outs : List Int) {u : Nat} (hu : u ≤ n.length) : ∀ k, k ≤ outs.length → (useTo n n.length).getD u 0 ≤ (useO n outs k).getD u 0
  | 0, _ => Int.le_refl _
  | k + 1, h => by
    obtain ⟨x, hx⟩ := getI outs (show k < outs.length by omega)
    have ih := uses_ge n outs hu k (by omega)
    rw [useO_succ hx, bumpA_get (by rw [useO_len n outs k (by omega)]; omega)]
    split <;> omega
/-- A gate's pin that stands at a variable. -/
def pinN (x : Int × Int) (p : Bool) : Int := bif p then x.2 else x.1
def EdgeN (n : List (Int × Int)) (i : Nat) (p : Bool) (u : Nat) : Prop := ∃ x, n[i]? = some x ∧ 0 ≤ x.1 ∧ (pinN x p / 2).toNat = u
theorem edge_one {n : List (Int × Int)} {i : Nat} {p : Bool} {u : Nat} (hu : u ≤ n.length) (h : EdgeN n i p u) : (useTo n i).getD u 0 + 1 ≤ (useTo n (i + 1)).getD u 0 := by
  obtain ⟨x, hx, h0, he⟩ := h
  rw [useTo_get hx hu, if_pos h0]
  cases p
  · have he' : (x.1 / 2).toNat = u := he
    rw [if_pos he']; split <;> omega
  · have he' : (x.2 / 2).toNat = u := he
    rw [if_pos he']; split <;> omega
theorem edge_uniq {n : List (Int × Int)} {outs : List Int} {u : Nat} (hu : u ≤ n.length) (h1 : (usesV n outs).getD u 0 = 1) {i j : Nat} {p q : Bool} (ha : EdgeN n i p u) (hb : EdgeN n j q u) : i = j ∧ p = q := by
  have hU := uses_ge n outs hu outs.length (Nat.le_refl _)
  have hU' : (useTo n n.length).getD u 0 ≤ 1 := by rw [← h1]; exact hU
  have key : ∀ {i j : Nat} {p q : Bool}, EdgeN n i p u → EdgeN n j q u → ¬ i < j := by
    intro i j p q ha hb hlt
    have hj : j < n.length := by obtain ⟨x, hx, _⟩ := hb; exact lt_of_get hx
    have a1 := edge_one hu ha
    have b1 := edge_one hu hb
    have m1 := useTo_mono n hu (i + 1) j (by omega) (by omega)
    have m2 := useTo_mono n hu (j + 1) n.length (by omega) (by omega)
    have m0 := (useTo_le n i (by omega) u).1
    omega
  have hij : i = j := by have := key ha hb; have := key hb ha; omega
  subst hij
  refine ⟨rfl, ?_⟩
  obtain ⟨x, hx, h0, he⟩ := ha
  obtain ⟨y, hy, _, he2⟩ := hb
  rw [hx] at hy; cases hy
  have hi := lt_of_get hx
  have m2 := useTo_mono n hu (i + 1) n.length (by omega) (by omega)
  have m0 := (useTo_le n i (by omega) u).1
  have hg := useTo_get hx hu
  rw [if_pos h0] at hg
  cases p <;> cases q
  · rfl
  · have e1 : (x.1 / 2).toNat = u := he
    have e2 : (x.2 / 2).toNat = u := he2
    rw [if_pos e1, if_pos e2] at hg; omega
  · have e1 : (x.2 / 2).toNat = u := he
    have e2 : (x.1 / 2).toNat = u := he2
    rw [if_pos e1, if_pos e2] at hg; omega
  · rfl

/-- A variable is a gate. -/
def gateN (n : List (Int × Int)) (v : Int) : Prop := 0 < v ∧ v ≤ n.length ∧ 0 ≤ (n.getD (v - 1).toNat (0, 0)).1
/-- A literal leads on to a gate that is used by this gate alone. -/
def innN (n : List (Int × Int)) (U : List Int) (x : Int) : Prop := x % 2 = 0 ∧ gateN n (x / 2) ∧ U.getD (x / 2).toNat 0 = 1
noncomputable def leafX (n : List (Int × Int)) (U : List Int) (g : Int → List Int) (x : Int) : List Int := bif dec (innN n U x) then g (x / 2) else [x]
noncomputable def leafF (n : List (Int × Int)) (U : List Int) : Nat → Int → List Int
  | 0, _ => []
  | f + 1, v => bif dec (gateN n v) then leafX n U (leafF n U f) (n.getD (v - 1).toNat (0, 0)).1 ++ leafX n U (leafF n U f) (n.getD (v - 1).toNat (0, 0)).2 else []
/-- The gates of which it is made. -/
noncomputable def treeX (n : List (Int × Int)) (U : List Int) (g : Int → List Nat) (x : Int) : List Nat := bif dec (innN n U x) then g (x / 2) else []
noncomputable def treeF (n : List (Int × Int)) (U : List Int) : Nat → Int → List Nat
  | 0, _ => []
  | f + 1, v => bif dec (gateN n v) then v.toNat :: (treeX n U (treeF n U f) (n.getD (v - 1).toNat (0, 0)).1 ++ treeX n U (treeF n U f) (n.getD (v - 1).toNat (0, 0)).2) else []
theorem leaf_tree (n : List (Int × Int)) (U : List Int) : ∀ f v, (leafF n U f v).length ≤ (treeF n U f v).length + 1
  | 0, _ => by simp [leafF]
  | f + 1, v => by
    have key : ∀ x, (leafX n U (leafF n U f) x).length ≤ (treeX n U (treeF n U f) x).length + 1 := by
      intro x
      unfold leafX treeX
      cases dec (innN n U x)
      · simp
      · exact leaf_tree n U f _
    have k1 := key (n.getD (v - 1).toNat (0, 0)).1
    have k2 := key (n.getD (v - 1).toNat (0, 0)).2
    rw [leafF, treeF]
    cases dec (gateN n v)
    · simp
    · simp only [cond_true, List.length_append, List.length_cons]; omega
theorem gate_at {n : List (Int × Int)} {v : Int} (h : gateN n v) : ∃ (i : Nat) (x : Int × Int), v = (i : Int) + 1 ∧ n[i]? = some x ∧ 0 ≤ x.1 ∧ n.getD (v - 1).toNat (0, 0) = x := by
  obtain ⟨h1, h2, h3⟩ := h
  obtain ⟨x, hx⟩ := getI n (show (v - 1).toNat < n.length by omega)
  have e := getD_of (d := ((0 : Int), (0 : Int))) hx
  exact ⟨(v - 1).toNat, x, by omega, hx, by rw [e] at h3; exact h3, e⟩
theorem treeF_zero {n : List (Int × Int)} {U : List Int} {f : Nat} {v : Int} (h : ¬ gateN n v) : treeF n U f v = [] := by
  cases f with
  | zero => rfl
  | succ f => rw [treeF, dec_false h]; rfl
/-- What lies in the tree: gates, none above, each the first one or below another one's pin. -/
theorem tree_mem {n : List (Int × Int)} {U : List Int} (hg : GoodNet n) : ∀ f v u, u ∈ treeF n U f v → (1 ≤ u ∧ (u : Int) ≤ v ∧ u ≤ n.length) ∧ ((u : Int) = v ∨ (U.getD u 0 = 1 ∧ ∃ i p, i + 1 ∈ treeF n U f v ∧ EdgeN n i p u))
  | 0, _, u, h => by simp [treeF] at h
  | f + 1, v, u, h => by
    by_cases hgt : gateN n v
    · obtain ⟨i, x, rfl, hx, h0, hd⟩ := gate_at hgt
      have hgg := hg.gate hx h0
      have hi := lt_of_get hx
      have ht : treeF n U (f + 1) ((i : Int) + 1) = (i + 1) :: (treeX n U (treeF n U f) x.1 ++ treeX n U (treeF n U f) x.2) := by
        rw [treeF, dec_true hgt, hd]; rfl
      rw [ht] at h ⊢
      have key : ∀ (p : Bool), u ∈ treeX n U (treeF n U f) (pinN x p) → (∀ z, z ∈ treeX n U (treeF n U f) (pinN x p) → z ∈ treeX n U (treeF n U f) x.1 ++ treeX n U (treeF n U f) x.2) →
          (1 ≤ u ∧ (u : Int) ≤ (i : Int) + 1 ∧ u ≤ n.length) ∧ ((u : Int) = (i : Int) + 1 ∨ (U.getD u 0 = 1 ∧ ∃ j q, j + 1 ∈ (i + 1) :: (treeX n U (treeF n U f) x.1 ++ treeX n U (treeF n U f) x.2) ∧ EdgeN n j q u)) := by
        intro p hp hsub
        have hle : pinN x p / 2 ≤ (i : Int) := by cases p <;> simp only [pinN, cond_true, cond_false] <;> omega
        unfold treeX at hp hsub
        by_cases hin : innN n U (pinN x p)
        · rw [dec_true hin] at hp hsub
          obtain ⟨⟨a1, a2, a3⟩, a4⟩ := tree_mem hg f _ u hp
          refine ⟨⟨a1, by omega, a3⟩, .inr ?_⟩
          rcases a4 with a4 | ⟨a5, j, q, a6, a7⟩
          · refine ⟨by rw [show u = (pinN x p / 2).toNat by omega]; exact hin.2.2, i, p, by simp, x, hx, h0, by omega⟩
          · exact ⟨a5, j, q, List.mem_cons_of_mem _ (hsub _ a6), a7⟩
        · rw [dec_false hin] at hp; simp at hp
      rcases List.mem_cons.1 h with h | h
      · subst h; exact ⟨⟨by omega, by omega, by omega⟩, .inl (by omega)⟩
      · rcases List.mem_append.1 h with h | h
        · exact key false h (fun z hz => List.mem_append_left _ hz)
        · exact key true h (fun z hz => List.mem_append_right _ hz)
    · rw [treeF_zero hgt] at h; simp at h
theorem tree_apart {n : List (Int × Int)} {outs : List Int} (hg : GoodNet n) {i : Nat} {x : Int × Int} (hx : n[i]? = some x) (h0 : 0 ≤ x.1) (h1 : innN n (usesV n outs) x.1) (h2 : innN n (usesV n outs) x.2) (f : Nat) :
    ∀ d u, n.length + 1 - u ≤ d → u ∈ treeF n (usesV n outs) f (x.1 / 2) → u ∈ treeF n (usesV n outs) f (x.2 / 2) → False := by
  have hgg := hg.gate hx h0
  have hi := lt_of_get hx
  intro d
  induction d with
  | zero =>
    intro u hd ha _
    have := (tree_mem hg f _ u ha).1
    omega
  | succ d ih =>
    intro u hd ha hb
    obtain ⟨⟨a1, a2, a3⟩, a4⟩ := tree_mem hg f _ u ha
    obtain ⟨⟨b1, b2, b3⟩, b4⟩ := tree_mem hg f _ u hb
    rcases a4 with a4 | ⟨a5, j, q, a6, a7⟩
    · have hu1 : (usesV n outs).getD u 0 = 1 := by rw [show u = (x.1 / 2).toNat by omega]; exact h1.2.2
      have e1 : EdgeN n i false u := ⟨x, hx, h0, by show (x.1 / 2).toNat = u; omega⟩
      rcases b4 with b4 | ⟨b5, k, r, b6, b7⟩
      · exact absurd (edge_uniq a3 hu1 e1 ⟨x, hx, h0, show (pinN x true / 2).toNat = u by show (x.2 / 2).toNat = u; omega⟩).2 (by decide)
      · have := (edge_uniq a3 hu1 e1 b7).1
        have := (tree_mem hg f _ _ b6).1.2.1
        omega
    · rcases b4 with b4 | ⟨b5, k, r, b6, b7⟩
      · have := (edge_uniq a3 a5 a7 ⟨x, hx, h0, show (pinN x true / 2).toNat = u by show (x.2 / 2).toNat = u; omega⟩).1
        have := (tree_mem hg f _ _ a6).1.2.1
        omega
      · obtain ⟨rfl, _⟩ := edge_uniq a3 a5 a7 b7
        obtain ⟨y, hy, hy0, hyu⟩ := a7
        have hyg := hg.gate hy hy0
        have : pinN y q / 2 ≤ (j : Int) := by cases q <;> simp only [pinN, cond_true, cond_false] <;> omega
        exact ih (j + 1) (by omega) a6 b6
theorem countP_two {α : Type} {A B C : α → Bool} (hd : ∀ u, A u = true → B u = true → False) (ha : ∀ u, A u = true → C u = true) (hb : ∀ u, B u = true → C u = true) : ∀ l : List α, l.countP A + l.countP B ≤ l.countP C
  | [] => by simp
  | z :: l => by
    have ih := countP_two hd ha hb l
    rw [List.countP_cons, List.countP_cons, List.countP_cons]
    have h1 := hd z
    have h2 := ha z
    have h3 := hb z
    cases hA : A z <;> cases hB : B z
    · simp; split <;> omega
    · simp [h3 hB]; omega
    · simp [h2 hA]; omega
    · exact (h1 hA hB).elim
theorem tree_len {n : List (Int × Int)} {outs : List Int} (hg : GoodNet n) : ∀ f v, (treeF n (usesV n outs) f v).length ≤ (List.range (n.length + 1)).countP (fun u => decide (u ∈ treeF n (usesV n outs) f v))
  | 0, _ => by simp [treeF]
  | f + 1, v => by
    by_cases hgt : gateN n v
    · obtain ⟨i, x, rfl, hx, h0, hd⟩ := gate_at hgt
      have hgg := hg.gate hx h0
      have hi := lt_of_get hx
      have ht : treeF n (usesV n outs) (f + 1) ((i : Int) + 1) = (i + 1) :: (treeX n (usesV n outs) (treeF n (usesV n outs) f) x.1 ++ treeX n (usesV n outs) (treeF n (usesV n outs) f) x.2) := by
        rw [treeF, dec_true hgt, hd]; rfl
      have kl : ∀ y, (treeX n (usesV n outs) (treeF n (usesV n outs) f) y).length ≤ (List.range (n.length + 1)).countP (fun u => decide (u ∈ treeX n (usesV n outs) (treeF n (usesV n outs) f) y)) := by
        intro y
        unfold treeX
        cases dec (innN n (usesV n outs) y)
        · simp
        · exact tree_len hg f _
      have km : ∀ y u, y / 2 ≤ (i : Int) → u ∈ treeX n (usesV n outs) (treeF n (usesV n outs) f) y → innN n (usesV n outs) y ∧ u ∈ treeF n (usesV n outs) f (y / 2) ∧ u ≤ i := by
        intro y u hy hu
        unfold treeX at hu
        by_cases hin : innN n (usesV n outs) y
        · rw [dec_true hin] at hu
          have := (tree_mem hg f _ u hu).1
          exact ⟨hin, hu, by omega⟩
        · rw [dec_false hin] at hu; simp at hu
      rw [ht]
      have c1 : (List.range (n.length + 1)).countP (fun u => decide (u ∈ treeX n (usesV n outs) (treeF n (usesV n outs) f) x.1)) + (List.range (n.length + 1)).countP (fun u => decide (u ∈ treeX n (usesV n outs) (treeF n (usesV n outs) f) x.2)) ≤
          (List.range (n.length + 1)).countP (fun u => decide (u ∈ treeX n (usesV n outs) (treeF n (usesV n outs) f) x.1 ++ treeX n (usesV n outs) (treeF n (usesV n outs) f) x.2)) := by
        refine countP_two (fun u ha hb => ?_) (fun u h => ?_) (fun u h => ?_) _
        · obtain ⟨i1, m1, _⟩ := km x.1 u (by omega) (of_decide_eq_true ha)
          obtain ⟨i2, m2, _⟩ := km x.2 u (by omega) (of_decide_eq_true hb)
          exact tree_apart hg hx h0 i1 i2 f _ u (Nat.le_refl _) m1 m2
        · exact decide_eq_true (List.mem_append_left _ (of_decide_eq_true h))
        · exact decide_eq_true (List.mem_append_right _ (of_decide_eq_true h))
      have c2 : (List.range (n.length + 1)).countP (fun u => decide (u = i + 1)) + (List.range (n.length + 1)).countP (fun u => decide (u ∈ treeX n (usesV n outs) (treeF n (usesV n outs) f) x.1 ++ treeX n (usesV n outs) (treeF n (usesV n outs) f) x.2)) ≤
          (List.range (n.length + 1)).countP (fun u => decide (u ∈ (i + 1) :: (treeX n (usesV n outs) (treeF n (usesV n outs) f) x.1 ++ treeX n (usesV n outs) (treeF n (usesV n outs) f) x.2))) := by
        refine countP_two (fun u ha hb => ?_) (fun u h => ?_) (fun u h => ?_) _
        · have e := of_decide_eq_true ha
          subst e
          rcases List.mem_append.1 (of_decide_eq_true hb) with h | h
          · have := (km x.1 _ (by omega) h).2.2; omega
          · have := (km x.2 _ (by omega) h).2.2; omega
        · exact decide_eq_true (by rw [of_decide_eq_true h]; simp)
        · exact decide_eq_true (List.mem_cons_of_mem _ (of_decide_eq_true h))
      have c3 : 0 < (List.range (n.length + 1)).countP (fun u => decide (u = i + 1)) := List.countP_pos_iff.2 ⟨i + 1, List.mem_range.2 (by omega), decide_eq_true rfl⟩
      have l1 := kl x.1
      have l2 := kl x.2
      simp only [List.length_cons, List.length_append]
      omega
    · rw [treeF_zero hgt]; simp
theorem leaf_len {n : List (Int × Int)} {outs : List Int} (hg : GoodNet n) (f : Nat) (v : Int) : (leafF n (usesV n outs) f v).length ≤ n.length + 1 := by
  have h1 := leaf_tree n (usesV n outs) f v
  have h2 := tree_len (outs := outs) hg f v
  have h3 : (List.range (n.length + 1)).countP (fun u => decide (u ∈ treeF n (usesV n outs) f v)) ≤ n.length := by
    rw [List.range_succ_eq_map, List.countP_cons, if_neg (by
      intro h
      have := (tree_mem hg f v 0 (of_decide_eq_true h)).1.1
      omega)]
    refine Nat.le_trans (Nat.add_le_add_right List.countP_le_length _) ?_
    simp
  omega
end Go.Proofs.Ythpnahapiodflaa
namespace Go.Proofs.Ythpnahapiodflaa
open Go Go.Lt Go.RowKit
set_option linter.unusedVariables false
set_option linter.unusedSimpArgs false
set_option maxRecDepth 20000

set_option maxHeartbeats 2000000 in
theorem balance_gate (a : Option Addr) (cap : Nat) (n : List (Int × Int)) (v : Int) (w : World) (R : Row 2 encN w a n) : Still Try.prog 144 [.slice a n.length cap, .int .i64 v] w (.bool (dec (gateN n v))) := by
  have hl := R.len
  by_cases q1 : 0 < v
  · by_cases q2 : v ≤ n.length
    · obtain ⟨x, hx⟩ := getI n (show (v - 1).toNat < n.length by omega)
      have e : dec (gateN n v) = dec (0 ≤ x.1) := dec_congr ⟨fun h => by have := h.2.2; rw [getD_of hx] at this; exact this, fun h => ⟨q1, q2, by rw [getD_of hx]; exact h⟩⟩
      refine Spec.of _ Try.func144 rfl Try.ntmps144 (by kernel_rfl) rfl ?_
      repeat' (first
        | (apply WL.gT; exact rfl; exact rfl; (focus (first | omega | exact dec_true (by omega); done)))
        | (show WL _ _ _ _ _ _ _; first | apply WL.nil | (refine WL.au (k := ?_)) | (apply WL.index tOk; exact rfl; exact rfl; exact rfl; exact rfl; exact rfl; exact rfl; exact rfl; exact rfl; assumption; (exact extA); exact rfl; omega; assumption; intro b off h; have hcc := h; first | (obtain ⟨h1, h2, h3, h4, h5, h6, _⟩ := h) | (obtain ⟨h1, h2, h3, _⟩ := h) | (obtain ⟨h1, h2, _⟩ := h) | (obtain ⟨h1, _⟩ := h)))
        | (show Z _ _ _ _ _; apply Z.then_normal)
        | (show W _ _ _ _ _ _; first | apply W.seq | apply W.region | apply W.ret))
      exact Z.body1 Try.results144 rfl fun m => ⟨by rw [e], m, rfl⟩
    · have e : dec (gateN n v) = false := dec_false fun h => q2 h.2.1
      refine Spec.of _ Try.func144 rfl Try.ntmps144 (by kernel_rfl) rfl ?_
      repeat' (first
        | (apply WL.gT; exact rfl; exact rfl; (focus (first | omega | exact dec_true (by omega) | exact dec_false (by omega); done)))
        | (apply WL.gF; exact rfl; exact rfl; (focus (first | omega | exact dec_true (by omega) | exact dec_false (by omega); done)))
        | (show WL _ _ _ _ _ _ _; first | apply WL.nil | (refine WL.au (k := ?_)) | (apply WL.guardF; exact rfl; exact rfl))
        | (show Z _ _ _ _ _; apply Z.then_normal)
        | (show W _ _ _ _ _ _; first | apply W.seq | apply W.region | apply W.ret))
      exact Z.body1 Try.results144 rfl fun m => ⟨by rw [e], m, rfl⟩
  · have e : dec (gateN n v) = false := dec_false fun h => q1 h.1
    refine Spec.of _ Try.func144 rfl Try.ntmps144 (by kernel_rfl) rfl ?_
    repeat' (first
      | (apply WL.gF; exact rfl; exact rfl; (focus (first | exact dec_false (by omega); done)))
      | (show WL _ _ _ _ _ _ _; first | apply WL.nil | (refine WL.au (k := ?_)) | (apply WL.guardF; exact rfl; exact rfl))
      | (show Z _ _ _ _ _; apply Z.then_normal)
      | (show W _ _ _ _ _ _; first | apply W.seq | apply W.region | apply W.ret))
    exact Z.body1 Try.results144 rfl fun m => ⟨by rw [e], m, rfl⟩
end Go.Proofs.Ythpnahapiodflaa
namespace Go.Lt
open Go.ChangeShapes Go.WideShapes Go.ChangeAt Go.RowKit Go.Deep
set_option linter.unusedVariables false

/-- What reads by this type takes the cells of an element. -/
def Reads (P : Program) (e : TypeId) {α : Type} (enc : α → List Value) (ok : World → α → Prop) : Prop :=
  ∀ {H : Type} (en : TypeId × Value → H) (w : World) (base : Nat) (spare : Nat → Bool) (held : Bool) (fuel : Nat) (cs : List Value) (x : DataW H × List MemPlace), DataW.trod en P w base spare held fuel e cs = some x → ∃ a : α, cs = enc a ∧ ok w a

theorem reads_int {P : Program} {e : TypeId} {k : IntKind} (ht : P.underlying e = some (.int k)) : Reads P e (fun n : Int => [.int k n]) (fun _ n => (Lit.int k n).wf = true) := by
  intro H en w base spare held fuel cs x h
  obtain ⟨n, h1, _, h2⟩ := DataW.trod_int ht h
  exact ⟨n, h1, h2⟩
/-- A struct of fields: the first one, and all others as if a struct of their own. -/
theorem reads_pair' {P : Program} {e : TypeId} {f0 f1 : Field} {α β : Type} {ea : α → List Value} {eb : β → List Value} {oka : World → α → Prop} {okb : World → β → Prop} {s0 s1 : Nat}
    (ht : P.underlying e = some (.struct #[f0, f1])) (ra : Reads P f0.type ea oka) (rb : Reads P f1.type eb okb)
    (c : P.cellsOf e = s0 + s1) (o0 : f0.offset = 0) (o1 : f1.offset = s0) (c0 : P.cellsOf f0.type = s0) (c1 : P.cellsOf f1.type = s1) : Reads P e (fun x : α × β => ea x.1 ++ eb x.2) (fun w x => oka w x.1 ∧ okb w x.2) := by
  intro H en w base spare held fuel cs x h
  obtain ⟨xs, n, _, _, hl, hxl, hf⟩ := DataW.trod_struct ht h
  rw [c] at hl
  match xs, hxl with
  | [y0, y1], _ =>
    have h0 := hf 0 f0 rfl
    have h1 := hf 1 f1 rfl
    rw [o0, c0] at h0
    rw [o1, c1] at h1
    simp only [List.drop_zero, List.getElem?_cons_zero] at h0
    simp only [List.getElem?_cons_succ, List.getElem?_cons_zero] at h1
    obtain ⟨a, ha, oa⟩ := ra en w base spare held n _ _ h0
    obtain ⟨b, hb, ob⟩ := rb en w base spare held n _ _ h1
    refine ⟨(a, b), ?_, oa, ob⟩
    show cs = ea a ++ eb b
    rw [← ha, ← hb, List.take_of_length_le (l := cs.drop s0) (by rw [List.length_drop]; omega), List.take_append_drop]
/-- A slice of what reads. -/
theorem reads_row {P : Program} {α : Type} {s : Nat} {enc : α → List Value} {ok : World → α → Prop} {t e : TypeId} (hR : Reads P e enc ok) (hc : P.cellsOf e = s) (ht : P.underlying t = some (.slice e)) (hs : ∀ x, (enc x).length = s) (hpos : 0 < s) :
    Reads P t (fun r : Option Addr × Nat × List α => [.slice r.1 r.2.2.length r.2.1]) (fun w r => Row s enc w r.1 r.2.2 ∧ r.2.2.length ≤ r.2.1 ∧ r.2.1 ≤ maxLen ∧ (r.1 = none → r.2.1 = 0) ∧ ∀ x ∈ r.2.2, ok w x) := by
  intro H en w base spare held fuel cs xx hf
  rcases open_slice ht hf with ⟨hcs, _⟩ | ⟨a, len0, cap0, m, n, D, Pl, hcs, _, hl, hm, hmm, _, hx⟩
  · exact ⟨(none, 0, []), hcs, Row.nil _ _ _ _, Nat.le_refl _, Nat.zero_le _, fun _ => rfl, fun _ h => by cases h⟩
  · have hlm : len0 ≤ m := by rw [hmm]; split <;> omega
    have each : ∀ i, i < len0 → ∃ z : α, (∀ j u, (enc z)[j]? = some u → w.cell? ((a.add (i * s)).add j) = some u) ∧ ok w z := by
      intro i hi
      obtain ⟨cs', h1, h2⟩ := hx i (by omega)
      rw [hc] at h1
      obtain ⟨_, hlen, hcell⟩ := World.cells?_some h1
      obtain ⟨z, rfl, hz⟩ := hR en w base spare held n cs' _ h2
      exact ⟨z, fun j u hj => by rw [hcell j (by have := (List.getElem?_eq_some_iff.1 hj).1; omega), hj], hz⟩
    classical
    let Z : (i : Nat) → i < len0 → α := fun i hi => Classical.choose (each i hi)
    have hZ : ∀ i (hi : i < len0), (∀ j u, (enc (Z i hi))[j]? = some u → w.cell? ((a.add (i * s)).add j) = some u) ∧ ok w (Z i hi) := fun i hi => Classical.choose_spec (each i hi)
    let l : List α := List.ofFn (fun i : Fin len0 => Z i.1 i.2)
    have hll : l.length = len0 := by simp [l]
    refine ⟨(some a, cap0, l), by rw [hcs]; show _ = [Value.slice (some a) l.length cap0]; rw [hll], ?_, by show l.length ≤ cap0; omega, hm, fun h => (by cases h), ?_⟩
    · refine ⟨by simp only [maxLen] at hm; show l.length ≤ _; omega, fun i x hi => ?_⟩
      have hi : l[i]? = some x := hi
      have hlt : i < len0 := by have := (List.getElem?_eq_some_iff.1 hi).1; omega
      have hxz : x = Z i hlt := by
        have := (List.getElem?_eq_some_iff.1 hi).2
        simpa [l] using this.symm
      subst hxz
      obtain ⟨h1, _⟩ := hZ i hlt
      have hsp : a.spot = none := by
        have hlen := hs (Z i hlt)
        have h0 : 0 < (enc (Z i hlt)).length := by omega
        by_cases hi0 : i * s = 0
        · have := h1 0 (enc (Z i hlt))[0] (by simp [h0])
          simp only [hi0, Addr.add, if_true] at this
          exact World.cell?_spot this
        · have hz0 := hZ 0 (by omega)
          have hlen0 := hs (Z 0 (by omega))
          have h00 : 0 < (enc (Z 0 (by omega))).length := by omega
          have := hz0.1 0 (enc (Z 0 (by omega)))[0] (by simp [h00])
          simp only [Nat.zero_mul, Addr.add, if_true] at this
          exact World.cell?_spot this
      obtain ⟨b, off, spot⟩ := a
      simp only at hsp
      subst hsp
      refine ⟨b, off, rfl, cells_of fun j u hj => ?_⟩
      have := h1 j u hj
      rwa [Addr_add_none, Addr_add_none] at this
    · intro x hx'
      obtain ⟨i, hi⟩ := List.mem_iff_getElem.1 (show x ∈ l from hx')
      obtain ⟨hi1, hi2⟩ := hi
      have : x = Z i (by omega) := by rw [← hi2]; simp [l]
      rw [this]
      exact (hZ i (by omega)).2

theorem row_of {P : Program} {α : Type} {s : Nat} {enc : α → List Value} {ok : World → α → Prop} {t e : TypeId} (hR : Reads P e enc ok) (hc : P.cellsOf e = s) (ht : P.underlying t = some (.slice e)) (hs : ∀ x, (enc x).length = s) (hpos : 0 < s)
    {H : Type} {en : TypeId × Value → H} {w : World} {base : Nat} {spare : Nat → Bool} {held : Bool} {r : Reach} {b0 : Nat} {v : Value} {d : DataW H} {ps : List MemPlace} (hval : Value.okWide P w r b0 t v) (hd : DataW.Trod en P w base spare held t v d ps) :
    ∃ (a : Option Addr) (l : List α) (cap : Nat), v = .slice a l.length cap ∧ l.length ≤ cap ∧ cap ≤ maxLen ∧ (a = none → cap = 0) ∧ Row s enc w a l ∧ ∀ x ∈ l, ok w x := by
  obtain ⟨a0, len0, cap0, rfl⟩ := okWide_slice ht hval
  obtain ⟨fuel, hf⟩ := hd
  obtain ⟨⟨a, cap, l⟩, h1, h2, h3, h4, h5, h6⟩ := reads_row hR hc ht hs hpos en w base spare held fuel _ _ hf
  simp only [Value.cells, List.cons.injEq, Value.slice.injEq, and_true] at h1
  obtain ⟨rfl, rfl, rfl⟩ := h1
  exact ⟨a0, l, cap0, rfl, h3, h4, h5, h2, h6⟩

/-- A slice of slices. -/
abbrev RowV (α : Type) := Option Addr × Nat × List α
abbrev encRow {α : Type} : RowV α → List Value := fun r => [.slice r.1 r.2.2.length r.2.1]
/-- A law's walk, as the row's step wants it. -/
theorem Spec.law {P : Program} {f : FuncId} {args : List Value} {W : World} (h : Pure P f args W (.bool true)) : Calls P f args.toArray W fun e w' => e = .returned (.bool true) ∧ Below W.heap.size W w' :=
  (h.go W.drawn).mono fun _ _ ⟨v, hx, hv, hE⟩ => ⟨by rw [hx, hv], hE⟩
end Go.Lt
namespace Go.Lt
open Go.RowKit
set_option linter.unusedVariables false

structure OwnRR {α : Type} (s : Nat) (enc : α → List Value) (el elO B : Nat) (w : World) (a : Option Addr) (cap : Nat) (rs : List (RowV α)) : Prop where
  outer : Own 1 encRow elO B w a cap rs
  inner : ∀ (i : Nat) (r : RowV α), rs[i]? = some r → Own s enc el B w r.1 r.2.1 r.2.2
  apartO : ∀ (i : Nat) (r : RowV α), rs[i]? = some r → blk r.1 = none ∨ blk r.1 ≠ blk a
  apart : ∀ (i j : Nat) (r q : RowV α), rs[i]? = some r → rs[j]? = some q → i ≠ j → blk r.1 = none ∨ blk r.1 ≠ blk q.1

section
variable {α : Type} {s : Nat} {enc : α → List Value} {el elO B : Nat} {w w1 w2 : World} {a : Option Addr} {cap : Nat} {rs : List (RowV α)}
theorem OwnRR.ext (h : OwnRR s enc el elO B w a cap rs) (hx : Ext w w1) : OwnRR s enc el elO B w1 a cap rs :=
  ⟨h.outer.ext hx, fun i r hr => (h.inner i r hr).ext hx, h.apartO, h.apart⟩
theorem OwnRR.start {m : Nat} (h : Own 1 encRow elO B w a cap (List.replicate m ((none, 0, []) : RowV α))) : OwnRR s enc el elO B w a cap (List.replicate m (none, 0, [])) := by
  have hr : ∀ (i : Nat) (r : RowV α), (List.replicate m ((none, 0, []) : RowV α))[i]? = some r → r = (none, 0, []) := fun i r hr => by
    rw [List.getElem?_replicate] at hr
    split at hr
    · exact (Option.some.inj hr).symm
    · cases hr
  refine ⟨h, fun i r h => ?_, fun i r h => ?_, fun i j r q h _ _ => ?_⟩
  · rw [hr i r h]; exact Own.nil
  · rw [hr i r h]; exact .inl rfl
  · rw [hr i r h]; exact .inl rfl
/-- Another block is written. -/
theorem OwnRR.kept {B' : Nat} {c : Option Addr} (h : OwnRR s enc el elO B w a cap rs) (hU : Upd B' c w w1) (hO : blk a = none ∨ blk a ≠ blk c) (hI : ∀ (i : Nat) (r : RowV α), rs[i]? = some r → blk r.1 = none ∨ blk r.1 ≠ blk c) : OwnRR s enc el elO B w1 a cap rs :=
  ⟨hU.own h.outer hO, fun i r hr => hU.own (h.inner i r hr) (hI i r hr), h.apartO, h.apart⟩
/-- An element is appended to one of the rows, and the row is put back. -/
theorem OwnRR.step {i : Nat} {r : RowV α} {a' : Option Addr} {cap' : Nat} {l' : List α} (h : OwnRR s enc el elO B w a cap rs) (hr : rs[i]? = some r) (hU : Upd B r.1 w w1) (hF : blk a' = blk r.1 ∨ ∃ k, blk a' = some k ∧ w.heap.size ≤ k)
    (hO1 : Own s enc el B w1 a' cap' l') (hU2 : Upd B a w1 w2) (hO2 : Own 1 encRow elO B w2 a cap (rs.set i (a', cap', l'))) : OwnRR s enc el elO B w2 a cap (rs.set i (a', cap', l')) := by
  have hi := lt_of_get hr
  have hset : ∀ (j : Nat) (q : RowV α), (rs.set i (a', cap', l'))[j]? = some q → (j = i ∧ q = (a', cap', l')) ∨ (j ≠ i ∧ rs[j]? = some q) := fun j q hq => by
    rw [List.getElem?_set] at hq
    by_cases hj : i = j
    · subst hj
      rw [if_pos rfl, if_pos hi] at hq
      exact .inl ⟨rfl, (Option.some.inj hq).symm⟩
    · rw [if_neg hj] at hq
      exact .inr ⟨fun h => hj h.symm, hq⟩
  have hnewO : blk a' = none ∨ blk a' ≠ blk a := by
    rcases hF with hF | ⟨k, hk, hle⟩
    · rw [hF]; exact h.apartO i r hr
    · refine .inr fun he => ?_
      have := (h.outer.blk_lt k (he.symm.trans hk)).2
      omega
  have hnew : ∀ (j : Nat) (q : RowV α), rs[j]? = some q → j ≠ i → (blk q.1 = none ∨ blk q.1 ≠ blk a') := fun j q hq hj => by
    rcases hF with hF | ⟨k, hk, hle⟩
    · rw [hF]; exact h.apart j i q r hq hr hj
    · cases hb : blk q.1 with
      | none => exact .inl rfl
      | some b =>
        refine .inr fun he => ?_
        rw [hk] at he
        have h1 := ((h.inner j q hq).blk_lt b hb).2
        have h2 := Option.some.inj he
        omega
  refine ⟨hO2, fun j q hq => ?_, fun j q hq => ?_, fun j1 j2 q1 q2 h1 h2 hne => ?_⟩
  · rcases hset j q hq with ⟨rfl, rfl⟩ | ⟨hj, hq⟩
    · exact hU2.own hO1 hnewO
    · exact hU2.own (hU.own (h.inner j q hq) (h.apart j i q r hq hr hj)) (h.apartO j q hq)
  · rcases hset j q hq with ⟨rfl, rfl⟩ | ⟨hj, hq⟩
    · exact hnewO
    · exact h.apartO j q hq
  · rcases hset j1 q1 h1 with ⟨rfl, rfl⟩ | ⟨hj1, hq1⟩
    · rcases hset j2 q2 h2 with ⟨rfl, rfl⟩ | ⟨hj2, hq2⟩
      · exact absurd rfl hne
      · show blk a' = none ∨ blk a' ≠ blk q2.1
        cases hb : blk a' with
        | none => exact .inl rfl
        | some b =>
          refine .inr fun he => ?_
          rcases hnew j2 q2 hq2 hj2 with h3 | h3
          · rw [h3] at he; cases he
          · exact h3 (by rw [hb]; exact he.symm)
    · rcases hset j2 q2 h2 with ⟨rfl, rfl⟩ | ⟨hj2, hq2⟩
      · exact hnew j1 q1 hq1 hj1
      · exact h.apart j1 j2 q1 q2 hq1 hq2 hne
end

end Go.Lt
namespace Go.Lt
open Go.RowKit
set_option linter.unusedVariables false

theorem Own.keep {α : Type} {s : Nat} {enc : α → List Value} {el B : Nat} {w w' : World} {a : Option Addr} {cap : Nat} {l : List α} (h : Own s enc el B w a cap l) (hb : ∀ k, blk a = some k → w'.heap[k]? = w.heap[k]?) : Own s enc el B w' a cap l := by
  refine ⟨h.1, ?_⟩
  rcases h.2 with ⟨h1, h2⟩ | ⟨g', c', cur, h1, h2, h3, h4, h5, h6, h7⟩
  · exact .inl ⟨h1, h2⟩
  · have ha : blk a = some g' := by
      simp only [Value.slice.injEq] at h1
      rw [h1.1]; rfl
    exact .inr ⟨g', c', cur, h1, h2, by rw [hb g' ha]; exact h3, h4, h5, h6, h7⟩

structure Piece where
  b : Option Nat
  P : World → Prop
  keep : ∀ {w w' : World}, P w → (∀ k, b = some k → w'.heap[k]? = w.heap[k]?) → P w'

def prow {α : Type} (s : Nat) (enc : α → List Value) (el B : Nat) (a : Option Addr) (cap : Nat) (l : List α) : Piece := ⟨blk a, fun w => Own s enc el B w a cap l, fun h hb => h.keep hb⟩
def pcell (gb : Nat) (cs : Array Value) (t : Nat) : Piece := ⟨some gb, fun w => w.heap[gb]? = some (.cells cs t (0, 0)), fun h hb => by rw [hb gb rfl]; exact h⟩

structure Sep (B : Nat) (w : World) (ps : List Piece) : Prop where
  holds : ∀ (i : Nat) (p : Piece), ps[i]? = some p → p.P w ∧ ∀ k, p.b = some k → B ≤ k ∧ k < w.heap.size
  apart : ∀ (i j : Nat) (p q : Piece), ps[i]? = some p → ps[j]? = some q → i ≠ j → p.b = none ∨ p.b ≠ q.b

section
variable {B : Nat} {w w' : World} {ps : List Piece} {α : Type} {s : Nat} {enc : α → List Value} {el cap : Nat} {a : Option Addr} {l : List α}
theorem Sep.none' : Sep B w [] := ⟨fun i p h => by simp at h, fun i j p q h => by simp at h⟩
theorem Sep.row {i : Nat} (hS : Sep B w ps) (h : ps[i]? = some (prow s enc el B a cap l)) : Own s enc el B w a cap l := (hS.holds i _ h).1
theorem Sep.cell {i gb : Nat} {cs : Array Value} {t : Nat} (hS : Sep B w ps) (h : ps[i]? = some (pcell gb cs t)) : w.heap[gb]? = some (.cells cs t (0, 0)) := (hS.holds i _ h).1
theorem Sep.lt {i : Nat} {p : Piece} {k : Nat} (hS : Sep B w ps) (h : ps[i]? = some p) (hk : p.b = some k) : B ≤ k ∧ k < w.heap.size := (hS.holds i _ h).2 k hk
theorem Sep.ext (hS : Sep B w ps) (hx : Ext w w') : Sep B w' ps :=
  ⟨fun i p h => ⟨p.keep (hS.holds i p h).1 (fun k hk => hx.block k ((hS.holds i p h).2 k hk).2), fun k hk => ⟨((hS.holds i p h).2 k hk).1, Nat.lt_of_lt_of_le ((hS.holds i p h).2 k hk).2 hx.size⟩⟩, hS.apart⟩
/-- A new piece. -/
theorem Sep.new {p : Piece} (hS : Sep B w ps) (hx : Ext w w') (hp : p.P w') (hb : ∀ k, p.b = some k → w.heap.size ≤ k ∧ k < w'.heap.size) (hB : B ≤ w.heap.size) : Sep B w' (p :: ps) := by
  have hS' := hS.ext hx
  refine ⟨fun i q h => ?_, fun i j q r h1 h2 hne => ?_⟩
  · cases i with
    | zero => cases h; exact ⟨hp, fun k hk => ⟨Nat.le_trans hB (hb k hk).1, (hb k hk).2⟩⟩
    | succ i => exact hS'.holds i q h
  · cases i with
    | zero =>
      cases h1
      cases j with
      | zero => exact absurd rfl hne
      | succ j =>
        cases hpb : p.b with
        | none => exact .inl rfl
        | some k =>
          refine .inr fun he => ?_
          have h3 := ((hS.holds j r h2).2 k he.symm).2
          have h4 := (hb k hpb).1
          omega
    | succ i =>
      cases j with
      | zero =>
        cases h2
        cases hqb : q.b with
        | none => exact .inl rfl
        | some k =>
          refine .inr fun he => ?_
          have h3 := ((hS.holds i q h1).2 k hqb).2
          have h4 := (hb k he.symm).1
          omega
      | succ j => exact hS.apart i j q r h1 h2 (by omega)
theorem Sep.newRow (hS : Sep B w ps) (hx : Ext w w') (hO : Own s enc el B w' a cap l) (hb : ∀ k, blk a = some k → w.heap.size ≤ k) (hB : B ≤ w.heap.size) : Sep B w' (prow s enc el B a cap l :: ps) :=
  hS.new hx hO (fun k hk => ⟨hb k hk, (hO.blk_lt k hk).2⟩) hB
theorem Sep.newRow' (hS : Sep B w ps) (hx : Ext w w') (hO : Own s enc el w.heap.size w' a cap l) (hB : B ≤ w.heap.size) : Sep B w' (prow s enc el B a cap l :: ps) :=
  hS.newRow hx (hO.base hB) (fun k hk => (hO.blk_lt k hk).1) hB
theorem Sep.newCell {gb : Nat} {cs : Array Value} {t : Nat} (hS : Sep B w ps) (hx : Ext w w') (h : w'.heap[gb]? = some (.cells cs t (0, 0))) (hge : w.heap.size ≤ gb) (hB : B ≤ w.heap.size) : Sep B w' (pcell gb cs t :: ps) :=
  hS.new hx h (fun k hk => by cases hk; exact ⟨hge, heap_lt h⟩) hB
/-- One piece is written anew. -/
theorem Sep.upd {i : Nat} {p p' : Piece} (hS : Sep B w ps) (hi : ps[i]? = some p) (hU : w.grownBy w' p.b) (hp : p'.P w') (hF : p'.b = p.b ∨ ∃ k, p'.b = some k ∧ w.heap.size ≤ k ∧ k < w'.heap.size) (hB : B ≤ w.heap.size) : Sep B w' (ps.set i p') := by
  have hlt := lt_of_get hi
  have hset : ∀ (j : Nat) (q : Piece), (ps.set i p')[j]? = some q → (j = i ∧ q = p') ∨ (j ≠ i ∧ ps[j]? = some q) := fun j q hq => by
    rw [List.getElem?_set] at hq
    by_cases hj : i = j
    · subst hj
      rw [if_pos rfl, if_pos hlt] at hq
      exact .inl ⟨rfl, (Option.some.inj hq).symm⟩
    · rw [if_neg hj] at hq
      exact .inr ⟨fun h => hj h.symm, hq⟩
  have hnew : ∀ (j : Nat) (q : Piece), ps[j]? = some q → j ≠ i → (q.b = none ∨ q.b ≠ p'.b) ∧ (p'.b = none ∨ p'.b ≠ q.b) := fun j q hq hj => by
    rcases hF with hF | ⟨k, hk, hle, _⟩
    · rw [hF]; exact ⟨hS.apart j i q p hq hi hj, hS.apart i j p q hi hq (fun h => hj h.symm)⟩
    · have hne : q.b ≠ p'.b := fun he => by
        rw [hk] at he
        have := ((hS.holds j q hq).2 k he).2
        omega
      exact ⟨.inr hne, .inr (fun h => hne h.symm)⟩
  refine ⟨fun j q hq => ?_, fun j1 j2 q1 q2 h1 h2 hne => ?_⟩
  · rcases hset j q hq with ⟨rfl, rfl⟩ | ⟨hj, hq⟩
    · refine ⟨hp, fun k hk => ?_⟩
      rcases hF with hF | ⟨k', hk', hle, hlt'⟩
      · have := (hS.holds _ p hi).2 k (by rw [← hF]; exact hk)
        exact ⟨this.1, Nat.lt_of_lt_of_le this.2 hU.size⟩
      · rw [hk'] at hk; cases hk; exact ⟨Nat.le_trans hB hle, hlt'⟩
    · refine ⟨q.keep (hS.holds j q hq).1 (fun k hk => hU.block k ((hS.holds j q hq).2 k hk).2 (fun he => ?_)), fun k hk => ⟨((hS.holds j q hq).2 k hk).1, Nat.lt_of_lt_of_le ((hS.holds j q hq).2 k hk).2 hU.size⟩⟩
      rcases hS.apart j i q p hq hi hj with h3 | h3
      · rw [h3] at hk; cases hk
      · exact h3 (by rw [hk]; exact he)
  · rcases hset j1 q1 h1 with ⟨rfl, rfl⟩ | ⟨hj1, hq1⟩
    · rcases hset j2 q2 h2 with ⟨rfl, rfl⟩ | ⟨hj2, hq2⟩
      · exact absurd rfl hne
      · exact (hnew j2 q2 hq2 hj2).2
    · rcases hset j2 q2 h2 with ⟨rfl, rfl⟩ | ⟨hj2, hq2⟩
      · exact (hnew j1 q1 hq1 hj1).1
      · exact hS.apart j1 j2 q1 q2 hq1 hq2 hne
theorem Sep.updRow {i : Nat} {a' : Option Addr} {cap' : Nat} {l' : List α} {w1 : World} (hi : ps[i]? = some (prow s enc el B a cap l)) (hU : Upd B a w w') (hO : Own s enc el B w' a' cap' l') (hF : blk a' = blk a ∨ ∃ k, blk a' = some k ∧ w.heap.size ≤ k) (hS : Sep B w1 ps) (hx : Ext w1 w) (hB : B ≤ w.heap.size) :
    Sep B w' (ps.set i (prow s enc el B a' cap' l')) :=
  (hS.ext hx).upd hi hU.grown hO (hF.imp id fun ⟨k, hk, hle⟩ => ⟨k, hk, hle, (hO.blk_lt k hk).2⟩) hB
theorem Sep.updCell {i gb : Nat} {cs cs' : Array Value} {t t' B' : Nat} {w1 : World} (hi : ps[i]? = some (pcell gb cs t)) (hU : Upd B' (some ⟨gb, 0, none⟩) w w') (h : w'.heap[gb]? = some (.cells cs' t' (0, 0))) (hS : Sep B w1 ps) (hx : Ext w1 w) (hB : B ≤ w.heap.size) :
    Sep B w' (ps.set i (pcell gb cs' t')) :=
  (hS.ext hx).upd hi hU.grown h (.inl rfl) hB
theorem Sep.drop (hS : Sep B w ps) (n : Nat) : Sep B w (ps.drop n) :=
  ⟨fun i p h => hS.holds (n + i) p (by rw [List.getElem?_drop] at h; exact h), fun i j p q h1 h2 hne => hS.apart (n + i) (n + j) p q (by rw [List.getElem?_drop] at h1; exact h1) (by rw [List.getElem?_drop] at h2; exact h2) (by omega)⟩
end
end Go.Lt
namespace Go.Lt
open Go.RowKit
set_option linter.unusedVariables false
set_option linter.unusedSimpArgs false

def scal : TypeDesc → Value → Value → Bool
  | .bool, .bool _, .bool _ => true
  | .int _, .int k _, .int k' _ => kindEq k k'
  | .string, .string _, .string _ => true
  | _, _, _ => false
/-- Each field lies at its number, is named, and holds a plain value. -/
def okF (T : Tab) : Nat → List Field → List Value → List Value → Bool
  | _, [], [], [] => true
  | i, f :: fs, x :: xs, y :: ys =>
    (match tget T f.type with
     | some ti => scal ti.desc x y && !isAggD ti.desc
     | none => false) && Nat.beq f.offset i && (f.name != "_") && okF T (i + 1) fs xs ys
  | _, _, _, _ => false

section
variable {P : Program} {T : Tab}
theorem run_scal (hT : OkTab P T) {t : TypeId} {i : TI} (ht : tget T t = some i) {x y : Value} (h : scal i.desc x y = true) (d : Nat) (w : World) : (Op.equalIn (d + 1) t x y).run P w = .ok (dec (x = y)) w := by
  have ho := (hT.at ht).1
  cases hd : i.desc <;> rw [hd] at h ho <;> cases x <;> simp [scal] at h <;> cases y <;> simp [scal] at h
  · rename_i a b
    rw [run_equalIn_bool' w d t a b ho]
    congr 1
    by_cases hab : a = b
    · subst hab; rw [dec_true rfl]; simp
    · rw [dec_false (fun h => hab (by injection h))]; simpa using hab
  · rename_i k' k a kk b
    have := kindEq_eq h
    subst this
    rw [run_equalIn_int w d t k k' a b ho]
    congr 1
    by_cases hab : a = b
    · subst hab; rw [dec_true rfl]; simp
    · rw [dec_false (fun h => hab (by injection h))]; simpa using hab
  · rename_i a b
    rw [run_equalIn_string w d t a b ho]
    congr 1
    by_cases hab : a = b
    · subst hab; rw [dec_true rfl]; simp
    · rw [dec_false (fun h => hab (by injection h))]
      have : a.toList ≠ b.toList := fun h => hab (by
        rw [ByteArray.toList_eq, ByteArray.toList_eq] at h
        obtain ⟨⟨x⟩⟩ := a
        obtain ⟨⟨y⟩⟩ := b
        simp only at h
        rw [h])
      simpa using this
theorem run_part' (hT : OkTab P T) {t : TypeId} {i : TI} (ht : tget T t = some i) (ha : isAggD i.desc = false) {xs : Array Value} {o : Nat} {v : Value} (hv : xs[o]? = some v) (w : World) : (part t xs o).run P w = .ok v w := by
  have h1 := run_isAgg' (hT.at ht); rw [ha] at h1
  simp [part, h1, hv]
theorem run_okF (hT : OkTab P T) (d : Nat) (w : World) : ∀ (fs : List Field) (i : Nat) (px py xs ys : List Value), px.length = i → py.length = i → okF T i fs xs ys = true →
    (Op.eqFields (d + 1) (px ++ xs).toArray (py ++ ys).toArray fs).run P w = .ok (dec (xs = ys)) w
  | [], i, px, py, xs, ys, h1, h2, h => by
    cases xs <;> cases ys <;> simp [okF] at h
    simp only [Op.eqFields, Sem.run_pure]
    rw [dec_true trivial]
  | f :: fs, i, px, py, [], ys, h1, h2, h => by cases ys <;> simp [okF] at h
  | f :: fs, i, px, py, x :: xs, [], h1, h2, h => by simp [okF] at h
  | f :: fs, i, px, py, x :: xs, y :: ys, h1, h2, h => by
    simp only [okF, Bool.and_eq_true] at h
    obtain ⟨⟨⟨ha, hb⟩, hc⟩, hr⟩ := h
    split at ha
    · rename_i ti hti
      simp only [Bool.and_eq_true, Bool.not_eq_true'] at ha
      have hoff := Nat.eq_of_beq_eq_true hb
      have hne : f.name ≠ "_" := by simpa using hc
      have e1 : (px ++ x :: xs).toArray[f.offset]? = some x := by rw [hoff]; simp [← h1]
      have e2 : (py ++ y :: ys).toArray[f.offset]? = some y := by rw [hoff]; simp [← h2]
      have r1 := run_part' hT hti ha.2 e1 w
      have r2 := run_part' hT hti ha.2 e2 w
      have r3 := run_scal hT hti ha.1 d w
      have ih := run_okF hT d w fs (i + 1) (px ++ [x]) (py ++ [y]) xs ys (by simp [h1]) (by simp [h2]) hr
      simp only [List.append_assoc, List.singleton_append] at ih
      simp only [Op.eqFields, if_pos hne, Sem.run_bind, r1, r2, r3, Result.andThen_ok]
      by_cases hxy : x = y
      · rw [dec_true hxy]
        simp only [Bool.not_true, Bool.false_eq_true, if_false]
        rw [ih]
        congr 1
        exact dec_congr ⟨fun h => by rw [hxy, h], fun h => (List.cons.inj h).2⟩
      · rw [dec_false hxy]
        simp only [Bool.not_false, if_true, Sem.run_pure]
        congr 1
        exact (dec_false (fun h => hxy (List.cons.inj h).1)).symm
    · cases ha

def FactEq (P : Program) (t : TypeId) : Prop := P.eqGuardType P.depth t = false ∧ P.stoodInHeld t = false

theorem run_eqS (hT : OkTab P T) {t : TypeId} {i : TI} {fs : List Field} (ht : tget T t = some i) (hd : i.desc = .struct fs.toArray) (hp : P.stoodInHeld t = false) {xs ys : List Value} (h : okF T 0 fs xs ys = true) (w : World) : (Op.equalIn 10000 t (.agg xs.toArray) (.agg ys.toArray)).run P w = .ok (dec (xs = ys)) w := by
  have ho := (hT.at ht).1
  rw [hd] at ho
  have hf : P.fieldsOf t = fs.toArray := by simp [Program.fieldsOf, ho]
  rw [show (10000 : Nat) = 9998 + 1 + 1 from rfl, run_equalIn_struct w (9998 + 1) t _ _ (by rw [hf]; exact ho) hp, hf]
  exact run_okF hT 9998 w fs 0 [] [] xs ys rfl rfl h

variable {e : Env} {dd : Option Tmp} {tt ty t : TypeId} {x y : Operand} {ps : String} {af : Array Edge} {g : Option (Nat × Bool)} {i : TI} {fs : List Field} {xs ys : List Value}
theorem yneqS (hT : OkTab P T) (hx : ev e x = some (.agg xs.toArray)) (hy : ev e y = some (.agg ys.toArray)) (ht : tget T t = some i) (hd : i.desc = .struct fs.toArray) (h : okF T 0 fs xs ys = true) (hq : FactEq P t) :
    Yields P e ⟨dd, .binOp .neq t x y ty, tt, ps, af, g⟩ (.bool (dec (xs ≠ ys))) := by
  intro ρ hρ w
  have h1 := run_eqGuard_agg (P := P) w .neq t x y xs.toArray ys.toArray hq.1
  have h2 := run_neq_struct (P := P) w t xs.toArray ys.toArray
  rw [run_eqS hT ht hd hq.2 h w] at h2
  have h3 : (!dec (xs = ys)) = dec (xs ≠ ys) := by
    by_cases hh : xs = ys
    · rw [dec_true hh, dec_false (fun h => h hh)]; rfl
    · rw [dec_false hh, dec_true hh]; rfl
  simp only [Result.andThen_ok, h3] at h2
  simp [execOp, hρ _ _ hx, hρ _ _ hy, h1, h2]
end

section rules
variable {P : Program} {N : Nat} {e : Env} {w : World} {Q : Exit → Act → World → Prop} {ops : List Oper} {l : List Oper} {T : Tab} {C : World → Prop} {Kf : Act → Prop}
  {d : Nat} {tt ty t : TypeId} {ps : String} {af : Array Edge} {g : Option (Nat × Bool)} {x y : Operand} {i : TI} {fs : List Field} {xs ys : List Value}
theorem WL.neqS (hT : OkTab P T) (hg : gate ops e g = some true) (hd : Nat.blt d N = true) (hx : ev e x = some (.agg xs.toArray)) (hy : ev e y = some (.agg ys.toArray)) (ht : tget T t = some i) (htd : i.desc = .struct fs.toArray) (h : okF T 0 fs xs ys = true) (hq : FactEq P t)
    (k : WL P N ops.toArray l ((d, .bool (dec (xs ≠ ys))) :: e) w Q) : WL P N ops.toArray (⟨some d, .binOp .neq t x y ty, tt, ps, af, g⟩ :: l) e w Q := WL.step hg hd (yneqS hT hx hy ht htd h hq).in k
theorem QL.neqS (hT : OkTab P T) (hg : gate ops e g = some true) (hd : Nat.blt d N = true) (hx : ev e x = some (.agg xs.toArray)) (hy : ev e y = some (.agg ys.toArray)) (ht : tget T t = some i) (htd : i.desc = .struct fs.toArray) (h : okF T 0 fs xs ys = true) (hq : FactEq P t)
    (k : QL P N C ops.toArray l ((d, .bool (dec (xs ≠ ys))) :: e) Q) : QL P N C ops.toArray (⟨some d, .binOp .neq t x y ty, tt, ps, af, g⟩ :: l) e Q := QL.step hg hd (yneqS hT hx hy ht htd h hq).in k
theorem FL.neqS (hT : OkTab P T) (hg : gate ops e g = some true) (hd : Nat.blt d N = true) (hx : ev e x = some (.agg xs.toArray)) (hy : ev e y = some (.agg ys.toArray)) (ht : tget T t = some i) (htd : i.desc = .struct fs.toArray) (h : okF T 0 fs xs ys = true) (hq : FactEq P t)
    (k : FL P N ops.toArray C l ((d, .bool (dec (xs ≠ ys))) :: e) w Kf) : FL P N ops.toArray C (⟨some d, .binOp .neq t x y ty, tt, ps, af, g⟩ :: l) e w Kf := FL.step hg hd (yneqS hT hx hy ht htd h hq).in k
end rules

section rules
variable {P : Program} {N : Nat} {e : Env} {w : World} {Q : Exit → Act → World → Prop} {ops : List Oper} {l : List Oper} {T : Tab}
  {d : Nat} {tt ty : TypeId} {ps : String} {af : Array Edge} {g : Option (Nat × Bool)} {t : TypeId} {α : Type} {s : Nat} {enc : α → List Value} {B : Nat} {ti ei : TI} {el : TypeId} {C : World → Prop}
end rules
end Go.Lt
namespace Go.Lt
open Go.RowKit
set_option linter.unusedVariables false
set_option linter.unusedSimpArgs false

/-- The map at r holds these, in the order in which they came. -/
def MapIs {κ ν : Type} (kv : κ → Value) (vv : ν → Value) (w : World) (r : Nat) (L : List (κ × ν)) : Prop :=
  ∃ es clock, w.heap[r]? = some (.map es clock) ∧ es.toList.map (fun e => (e.key, e.val)) = L.map (fun x => (kv x.1, vv x.2))
theorem MapIs.keep {κ ν : Type} {kv : κ → Value} {vv : ν → Value} {w w' : World} {r : Nat} {L : List (κ × ν)} (h : MapIs kv vv w r L) (hr : w'.heap[r]? = w.heap[r]?) : MapIs kv vv w' r L := by
  obtain ⟨es, clock, h1, h2⟩ := h
  exact ⟨es, clock, by rw [hr]; exact h1, h2⟩
theorem MapIs.lt {κ ν : Type} {kv : κ → Value} {vv : ν → Value} {w : World} {r : Nat} {L : List (κ × ν)} (h : MapIs kv vv w r L) : r < w.heap.size := by
  obtain ⟨es, clock, h1, _⟩ := h; exact heap_lt h1
theorem MapIs.ext {κ ν : Type} {kv : κ → Value} {vv : ν → Value} {w w' : World} {r : Nat} {L : List (κ × ν)} (h : MapIs kv vv w r L) (hx : Ext w w') : MapIs kv vv w' r L := h.keep (hx.block r h.lt)
def pmap {κ ν : Type} (kv : κ → Value) (vv : ν → Value) (r : Nat) (L : List (κ × ν)) : Piece := ⟨some r, fun w => MapIs kv vv w r L, fun h hb => h.keep (hb r rfl)⟩

noncomputable def mfind {κ ν : Type} (vv : ν → Value) (a : κ) : List (κ × ν) → Nat → Option (Nat × Value)
  | [], _ => none
  | x :: r, i => bif dec (a = x.1) then some (i, vv x.2) else mfind vv a r (i + 1)
noncomputable def mget {κ ν : Type} (a : κ) : List (κ × ν) → Option ν
  | [] => none
  | x :: r => bif dec (a = x.1) then some x.2 else mget a r
theorem mfind_get {κ ν : Type} (vv : ν → Value) (a : κ) : ∀ (L : List (κ × ν)) (i : Nat), (mfind vv a L i).map (·.2) = (mget a L).map vv
  | [], _ => rfl
  | x :: r, i => by
    unfold mfind mget
    cases dec (a = x.1)
    · exact mfind_get vv a r (i + 1)
    · rfl

/-- Keys that can be held against each other, and looked at, without ado. -/
structure KeyOk {κ : Type} (P : Program) (kt : TypeId) (kv : κ → Value) : Prop where
  struct : ∃ fs, P.underlying kt = some (.struct fs)
  eq : ∀ a b w, (Op.equal kt (kv a) (kv b)).run P w = .ok (dec (a = b)) w
  chk : ∀ empty a w, (Instr.checkKey empty 10000 kt (kv a)).run P w = .ok () w

section
variable {P : Program} {κ ν : Type} {kt : TypeId} {kv : κ → Value} {vv : ν → Value}
theorem run_findAsking (hk : KeyOk P kt kv) (a : κ) (w : World) : ∀ (es : List MapEntry) (L : List (κ × ν)) (i : Nat), es.map (fun e => (e.key, e.val)) = L.map (fun x => (kv x.1, vv x.2)) → (Instr.findAsking kt (kv a) es i).run P w = .ok (mfind vv a L i) w
  | [], L, i, h => by
    cases L with
    | nil => simp [Instr.findAsking, mfind]
    | cons x r => simp at h
  | e :: es, [], i, h => by simp at h
  | e :: es, x :: r, i, h => by
    simp only [List.map_cons, List.cons.injEq, Prod.mk.injEq] at h
    obtain ⟨⟨h1, h2⟩, h3⟩ := h
    have ih := run_findAsking hk a w es r (i + 1) h3
    simp only [Instr.findAsking, Sem.run_bind, h1, hk.eq, Result.andThen_ok, mfind, h2]
    cases dec (a = x.1)
    · simpa using ih
    · simp
theorem run_findKey' (hk : KeyOk P kt kv) (a : κ) (w : World) {es : List MapEntry} {L : List (κ × ν)} (h : es.map (fun e => (e.key, e.val)) = L.map (fun x => (kv x.1, vv x.2))) : (Instr.findKey kt (kv a) es).run P w = .ok (mfind vv a L 0) w := by
  obtain ⟨fs, hfs⟩ := hk.struct
  have hu : (underlying kt).run P w = .ok (.struct fs) w := by simp [underlying, program, Sem.run, hfs]
  simp only [Instr.findKey, Sem.run_bind, hu, Result.andThen_ok]
  cases es with
  | nil =>
    cases L with
    | nil => simp [Instr.findNow, mfind]
    | cons x r => simp at h
  | cons e es =>
    have : Instr.findNow (.struct fs) (kv a) (e :: es) 0 = none := by simp [Instr.findNow, Instr.sameNow]
    rw [this]
    exact run_findAsking hk a w _ L 0 h
end

def plainD : TypeDesc → Bool
  | .bool | .int _ | .string => true
  | _ => false
def okK (T : Tab) : Nat → List Field → List Value → Bool
  | _, [], [] => true
  | i, f :: fs, x :: xs => (match tget T f.type with | some ti => plainD ti.desc | none => false) && Nat.beq f.offset i && (f.name != "_") && okK T (i + 1) fs xs
  | _, _, _ => false
section
variable {P : Program} {T : Tab}
theorem plain_agg {d : TypeDesc} (h : plainD d = true) : isAggD d = false := by cases d <;> simp [plainD] at h <;> rfl
theorem run_chk_plain (hT : OkTab P T) {t : TypeId} {i : TI} (ht : tget T t = some i) (h : plainD i.desc = true) (b : Bool) (n : Nat) (v : Value) (w : World) : (Instr.checkKey b (n + 1) t v).run P w = .ok () w := by
  have hu := run_underlying' (hT.at ht) w
  unfold Instr.checkKey
  simp only [Sem.run_bind, hu, Result.andThen_ok]
  cases hd : i.desc <;> rw [hd] at h <;> simp [plainD] at h <;> simp
theorem run_chk_fields (hT : OkTab P T) (b : Bool) (n : Nat) (w : World) : ∀ (fs : List Field) (i : Nat) (px xs : List Value), px.length = i → okK T i fs xs = true →
    (forIn (m := Sem) fs PUnit.unit (fun f _ => do
      if f.name ≠ "_" then Instr.checkKey b (n + 1) f.type (← part f.type (px ++ xs).toArray f.offset)
      pure (ForInStep.yield PUnit.unit))).run P w = .ok PUnit.unit w
  | [], i, px, xs, h1, h => by simp
  | f :: fs, i, px, [], h1, h => by simp [okK] at h
  | f :: fs, i, px, x :: xs, h1, h => by
    simp only [okK, Bool.and_eq_true] at h
    obtain ⟨⟨⟨ha, hb⟩, hc⟩, hr⟩ := h
    split at ha
    · rename_i ti hti
      have hoff := Nat.eq_of_beq_eq_true hb
      have hne : f.name ≠ "_" := by simpa using hc
      have e1 : (px ++ x :: xs).toArray[f.offset]? = some x := by rw [hoff]; simp [← h1]
      have r1 := run_part' hT hti (plain_agg ha) e1 w
      have r2 := run_chk_plain hT hti ha b n x w
      have ih := run_chk_fields hT b n w fs (i + 1) (px ++ [x]) xs (by simp [h1]) hr
      simp only [List.append_assoc, List.singleton_append] at ih
      simp only [List.forIn_cons, if_pos hne, Sem.run_bind, r1, r2, Result.andThen_ok, Sem.run_pure]
      exact ih
    · cases ha
theorem keyOk_struct {κ : Type} (hT : OkTab P T) {t : TypeId} {i : TI} {fs : List Field} (enc : κ → List Value) (ht : tget T t = some i) (hd : i.desc = .struct fs.toArray) (hp : P.stoodInHeld t = false)
    (hE : ∀ a b, okF T 0 fs (enc a) (enc b) = true) (hK : ∀ a, okK T 0 fs (enc a) = true) (hinj : ∀ a b, enc a = enc b → a = b) : KeyOk P t (fun a => .agg (enc a).toArray) := by
  have hu := (hT.at ht).1
  rw [hd] at hu
  refine ⟨⟨_, hu⟩, fun a b w => ?_, fun em a w => ?_⟩
  · have := run_eqS (P := P) hT ht hd hp (hE a b) w
    unfold Op.equal
    rw [show Op.maxDepth = 10000 from rfl, this]
    congr 1
    exact dec_congr ⟨hinj a b, fun h => by rw [h]⟩
  · have hu' : (underlying t).run P w = .ok (.struct fs.toArray) w := by simp [underlying, program, Sem.run, hu]
    have key := run_chk_fields hT em 9998 w fs 0 [] (enc a) rfl (hK a)
    rw [show (10000 : Nat) = 9998 + 1 + 1 from rfl]
    rw [Instr.checkKey]
    simp only [Sem.run_bind, hu', Result.andThen_ok]
    rw [← Array.forIn_toList]
    simp at key ⊢
    rw [key]
    simp
end

section rules
variable {P : Program} {N : Nat} {e : Env} {w : World} {Q : Exit → Act → World → Prop} {ops : List Oper} {l : List Oper} {T : Tab} {C : World → Prop} {Kf : Act → Prop}
  {d : Nat} {tt t : TypeId} {ps : String} {af : Array Edge} {g : Option (Nat × Bool)} {x y z : Operand} {ti ei : TI} {κ ν : Type} {kt et : TypeId} {kv : κ → Value} {vv : ν → Value} {L : List (κ × ν)} {a : κ} {v : ν} {r : Nat}

theorem WL.makeMap (hg : gate ops e g = some true) (hd : Nat.blt d N = true)
    (k : ∀ r w', MapIs kv vv w' r ([] : List (κ × ν)) → w.heap.size ≤ r → Ext w w' → WL P N ops.toArray l ((d, .map (some r)) :: e) w' Q) :
    WL P N ops.toArray (⟨some d, .makeMap t none, tt, ps, af, g⟩ :: l) e w Q := by
  refine WL.eff (v := .map (some w.heap.size)) (w' := fun m => (at' w m).alloc (.map #[] 0)) hg hd ?_ (fun m => k _ _ ⟨#[], 0, heap_alloc_new (at' w m) _, rfl⟩ (Nat.le_refl _) ((Ext.refl w).at m |>.trans ((Below.refl _ _).alloc (Nat.le_refl _) _)))
  intro ρ hρ m
  simp [execOp, Instr.makeMap, newObj, Sem.run]
  rfl

theorem run_lookup' (hT : OkTab P T) (hk : KeyOk P kt kv) (ht : tget T t = some ti) (htd : ti.desc = .map kt et) (he : tget T et = some ei) (hM : MapIs kv vv w r L) :
    (Instr.lookup t (.map (some r)) (kv a) true).run P w = .ok (.tuple #[((mget a L).map vv).getD ei.zero, .bool (mget a L).isSome]) w := by
  obtain ⟨es, clock, h1, h2⟩ := hM
  have hu := run_underlying' (hT.at ht) w; rw [htd] at hu
  have hz := run_zeroValue' (hT.at he) w
  have hf := run_findKey' hk a w h2
  have hg : (getObj r).run P w = .ok (.map es clock) w := by simp [getObj, Sem.run, h1]
  have hmg := mfind_get vv a L 0
  simp only [Instr.lookup, Sem.run_bind, hu, Result.andThen_ok, hg, Sem.run_pure, hk.chk, hf]
  cases hm : mfind vv a L 0 with
  | none =>
    rw [hm] at hmg
    cases hg2 : mget a L with
    | none => simp [hz]
    | some q => rw [hg2] at hmg; simp at hmg
  | some q =>
    rw [hm] at hmg
    cases hg2 : mget a L with
    | none => rw [hg2] at hmg; simp at hmg
    | some u =>
      rw [hg2] at hmg
      simp only [Option.map_some, Option.some.injEq] at hmg
      obtain ⟨qi, qv⟩ := q
      simp only at hmg
      subst hmg
      simp
theorem ylookup [Cls C w] (hT : OkTab P T) (hk : KeyOk P kt kv) (hx : ev e x = some (.map (some r))) (hy : ev e y = some (kv a)) (ht : tget T t = some ti) (htd : ti.desc = .map kt et) (he : tget T et = some ei) (hM : MapIs kv vv w r L) {dd : Option Tmp} :
    YieldsIn P e C ⟨dd, .lookup t x y true, tt, ps, af, g⟩ (.tuple #[((mget a L).map vv).getD ei.zero, .bool (mget a L).isSome]) := by
  intro ρ hρ w' hw'
  have hr := run_lookup' (P := P) (a := a) hT hk ht htd he (hM.ext (Cls.keeps (C := C) w' hw'))
  simp [execOp, hρ _ _ hx, hρ _ _ hy, hr]
theorem WL.lookup (hT : OkTab P T) (hk : KeyOk P kt kv) (hg : gate ops e g = some true) (hd : Nat.blt d N = true) (hx : ev e x = some (.map (some r))) (hy : ev e y = some (kv a)) (ht : tget T t = some ti) (htd : ti.desc = .map kt et) (he : tget T et = some ei) (hM : MapIs kv vv w r L)
    (k : WL P N ops.toArray l ((d, .tuple #[((mget a L).map vv).getD ei.zero, .bool (mget a L).isSome]) :: e) w Q) : WL P N ops.toArray (⟨some d, .lookup t x y true, tt, ps, af, g⟩ :: l) e w Q := WL.step hg hd (ylookup (C := Same w) hT hk hx hy ht htd he hM) k
theorem QL.lookup [Cls C w] (hT : OkTab P T) (hk : KeyOk P kt kv) (hg : gate ops e g = some true) (hd : Nat.blt d N = true) (hx : ev e x = some (.map (some r))) (hy : ev e y = some (kv a)) (ht : tget T t = some ti) (htd : ti.desc = .map kt et) (he : tget T et = some ei) (hM : MapIs kv vv w r L)
    (k : QL P N C ops.toArray l ((d, .tuple #[((mget a L).map vv).getD ei.zero, .bool (mget a L).isSome]) :: e) Q) : QL P N C ops.toArray (⟨some d, .lookup t x y true, tt, ps, af, g⟩ :: l) e Q := QL.step hg hd (ylookup hT hk hx hy ht htd he hM) k

theorem WL.lookupSome {v : ν} (hT : OkTab P T) (hk : KeyOk P kt kv) (hg : gate ops e g = some true) (hd : Nat.blt d N = true) (hx : ev e x = some (.map (some r))) (hy : ev e y = some (kv a)) (ht : tget T t = some ti) (htd : ti.desc = .map kt et) (he : tget T et = some ei) (hM : MapIs kv vv w r L) (hm : mget a L = some v)
    (k : WL P N ops.toArray l ((d, .tuple #[vv v, .bool true]) :: e) w Q) : WL P N ops.toArray (⟨some d, .lookup t x y true, tt, ps, af, g⟩ :: l) e w Q := WL.lookup hT hk hg hd hx hy ht htd he hM (by rw [hm]; exact k)
theorem WL.lookupNone (hT : OkTab P T) (hk : KeyOk P kt kv) (hg : gate ops e g = some true) (hd : Nat.blt d N = true) (hx : ev e x = some (.map (some r))) (hy : ev e y = some (kv a)) (ht : tget T t = some ti) (htd : ti.desc = .map kt et) (he : tget T et = some ei) (hM : MapIs kv vv w r L) (hm : mget a L = none)
    (k : WL P N ops.toArray l ((d, .tuple #[ei.zero, .bool false]) :: e) w Q) : WL P N ops.toArray (⟨some d, .lookup t x y true, tt, ps, af, g⟩ :: l) e w Q := WL.lookup hT hk hg hd hx hy ht htd he hM (by rw [hm]; exact k)
theorem QL.lookupSome [Cls C w] {v : ν} (hT : OkTab P T) (hk : KeyOk P kt kv) (hg : gate ops e g = some true) (hd : Nat.blt d N = true) (hx : ev e x = some (.map (some r))) (hy : ev e y = some (kv a)) (ht : tget T t = some ti) (htd : ti.desc = .map kt et) (he : tget T et = some ei) (hM : MapIs kv vv w r L) (hm : mget a L = some v)
    (k : QL P N C ops.toArray l ((d, .tuple #[vv v, .bool true]) :: e) Q) : QL P N C ops.toArray (⟨some d, .lookup t x y true, tt, ps, af, g⟩ :: l) e Q := QL.lookup hT hk hg hd hx hy ht htd he hM (by rw [hm]; exact k)
theorem QL.lookupNone [Cls C w] (hT : OkTab P T) (hk : KeyOk P kt kv) (hg : gate ops e g = some true) (hd : Nat.blt d N = true) (hx : ev e x = some (.map (some r))) (hy : ev e y = some (kv a)) (ht : tget T t = some ti) (htd : ti.desc = .map kt et) (he : tget T et = some ei) (hM : MapIs kv vv w r L) (hm : mget a L = none)
    (k : QL P N C ops.toArray l ((d, .tuple #[ei.zero, .bool false]) :: e) Q) : QL P N C ops.toArray (⟨some d, .lookup t x y true, tt, ps, af, g⟩ :: l) e Q := QL.lookup hT hk hg hd hx hy ht htd he hM (by rw [hm]; exact k)

/-- A new key. -/
theorem WL.mapNew {B : Nat} {w0 : World} (hT : OkTab P T) (hk : KeyOk P kt kv) (hg : gate ops e g = some true) (hx : ev e x = some (.map (some r))) (hy : ev e y = some (kv a)) (hz : ev e z = some (vv v)) (ht : tget T t = some ti) (htd : ti.desc = .map kt et) (hM : MapIs kv vv w r L) (hnew : mget a L = none) (hX : Ext w0 w) (hB : w0.heap.size ≤ r)
    (k : ∀ w', MapIs kv vv w' r (L ++ [(a, v)]) → Ext w0 w' → Upd r (some ⟨r, 0, none⟩) w w' → WL P N ops.toArray l e w' Q) :
    WL P N ops.toArray (⟨none, .mapUpdate t x y z, tt, ps, af, g⟩ :: l) e w Q := by
  obtain ⟨es, clock, h1, h2⟩ := hM
  have hlt := heap_lt h1
  refine WL.effN (w' := fun m => { at' w m with heap := w.heap.setIfInBounds r (.map (es.push { key := kv a, val := vv v, born := clock }) (clock + 1)) }) hg ?_ (fun m => ?_)
  · intro ρ hρ m
    have hu := run_underlying' (hT.at ht) (at' w m); rw [htd] at hu
    have hf := run_findKey' hk a (at' w m) h2
    have hg : (getObj r).run P (at' w m) = .ok (.map es clock) (at' w m) := by simp [getObj, Sem.run, h1]
    have hmg := mfind_get vv a L 0
    rw [hnew] at hmg
    have hmn : mfind vv a L 0 = none := by
      cases hm : mfind vv a L 0 with
      | none => rfl
      | some q => rw [hm] at hmg; simp at hmg
    rw [hmn] at hf
    have hset : (setObj r (.map (es.push { key := kv a, val := vv v, born := clock }) (clock + 1))).run P (at' w m) = .ok () { at' w m with heap := w.heap.setIfInBounds r (.map (es.push { key := kv a, val := vv v, born := clock }) (clock + 1)) } := by simp [setObj, Sem.run, h1]
    have hrun : (Instr.mapUpdate t (.map (some r)) (kv a) (vv v)).run P (at' w m) = .ok () { at' w m with heap := w.heap.setIfInBounds r (.map (es.push { key := kv a, val := vv v, born := clock }) (clock + 1)) } := by
      simp only [Instr.mapUpdate, Sem.run_bind, hu, Result.andThen_ok, hg, hk.chk, hf, hset]
    simp [execOp, hρ _ _ hx, hρ _ _ hy, hρ _ _ hz, hrun]
  · have hU : Upd r (some ⟨r, 0, none⟩) w { at' w m with heap := w.heap.setIfInBounds r (.map (es.push { key := kv a, val := vv v, born := clock }) (clock + 1)) } :=
      ⟨⟨rfl, rfl, rfl, by simp, fun q hq hne => by
        simp only [blk, Option.map_some, ne_eq, Option.some.injEq] at hne
        simp only [Array.getElem?_setIfInBounds]
        rw [if_neg (fun h => hne h.symm)]⟩, fun q hq => by simp only [blk, Option.map_some, Option.some.injEq] at hq; omega⟩
    refine k _ ⟨_, _, by simp [Array.getElem?_setIfInBounds, hlt]; exact ⟨rfl, rfl⟩, ?_⟩ (hU.ext hX hB) hU
    simp [h2]
end rules
end Go.Lt
namespace Go.Lt
open Go.RowKit
set_option linter.unusedVariables false
set_option linter.unusedSimpArgs false

section
variable {P : Program} {T : Tab} {e : Env} {dd : Option Tmp} {tt ty t el : TypeId} {x y : Operand} {ps : String} {af : Array Edge} {g : Option (Nat × Bool)} {i : TI} {p : Option Addr} {a : Addr}
theorem ynilc (hx : ev e x = some (.pointer (some a))) : Yields P e ⟨dd, .nilCheck x, tt, ps, af, g⟩ (.pointer (some a)) := by
  intro ρ hρ w
  simp [execOp, hρ _ _ hx]
theorem run_eqPtrNil (hT : OkTab P T) (ht : tget T t = some i) (hd : i.desc = .pointer el) (w : World) : (Op.equal t (.pointer p) (.pointer none)).run P w = .ok (dec (p = none)) w := by
  have hu := run_underlying' (hT.at ht) w; rw [hd] at hu
  unfold Op.equal
  rw [show Op.maxDepth = 9999 + 1 from rfl, Op.equalIn]
  simp only [Sem.run_bind, hu, Result.andThen_ok]
  cases p with
  | none => simp [dec_true]
  | some q => simp [dec_false]
theorem yeqNil (hT : OkTab P T) (hx : ev e x = some (.pointer p)) (hy : ev e y = some (.pointer none)) (ht : tget T t = some i) (hd : i.desc = .pointer el) : Yields P e ⟨dd, .binOp .eql t x y ty, tt, ps, af, g⟩ (.bool (dec (p = none))) := by
  intro ρ hρ w
  have h1 : (eqGuard .eql t x y (.pointer p) (.pointer none)).run P w = .ok () w := by simp [eqGuard]
  have h2 : (binOp .eql t (.pointer p) (.pointer none)).run P w = .ok (.bool (dec (p = none))) w := by simp [binOp, run_eqPtrNil hT ht hd]
  simp [execOp, hρ _ _ hx, hρ _ _ hy, h1, h2]
theorem yneNil (hT : OkTab P T) (hx : ev e x = some (.pointer p)) (hy : ev e y = some (.pointer none)) (ht : tget T t = some i) (hd : i.desc = .pointer el) : Yields P e ⟨dd, .binOp .neq t x y ty, tt, ps, af, g⟩ (.bool (dec (p ≠ none))) := by
  intro ρ hρ w
  have h1 : (eqGuard .neq t x y (.pointer p) (.pointer none)).run P w = .ok () w := by simp [eqGuard]
  have h3 : (!dec (p = none)) = dec (p ≠ none) := by
    by_cases hh : p = none
    · rw [dec_true hh, dec_false (fun h => h hh)]; rfl
    · rw [dec_false hh, dec_true hh]; rfl
  have h2 : (binOp .neq t (.pointer p) (.pointer none)).run P w = .ok (.bool (dec (p ≠ none))) w := by simp [binOp, run_eqPtrNil hT ht hd, h3]
  simp [execOp, hρ _ _ hx, hρ _ _ hy, h1, h2]
end

section rules
variable {P : Program} {N : Nat} {e : Env} {w : World} {Q : Exit → Act → World → Prop} {ops : List Oper} {l : List Oper} {T : Tab} {C : World → Prop} {Kf : Act → Prop}
  {d : Nat} {tt ty t el : TypeId} {ps : String} {af : Array Edge} {g : Option (Nat × Bool)} {x y : Operand} {i : TI} {p : Option Addr} {a : Addr}
theorem WL.nilc (hg : gate ops e g = some true) (hd : Nat.blt d N = true) (hx : ev e x = some (.pointer (some a))) (k : WL P N ops.toArray l ((d, .pointer (some a)) :: e) w Q) : WL P N ops.toArray (⟨some d, .nilCheck x, tt, ps, af, g⟩ :: l) e w Q := WL.step hg hd (ynilc hx).in k
theorem QL.nilc (hg : gate ops e g = some true) (hd : Nat.blt d N = true) (hx : ev e x = some (.pointer (some a))) (k : QL P N C ops.toArray l ((d, .pointer (some a)) :: e) Q) : QL P N C ops.toArray (⟨some d, .nilCheck x, tt, ps, af, g⟩ :: l) e Q := QL.step hg hd (ynilc hx).in k
theorem FL.nilc (hg : gate ops e g = some true) (hd : Nat.blt d N = true) (hx : ev e x = some (.pointer (some a))) (k : FL P N ops.toArray C l ((d, .pointer (some a)) :: e) w Kf) : FL P N ops.toArray C (⟨some d, .nilCheck x, tt, ps, af, g⟩ :: l) e w Kf := FL.step hg hd (ynilc hx).in k
theorem WL.eqNil (hT : OkTab P T) (hg : gate ops e g = some true) (hd : Nat.blt d N = true) (hx : ev e x = some (.pointer p)) (hy : ev e y = some (.pointer none)) (ht : tget T t = some i) (htd : i.desc = .pointer el) (k : WL P N ops.toArray l ((d, .bool (dec (p = none))) :: e) w Q) : WL P N ops.toArray (⟨some d, .binOp .eql t x y ty, tt, ps, af, g⟩ :: l) e w Q := WL.step hg hd (yeqNil hT hx hy ht htd).in k
theorem WL.neNil (hT : OkTab P T) (hg : gate ops e g = some true) (hd : Nat.blt d N = true) (hx : ev e x = some (.pointer p)) (hy : ev e y = some (.pointer none)) (ht : tget T t = some i) (htd : i.desc = .pointer el) (k : WL P N ops.toArray l ((d, .bool (dec (p ≠ none))) :: e) w Q) : WL P N ops.toArray (⟨some d, .binOp .neq t x y ty, tt, ps, af, g⟩ :: l) e w Q := WL.step hg hd (yneNil hT hx hy ht htd).in k
theorem QL.eqNil (hT : OkTab P T) (hg : gate ops e g = some true) (hd : Nat.blt d N = true) (hx : ev e x = some (.pointer p)) (hy : ev e y = some (.pointer none)) (ht : tget T t = some i) (htd : i.desc = .pointer el) (k : QL P N C ops.toArray l ((d, .bool (dec (p = none))) :: e) Q) : QL P N C ops.toArray (⟨some d, .binOp .eql t x y ty, tt, ps, af, g⟩ :: l) e Q := QL.step hg hd (yeqNil hT hx hy ht htd).in k
theorem QL.neNil (hT : OkTab P T) (hg : gate ops e g = some true) (hd : Nat.blt d N = true) (hx : ev e x = some (.pointer p)) (hy : ev e y = some (.pointer none)) (ht : tget T t = some i) (htd : i.desc = .pointer el) (k : QL P N C ops.toArray l ((d, .bool (dec (p ≠ none))) :: e) Q) : QL P N C ops.toArray (⟨some d, .binOp .neq t x y ty, tt, ps, af, g⟩ :: l) e Q := QL.step hg hd (yneNil hT hx hy ht htd).in k

theorem WL.neNilS {q : Addr} (hT : OkTab P T) (hg : gate ops e g = some true) (hd : Nat.blt d N = true) (hx : ev e x = some (.pointer (some q))) (hy : ev e y = some (.pointer none)) (ht : tget T t = some i) (htd : i.desc = .pointer el) (k : WL P N ops.toArray l ((d, .bool true) :: e) w Q) : WL P N ops.toArray (⟨some d, .binOp .neq t x y ty, tt, ps, af, g⟩ :: l) e w Q := WL.neNil hT hg hd hx hy ht htd (by rw [dec_true (fun h => by cases h)]; exact k)
theorem WL.eqNilS {q : Addr} (hT : OkTab P T) (hg : gate ops e g = some true) (hd : Nat.blt d N = true) (hx : ev e x = some (.pointer (some q))) (hy : ev e y = some (.pointer none)) (ht : tget T t = some i) (htd : i.desc = .pointer el) (k : WL P N ops.toArray l ((d, .bool false) :: e) w Q) : WL P N ops.toArray (⟨some d, .binOp .eql t x y ty, tt, ps, af, g⟩ :: l) e w Q := WL.eqNil hT hg hd hx hy ht htd (by rw [dec_false (fun h => by cases h)]; exact k)

/-- A store of a plain value into a field of a variable of one's own. -/
theorem WL.storeF {gb off : Nat} {v : Value} {cur : List Value} {et : TypeId} {w0 wo : World} (hT : OkTab P T) (hg : gate ops e g = some true)
    (hx : ev e x = some (.pointer (some ⟨gb, off, none⟩))) (hy : ev e y = some v) (ht : tget T t = some i)
    (hb : wo.heap[gb]? = some (.cells cur.toArray et (0, 0))) (hwo : Ext wo w) (hs : v.cells = #[v]) (hs1 : i.size = 1) (hoff : Nat.blt off cur.length = true) (h1 : v.oneCell' = true) (hX : Ext w0 w) (hB : w0.heap.size ≤ gb)
    (k : ∀ w', w'.heap[gb]? = some (.cells (cur.set off v).toArray et (0, 0)) → Ext w0 w' → Upd gb (some ⟨gb, 0, none⟩) w w' → WL P N ops.toArray l e w' Q) :
    WL P N ops.toArray (⟨none, .store t x y, tt, ps, af, g⟩ :: l) e w Q := by
  have hof : off < cur.length := by simpa [Nat.blt_eq] using hoff
  have hbw : w.heap[gb]? = some (.cells cur.toArray et (0, 0)) := by rw [hwo.block gb (Array.getElem?_eq_some_iff.1 hb).1]; exact hb
  have hcur : (cur.toArray.toList.take off ++ v.cells.toList ++ cur.toArray.toList.drop (off + v.cells.size)).toArray = (cur.set off v).toArray := by
    rw [hs]
    simp only [List.size_toArray, List.length_cons, List.length_nil]
    rw [List.set_eq_take_append_cons_drop, if_pos hof]
    simp
  refine WL.effN (w' := fun m => (at' w m).setRow gb (cur.set off v).toArray) hg ?_ (fun m => ?_)
  · intro ρ hρ m
    have hr := run_storeVar' (hT.at ht) gb off et cur.toArray (at' w m) v hbw (by rw [hs, hs1]; rfl) (by rw [hs]; simp; omega) (fun u hu => by rw [hs] at hu; simp at hu; subst hu; exact h1)
    rw [hcur] at hr
    simp [execOp, hρ _ _ hx, hρ _ _ hy, Instr.storeAt, Instr.sureAddr, hr]
  · have hU : Upd gb (some ⟨gb, 0, none⟩) w ((at' w m).setRow gb (cur.set off v).toArray) :=
      ⟨⟨rfl, rfl, rfl, by simp [World.setRow], fun k hk hne => setRow_other (at' w m) gb k _ (fun hh => hne (by rw [hh]; rfl))⟩, fun k hk => by simp only [blk, Option.map_some, Option.some.injEq] at hk; omega⟩
    exact k _ (setRow_heap (at' w m) gb cur.toArray _ et _ hbw) (hU.ext hX hB) hU
end rules
theorem Sep.map {B : Nat} {w : World} {ps : List Piece} {i r : Nat} {κ ν : Type} {kv : κ → Value} {vv : ν → Value} {L : List (κ × ν)} (hS : Sep B w ps) (h : ps[i]? = some (pmap kv vv r L)) : MapIs kv vv w r L := (hS.holds i _ h).1
theorem Sep.updMap {B : Nat} {w w' w1 : World} {ps : List Piece} {i r B' : Nat} {κ ν : Type} {kv : κ → Value} {vv : ν → Value} {L L' : List (κ × ν)} (hi : ps[i]? = some (pmap kv vv r L)) (hU : Upd B' (some ⟨r, 0, none⟩) w w') (h : MapIs kv vv w' r L') (hS : Sep B w1 ps) (hx : Ext w1 w) (hB : B ≤ w.heap.size) : Sep B w' (ps.set i (pmap kv vv r L')) :=
  (hS.ext hx).upd hi hU.grown h (.inl rfl) hB
theorem Sep.newMap {B : Nat} {w w' : World} {ps : List Piece} {r : Nat} {κ ν : Type} {kv : κ → Value} {vv : ν → Value} {L : List (κ × ν)} (hS : Sep B w ps) (hx : Ext w w') (h : MapIs kv vv w' r L) (hge : w.heap.size ≤ r) (hB : B ≤ w.heap.size) : Sep B w' (pmap kv vv r L :: ps) :=
  hS.new hx h (fun k hk => by cases hk; exact ⟨hge, h.lt⟩) hB
end Go.Lt
namespace Go.Lt
open Go.RowKit
set_option linter.unusedVariables false
set_option linter.unusedSimpArgs false

/-- What is known of an operation's value; which block is its own. -/
inductive Pr where
  | any : Pr
  | is : Value → Pr
  | ex (F : Value → World → Prop) (b : Value → Option Nat) (keep : ∀ x w w', F x w → Ext w w' → F x w') (lt : ∀ x w k, F x w → b x = some k → k < w.heap.size) : Pr
def Pr.holds : Pr → Value → World → Prop
  | .any, _, _ => True
  | .is v, x, _ => x = v
  | .ex F _ _ _, x, w => F x w
def Pr.bl : Pr → Value → Option Nat
  | .ex _ b _ _, x => b x
  | _, _ => none
theorem Pr.keeps : ∀ {p : Pr} {x : Value} {w w' : World}, p.holds x w → Ext w w' → p.holds x w'
  | .any, _, _, _, _, _ => trivial
  | .is _, _, _, _, h, _ => h
  | .ex _ _ k _, _, _, _, h, hx => k _ _ _ h hx
def prAt : List Pr → Nat → Pr
  | [], _ => .any
  | p :: _, 0 => p
  | _ :: r, i + 1 => prAt r i

section
variable {P : Program} {N : Nat} {prs : List Pr} {pre : List Oper}

/-- Slots become known, one by one. -/
def need (prs : List Pr) (pre : List Oper) (w : World) (K : Env → List (Option Nat) → Prop) : List Nat → Env → List (Option Nat) → Prop
  | [], E, bs => K E bs
  | j :: r, E, bs =>
    match dstAt pre j with
    | none => need prs pre w K r E bs
    | some d =>
      match prAt prs j with
      | .any => need prs pre w K r E bs
      | .is v => need prs pre w K r ((d, v) :: E) bs
      | .ex F b _ _ => ∀ x, F x w → need prs pre w K r ((d, x) :: E) (b x :: bs)

def valO (pre : List Oper) (a : Act) (j : Nat) : Value :=
  match dstAt pre j with
  | some d => a.tmps.getD d undef
  | none => undef
theorem Fit.cons {e : Env} {a : Act} (h : Fit N e a) {d : Nat} {v : Value} (hd : a.tmps[d]? = some v) : Fit N ((d, v) :: e) a := by
  refine ⟨h.size, h.defers, fun t u hu => ?_⟩
  rw [get_cons] at hu
  by_cases hdt : d = t
  · subst hdt; rw [if_pos rfl] at hu; cases hu; exact hd
  · rw [if_neg hdt] at hu; exact h.slots _ _ hu
theorem get_appE (e1 e2 : Env) (t : Nat) : get (e1 ++ e2) t = (get e1 t).or (get e2 t) := by
  induction e1 with
  | nil => simp [get]
  | cons p r ih =>
    obtain ⟨k, v⟩ := p
    rw [List.cons_append, get_cons, get_cons]
    by_cases hk : k = t
    · rw [if_pos hk, if_pos hk]; rfl
    · rw [if_neg hk, if_neg hk, ih]
/-- All slots of a frame. -/
def slotsE (a : Act) : Nat → Env
  | 0 => []
  | n + 1 => (n, a.tmps.getD n undef) :: slotsE a n
theorem slotsE_get {a : Act} : ∀ {n t : Nat}, t < n → get (slotsE a n) t = some (a.tmps.getD t undef)
  | n + 1, t, h => by
    rw [slotsE, get_cons]
    by_cases hk : n = t
    · subst hk; rw [if_pos rfl]
    · rw [if_neg hk]; exact slotsE_get (by omega)
theorem slotsE_lt {a : Act} : ∀ {n t : Nat} {v : Value}, get (slotsE a n) t = some v → t < n
  | 0, t, v, h => by cases h
  | n + 1, t, v, h => by
    rw [slotsE, get_cons] at h
    by_cases hk : n = t
    · omega
    · rw [if_neg hk] at h; have := slotsE_lt h; omega
theorem getD_some {a : Act} {t : Nat} (h : t < a.tmps.size) : a.tmps[t]? = some (a.tmps.getD t undef) := by
  simp [Array.getD_eq_getD_getElem?, h]
theorem Fit.all {e : Env} {a : Act} (h : Fit N e a) : Fit N (e ++ slotsE a N) a := by
  refine ⟨h.size, h.defers, fun t u hu => ?_⟩
  rw [get_appE] at hu
  cases hg : get e t with
  | some x => rw [hg] at hu; simp at hu; subst hu; exact h.slots _ _ hg
  | none =>
    rw [hg] at hu
    simp at hu
    have hlt := slotsE_lt hu
    rw [slotsE_get hlt] at hu
    cases hu
    exact getD_some (by rw [h.size]; exact hlt)

abbrev Apart (bs : List (Option Nat)) : Prop := bs.Pairwise fun x y => x = none ∨ x ≠ y
def postI (N d : Nat) (p : Pr) (w : World) (E : Env) : Exit → Act → World → Prop := onlyN fun a w' => ∃ v, Fit N ((d, v) :: E) a ∧ Ext w w' ∧ p.holds v w' ∧ ∀ k, p.bl v = some k → w.heap.size ≤ k
structure NO (P : Program) (N : Nat) (pre : List Oper) (prs : List Pr) (o : Oper) (d : Nat) (p : Pr) (w : World) (ds : List Nat) (E : Env) : Prop where
  go : ∀ bs, need prs pre w (fun E' _ => WL P N pre.toArray [o] E' w (postI N d p w E')) ds E bs
def depsOf (o : Oper) : List Nat := o.after.toList.filterMap fun e => if Region.binds .any e then some e.on else none
structure OBL (P : Program) (N : Nat) (pre : List Oper) (prs : List Pr) (e : Env) (w : World) (i : Nat) (l : List Oper) : Prop where
  go : ∀ (k : Nat) (o : Oper), l[k]? = some o → ∃ d, o.dst = some d ∧ d < N ∧ ∀ w', Ext w w' → ∀ rest, NO P N pre prs o d (prAt prs (i + k)) w' (depsOf o) (e ++ rest)
theorem OBL.nil {e : Env} {w : World} {i : Nat} : OBL P N pre prs e w i [] := ⟨fun k o h => by simp at h⟩
theorem OBL.cons {e : Env} {w : World} {i d : Nat} {o : Oper} {r : List Oper} {p : Pr} {ds : List Nat} (hd : o.dst = some d) (hN : Nat.blt d N = true) (hp : prAt prs i = p) (hds : depsOf o = ds)
    (h : ∀ w', Ext w w' → ∀ rest, NO P N pre prs o d p w' ds (e ++ rest)) (k : OBL P N pre prs e w (i + 1) r) : OBL P N pre prs e w i (o :: r) := by
  refine ⟨fun j o' hj => ?_⟩
  cases j with
  | zero => simp at hj; subst hj; exact ⟨d, hd, by simpa [Nat.blt_eq] using hN, by rw [Nat.add_zero, hp, hds]; exact h⟩
  | succ j =>
    have := k.go j o' (by simpa using hj)
    rwa [show i + 1 + j = i + (j + 1) by omega] at this
theorem NO.nil {o : Oper} {d : Nat} {p : Pr} {w : World} {E : Env} (h : WL P N pre.toArray [o] E w (postI N d p w E)) : NO P N pre prs o d p w [] E := ⟨fun _ => h⟩
theorem NO.any {o : Oper} {d j : Nat} {p : Pr} {w : World} {E : Env} {r : List Nat} (hp : prAt prs j = .any) (h : NO P N pre prs o d p w r E) : NO P N pre prs o d p w (j :: r) E := ⟨fun bs => by
  unfold need
  cases dstAt pre j with
  | none => exact h.go bs
  | some d => dsimp only; rw [hp]; exact h.go bs⟩
theorem NO.is {o : Oper} {d dj j : Nat} {p : Pr} {w : World} {E : Env} {v : Value} {r : List Nat} (hd : dstAt pre j = some dj) (hp : prAt prs j = .is v) (h : NO P N pre prs o d p w r ((dj, v) :: E)) : NO P N pre prs o d p w (j :: r) E := ⟨fun bs => by
  unfold need
  rw [hd]; dsimp only; rw [hp]; exact h.go bs⟩
theorem NO.ex {o : Oper} {d dj j : Nat} {p : Pr} {w : World} {E : Env} {F : Value → World → Prop} {b : Value → Option Nat} {kp : ∀ x w w', F x w → Ext w w' → F x w'} {lt : ∀ x w k, F x w → b x = some k → k < w.heap.size} {r : List Nat} (hd : dstAt pre j = some dj) (hp : prAt prs j = .ex F b kp lt)
    (h : ∀ x, F x w → NO P N pre prs o d p w r ((dj, x) :: E)) : NO P N pre prs o d p w (j :: r) E := ⟨fun bs => by
  unfold need
  rw [hd]; dsimp only; rw [hp]; exact fun x hx => (h x hx).go _⟩

structure InvI (N : Nat) (prs : List Pr) (pre : List Oper) (e : Env) (w0 : World) (L : Array Bool) (a : Act) (w : World) : Prop where
  ext : Ext w0 w
  fit : Fit N e a
  holds : ∀ i, i < pre.length → L.getD i false = true → (prAt prs i).holds (valO pre a i) w
  apart : ∀ i j, i < pre.length → j < pre.length → L.getD i false = true → L.getD j false = true → i ≠ j → (prAt prs i).bl (valO pre a i) = none ∨ (prAt prs i).bl (valO pre a i) ≠ (prAt prs j).bl (valO pre a j)

structure NF (P : Program) (N : Nat) (pre : List Oper) (prs : List Pr) (w : World) (K : Env → Prop) (ds : List Nat) (E : Env) (bs : List (Option Nat)) : Prop where
  go : need prs pre w (fun E' bs' => Apart bs' → K E') ds E bs
theorem NF.any {w : World} {K : Env → Prop} {E : Env} {bs : List (Option Nat)} {j : Nat} {r : List Nat} (hp : prAt prs j = .any) (h : NF P N pre prs w K r E bs) : NF P N pre prs w K (j :: r) E bs := ⟨by
  unfold need
  cases dstAt pre j with
  | none => exact h.go
  | some d => dsimp only; rw [hp]; exact h.go⟩
theorem NF.is {w : World} {K : Env → Prop} {E : Env} {bs : List (Option Nat)} {j dj : Nat} {v : Value} {r : List Nat} (hd : dstAt pre j = some dj) (hp : prAt prs j = .is v) (h : NF P N pre prs w K r ((dj, v) :: E) bs) : NF P N pre prs w K (j :: r) E bs := ⟨by
  unfold need
  rw [hd]; dsimp only; rw [hp]; exact h.go⟩
theorem NF.ex {w : World} {K : Env → Prop} {E : Env} {bs : List (Option Nat)} {j dj : Nat} {F : Value → World → Prop} {b : Value → Option Nat} {kp : ∀ x w w', F x w → Ext w w' → F x w'} {lt : ∀ x w k, F x w → b x = some k → k < w.heap.size} {r : List Nat} (hd : dstAt pre j = some dj) (hp : prAt prs j = .ex F b kp lt)
    (h : ∀ x, F x w → NF P N pre prs w K r ((dj, x) :: E) (b x :: bs)) : NF P N pre prs w K (j :: r) E bs := ⟨by
  unfold need
  rw [hd]; dsimp only; rw [hp]; exact fun x hx => (h x hx).go⟩
theorem InvI.start {e : Env} {w0 : World} {a : Act} {m n : Nat} (hf : Fit N e a) : InvI N prs pre e w0 (Array.replicate n false) a (at' w0 m) :=
  ⟨(Ext.refl _).at m, hf, fun i _ h => (by rw [getD_replicate_false] at h; cases h), fun i j _ _ h => (by rw [getD_replicate_false] at h; cases h)⟩
theorem OBL.lt {e : Env} {w0 : World} (hO : OBL P N pre prs e w0 0 pre) : ∀ j d, dstAt pre j = some d → d < N := fun j d hj => by
  rw [← dstAt_eq] at hj
  cases ho : pre.toArray[j]? with
  | none => rw [ho] at hj; cases hj
  | some q =>
    rw [ho] at hj
    simp only [Option.bind_some] at hj
    obtain ⟨d', h1, h2, _⟩ := hO.go j q (by simpa using ho)
    rw [h1] at hj; cases hj; exact h2

end

section
variable {N : Nat}
end

section rules
variable {P : Program} {N : Nat} {e : Env} {w : World} {Q : Exit → Act → World → Prop} {ops : List Oper} {l : List Oper} {T : Tab}
  {d : Nat} {tt : TypeId} {ps : String} {af : Array Edge} {g : Option (Nat × Bool)} {t : TypeId} {α : Type} {s : Nat} {enc : α → List Value} {B : Nat} {ti ei : TI} {el : TypeId}
end rules

end Go.Lt
namespace Go.Lt
open Go.RowKit
set_option linter.unusedVariables false
set_option linter.unusedSimpArgs false

inductive Strat where
  | done : Strat
  | fl : Bool → Nat → Strat → Strat
  | br : Nat → Strat → Strat → Strat
  | stop : Strat

def heads : Strat → List Nat
  | .br i _ more => i :: heads more
  | _ => []
def slen : Strat → Nat
  | .done => 0
  | .fl _ _ k => slen k + 1
  | .br _ k _ => slen k + 1
  | .stop => 0
def isStop : Strat → Bool
  | .stop => true
  | _ => false

def stratB (ops : Array Oper) (early : Nat → Bool) : Bool → Strat → Array Bool → Bool
  | top, .done, L => top && Region.ready .any ops L == []
  | top, .fl b i k, L => top && (Region.ready .any ops L).contains i && (match ops[i]? with
      | some oi => (List.range ops.size).all (fun j => j == i || L.getD j true || waits ops j i || (match ops[j]? with | some oj => oi.apart ops oj && (b || early j) | none => false))
      | none => false) && stratB ops early true k (L.setIfInBounds i true)
  | top, .br i k more, L => (!top || Region.ready .any ops L == i :: heads more) && (isStop more || Nat.beq (slen more) (slen k + 1)) && stratB ops early true k (L.setIfInBounds i true) && stratB ops early false more L
  | top, .stop, _ => !top

section tree
variable {P : Program} {ops : Array Oper} {C : World → Prop} {early : Nat → Bool} {K : Act → World → Prop}

def wpT (P : Program) (ops : Array Oper) (C : World → Prop) (early : Nat → Bool) (K : Act → World → Prop) : Nat → Array Bool → Act → World → Prop
  | 0, listed, a, w => Region.ready .any ops listed = [] ∧ ∀ m, K a (at' w m)
  | n + 1, listed, a, w => Region.ready .any ops listed ≠ [] ∧ ∀ m, ∀ i ∈ Region.ready .any ops listed,
      wpOp P ops (onlyN K) i (fun a' w' => ((∀ m, C (at' w m)) → early i = true → ∀ m, C (at' w' m)) ∧ wpT P ops C early K n (listed.setIfInBounds i true) a' w') a (at' w m)

theorem wpT_at : ∀ {n : Nat} {listed : Array Bool} {a : Act} {w : World} (m : Nat), wpT P ops C early K n listed a w → wpT P ops C early K n listed a (at' w m)
  | 0, _, _, _, _, h => ⟨h.1, fun m' => h.2 m'⟩
  | _ + 1, _, _, _, _, h => ⟨h.1, fun m' => h.2 m'⟩

theorem wpAny_of_T {Q : Exit → Act → World → Prop} (hQ : ∀ a w, K a w → Q .normal a w) : ∀ (fuel : Nat) (listed : Array Bool) (a : Act) (w : World), wpT P ops C early K fuel listed a w → wpAny P .any ops Q fuel listed a w
  | 0, _, _, w, h => ⟨h.1, hQ _ _ (h.2 w.drawn)⟩
  | fuel + 1, _, _, w, h => ⟨fun h0 => absurd h0 h.1, fun i hi => wpOp_mono' (fun a w hh => wpAny_of_T hQ fuel _ a w hh.2) (h.2 w.drawn i hi)⟩

/-- The step yields v, and leaves the world but for draws. -/
def StillAt (P : Program) (s : Sem Next) (w : World) (v : Value) : Prop :=
  s.run P w = .ok (.value v) w ∨ ∃ f args, s.run P w = .ok (.enter f args) w ∧ Calls P f args w (fun x w' => x = .returned v ∧ ∃ m, w' = at' w m)

def SYields (P : Program) (ops : Array Oper) (C : World → Prop) (o : Oper) (v : Value) (a : Act) : Prop :=
  (Region.wanted o (yielded ops a.tmps) = true ∧ ∀ w, C w → StillAt P (execOp a.eval o) w v) ∨ (Region.wanted o (yielded ops a.tmps) = false ∧ v = undef)

theorem SYields.wpOp {i : Nat} {o : Oper} {v : Value} {a : Act} {w : World} {Q : Exit → Act → World → Prop} {K' : Act → World → Prop} (hi : ops[i]? = some o) (hy : SYields P ops C o v a) (hC : C w) (h : ∀ m, K' (a.put o.dst v) (at' w m)) : wpOp P ops Q i K' a w := by
  unfold Go.wpOp
  simp only [hi]
  rcases hy with ⟨hw, hv⟩ | ⟨hw, rfl⟩
  · simp only [hw, if_true]
    refine .inl ?_
    unfold Oper.wp
    rcases hv w hC with hv | ⟨f, args, hv, hc⟩
    · rw [hv]; exact h w.drawn
    · rw [hv]
      refine Calls.mono hc ?_
      rintro x w' ⟨rfl, m, rfl⟩
      exact h m
  · simp only [hw, Bool.false_eq_true, if_false]; exact h w.drawn

theorem SYields.of_same {o : Oper} {v : Value} {a a' : Act} (hy : SYields P ops C o v a) (he : execOp a'.eval o = execOp a.eval o)
    (hw : Region.wanted o (yielded ops a'.tmps) = Region.wanted o (yielded ops a.tmps)) : SYields P ops C o v a' := by
  unfold SYields at *
  rw [he, hw]
  exact hy

theorem wpOp_putS {j : Nat} {oi oj : Oper} {v : Value} {C : World → Prop} (hj : ops[j]? = some oj) (hap : oi.apart ops oj = true)
    (hsi : ∀ cs b, oi.op ≠ .select cs b) (hsj : ∀ cs b, oj.op ≠ .select cs b) {K0 K1 : Act → World → Prop} {a : Act} {w : World}
    (hy : SYields P ops C oi v a) (h : wpOp P ops (onlyN K0) j K1 (a.put oi.dst v) w) :
    wpOp P ops (onlyN K0) j (fun a' w' => SYields P ops C oi v a' ∧ K1 (a'.put oi.dst v) w') a w := by
  obtain ⟨h1, h2, h3⟩ := Oper.apart_spec hap
  have keep : ∀ u, SYields P ops C oi v (a.put oj.dst u) := fun u => hy.of_same (execOp_put oi hsi a oj.dst u h3) (wanted_put oi a oj.dst u h3)
  have swap : ∀ u, (a.put oi.dst v).put oj.dst u = (a.put oj.dst u).put oi.dst v := fun u => Act.put_comm a v u h2
  have lets : ¬ LetsOut (onlyN K0) := fun ⟨_, _, hq⟩ => hq
  unfold Go.wpOp at *
  simp only [hj] at *
  rw [wanted_put oj a oi.dst v h1] at h
  split
  · rename_i hw
    simp only [hw, if_true] at h
    rcases h with h | ⟨_, hq⟩
    · refine .inl ?_
      unfold Oper.wp at h ⊢
      rw [execOp_put oj hsj a oi.dst v h1] at h
      revert h
      generalize (execOp a.eval oj).run P w = r
      intro h
      unfold Oper.upon at h ⊢
      split at h
      · exact ⟨keep _, by rw [← swap]; exact h⟩
      · exact ⟨keep _, by rw [← swap]; exact h⟩
      · rename_i d w'
        have e1 : ({ a with defers := d :: a.defers }.put oj.dst undef).put oi.dst v = { a.put oi.dst v with defers := d :: (a.put oi.dst v).defers }.put oj.dst undef := by
          rw [Act.put_comm _ undef v (fun q hq hh => h2 q hh hq)]
          cases oi.dst <;> rfl
        have e2 : SYields P ops C oi v ({ a with defers := d :: a.defers }.put oj.dst undef) := by
          refine (keep undef).of_same ?_ ?_
          · cases oj.dst <;> rfl
          · cases oj.dst <;> rfl
        exact ⟨e2, by rw [e1]; exact h⟩
      · refine Calls.mono h fun x w'' hx => ?_
        cases x with
        | returned u => exact ⟨keep _, by rw [← swap]; exact hx⟩
        | panicked c => exact hx.elim
        | outgrown => exact (lets hx).elim
      · exact Rows.mono h fun u w'' hx => ⟨keep _, by rw [← swap]; exact hx⟩
      · exact h.elim
      · exact h
    · exact (lets hq).elim
  · rename_i hw
    simp only [hw] at h
    exact ⟨keep _, by rw [← swap]; exact h⟩

theorem wpT_first {i : Nat} {oi : Oper} {v : Value} {b : Bool} (hi : ops[i]? = some oi) (hsel : ∀ (j : Nat) (o : Oper) cs b, ops[j]? = some o → o.op ≠ .select cs b) :
    ∀ (fuel : Nat) (listed : Array Bool) (a : Act) (w : World), (∀ m, b = true ∨ C (at' w m)) →
      (∀ j oj, ops[j]? = some oj → j ≠ i → listed.getD j true = false → (∀ e ∈ oj.after, Region.binds .any e = true → e.on ≠ i) → oi.apart ops oj = true ∧ (b = true ∨ early j = true)) →
      i ∈ Region.ready .any ops listed → SYields P ops (fun w => b = true ∨ C w) oi v a →
      wpT P ops C early K fuel (listed.setIfInBounds i true) (a.put oi.dst v) w → wpT P ops C early K (fuel + 1) listed a w := by
  intro fuel
  induction fuel with
  | zero =>
    intro listed a w hC _ hr hy H
    refine ⟨fun h => (by rw [h] at hr; cases hr), fun m j hj => ?_⟩
    by_cases hji : j = i
    · subst hji; exact hy.wpOp hi (hC m) fun m' => ⟨fun hc _ m2 => hc m2, wpT_at m' H⟩
    · have := ready_mono hj hji
      rw [H.1] at this
      cases this
  | succ fuel ih =>
    intro listed a w hC hfree hr hy H
    refine ⟨fun h => (by rw [h] at hr; cases hr), fun m j hj => ?_⟩
    by_cases hji : j = i
    · subst hji; exact hy.wpOp hi (hC m) fun m' => ⟨fun hc _ m2 => hc m2, wpT_at m' H⟩
    · have h1 := H.2 m j (ready_mono hj hji)
      obtain ⟨hjun, oj, hoj, hall⟩ := mem_ready.1 hj
      have hnot : ∀ e ∈ oj.after, Region.binds .any e = true → e.on ≠ i := fun e he hb heq => by
        have h1 := hall e he hb
        have h0 := (mem_ready.1 hr).1
        rw [heq] at h1
        rcases Nat.lt_or_ge i listed.size with h' | h'
        · simp [h'] at h0 h1; rw [h0] at h1; cases h1
        · simp [Array.getElem?_eq_none h'] at h1
      obtain ⟨hap, hea⟩ := hfree j oj hoj hji hjun hnot
      have h2 := wpOp_putS hoj hap (fun cs b => hsel i oi cs b hi) (fun cs b => hsel j oj cs b hoj) hy h1
      have hfree' : ∀ k ok, ops[k]? = some ok → k ≠ i → (listed.setIfInBounds j true).getD k true = false →
          (∀ e ∈ ok.after, Region.binds .any e = true → e.on ≠ i) → oi.apart ops ok = true ∧ (b = true ∨ early k = true) := fun k ok hk hki hun hno => by
        refine hfree k ok hk hki ?_ hno
        by_cases hjk : j = k
        · subst hjk; exact hjun
        · rw [getD_set_ne true hjk] at hun; exact hun
      refine wpOp_mono' (fun a' w' h3 => ⟨h3.2.1, ih (listed.setIfInBounds j true) a' w' ?_ hfree' (ready_mono hr (Ne.symm hji)) h3.1 ?_⟩) h2
      · intro m2
        rcases hea with hb | hea
        · exact .inl hb
        · by_cases hb : b = true
          · exact .inl hb
          · exact .inr (h3.2.1 (fun m3 => (hC m3).resolve_left hb) hea m2)
      · rw [Array.setIfInBounds_comm _ _ hji]
        exact h3.2.2

def wpS (P : Program) (ops : Array Oper) (C : World → Prop) (early : Nat → Bool) (K : Act → World → Prop) : Strat → Act → World → Prop
  | .done, a, w => ∀ m, K a (at' w m)
  | .fl b i k, a, w => ∃ o, ops[i]? = some o ∧ ∃ v, SYields P ops (fun w => b = true ∨ C w) o v a ∧ (∀ m, b = true ∨ C (at' w m)) ∧ wpS P ops C early K k (a.put o.dst v) w
  | .br i k more, a, w => (∃ o, ops[i]? = some o ∧ ∀ m, wpList P ops (onlyN fun a' w' => (early i = true → ∀ m, C (at' w' m)) ∧ wpS P ops C early K k a' w') [o] a (at' w m)) ∧ wpS P ops C early K more a w
  | .stop, _, _ => True

theorem wpS_at : ∀ {s : Strat} {a : Act} {w : World} (m : Nat), wpS P ops C early K s a w → wpS P ops C early K s a (at' w m)
  | .done, _, _, _, h => fun m' => h m'
  | .fl b i k, _, _, m, ⟨o, ho, v, h1, h2, h3⟩ => ⟨o, ho, v, h1, fun m' => h2 m', wpS_at m h3⟩
  | .br i k more, _, _, m, ⟨⟨o, ho, h1⟩, h2⟩ => ⟨⟨o, ho, fun m' => h1 m'⟩, wpS_at m h2⟩
  | .stop, _, _, _, _ => trivial

theorem strat_all (hsel : ∀ (j : Nat) (o : Oper) cs b, ops[j]? = some o → o.op ≠ .select cs b) : ∀ (s : Strat),
    (∀ (L : Array Bool) (a : Act) (w : World), stratB ops early true s L = true → wpS P ops C early K s a w → wpT P ops C early K (slen s) L a w) ∧
    (∀ (L : Array Bool) (a : Act) (w : World) (n : Nat), stratB ops early false s L = true → (isStop s = true ∨ slen s = n + 1) → wpS P ops C early K s a w → ∀ i ∈ heads s, ∀ m,
      wpOp P ops (onlyN K) i (fun a' w' => ((∀ m, C (at' w m)) → early i = true → ∀ m, C (at' w' m)) ∧ wpT P ops C early K n (L.setIfInBounds i true) a' w') a (at' w m))
  | .done => ⟨fun L a w hB h => ⟨by simpa [stratB] using hB, h⟩, fun L a w n hB => by simp [stratB] at hB⟩
  | .stop => ⟨fun L a w hB => by simp [stratB] at hB, fun L a w n hB hn h i hi => by simp [heads] at hi⟩
  | .fl b i k => by
    refine ⟨fun L a w hB h => ?_, fun L a w n hB => by simp [stratB] at hB⟩
    obtain ⟨o, ho, v, h1, h2, h3⟩ := h
    simp only [stratB, ho, Bool.true_and, Bool.and_eq_true] at hB
    obtain ⟨⟨hB1, hB2⟩, hB3⟩ := hB
    have hfree : ∀ j oj, ops[j]? = some oj → j ≠ i → L.getD j true = false → (∀ e ∈ oj.after, Region.binds .any e = true → e.on ≠ i) → o.apart ops oj = true ∧ (b = true ∨ early j = true) := by
      intro j oj hj hji hun hno
      have hjlt : j < ops.size := (Array.getElem?_eq_some_iff.1 hj).1
      have := List.all_eq_true.1 hB2 j (List.mem_range.2 hjlt)
      simp only [hj, Bool.or_eq_true, beq_iff_eq, hji, hun, Bool.false_eq_true, false_or, Bool.and_eq_true] at this
      rcases this with hw | hw
      · exfalso
        simp only [waits, hj] at hw
        obtain ⟨e, he, hb⟩ := Array.any_eq_true'.1 hw
        simp only [Bool.and_eq_true, beq_iff_eq] at hb
        exact hno e he hb.1 hb.2
      · exact hw
    exact wpT_first ho hsel (slen k) L a w h2 hfree (by simpa using hB1) h1 ((strat_all hsel k).1 _ _ _ hB3 h3)
  | .br i k more => by
    have key : ∀ (L : Array Bool) (a : Act) (w : World), stratB ops early true k (L.setIfInBounds i true) = true →
        (∃ o, ops[i]? = some o ∧ ∀ m, wpList P ops (onlyN fun a' w' => (early i = true → ∀ m, C (at' w' m)) ∧ wpS P ops C early K k a' w') [o] a (at' w m)) → ∀ m,
        wpOp P ops (onlyN K) i (fun a' w' => ((∀ m, C (at' w m)) → early i = true → ∀ m, C (at' w' m)) ∧ wpT P ops C early K (slen k) (L.setIfInBounds i true) a' w') a (at' w m) := by
      rintro L a w hB ⟨o, ho, h⟩ m
      refine wpOp_of_list ho (h m) _ fun a' w' h' => ?_
      have h'' : (early i = true → ∀ m, C (at' w' m)) ∧ wpS P ops C early K k a' w' := h'
      exact ⟨fun _ he => h''.1 he, (strat_all hsel k).1 _ _ _ hB h''.2⟩
    refine ⟨fun L a w hB h => ?_, fun L a w n hB hn h => ?_⟩
    · simp only [stratB, Bool.not_true, Bool.false_or, Bool.and_eq_true, beq_iff_eq, Bool.or_eq_true] at hB
      obtain ⟨⟨⟨hB1, hB2⟩, hB3⟩, hB4⟩ := hB
      refine ⟨by rw [hB1]; simp, fun m j hj => ?_⟩
      rw [hB1] at hj
      rcases List.mem_cons.1 hj with rfl | hj
      · exact key L a w hB3 h.1 m
      · refine (strat_all hsel more).2 L a w (slen k) hB4 ?_ h.2 j hj m
        rcases hB2 with hB2 | hB2
        · exact .inl hB2
        · exact .inr (Nat.eq_of_beq_eq_true hB2)
    · simp only [stratB, Bool.not_false, Bool.true_or, Bool.true_and, Bool.and_eq_true, Bool.or_eq_true] at hB
      obtain ⟨⟨hB2, hB3⟩, hB4⟩ := hB
      have hk : slen k = n := by
        rcases hn with hn | hn
        · cases hn
        · exact Nat.succ.inj hn
      subst hk
      intro j hj m
      rcases List.mem_cons.1 hj with rfl | hj
      · exact key L a w hB3 h.1 m
      · refine (strat_all hsel more).2 L a w (slen k) hB4 ?_ h.2 j hj m
        rcases hB2 with hB2 | hB2
        · exact .inl hB2
        · exact .inr (Nat.eq_of_beq_eq_true hB2)
end tree

structure SG (P : Program) (N : Nat) (l : List Oper) (C : World → Prop) (early : Nat → Bool) (s : Strat) (e : Env) (w : World) (Q : Exit → Act → World → Prop) : Prop where
  go : ∀ a, Fit N e a → wpS P l.toArray C early (fun a w => Q .normal a w) s a w

def memN : List Nat → Nat → Bool
  | [], _ => false
  | k :: r, j => Nat.beq k j || memN r j
def nthO : List Oper → Nat → Option Oper
  | [], _ => none
  | o :: _, 0 => some o
  | _ :: r, i + 1 => nthO r i
theorem nthO_eq : ∀ {l : List Oper} {i : Nat} {o : Oper}, nthO l i = some o → l.toArray[i]? = some o
  | [], _, _, h => by cases h
  | _ :: _, 0, _, h => by simpa [nthO] using h
  | _ :: r, i + 1, o, h => by have := nthO_eq (l := r) (i := i) h; simpa using this

section rules
variable {P : Program} {N : Nat} {e : Env} {w : World} {Q : Exit → Act → World → Prop} {C : World → Prop} {l : List Oper} {early : Nat → Bool} {s k more : Strat} {o : Oper} {i : Nat}

theorem W.regionG {id : Nat} (s : Strat) (E : List Nat) (C : World → Prop) (hm : P.follows .mixedOrders = true) (hB : (Region.noSelect l.toArray && Nat.beq (slen s) l.toArray.size && stratB l.toArray (memN E) true s (Array.replicate l.toArray.size false)) = true)
    (h : SG P N l C (memN E) s e w Q) : W P N (.region id l.toArray true) e w Q := by
  refine ⟨fun a m hf => wp_region_any hm ?_⟩
  simp only [Bool.and_eq_true] at hB
  obtain ⟨⟨hB1, hB2⟩, hB3⟩ := hB
  have hsel : ∀ (j : Nat) (o : Oper) cs b, l.toArray[j]? = some o → o.op ≠ .select cs b := fun j o cs b ho => Region.noSelect_spec hB1 j o cs b ho
  have hsz := Nat.eq_of_beq_eq_true hB2
  have key := (strat_all (P := P) (C := C) (K := fun a w => Q .normal a w) hsel s).1 _ _ _ hB3 (h.go a hf)
  rw [hsz] at key
  exact wpAny_of_T (K := fun a w => Q .normal a w) (C := C) (early := memN E) (fun _ _ h => h) _ _ _ _ (wpT_at (w := w) (m + 1) key)

theorem W.regionGB {id : Nat} (s : Strat) (E : List Nat) (b : Option Nat) (hm : P.follows .mixedOrders = true) (hB : (Region.noSelect l.toArray && Nat.beq (slen s) l.toArray.size && stratB l.toArray (memN E) true s (Array.replicate l.toArray.size false)) = true)
    (h : SG P N l (But w b) (memN E) s e w Q) : W P N (.region id l.toArray true) e w Q := W.regionG s E (But w b) hm hB h
theorem SG.done (h : Z N Q .normal e w) : SG P N l C early .done e w Q := ⟨fun a hf m => h.go a m hf⟩
theorem SG.stop : SG P N l C early .stop e w Q := ⟨fun a hf => trivial⟩
theorem SG.fl0 (ho : nthO l i = some o) (h : FL P N l.toArray (fun _ => True) [o] e w (fun a => wpS P l.toArray C early (fun a w => Q .normal a w) k a w)) : SG P N l C early (.fl true i k) e w Q := by
  refine ⟨fun a hf => ⟨o, nthO_eq ho, ?_⟩⟩
  have := h.go a hf
  unfold wpFl at this
  split at this
  · rename_i hw
    obtain ⟨v, h1, h2⟩ := this
    exact ⟨v, .inl ⟨hw, fun w' _ => .inl (h1 w' trivial)⟩, fun m => .inl rfl, h2⟩
  · rename_i hw
    exact ⟨undef, .inr ⟨by simpa using hw, rfl⟩, fun m => .inl rfl, this⟩
theorem SG.fl1 (ho : nthO l i = some o) (hC : ∀ m, C (at' w m)) (h : FL P N l.toArray C [o] e w (fun a => wpS P l.toArray C early (fun a w => Q .normal a w) k a w)) : SG P N l C early (.fl false i k) e w Q := by
  refine ⟨fun a hf => ⟨o, nthO_eq ho, ?_⟩⟩
  have := h.go a hf
  unfold wpFl at this
  split at this
  · rename_i hw
    obtain ⟨v, h1, h2⟩ := this
    exact ⟨v, .inl ⟨hw, fun w' hc => .inl (h1 w' (hc.resolve_left (by simp)))⟩, fun m => .inr (hC m), h2⟩
  · rename_i hw
    exact ⟨undef, .inr ⟨by simpa using hw, rfl⟩, fun m => .inr (hC m), this⟩
theorem FL.nilS {opsA : Array Oper} {C' : World → Prop} (h : SG P N l C early k e w Q) : FL P N opsA C' [] e w (fun a => wpS P l.toArray C early (fun a w => Q .normal a w) k a w) := ⟨fun a hf => h.go a hf⟩
/-- A call that is still, whatever the world of the class. -/
theorem SG.flS {d : Nat} {f : FuncId} {args : List Operand} {ts : Array TypeId} {c : Operand} {us vs : List Value} {v : Value} {tt : TypeId} {ps : String} {af : Array Edge} {g : Option (Nat × Bool)}
    (ho : nthO l i = some ⟨some d, .call ⟨.value c, args.toArray, ts⟩, tt, ps, af, g⟩) (hC : ∀ m, C (at' w m)) (hg : gate l e g = some true) (hd : Nat.blt d N = true) (hc : ev e c = some (.func (.func f) #[] us.toArray)) (hv : evs e args = some vs)
    (h : ∀ w', C w' → Still P f (vs ++ us) w' v) (hk : SG P N l C early k ((d, v) :: e) w Q) : SG P N l C early (.fl false i k) e w Q := by
  refine ⟨fun a hf => ⟨_, nthO_eq ho, v, .inl ⟨by rw [gate_wanted hf (o := ⟨some d, .call ⟨.value c, args.toArray, ts⟩, tt, ps, af, g⟩) hg], fun w' hc' => .inr ?_⟩, fun m => .inr (hC m), hk.go _ (hf.put (by simpa [Nat.blt_eq] using hd) v)⟩⟩
  have hS := h w' (hc'.resolve_left (by simp))
  refine ⟨f, (vs ++ us).toArray, ?_, ?_⟩
  · have h1 := evs_map (ρ := a.eval) (fun x u hx => hf.eval hx) hv
    have HC := hS.1
    simp [execOp, resolve, hf.eval hc, Deferred.ofValue, invoke, HC.run, h1]
  · refine (hS.2 w'.drawn).mono ?_
    rintro x w'' ⟨u, rfl, rfl, m, rfl⟩
    exact ⟨rfl, m, rfl⟩
theorem SG.br (ho : nthO l i = some o) (h : WL P N l.toArray [o] e w (onlyN fun a' w' => (early i = true → ∀ m, C (at' w' m)) ∧ wpS P l.toArray C early (fun a w => Q .normal a w) k a' w')) (hm : SG P N l C early more e w Q) : SG P N l C early (.br i k more) e w Q :=
  ⟨fun a hf => ⟨⟨o, nthO_eq ho, fun m => h.go a m hf⟩, hm.go a hf⟩⟩
theorem SG.br1 (ho : nthO l i = some o) (h : WL P N l.toArray [o] e w (onlyN fun a' w' => (early i = true → ∀ m, C (at' w' m)) ∧ wpS P l.toArray C early (fun a w => Q .normal a w) k a' w')) : SG P N l C early (.br i k .stop) e w Q := SG.br ho h SG.stop
theorem Z.sg (hC : early i = true → ∀ m, C (at' w m)) (h : SG P N l C early k e w Q) : Z N (onlyN fun a' w' => (early i = true → ∀ m, C (at' w' m)) ∧ wpS P l.toArray C early (fun a w => Q .normal a w) k a' w') .normal e w :=
  ⟨fun a m hf => ⟨fun he m' => hC he m', wpS_at m (h.go a hf)⟩⟩
theorem Z.sgL (hE : early i = false) (h : SG P N l C early k e w Q) : Z N (onlyN fun a' w' => (early i = true → ∀ m, C (at' w' m)) ∧ wpS P l.toArray C early (fun a w => Q .normal a w) k a' w') .normal e w := Z.sg (fun h => by rw [hE] at h; cases h) h
theorem Z.sgE (hC : ∀ m, C (at' w m)) (h : SG P N l C early k e w Q) : Z N (onlyN fun a' w' => (early i = true → ∀ m, C (at' w' m)) ∧ wpS P l.toArray C early (fun a w => Q .normal a w) k a' w') .normal e w := Z.sg (fun _ => hC) h
end rules

section more
variable {P : Program} {T : Tab} {N : Nat} {e : Env} {w w0 : World} {Q : Exit → Act → World → Prop} {C : World → Prop} {ops l : List Oper} {Kf : Act → Prop} {K : Act → World → Prop}
  {d : Nat} {tt t ty : TypeId} {ps : String} {af : Array Edge} {g : Option (Nat × Bool)} {x y : Operand} {a b : Int}
theorem FL.loadG {bk : Option Nat} {p : Addr} {v : Value} {i : TI} (hT : OkTab P T) (hg : gate ops e g = some true) (hd : Nat.blt d N = true) (hx : ev e x = some (.pointer (some p))) (ht : tget T t = some i) (ha : isAggD i.desc = false) (hv : w0.cell? p = some v) (hb : bk ≠ some p.block)
    (k : FL P N ops.toArray (But w0 bk) l ((d, v) :: e) w Kf) : FL P N ops.toArray (But w0 bk) (⟨some d, .load t x, tt, ps, af, g⟩ :: l) e w Kf := by
  refine FL.step hg hd ?_ k
  intro ρ hρ w' hw'
  have h1 := run_isAgg' (hT.at ht); rw [ha] at h1
  have h2 := But.cell hw' hv hb
  simp [execOp, hρ _ _ hx, Instr.loadAt, Instr.sureAddr, loadVar, h1, h2]
theorem FL.loadAG {bk : Option Nat} {b off : Nat} {vs : List Value} {i : TI} (hT : OkTab P T) (hg : gate ops e g = some true) (hd : Nat.blt d N = true) (hx : ev e x = some (.pointer (some ⟨b, off, none⟩))) (ht : tget T t = some i) (ha : isAggD i.desc = true) (hv : Cells w0 b off vs) (hs : i.size = vs.length) (hb : bk ≠ some b)
    (k : FL P N ops.toArray (But w0 bk) l ((d, .agg vs.toArray) :: e) w Kf) : FL P N ops.toArray (But w0 bk) (⟨some d, .load t x, tt, ps, af, g⟩ :: l) e w Kf := by
  refine FL.step hg hd ?_ k
  intro ρ hρ w' hw'
  have h1 := run_isAgg' (hT.at ht); rw [ha] at h1
  have h3 := run_sizeOf' (hT.at ht); rw [hs] at h3
  have h2 := run_loadCellsFrom (P := P) (acc := #[]) (off := off) (i := 0) (But.cells hw' hb hv)
  simp [execOp, hρ _ _ hx, Instr.loadAt, Instr.sureAddr, loadVar, h1, h3, loadCells, h2]
theorem FL.build (hT : OkTab P T) {ti : TI} {fs : Array Field} {pl : List (Nat × Nat)} {parts : List (Nat × Operand)} {pvs : List (Nat × Value)} {cs : List Value} (hg : gate ops e g = some true) (hd : Nat.blt d N = true) (ht : tget T t = some ti) (htd : ti.desc = .struct fs) (hpl : places T fs.toList = some pl)
    (hp : evp e parts = some pvs) (hcs : fillL pl ti.zero.cells.toList pvs = cs) (hfill : Instr.fill (fun i : Nat => pl[i]?) ti.zero.cells pvs = some (fillL pl ti.zero.cells.toList pvs).toArray)
    (k : FL P N ops.toArray C l ((d, .agg cs.toArray) :: e) w Kf) : FL P N ops.toArray C (⟨some d, .build t ⟨parts⟩, tt, ps, af, g⟩ :: l) e w Kf := by
  refine FL.step hg hd ?_ k
  subst hcs
  exact ybuild (C := C) hT ht htd hpl hp rfl hfill
theorem xor1_all (a : Int) (h : 0 ≤ a ∧ a ≤ 9223372036854775807) : IntKind.i64.wrap (BitVec.ofInt IntKind.i64.bits a ^^^ BitVec.ofInt IntKind.i64.bits 1).toNat = Lt.xor1 a := by
  by_cases h1 : a = 9223372036854775807
  · subst h1; rfl
  · exact xor1_eq a ⟨h.1, by omega⟩
theorem xor0_all (a : Int) (h : 0 ≤ a ∧ a ≤ 9223372036854775807) : IntKind.i64.wrap (BitVec.ofInt IntKind.i64.bits a ^^^ BitVec.ofInt IntKind.i64.bits 0).toNat = a := by
  show IntKind.i64.wrap (BitVec.ofInt 64 a ^^^ BitVec.ofInt 64 0).toNat = a
  rw [show BitVec.ofInt 64 0 = 0#64 from rfl, BitVec.xor_zero, toNat_ofInt64 a h.1 (by omega), IntWalk.i64_in _ (by omega)]
  omega
/-- The literal a, or its inverse. -/
def xorI (a b : Int) : Int := if b = 1 then Lt.xor1 a else a
theorem yxorI {dd : Option Tmp} (hx : ev e x = some (.int .i64 a)) (hy : ev e y = some (.int .i64 b)) (h : 0 ≤ a ∧ a ≤ 9223372036854775807) (hb : b = 0 ∨ b = 1) : Yields P e ⟨dd, .binOp .xor t x y ty, tt, ps, af, g⟩ (.int .i64 (xorI a b)) := by
  have := Yields.bin (P := P) (d := dd) (op := .xor) (t := t) (ty := ty) (tt := tt) (ps := ps) (af := af) (g := g) hx hy (v := .int .i64 (IntKind.i64.wrap (BitVec.ofInt IntKind.i64.bits a ^^^ BitVec.ofInt IntKind.i64.bits b).toNat)) rfl
  rcases hb with rfl | rfl
  · rwa [xor0_all a h, show a = xorI a 0 by unfold xorI; rw [if_neg (by decide)]] at this
  · rwa [xor1_all a h, show Lt.xor1 a = xorI a 1 by unfold xorI; rw [if_pos rfl]] at this
theorem WL.xorI (hg : gate ops e g = some true) (hd : Nat.blt d N = true) (hx : ev e x = some (.int .i64 a)) (hy : ev e y = some (.int .i64 b)) (h : 0 ≤ a ∧ a ≤ 9223372036854775807) (hb : b = 0 ∨ b = 1) (k : WL P N ops.toArray l ((d, .int .i64 (Lt.xorI a b)) :: e) w Q) : WL P N ops.toArray (⟨some d, .binOp .xor t x y ty, tt, ps, af, g⟩ :: l) e w Q := WL.step hg hd (yxorI hx hy h hb).in k
theorem QL.xorI (hg : gate ops e g = some true) (hd : Nat.blt d N = true) (hx : ev e x = some (.int .i64 a)) (hy : ev e y = some (.int .i64 b)) (h : 0 ≤ a ∧ a ≤ 9223372036854775807) (hb : b = 0 ∨ b = 1) (k : QL P N C ops.toArray l ((d, .int .i64 (Lt.xorI a b)) :: e) Q) : QL P N C ops.toArray (⟨some d, .binOp .xor t x y ty, tt, ps, af, g⟩ :: l) e Q := QL.step hg hd (yxorI hx hy h hb).in k
theorem FL.xorI (hg : gate ops e g = some true) (hd : Nat.blt d N = true) (hx : ev e x = some (.int .i64 a)) (hy : ev e y = some (.int .i64 b)) (h : 0 ≤ a ∧ a ≤ 9223372036854775807) (hb : b = 0 ∨ b = 1) (k : FL P N ops.toArray C l ((d, .int .i64 (Lt.xorI a b)) :: e) w Kf) : FL P N ops.toArray C (⟨some d, .binOp .xor t x y ty, tt, ps, af, g⟩ :: l) e w Kf := FL.step hg hd (yxorI hx hy h hb).in k
end more
end Go.Lt
namespace Go.Lt
open Go.RowKit
set_option linter.unusedVariables false
set_option linter.unusedSimpArgs false
section
variable {P : Program} {T : Tab} {e : Env} {dd : Option Tmp} {tt ty t el : TypeId} {x y : Operand} {ps : String} {af : Array Edge} {g : Option (Nat × Bool)} {i : TI} {a : Option Addr} {n c : Nat}
theorem run_eqSliceNil (hT : OkTab P T) (ht : tget T t = some i) (hd : i.desc = .slice el) (w : World) : (Op.equal t (.slice a n c) (.slice none 0 0)).run P w = .ok (dec (a = none)) w := by
  have hu := run_underlying' (hT.at ht) w; rw [hd] at hu
  unfold Op.equal
  rw [show Op.maxDepth = 9999 + 1 from rfl, Op.equalIn]
  simp only [Sem.run_bind, hu, Result.andThen_ok]
  cases a with
  | none => simp [dec_true]
  | some q => simp [dec_false]
theorem yeqSl (hT : OkTab P T) (hx : ev e x = some (.slice a n c)) (hy : ev e y = some (.slice none 0 0)) (ht : tget T t = some i) (hd : i.desc = .slice el) : Yields P e ⟨dd, .binOp .eql t x y ty, tt, ps, af, g⟩ (.bool (dec (a = none))) := by
  intro ρ hρ w
  have h1 : (eqGuard .eql t x y (.slice a n c) (.slice none 0 0)).run P w = .ok () w := by simp [eqGuard]
  have h2 : (binOp .eql t (.slice a n c) (.slice none 0 0)).run P w = .ok (.bool (dec (a = none))) w := by simp [binOp, run_eqSliceNil hT ht hd]
  simp [execOp, hρ _ _ hx, hρ _ _ hy, h1, h2]
variable {N d : Nat} {w : World} {Q : Exit → Act → World → Prop} {C : World → Prop} {ops l : List Oper} {Kf : Act → Prop}
theorem WL.eqSl (hT : OkTab P T) (hg : gate ops e g = some true) (hd : Nat.blt d N = true) (hx : ev e x = some (.slice a n c)) (hy : ev e y = some (.slice none 0 0)) (ht : tget T t = some i) (htd : i.desc = .slice el) (k : WL P N ops.toArray l ((d, .bool (dec (a = none))) :: e) w Q) : WL P N ops.toArray (⟨some d, .binOp .eql t x y ty, tt, ps, af, g⟩ :: l) e w Q := WL.step hg hd (yeqSl hT hx hy ht htd).in k
theorem QL.eqSl (hT : OkTab P T) (hg : gate ops e g = some true) (hd : Nat.blt d N = true) (hx : ev e x = some (.slice a n c)) (hy : ev e y = some (.slice none 0 0)) (ht : tget T t = some i) (htd : i.desc = .slice el) (k : QL P N C ops.toArray l ((d, .bool (dec (a = none))) :: e) Q) : QL P N C ops.toArray (⟨some d, .binOp .eql t x y ty, tt, ps, af, g⟩ :: l) e Q := QL.step hg hd (yeqSl hT hx hy ht htd).in k
theorem FL.sliceH0 {ti ei : TI} {ao : Option Addr} {nn cap : Nat} {kk : IntKind} {h : Int} (hT : OkTab P T) (hg : gate ops e g = some true) (hd : Nat.blt d N = true)
    (hx : ev e x = some (.slice ao nn cap)) (hy : ev e y = some (.int kk h)) (ht : tget T t = some ti) (htd : ti.desc = .slice el) (he : tget T el = some ei) (h0 : 0 ≤ h ∧ h ≤ cap)
    (k : FL P N ops.toArray C l ((d, .slice ao h.toNat cap) :: e) w Kf) : FL P N ops.toArray C (⟨some d, .slice t x none (some y) none, tt, ps, af, g⟩ :: l) e w Kf := by
  refine FL.step hg hd ?_ k
  intro ρ hρ w' _
  have := run_sliceH (P := P) hT (n := nn) (ao := ao) (k := kk) ht htd he h0 w'
  simp [execOp, hρ _ _ hx, hρ _ _ hy, this]
theorem WL.sliceH0 {ti ei : TI} {ao : Option Addr} {nn cap : Nat} {kk : IntKind} {h : Int} (hT : OkTab P T) (hg : gate ops e g = some true) (hd : Nat.blt d N = true)
    (hx : ev e x = some (.slice ao nn cap)) (hy : ev e y = some (.int kk h)) (ht : tget T t = some ti) (htd : ti.desc = .slice el) (he : tget T el = some ei) (h0 : 0 ≤ h ∧ h ≤ cap)
    (k : WL P N ops.toArray l ((d, .slice ao h.toNat cap) :: e) w Q) : WL P N ops.toArray (⟨some d, .slice t x none (some y) none, tt, ps, af, g⟩ :: l) e w Q := by
  refine WL.step hg hd ?_ k
  intro ρ hρ w' _
  have := run_sliceH (P := P) hT (n := nn) (ao := ao) (k := kk) ht htd he h0 w'
  simp [execOp, hρ _ _ hx, hρ _ _ hy, this]
theorem FL.sliceL0 {ti ei : TI} {ao : Option Addr} {nn cap s : Nat} {kk : IntKind} {h : Int} (hT : OkTab P T) (hg : gate ops e g = some true) (hd : Nat.blt d N = true)
    (hx : ev e x = some (.slice ao nn cap)) (hy : ev e y = some (.int kk h)) (ht : tget T t = some ti) (htd : ti.desc = .slice el) (he : tget T el = some ei) (hs : ei.size = s) (h0 : 0 ≤ h ∧ h ≤ nn)
    (k : FL P N ops.toArray C l ((d, .slice (subA ao cap h.toNat s) (nn - h.toNat) (cap - h.toNat)) :: e) w Kf) : FL P N ops.toArray C (⟨some d, .slice t x (some y) none none, tt, ps, af, g⟩ :: l) e w Kf := by
  refine FL.step hg hd ?_ k
  subst hs
  intro ρ hρ w' _
  have := run_sliceL (P := P) hT (n := nn) (cap := cap) (ao := ao) (k := kk) ht htd he h0 w'
  simp [execOp, hρ _ _ hx, hρ _ _ hy, this, subA]
end
section ext
variable {P : Program} {T : Tab} {N d : Nat} {e : Env} {w w0 : World} {C : World → Prop} {ops l : List Oper} {Kf : Act → Prop} {tt t ty : TypeId} {ps : String} {af : Array Edge} {g : Option (Nat × Bool)} {x y : Operand}
theorem FL.loadE {p : Addr} {v : Value} {i : TI} (hT : OkTab P T) (hg : gate ops e g = some true) (hd : Nat.blt d N = true) (hx : ev e x = some (.pointer (some p))) (ht : tget T t = some i) (ha : isAggD i.desc = false) (hv : w0.cell? p = some v)
    (k : FL P N ops.toArray (Ext w0) l ((d, v) :: e) w Kf) : FL P N ops.toArray (Ext w0) (⟨some d, .load t x, tt, ps, af, g⟩ :: l) e w Kf := by
  refine FL.step hg hd ?_ k
  intro ρ hρ w' hw'
  have h1 := run_isAgg' (hT.at ht); rw [ha] at h1
  have h2 := Ext.cell hw' hv
  simp [execOp, hρ _ _ hx, Instr.loadAt, Instr.sureAddr, loadVar, h1, h2]
theorem FL.indexE {α : Type} {s : Nat} {enc : α → List Value} {a : Option Addr} {xs : List α} {n cap : Nat} {kk : IntKind} {i : Int} {ti ei : TI} {el : TypeId} {z : α}
    (hT : OkTab P T) (hg : gate ops e g = some true) (hd : Nat.blt d N = true) (hx : ev e x = some (.slice a n cap)) (hy : ev e y = some (.int kk i)) (ht : tget T t = some ti) (htd : ti.desc = .slice el) (he : tget T el = some ei) (hs : ei.size = s)
    (R : Row s enc w0 a xs) (hn : xs.length = n) (h0 : 0 ≤ i) (hz : xs[i.toNat]? = some z)
    (k : ∀ b off, Cells w0 b off (enc z) → FL P N ops.toArray C l ((d, .pointer (some ⟨b, off, none⟩)) :: e) w Kf) : FL P N ops.toArray C (⟨some d, .indexAddr t x y, tt, ps, af, g⟩ :: l) e w Kf := by
  obtain ⟨b, off, hc, hy'⟩ := yindex (P := P) (dd := some d) (t := t) (tt := tt) (x := x) (y := y) (ps := ps) (af := af) (g := g) hT hx hy ht htd he hs R (Ext.refl _) hn h0 hz
  exact FL.step hg hd hy'.in (k b off hc)
end ext
section remk
variable {P : Program} {N d : Nat} {e : Env} {w : World} {Q : Exit → Act → World → Prop} {ops l : List Oper} {tt t ty : TypeId} {ps : String} {af : Array Edge} {g : Option (Nat × Bool)} {x y : Operand} {a b : Int} {kk : IntKind}
end remk
section cut
variable {P : Program} {N : Nat} {e : Env} {w : World} {Q : Exit → Act → World → Prop}
/-- A cut behind x, whatever comes. -/
theorem W.cutT {σ : Type} {x y : Code} (I : σ → Prop) (E : σ → Env) (U : σ → World)
    (h : W P N x e w (Exit.then (fun a w' => ∃ s, I s ∧ Fit N (E s) a ∧ ∃ m, w' = at' (U s) m) Q))
    (k : ∀ s, I s → W P N y (E s) (U s) Q) : W P N x e w (Exit.then (y.wp P Q) Q) := ⟨fun a m hf => by
  refine wp_mono (h.go a m hf) fun ex a' w' hq => ?_
  cases ex with
  | normal => obtain ⟨s, h1, h2, n, h3⟩ := hq; subst h3; exact (k s h1).go a' n h2
  | _ => exact hq⟩
end cut
theorem Sep.pick {B : Nat} {w : World} {ps qs : List Piece} (f : Nat → Nat) (hS : Sep B w ps) (hf : ∀ i p, qs[i]? = some p → ps[f i]? = some p) (hi : ∀ i j, i < qs.length → j < qs.length → i ≠ j → f i ≠ f j) : Sep B w qs := by
  refine ⟨fun i p h => hS.holds _ _ (hf i p h), fun i j p q h1 h2 hne => hS.apart _ _ _ _ (hf i p h1) (hf j q h2) (hi i j ?_ ?_ hne)⟩
  · exact (List.getElem?_eq_some_iff.1 h1).1
  · exact (List.getElem?_eq_some_iff.1 h2).1
theorem Sep.re {B : Nat} {w : World} {ps : List Piece} {i : Nat} {p p' : Piece} (hS : Sep B w ps) (hi : ps[i]? = some p) (hb : p'.b = p.b) (hp : p'.P w) : Sep B w (ps.set i p') := by
  have hil := (List.getElem?_eq_some_iff.1 hi).1
  have key : ∀ (j : Nat) (q : Piece), (ps.set i p')[j]? = some q → ∃ q0, ps[j]? = some q0 ∧ q.b = q0.b ∧ (q.P w ∨ q = q0) := by
    intro j q hq
    by_cases hij : i = j
    · subst hij
      rw [List.getElem?_set_self hil] at hq
      cases hq
      exact ⟨p, hi, hb, .inl hp⟩
    · rw [List.getElem?_set_ne hij] at hq
      exact ⟨q, hq, rfl, .inr rfl⟩
  refine ⟨fun j q hq => ?_, fun j k q r hq hr hne => ?_⟩
  · obtain ⟨q0, h1, h2, h3⟩ := key j q hq
    have h4 := hS.holds j q0 h1
    refine ⟨?_, fun k hk => h4.2 k (by rw [← h2]; exact hk)⟩
    rcases h3 with h3 | rfl
    · exact h3
    · exact h4.1
  · obtain ⟨q0, h1, h2, _⟩ := key j q hq
    obtain ⟨r0, h3, h4, _⟩ := key k r hr
    rw [h2, h4]
    exact hS.apart j k q0 r0 h1 h3 hne
end Go.Lt
namespace Go.Lt
open Go.RowKit
set_option linter.unusedVariables false

theorem and1_any (a : Int) : IntKind.i64.wrap (BitVec.ofInt IntKind.i64.bits a &&& BitVec.ofInt IntKind.i64.bits 1).toNat = a % 2 := by
  show IntKind.i64.wrap (BitVec.ofInt 64 a &&& BitVec.ofInt 64 1).toNat = a % 2
  have h1 : (BitVec.ofInt 64 a &&& BitVec.ofInt 64 1).toNat = (BitVec.ofInt 64 a).toNat % 2 := by
    rw [BitVec.toNat_and, show (BitVec.ofInt 64 1).toNat = 1 from rfl, Nat.and_one_is_mod]
  have h2 : ((BitVec.ofInt 64 a).toNat : Int) = a % 18446744073709551616 := by
    rw [BitVec.toNat_ofInt]
    have : (0 : Int) ≤ a % ((2 ^ 64 : Nat) : Int) := Int.emod_nonneg _ (by decide)
    rw [Int.toNat_of_nonneg this]
    rfl
  rw [h1, IntWalk.i64_in _ (by omega)]
  omega
section rules
variable {P : Program} {N : Nat} {e : Env} {w : World} {Q : Exit → Act → World → Prop} {K : Act → World → Prop} {C : World → Prop} {ops : List Oper} {l : List Oper} {Kf : Act → Prop}
  {d : Nat} {tt t ty : TypeId} {ps : String} {af : Array Edge} {g : Option (Nat × Bool)} {x y : Operand} {a : Int}
theorem yandA {dd : Option Tmp} (hx : ev e x = some (.int .i64 a)) (hy : ev e y = some (.int .i64 1)) : Yields P e ⟨dd, .binOp .and t x y ty, tt, ps, af, g⟩ (.int .i64 (a % 2)) := by
  have := Yields.bin (P := P) (d := dd) (op := .and) (t := t) (ty := ty) (tt := tt) (ps := ps) (af := af) (g := g) hx hy (v := .int .i64 (IntKind.i64.wrap (BitVec.ofInt IntKind.i64.bits a &&& BitVec.ofInt IntKind.i64.bits 1).toNat)) rfl
  rwa [and1_any a] at this
theorem WL.andA (hg : gate ops e g = some true) (hd : Nat.blt d N = true) (hx : ev e x = some (.int .i64 a)) (hy : ev e y = some (.int .i64 1)) (k : WL P N ops.toArray l ((d, .int .i64 (a % 2)) :: e) w Q) : WL P N ops.toArray (⟨some d, .binOp .and t x y ty, tt, ps, af, g⟩ :: l) e w Q := WL.step hg hd (yandA hx hy).in k
theorem QL.andA (hg : gate ops e g = some true) (hd : Nat.blt d N = true) (hx : ev e x = some (.int .i64 a)) (hy : ev e y = some (.int .i64 1)) (k : QL P N C ops.toArray l ((d, .int .i64 (a % 2)) :: e) Q) : QL P N C ops.toArray (⟨some d, .binOp .and t x y ty, tt, ps, af, g⟩ :: l) e Q := QL.step hg hd (yandA hx hy).in k
theorem FL.andA (hg : gate ops e g = some true) (hd : Nat.blt d N = true) (hx : ev e x = some (.int .i64 a)) (hy : ev e y = some (.int .i64 1)) (k : FL P N ops.toArray C l ((d, .int .i64 (a % 2)) :: e) w Kf) : FL P N ops.toArray C (⟨some d, .binOp .and t x y ty, tt, ps, af, g⟩ :: l) e w Kf := FL.step hg hd (yandA hx hy).in k
end rules
end Go.Lt
namespace Go.Proofs.Ythpnahapiodflaa
open Go Go.Lt Go.RowKit
set_option linter.unusedVariables false
set_option linter.unusedSimpArgs false
set_option maxRecDepth 20000

theorem leafF_no {n : List (Int × Int)} {U : List Int} {v : Int} (h : ¬ gateN n v) (f : Nat) : leafF n U f v = [] := by
  cases f with
  | zero => rfl
  | succ f => rw [leafF, dec_false h]; rfl
set_option maxHeartbeats 4000000 in
theorem balance_leaves (a ub : Option Addr) (cap cb : Nat) (n : List (Int × Int)) (outs : List Int) (hg : GoodNet n) (hn : n.length ≤ 1048576) : ∀ (f : Nat) (v : Int) (w : World) (_ : Row 2 encN w a n) (_ : Row 1 encI w ub (usesV n outs)) (_ : v ≤ (f : Int)) (_ : -1 ≤ v),
    Lt.Spec Try.prog 101 [.slice a n.length cap, .slice ub (usesV n outs).length cb, .int .i64 v] w (IsFresh 1 encI 3 w (leafF n (usesV n outs) f v)) := by
  intro f
  induction f with
  | zero =>
    intro v w R Rb hv hv0
    have q0 : ¬ gateN n v := fun h => by have := h.1; omega
    have e0 : dec (gateN n v) = false := dec_false q0
    rw [leafF_no q0]
    refine Spec.of _ Try.func101 rfl Try.ntmps101 (by kernel_rfl) rfl ?_
    repeat' (first
      | ((show WL _ _ _ (⟨_, .call ⟨.value (.func 144), _, _⟩, _, _, _, _⟩ :: _) _ _ _); apply WL.callS; exact rfl; exact rfl; exact rfl; exact rfl; exact balance_gate _ _ _ _ _ (by assumption))
      | (apply W.condKT; exact rfl; (focus (first | (rw [e0]; done) | (rw [e0]; exact rfl); done)))
      | (show WL _ _ _ _ _ _ _; first | apply WL.nil | (refine WL.au (k := ?_)))
      | (show Z _ _ _ _ _; first | apply Z.then_normal | apply Z.then_ret)
      | (show W _ _ _ _ _ _; first | apply W.seq | apply W.region | apply W.ret))
    exact Z.body1 Try.results101 rfl fun m => ⟨(Ext.refl _).at m, none, 0, rfl, Own.nil⟩
  | succ f ih =>
    intro v w R Rb hv hv0
    by_cases q0 : gateN n v
    · have e0 : dec (gateN n v) = true := dec_true q0
      obtain ⟨i, x, rfl, hx0, h0, hd⟩ := gate_at q0
      have hgg := hg.gate hx0 h0
      have hi := lt_of_get hx0
      refine Spec.of _ Try.func101 rfl Try.ntmps101 (by kernel_rfl) rfl ?_
      repeat' (first
        | ((show WL _ _ _ (⟨_, .call ⟨.value (.func 144), _, _⟩, _, _, _, _⟩ :: _) _ _ _); apply WL.callS; exact rfl; exact rfl; exact rfl; exact rfl; exact balance_gate _ _ _ _ _ (by assumption))
        | (apply W.condKF; exact rfl; (focus (first | (rw [e0]; done) | (rw [e0]; exact rfl); done)))
        | (show WL _ _ _ _ _ _ _; first | apply WL.nil | (refine WL.au (k := ?_)))
        | (show Z _ _ _ _ _; apply Z.then_normal)
        | (show W _ _ _ _ _ _; first | apply W.seq | apply W.region | apply W.skip))
      have q1 : n[((i : Int) + 1 - 1).toNat]? = some x := by rw [show ((i : Int) + 1 - 1).toNat = i by omega]; exact hx0
      repeat' (first
        | (show W _ _ (.region 4 _ _) _ _ _; apply W.regionG (.fl true 0 (.fl true 1 (.fl true 2 (.fl true 3 (.fl true 4 (.fl true 6 (.fl true 7 (.fl true 8 (.fl true 9 (.fl true 10 (.fl true 14 (.fl false 5 (.fl false 11 (.br 12 (.fl true 13 .done) .stop)))))))))))))) [11, 13] (Ext w) tMix; kernel_rfl)
        | (apply WL.lit tOk; exact rfl; exact rfl; exact rfl; exact rfl; exact rfl; exact rfl; (first | exact rfl | kernel_rfl | (simp [Instr.fill, catCells]; done)); exact rfl; intro gb w' hb hge hc hx; have hO := Own.of_block ([x.1, x.2]) encI_ok hb hge rfl; (have RLT := Own.row encI_ok hO; obtain ⟨hOt, rfl⟩ : ∃ x, x = hO := ⟨_, rfl⟩; obtain ⟨hxt, rfl⟩ : ∃ x, x = hx := ⟨_, rfl⟩))
        | (show WL _ _ _ _ _ _ _; apply WL.nil)
        | (show SG _ _ _ _ _ _ _ _ _; first | apply SG.done | (apply SG.fl0; exact rfl) | (apply SG.fl1; exact rfl; (focus ((intro m; first | assumption | (apply Ext.at; (exact extA)) | apply But.of_at; first | exact But.upd (by assumption) | exact But.ext (by (exact extA)) | (refine But.trans ?_ (But.upd (by assumption)); exact But.ext (by (exact extA))) | exact But.at _ _ _); done))) | (apply SG.br1; exact rfl))
        | (show FL _ _ _ _ _ _ _ _; first | (apply FL.loadE tOk; exact rfl; exact rfl; exact rfl; exact rfl; exact rfl; assumption) | (apply FL.indexE tOk; exact rfl; exact rfl; exact rfl; exact rfl; exact rfl; exact rfl; exact rfl; exact rfl; assumption; exact rfl; omega; assumption; intro b off h; have hcc := h; first | (obtain ⟨h1, h2, h3, h4, h5, h6, _⟩ := h) | (obtain ⟨h1, h2, h3, _⟩ := h) | (obtain ⟨h1, h2, _⟩ := h) | (obtain ⟨h1, _⟩ := h)))
        | (show FL _ _ _ _ _ _ _ _; first | apply FL.nilS | (refine FL.au (k := ?_)))
        | (show Z _ _ _ _ _; (apply Z.sgL; exact rfl))
        | (show Z _ _ _ _ _; apply Z.then_normal)
        | (show W _ _ _ _ _ _; apply W.block))
      obtain ⟨g0, rfl⟩ : ∃ x, x = gb := ⟨_, rfl⟩; obtain ⟨wl, rfl⟩ : ∃ x, x = w' := ⟨_, rfl⟩
      have eL : leafF n (usesV n outs) (f + 1) ((i : Int) + 1) = (([x.1, x.2] : List Int).take 2).flatMap (leafX n (usesV n outs) (leafF n (usesV n outs) f)) := by
        rw [leafF, e0, hd]; simp
      rw [eL]
      have hUl := uses_len n outs
      have hGl : ∀ y, (leafX n (usesV n outs) (leafF n (usesV n outs) f) y).length ≤ n.length + 1 := by
        intro y
        unfold leafX
        cases dec (innN n (usesV n outs) y)
        · simp
        · exact leaf_len hg f _
      have eG1 : ∀ y, ¬ innN n (usesV n outs) y → leafX n (usesV n outs) (leafF n (usesV n outs) f) y = [y] := fun y h => by rw [leafX, dec_false h]; rfl
      have eG2 : ∀ y, innN n (usesV n outs) y → leafX n (usesV n outs) (leafF n (usesV n outs) f) y = leafF n (usesV n outs) f (y / 2) := fun y h => by rw [leafX, dec_true h]; rfl
      generalize leafX n (usesV n outs) (leafF n (usesV n outs) f) = G at hGl eG1 eG2 ⊢
      generalize hU : usesV n outs = U at hUl eG1 eG2 ih Rb ⊢
      refine W.loopO 2 (fun k al cl w' => k ≤ 2 ∧ Ext wl w' ∧ Own 1 encI 3 wl.heap.size w' al cl ((([x.1, x.2] : List Int).take k).flatMap G))
        (fun k al cl => [(0, .slice a n.length cap), (1, .slice ub U.length cb), (7, .slice al ((([x.1, x.2] : List Int).take k).flatMap G).length cl), (27, .slice (some ⟨g0, 0, none⟩) 2 2), (28, .int .i64 2), (29, .int .i64 k)]) none 0 ⟨Nat.zero_le _, Ext.refl _, Own.nil⟩ (fun k a cp w' h => h.1) ⟨rfl, rfl, rfl, rfl, rfl, rfl, trivial⟩ ?_
      rintro k al cl w3 ⟨hk, hX3, hO3⟩
      by_cases hlt : k < 2
      · obtain ⟨y, hy⟩ := getI ([x.1, x.2] : List Int) (show k < 2 from hlt)
        have hyb : 0 ≤ y ∧ y ≤ 2 * (i : Int) + 1 := by
          have := List.mem_of_getElem? hy
          simp only [List.mem_cons, List.not_mem_nil, or_false] at this
          rcases this with rfl | rfl <;> omega
        have e1 : (([x.1, x.2] : List Int).take (k + 1)).flatMap G = (([x.1, x.2] : List Int).take k).flatMap G ++ G y := by rw [take_succ' hy, List.flatMap_append]; simp
        have l1 := hGl y
        have l2 : ((([x.1, x.2] : List Int).take k).flatMap G).length ≤ 2 * (n.length + 1) := by
          have a1 := hGl x.1
          have a2 := hGl x.2
          match k, hlt with
          | 0, _ => simp
          | 1, _ => simp; omega
        generalize (([x.1, x.2] : List Int).take k).flatMap G = L at hO3 e1 l2 ⊢
        have hU9 : U.length = n.length + 1 := hUl
        have HX0 : Ext w w3 := (by (exact extA))
        by_cases f1 : y % 2 = 0
        · obtain ⟨z, hz⟩ := getI U (show (y / 2).toNat < U.length by omega)
          by_cases f2 : gateN n (y / 2)
          · by_cases f3 : z = 1
            · have f4 : innN n U y := ⟨f1, f2, by rw [getD_of hz]; exact f3⟩
              rw [eG2 y f4] at e1 l1
              repeat' (first
                | (apply WL.gT; exact rfl; exact rfl; (focus (first | exact dec_true f1 | exact dec_true f2 | exact dec_true f3 | exact dec_true (by omega); done)))
                | (apply W.condKT; exact rfl; (focus (first | exact dec_true f1 | exact dec_true f2 | exact dec_true f3 | exact dec_true (by omega); done)))
                | (apply WL.andA; exact rfl; exact rfl; exact rfl; exact rfl)
                | ((show WL _ _ _ (⟨_, .call ⟨.value (.func 144), _, _⟩, _, _, _, _⟩ :: _) _ _ _); apply WL.callS; exact rfl; exact rfl; exact rfl; exact rfl; exact balance_gate _ _ _ _ _ (Row.ext (by assumption) (by (exact extA))))
                | (((show WL _ _ _ (⟨_, .call ⟨.value (.func 101), _, _⟩, _, _, _, _⟩ :: _) _ _ _); apply WL.call; exact rfl; exact rfl; exact rfl; exact rfl; exact ih (y / 2) _ (R.ext (by (exact extA))) (Rb.ext (by (exact extA))) (by omega) (by omega); rintro v' w' ⟨hx, a', cap', rfl, hO⟩; have hOr := Own.row encI_ok hO; obtain ⟨hOq, rfl⟩ : ∃ x, x = hO := ⟨_, rfl⟩))
                | ((apply WL.appendS (w0 := wl) tOk encI_ok; exact rfl; exact rfl; exact rfl; exact rfl; exact rfl; exact rfl; exact rfl; exact rfl; exact rfl; exact rfl; exact hO3; exact (by (exact extA)); exact rfl; exact hOr; exact (by (exact extA)); exact rfl; exact Own.noneCap hOq; exact rfl; exact (by (exact extA)); omega; intro a' cap' w' hO hX' hU hF))
                | (show WL _ _ _ _ _ _ _; first | apply WL.nil | (refine WL.au (k := ?_)) | (apply WL.index tOk; exact rfl; exact rfl; exact rfl; exact rfl; exact rfl; exact rfl; exact rfl; exact rfl; assumption; (exact extA); exact rfl; omega; assumption; intro b off h; have hcc := h; first | (obtain ⟨h1, h2, h3, h4, h5, h6, _⟩ := h) | (obtain ⟨h1, h2, h3, _⟩ := h) | (obtain ⟨h1, h2, _⟩ := h) | (obtain ⟨h1, _⟩ := h)))
                | (show Z _ _ _ _ _; first | apply Z.then_normal | apply Z.block_normal)
                | (show W _ _ _ _ _ _; first | apply W.seq | apply W.region | apply W.block | apply W.skip))
              exact Z.againO a' cap' ⟨by omega, by assumption, by rw [e1]; exact hO⟩ (by rw [e1]; exact ⟨rfl, rfl, rfl, rfl, rfl, rfl, trivial⟩)
            · have f4 : ¬ innN n U y := fun h => f3 (by have := h.2.2; rw [getD_of hz] at this; exact this)
              rw [eG1 y f4] at e1 l1
              repeat' (first
                | (apply WL.gT; exact rfl; exact rfl; (focus (first | exact dec_true f1 | exact dec_true f2 | exact dec_false f3 | exact dec_true (by omega); done)))
                | (apply W.condKT; exact rfl; (focus (first | exact dec_true f1 | exact dec_true f2 | exact dec_false f3 | exact dec_true (by omega); done)))
                | (apply W.condKF; exact rfl; (focus (first | exact dec_true f1 | exact dec_true f2 | exact dec_false f3 | exact dec_true (by omega); done)))
                | (apply WL.andA; exact rfl; exact rfl; exact rfl; exact rfl)
                | ((show WL _ _ _ (⟨_, .call ⟨.value (.func 144), _, _⟩, _, _, _, _⟩ :: _) _ _ _); apply WL.callS; exact rfl; exact rfl; exact rfl; exact rfl; exact balance_gate _ _ _ _ _ (Row.ext (by assumption) (by (exact extA))))
                | (apply WL.lit tOk; exact rfl; exact rfl; exact rfl; exact rfl; exact rfl; exact rfl; (first | exact rfl | kernel_rfl | (simp [Instr.fill, catCells]; done)); exact rfl; intro gb w' hb hge hc hx)
                | (apply WL.append1 (z := (y)) tOk encI_ok; exact rfl; exact rfl; exact rfl; exact rfl; exact rfl; exact rfl; exact rfl; exact rfl; exact rfl; exact rfl; assumption; (exact extA); (first | exact rfl | (focus (simp only [List.length_set]; done)) | (focus (simp; done)) | (focus (simp [*]; done)) | omega | (focus (simp only [List.length_set]; omega))); (first | assumption | (refine Cells.ext ?_ (by assumption); exact extA)); exact rfl; exact rfl; (exact extA); (first | omega | (simp; omega) | (simp at *; omega)); intro a' cap' w' hO hX' hU hF)
                | (show WL _ _ _ _ _ _ _; first | apply WL.nil | (refine WL.au (k := ?_)) | (apply WL.index tOk; exact rfl; exact rfl; exact rfl; exact rfl; exact rfl; exact rfl; exact rfl; exact rfl; assumption; (exact extA); exact rfl; omega; assumption; intro b off h; have hcc := h; first | (obtain ⟨h1, h2, h3, h4, h5, h6, _⟩ := h) | (obtain ⟨h1, h2, h3, _⟩ := h) | (obtain ⟨h1, h2, _⟩ := h) | (obtain ⟨h1, _⟩ := h)))
                | (show Z _ _ _ _ _; first | apply Z.then_normal | apply Z.block_normal)
                | (show W _ _ _ _ _ _; first | apply W.seq | apply W.region | apply W.block | apply W.skip))
              exact Z.againO a' cap' ⟨by omega, by assumption, by rw [e1]; exact hO⟩ (by rw [e1]; exact ⟨rfl, rfl, rfl, rfl, rfl, rfl, trivial⟩)
          · have f4 : ¬ innN n U y := fun h => f2 h.2.1
            rw [eG1 y f4] at e1 l1
            repeat' (first
              | (apply WL.gT; exact rfl; exact rfl; (focus (first | exact dec_true f1 | exact dec_false f2 | exact dec_true (by omega); done)))
              | (apply WL.gF; exact rfl; exact rfl; (focus (first | exact dec_true f1 | exact dec_false f2 | exact dec_true (by omega); done)))
              | (apply W.condKT; exact rfl; (focus (first | exact dec_true f1 | exact dec_false f2 | exact dec_true (by omega); done)))
              | (apply WL.andA; exact rfl; exact rfl; exact rfl; exact rfl)
              | ((show WL _ _ _ (⟨_, .call ⟨.value (.func 144), _, _⟩, _, _, _, _⟩ :: _) _ _ _); apply WL.callS; exact rfl; exact rfl; exact rfl; exact rfl; exact balance_gate _ _ _ _ _ (Row.ext (by assumption) (by (exact extA))))
              | (apply WL.lit tOk; exact rfl; exact rfl; exact rfl; exact rfl; exact rfl; exact rfl; (first | exact rfl | kernel_rfl | (simp [Instr.fill, catCells]; done)); exact rfl; intro gb w' hb hge hc hx)
              | (apply WL.append1 (z := (y)) tOk encI_ok; exact rfl; exact rfl; exact rfl; exact rfl; exact rfl; exact rfl; exact rfl; exact rfl; exact rfl; exact rfl; assumption; (exact extA); (first | exact rfl | (focus (simp only [List.length_set]; done)) | (focus (simp; done)) | (focus (simp [*]; done)) | omega | (focus (simp only [List.length_set]; omega))); (first | assumption | (refine Cells.ext ?_ (by assumption); exact extA)); exact rfl; exact rfl; (exact extA); (first | omega | (simp; omega) | (simp at *; omega)); intro a' cap' w' hO hX' hU hF)
              | (show WL _ _ _ _ _ _ _; first | apply WL.nil | (refine WL.au (k := ?_)) | (apply WL.index tOk; exact rfl; exact rfl; exact rfl; exact rfl; exact rfl; exact rfl; exact rfl; exact rfl; assumption; (exact extA); exact rfl; omega; assumption; intro b off h; have hcc := h; first | (obtain ⟨h1, h2, h3, h4, h5, h6, _⟩ := h) | (obtain ⟨h1, h2, h3, _⟩ := h) | (obtain ⟨h1, h2, _⟩ := h) | (obtain ⟨h1, _⟩ := h)) | (apply WL.guardF; exact rfl; exact rfl))
              | (show Z _ _ _ _ _; first | apply Z.then_normal | apply Z.block_normal)
              | (show W _ _ _ _ _ _; first | apply W.seq | apply W.region | apply W.block | apply W.skip | (apply W.condF; exact rfl)))
            exact Z.againO a' cap' ⟨by omega, by assumption, by rw [e1]; exact hO⟩ (by rw [e1]; exact ⟨rfl, rfl, rfl, rfl, rfl, rfl, trivial⟩)
        · have f4 : ¬ innN n U y := fun h => f1 h.1
          rw [eG1 y f4] at e1 l1
          repeat' (first
            | (apply WL.gF; exact rfl; exact rfl; (focus (first | exact dec_false f1 | exact dec_true (by omega); done)))
            | (apply W.condKT; exact rfl; (focus (first | exact dec_false f1 | exact dec_true (by omega); done)))
            | (apply WL.andA; exact rfl; exact rfl; exact rfl; exact rfl)
            | (apply WL.lit tOk; exact rfl; exact rfl; exact rfl; exact rfl; exact rfl; exact rfl; (first | exact rfl | kernel_rfl | (simp [Instr.fill, catCells]; done)); exact rfl; intro gb w' hb hge hc hx)
            | (apply WL.append1 (z := (y)) tOk encI_ok; exact rfl; exact rfl; exact rfl; exact rfl; exact rfl; exact rfl; exact rfl; exact rfl; exact rfl; exact rfl; assumption; (exact extA); (first | exact rfl | (focus (simp only [List.length_set]; done)) | (focus (simp; done)) | (focus (simp [*]; done)) | omega | (focus (simp only [List.length_set]; omega))); (first | assumption | (refine Cells.ext ?_ (by assumption); exact extA)); exact rfl; exact rfl; (exact extA); (first | omega | (simp; omega) | (simp at *; omega)); intro a' cap' w' hO hX' hU hF)
            | (show WL _ _ _ _ _ _ _; first | apply WL.nil | (refine WL.au (k := ?_)) | (apply WL.index tOk; exact rfl; exact rfl; exact rfl; exact rfl; exact rfl; exact rfl; exact rfl; exact rfl; assumption; (exact extA); exact rfl; omega; assumption; intro b off h; have hcc := h; first | (obtain ⟨h1, h2, h3, h4, h5, h6, _⟩ := h) | (obtain ⟨h1, h2, h3, _⟩ := h) | (obtain ⟨h1, h2, _⟩ := h) | (obtain ⟨h1, _⟩ := h)) | (apply WL.guardF; exact rfl; exact rfl))
            | (show Z _ _ _ _ _; first | apply Z.then_normal | apply Z.block_normal)
            | (show W _ _ _ _ _ _; first | apply W.seq | apply W.region | apply W.block | apply W.skip | (apply W.condF; exact rfl)))
          exact Z.againO a' cap' ⟨by omega, by assumption, by rw [e1]; exact hO⟩ (by rw [e1]; exact ⟨rfl, rfl, rfl, rfl, rfl, rfl, trivial⟩)
      obtain rfl : k = 2 := by omega
      repeat' (first
        | (apply W.condKF; exact rfl; (focus (exact dec_false (by omega); done)))
        | (show WL _ _ _ _ _ _ _; first | apply WL.nil | (refine WL.au (k := ?_)))
        | (show Z _ _ _ _ _; first | apply Z.then_normal | apply Z.then_exit | apply Z.block_exit)
        | (show W _ _ _ _ _ _; first | apply W.seq | apply W.region | apply W.ret | apply W.exit))
      exact Z.body1 Try.results101 rfl fun m => ⟨Ext.at (by (exact extA)) m, al, cl, rfl, (hO3.base (Below.size (by assumption))).ext ((Ext.refl _).at m)⟩
    · have e0 : dec (gateN n v) = false := dec_false q0
      rw [leafF_no q0]
      refine Spec.of _ Try.func101 rfl Try.ntmps101 (by kernel_rfl) rfl ?_
      repeat' (first
        | ((show WL _ _ _ (⟨_, .call ⟨.value (.func 144), _, _⟩, _, _, _, _⟩ :: _) _ _ _); apply WL.callS; exact rfl; exact rfl; exact rfl; exact rfl; exact balance_gate _ _ _ _ _ (by assumption))
        | (apply W.condKT; exact rfl; (focus (first | (rw [e0]; done) | (rw [e0]; exact rfl); done)))
        | (show WL _ _ _ _ _ _ _; first | apply WL.nil | (refine WL.au (k := ?_)))
        | (show Z _ _ _ _ _; first | apply Z.then_normal | apply Z.then_ret)
        | (show W _ _ _ _ _ _; first | apply W.seq | apply W.region | apply W.ret))
      exact Z.body1 Try.results101 rfl fun m => ⟨(Ext.refl _).at m, none, 0, rfl, Own.nil⟩
end Go.Proofs.Ythpnahapiodflaa
namespace Go.Proofs.Ythpnahapiodflaa
open Go Go.Lt Go.RowKit
set_option linter.unusedVariables false
set_option linter.unusedSimpArgs false
set_option maxRecDepth 20000

theorem gate_not {n : List (Int × Int)} {v : Int} (h : ¬ gateN n v) : v < 1 ∨ (n.length : Int) < v ∨ ∃ x, n[(v - 1).toNat]? = some x ∧ 1 ≤ v ∧ v ≤ n.length ∧ x.1 < 0 := by
  by_cases h1 : v < 1
  · exact .inl h1
  · by_cases h2 : (n.length : Int) < v
    · exact .inr (.inl h2)
    · obtain ⟨x, hx⟩ := getI n (show (v - 1).toNat < n.length by omega)
      refine .inr (.inr ⟨x, hx, by omega, by omega, ?_⟩)
      apply Int.lt_of_not_ge
      intro h3
      exact h ⟨by omega, by omega, by rw [getD_of hx]; exact h3⟩

theorem ne_new {a a' : Option Addr} {g m : Nat} (h : blk a ≠ some g) (hF : blk a' = blk a ∨ ∃ k, blk a' = some k ∧ m ≤ k) (hg : g < m) : blk a' ≠ some g := by
  rcases hF with hF | ⟨k, hF, hk⟩
  · rw [hF]; exact h
  · rw [hF]; intro he; cases he; omega

set_option maxHeartbeats 4000000 in
theorem ref48_Leaves (a ub : Option Addr) (cap cb : Nat) (n : List (Int × Int)) (outs : List Int) (hg : GoodNet n) (hn : n.length ≤ 1048576) (ho : outs.length ≤ 1048576) (hk9 : ∀ l ∈ outs, 0 ≤ l ∧ l ≤ 2 * (n.length : Int) + 1) : ∀ (f : Nat) (v : Int) (w : World) (_ : Row 2 encN w a n) (_ : Row 1 encI w ub outs) (_ : v ≤ (f : Int) ∨ ¬ gateN n v) (_ : -1 ≤ v),
    Lt.Spec Try.prog 50 [.slice a n.length cap, .slice ub outs.length cb, .int .i64 v] w (IsFresh 1 encI 3 w (leafF n (usesV n outs) f v)) := by
  intro f v w R Rb hv hv0
  have hl := R.len
  by_cases q0 : gateN n v
  · induction f generalizing v w with
    | zero => exact absurd q0 (fun h => by
        have := h.1
        rcases hv with hv | hv
        · omega
        · exact hv q0)
    | succ f ih =>
      have e0 : dec (gateN n v) = true := dec_true q0
      obtain ⟨i, x, rfl, hx0, h0, hd⟩ := gate_at q0
      have hgg := hg.gate hx0 h0
      have hi := lt_of_get hx0
      have hvf : (i : Int) + 1 ≤ ((f + 1 : Nat) : Int) := hv.resolve_right (fun h => h q0)
      have q1 : n[((i : Int) + 1 - 1).toNat]? = some x := by rw [show ((i : Int) + 1 - 1).toNat = i by omega]; exact hx0
      refine Spec.of _ Try.func50 rfl Try.ntmps50 (by kernel_rfl) rfl ?_
      repeat' (first
        | (apply WL.gF; exact rfl; exact rfl; (focus (first | exact dec_false (by omega); done)))
        | (apply W.condKF; exact rfl; (focus (first | exact dec_false (by omega); done)))
        | ((show WL _ _ _ (⟨_, .call ⟨.value (.func 48), _, _⟩, _, _, _, _⟩ :: _) _ _ _); apply WL.call; exact rfl; exact rfl; exact rfl; exact rfl; exact ref48_Uses _ _ _ _ n outs _ (R.ext (by (exact extA))) (Rb.ext (by (exact extA))) hg hn ho hk9; rintro v' w' ⟨hx, a', cap', rfl, hO⟩; (have hRU := Own.row encI_ok hO; obtain ⟨hOu, rfl⟩ : ∃ x, x = hO := ⟨_, rfl⟩; obtain ⟨au, rfl⟩ : ∃ x, x = a' := ⟨_, rfl⟩; obtain ⟨cu, rfl⟩ : ∃ x, x = cap' := ⟨_, rfl⟩; obtain ⟨hxu, rfl⟩ : ∃ x, x = hx := ⟨_, rfl⟩; obtain ⟨wu, rfl⟩ : ∃ x, x = w' := ⟨_, rfl⟩))
        | (apply WL.lit (len := 0) tOk; exact rfl; exact rfl; exact rfl; exact rfl; exact rfl; exact rfl; (first | exact rfl | kernel_rfl | (simp [Instr.fill, catCells]; done)); exact rfl; intro gb w' hb hge hc hx; have hO0 := Own.of_block0 (enc := encI) (s := 1) hb hge)
        | (show WL _ _ _ _ _ _ _; first | apply WL.nil | (refine WL.au (k := ?_)) | (apply WL.index tOk; exact rfl; exact rfl; exact rfl; exact rfl; exact rfl; exact rfl; exact rfl; exact rfl; assumption; (exact extA); exact rfl; omega; assumption; intro b off h; have hcc := h; first | (obtain ⟨h1, h2, h3, h4, h5, h6, _⟩ := h) | (obtain ⟨h1, h2, h3, _⟩ := h) | (obtain ⟨h1, h2, _⟩ := h) | (obtain ⟨h1, _⟩ := h)))
        | (show Z _ _ _ _ _; apply Z.then_normal)
        | (show W _ _ _ _ _ _; first | apply W.seq | apply W.region | apply W.skip))
      obtain ⟨g9, rfl⟩ : ∃ x, x = gb := ⟨_, rfl⟩; obtain ⟨w2, rfl⟩ : ∃ x, x = w' := ⟨_, rfl⟩; obtain ⟨hO9, rfl⟩ : ∃ x, x = hO0 := ⟨_, rfl⟩
      have hX2 : Ext w w2 := (by (exact extA))
      have hRU2 : Row 1 encI w2 au (usesV n outs) := hRU.ext (by (exact extA))
      have R2 : Row 2 encN w2 a n := R.ext hX2
      repeat' (first
        | (show W _ _ (.region 4 _ _) _ _ _; apply W.regionG (.fl true 0 (.fl true 1 (.fl true 2 (.fl true 3 (.fl true 4 (.fl true 6 (.fl true 7 (.fl true 8 (.fl true 9 (.fl true 10 (.fl false 5 (.fl false 11 (.br 12 (.fl true 13 .done) .stop))))))))))))) [11] (Ext w2) tMix; kernel_rfl)
        | (apply WL.lit tOk; exact rfl; exact rfl; exact rfl; exact rfl; exact rfl; exact rfl; (first | exact rfl | kernel_rfl | (simp [Instr.fill, catCells]; done)); exact rfl; intro gb w' hb hge hc hx; have hO := Own.of_block ([x.1, x.2]) encI_ok hb hge rfl; (have RLT := Own.row encI_ok hO; obtain ⟨hOt, rfl⟩ : ∃ x, x = hO := ⟨_, rfl⟩; obtain ⟨hxt, rfl⟩ : ∃ x, x = hx := ⟨_, rfl⟩))
        | (show WL _ _ _ _ _ _ _; first | apply WL.nil | (refine WL.au (k := ?_)))
        | (show SG _ _ _ _ _ _ _ _ _; first | apply SG.done | (apply SG.fl0; exact rfl) | (apply SG.fl1; exact rfl; (focus ((intro m; first | assumption | (apply Ext.at; (exact extA)) | apply But.of_at; first | exact But.upd (by assumption) | exact But.ext (by (exact extA)) | (refine But.trans ?_ (But.upd (by assumption)); exact But.ext (by (exact extA))) | exact But.at _ _ _); done))) | (apply SG.br1; exact rfl))
        | (show FL _ _ _ _ _ _ _ _; first | (apply FL.loadE tOk; exact rfl; exact rfl; exact rfl; exact rfl; exact rfl; assumption) | (apply FL.indexE tOk; exact rfl; exact rfl; exact rfl; exact rfl; exact rfl; exact rfl; exact rfl; exact rfl; assumption; exact rfl; omega; assumption; intro b off h; have hcc := h; first | (obtain ⟨h1, h2, h3, h4, h5, h6, _⟩ := h) | (obtain ⟨h1, h2, h3, _⟩ := h) | (obtain ⟨h1, h2, _⟩ := h) | (obtain ⟨h1, _⟩ := h)))
        | (show FL _ _ _ _ _ _ _ _; first | apply FL.nilS | (refine FL.au (k := ?_)))
        | (show Z _ _ _ _ _; (apply Z.sgL; exact rfl))
        | (show Z _ _ _ _ _; apply Z.then_normal)
        | (show W _ _ _ _ _ _; first | apply W.seq | apply W.region | apply W.block))
      obtain ⟨g0, rfl⟩ : ∃ x, x = gb := ⟨_, rfl⟩; obtain ⟨wl, rfl⟩ : ∃ x, x = w' := ⟨_, rfl⟩
      have eL : leafF n (usesV n outs) (f + 1) ((i : Int) + 1) = (([x.1, x.2] : List Int).take 2).flatMap (leafX n (usesV n outs) (leafF n (usesV n outs) f)) := by
        rw [leafF, e0, hd]; simp
      rw [eL]
      have hUl := uses_len n outs
      have hGl : ∀ y, (leafX n (usesV n outs) (leafF n (usesV n outs) f) y).length ≤ n.length + 1 := by
        intro y
        unfold leafX
        cases dec (innN n (usesV n outs) y)
        · simp
        · exact leaf_len hg f _
      have eG1 : ∀ y, ¬ innN n (usesV n outs) y → leafX n (usesV n outs) (leafF n (usesV n outs) f) y = [y] := fun y h => by rw [leafX, dec_false h]; rfl
      have eG2 : ∀ y, innN n (usesV n outs) y → leafX n (usesV n outs) (leafF n (usesV n outs) f) y = leafF n (usesV n outs) f (y / 2) := fun y h => by rw [leafX, dec_true h]; rfl
      generalize leafX n (usesV n outs) (leafF n (usesV n outs) f) = G at hGl eG1 eG2 ⊢
      generalize hU : usesV n outs = U at hUl eG1 eG2 ih hRU hRU2 ⊢
      refine W.loopO 2 (fun k al cl w' => k ≤ 2 ∧ Ext wu w' ∧ Own 1 encI 3 wu.heap.size w' al cl ((([x.1, x.2] : List Int).take k).flatMap G) ∧ Own 1 encI 3 wu.heap.size w' (some ⟨g0, 0, none⟩) 2 [x.1, x.2] ∧ blk al ≠ some g0)
        (fun k al cl => [(0, .slice a n.length cap), (1, .slice ub outs.length cb), (7, .slice au U.length cu), (8, .slice al ((([x.1, x.2] : List Int).take k).flatMap G).length cl), (9, .slice (some ⟨g0, 0, none⟩) 2 2), (10, .int .i64 k)]) (some ⟨g9, 0, none⟩) 0 ⟨Nat.zero_le _, (by (exact extA)), hO9.ext (by (exact extA)), hOt.base (Below.size hx), fun h => by have h9 := (hO9.blk_lt g9 rfl).2; have h8 : some g9 = some g0 := h; have h7 := Option.some.inj h8; omega⟩ (fun k a cp w' h => h.1) ⟨rfl, rfl, rfl, rfl, rfl, rfl, trivial⟩ ?_
      clear hOt RLT hcc h1 h2 hb hc R2 hRU2
      rintro k al cl w3 ⟨hk, hX3, hO3, hY3, hne⟩
      have RLT := Own.row encI_ok hY3
      by_cases hlt : k < 2
      · obtain ⟨y, hy⟩ := getI ([x.1, x.2] : List Int) (show k < 2 from hlt)
        have hyb : 0 ≤ y ∧ y ≤ 2 * (i : Int) + 1 := by
          have := List.mem_of_getElem? hy
          simp only [List.mem_cons, List.not_mem_nil, or_false] at this
          rcases this with rfl | rfl <;> omega
        have e1 : (([x.1, x.2] : List Int).take (k + 1)).flatMap G = (([x.1, x.2] : List Int).take k).flatMap G ++ G y := by rw [take_succ' hy, List.flatMap_append]; simp
        have l1 := hGl y
        have l2 : ((([x.1, x.2] : List Int).take k).flatMap G).length ≤ 2 * (n.length + 1) := by
          have a1 := hGl x.1
          have a2 := hGl x.2
          match k, hlt with
          | 0, _ => simp
          | 1, _ => simp; omega
        generalize (([x.1, x.2] : List Int).take k).flatMap G = L at hO3 e1 l2 ⊢
        have HX0 : Ext w w3 := (by (exact extA))
        by_cases f0 : 1 < y
        · by_cases f1 : y % 2 = 0
          · obtain ⟨z, hz⟩ := getI U (show (y / 2).toNat < U.length by omega)
            obtain ⟨x2, hx2⟩ := getI n (show (y / 2 - 1).toNat < n.length by omega)
            by_cases f2 : 0 ≤ x2.1
            · have f5 : gateN n (y / 2) := ⟨by omega, by omega, by rw [getD_of hx2]; exact f2⟩
              by_cases f3 : z = 1
              · have f4 : innN n U y := ⟨f1, f5, by rw [getD_of hz]; exact f3⟩
                rw [eG2 y f4] at e1 l1
                repeat' (first
                  | (apply WL.gT; exact rfl; exact rfl; (focus (first | exact dec_true (by omega) | exact dec_false (by omega); done)))
                  | (apply W.condKT; exact rfl; (focus (first | exact dec_true (by omega) | exact dec_false (by omega); done)))
                  | (((show WL _ _ _ (⟨_, .call ⟨.value (.func 50), _, _⟩, _, _, _, _⟩ :: _) _ _ _); apply WL.call; exact rfl; exact rfl; exact rfl; exact rfl; exact ih (y / 2) _ (R.ext (by (exact extA))) (Rb.ext (by (exact extA))) (.inl (by omega)) (by omega) f5; rintro v' w' ⟨hx, a', cap', rfl, hO⟩; have hOr := Own.row encI_ok hO; obtain ⟨hOq, rfl⟩ : ∃ x, x = hO := ⟨_, rfl⟩))
                  | ((apply WL.appendS (w0 := wu) tOk encI_ok; exact rfl; exact rfl; exact rfl; exact rfl; exact rfl; exact rfl; exact rfl; exact rfl; exact rfl; exact rfl; exact hO3; exact (by (exact extA)); exact rfl; exact hOr; exact (by (exact extA)); exact rfl; exact Own.noneCap hOq; exact rfl; exact (by (exact extA)); omega; intro a' cap' w' hO hX' hU hF))
                  | (show WL _ _ _ _ _ _ _; first | apply WL.nil | (refine WL.au (k := ?_)) | (apply WL.index tOk; exact rfl; exact rfl; exact rfl; exact rfl; exact rfl; exact rfl; exact rfl; exact rfl; assumption; (exact extA); exact rfl; omega; assumption; intro b off h; have hcc := h; first | (obtain ⟨h1, h2, h3, h4, h5, h6, _⟩ := h) | (obtain ⟨h1, h2, h3, _⟩ := h) | (obtain ⟨h1, h2, _⟩ := h) | (obtain ⟨h1, _⟩ := h)))
                  | (show Z _ _ _ _ _; first | apply Z.then_normal | apply Z.block_normal)
                  | (show W _ _ _ _ _ _; first | apply W.seq | apply W.region | apply W.block | apply W.skip))
                exact Z.againO a' cap' ⟨by omega, by assumption, by rw [e1]; exact hO, hU.own (Own.ext hY3 (by (exact extA))) (.inr fun h => hne h.symm), ne_new hne hF ((Own.ext hY3 (by (exact extA))).blk_lt g0 rfl).2⟩ (by rw [e1]; exact ⟨rfl, rfl, rfl, rfl, rfl, rfl, trivial⟩)
              · have f4 : ¬ innN n U y := fun h => f3 (by have := h.2.2; rw [getD_of hz] at this; exact this)
                rw [eG1 y f4] at e1 l1
                repeat' (first
                  | (apply WL.gT; exact rfl; exact rfl; (focus (first | exact dec_true (by omega) | exact dec_false (by omega); done)))
                  | (apply W.condKT; exact rfl; (focus (first | exact dec_true (by omega) | exact dec_false (by omega); done)))
                  | (apply W.condKF; exact rfl; (focus (first | exact dec_true (by omega) | exact dec_false (by omega); done)))
                  | (apply WL.lit tOk; exact rfl; exact rfl; exact rfl; exact rfl; exact rfl; exact rfl; (first | exact rfl | kernel_rfl | (simp [Instr.fill, catCells]; done)); exact rfl; intro gb w' hb hge hc hx)
                  | (apply WL.append1 (z := (y)) tOk encI_ok; exact rfl; exact rfl; exact rfl; exact rfl; exact rfl; exact rfl; exact rfl; exact rfl; exact rfl; exact rfl; assumption; (exact extA); (first | exact rfl | (focus (simp only [List.length_set]; done)) | (focus (simp; done)) | (focus (simp [*]; done)) | omega | (focus (simp only [List.length_set]; omega))); (first | assumption | (refine Cells.ext ?_ (by assumption); exact extA)); exact rfl; exact rfl; (exact extA); (first | omega | (simp; omega) | (simp at *; omega)); intro a' cap' w' hO hX' hU hF)
                  | (show WL _ _ _ _ _ _ _; first | apply WL.nil | (refine WL.au (k := ?_)) | (apply WL.index tOk; exact rfl; exact rfl; exact rfl; exact rfl; exact rfl; exact rfl; exact rfl; exact rfl; assumption; (exact extA); exact rfl; omega; assumption; intro b off h; have hcc := h; first | (obtain ⟨h1, h2, h3, h4, h5, h6, _⟩ := h) | (obtain ⟨h1, h2, h3, _⟩ := h) | (obtain ⟨h1, h2, _⟩ := h) | (obtain ⟨h1, _⟩ := h)))
                  | (show Z _ _ _ _ _; first | apply Z.then_normal | apply Z.block_normal)
                  | (show W _ _ _ _ _ _; first | apply W.seq | apply W.region | apply W.block | apply W.skip))
                exact Z.againO a' cap' ⟨by omega, by assumption, by rw [e1]; exact hO, hU.own (Own.ext hY3 (by (exact extA))) (.inr fun h => hne h.symm), ne_new hne hF ((Own.ext hY3 (by (exact extA))).blk_lt g0 rfl).2⟩ (by rw [e1]; exact ⟨rfl, rfl, rfl, rfl, rfl, rfl, trivial⟩)
            · have f4 : ¬ innN n U y := fun h => f2 (by have := h.2.1.2.2; rw [getD_of hx2] at this; exact this)
              rw [eG1 y f4] at e1 l1
              repeat' (first
                | (apply WL.gT; exact rfl; exact rfl; (focus (first | exact dec_true (by omega) | exact dec_false (by omega); done)))
                | (apply WL.gF; exact rfl; exact rfl; (focus (first | exact dec_true (by omega) | exact dec_false (by omega); done)))
                | (apply W.condKT; exact rfl; (focus (first | exact dec_true (by omega) | exact dec_false (by omega); done)))
                | (apply WL.lit tOk; exact rfl; exact rfl; exact rfl; exact rfl; exact rfl; exact rfl; (first | exact rfl | kernel_rfl | (simp [Instr.fill, catCells]; done)); exact rfl; intro gb w' hb hge hc hx)
                | (apply WL.append1 (z := (y)) tOk encI_ok; exact rfl; exact rfl; exact rfl; exact rfl; exact rfl; exact rfl; exact rfl; exact rfl; exact rfl; exact rfl; assumption; (exact extA); (first | exact rfl | (focus (simp only [List.length_set]; done)) | (focus (simp; done)) | (focus (simp [*]; done)) | omega | (focus (simp only [List.length_set]; omega))); (first | assumption | (refine Cells.ext ?_ (by assumption); exact extA)); exact rfl; exact rfl; (exact extA); (first | omega | (simp; omega) | (simp at *; omega)); intro a' cap' w' hO hX' hU hF)
                | (show WL _ _ _ _ _ _ _; first | apply WL.nil | (refine WL.au (k := ?_)) | (apply WL.index tOk; exact rfl; exact rfl; exact rfl; exact rfl; exact rfl; exact rfl; exact rfl; exact rfl; assumption; (exact extA); exact rfl; omega; assumption; intro b off h; have hcc := h; first | (obtain ⟨h1, h2, h3, h4, h5, h6, _⟩ := h) | (obtain ⟨h1, h2, h3, _⟩ := h) | (obtain ⟨h1, h2, _⟩ := h) | (obtain ⟨h1, _⟩ := h)) | (apply WL.guardF; exact rfl; exact rfl))
                | (show Z _ _ _ _ _; first | apply Z.then_normal | apply Z.block_normal)
                | (show W _ _ _ _ _ _; first | apply W.seq | apply W.region | apply W.block | apply W.skip | (apply W.condF; exact rfl)))
              exact Z.againO a' cap' ⟨by omega, by assumption, by rw [e1]; exact hO, hU.own (Own.ext hY3 (by (exact extA))) (.inr fun h => hne h.symm), ne_new hne hF ((Own.ext hY3 (by (exact extA))).blk_lt g0 rfl).2⟩ (by rw [e1]; exact ⟨rfl, rfl, rfl, rfl, rfl, rfl, trivial⟩)
          · have f4 : ¬ innN n U y := fun h => f1 h.1
            rw [eG1 y f4] at e1 l1
            repeat' (first
              | (apply WL.gT; exact rfl; exact rfl; (focus (first | exact dec_true (by omega) | exact dec_false (by omega); done)))
              | (apply WL.gF; exact rfl; exact rfl; (focus (first | exact dec_true (by omega) | exact dec_false (by omega); done)))
              | (apply W.condKT; exact rfl; (focus (first | exact dec_true (by omega) | exact dec_false (by omega); done)))
              | (apply WL.lit tOk; exact rfl; exact rfl; exact rfl; exact rfl; exact rfl; exact rfl; (first | exact rfl | kernel_rfl | (simp [Instr.fill, catCells]; done)); exact rfl; intro gb w' hb hge hc hx)
              | (apply WL.append1 (z := (y)) tOk encI_ok; exact rfl; exact rfl; exact rfl; exact rfl; exact rfl; exact rfl; exact rfl; exact rfl; exact rfl; exact rfl; assumption; (exact extA); (first | exact rfl | (focus (simp only [List.length_set]; done)) | (focus (simp; done)) | (focus (simp [*]; done)) | omega | (focus (simp only [List.length_set]; omega))); (first | assumption | (refine Cells.ext ?_ (by assumption); exact extA)); exact rfl; exact rfl; (exact extA); (first | omega | (simp; omega) | (simp at *; omega)); intro a' cap' w' hO hX' hU hF)
              | (show WL _ _ _ _ _ _ _; first | apply WL.nil | (refine WL.au (k := ?_)) | (apply WL.index tOk; exact rfl; exact rfl; exact rfl; exact rfl; exact rfl; exact rfl; exact rfl; exact rfl; assumption; (exact extA); exact rfl; omega; assumption; intro b off h; have hcc := h; first | (obtain ⟨h1, h2, h3, h4, h5, h6, _⟩ := h) | (obtain ⟨h1, h2, h3, _⟩ := h) | (obtain ⟨h1, h2, _⟩ := h) | (obtain ⟨h1, _⟩ := h)) | (apply WL.guardF; exact rfl; exact rfl))
              | (show Z _ _ _ _ _; first | apply Z.then_normal | apply Z.block_normal)
              | (show W _ _ _ _ _ _; first | apply W.seq | apply W.region | apply W.block | apply W.skip | (apply W.condF; exact rfl)))
            exact Z.againO a' cap' ⟨by omega, by assumption, by rw [e1]; exact hO, hU.own (Own.ext hY3 (by (exact extA))) (.inr fun h => hne h.symm), ne_new hne hF ((Own.ext hY3 (by (exact extA))).blk_lt g0 rfl).2⟩ (by rw [e1]; exact ⟨rfl, rfl, rfl, rfl, rfl, rfl, trivial⟩)
        · have f4 : ¬ innN n U y := fun h => by have := h.2.1.1; omega
          rw [eG1 y f4] at e1 l1
          repeat' (first
            | (apply WL.gF; exact rfl; exact rfl; (focus (first | exact dec_true (by omega) | exact dec_false (by omega); done)))
            | (apply W.condKT; exact rfl; (focus (first | exact dec_true (by omega) | exact dec_false (by omega); done)))
            | (apply WL.lit tOk; exact rfl; exact rfl; exact rfl; exact rfl; exact rfl; exact rfl; (first | exact rfl | kernel_rfl | (simp [Instr.fill, catCells]; done)); exact rfl; intro gb w' hb hge hc hx)
            | (apply WL.append1 (z := (y)) tOk encI_ok; exact rfl; exact rfl; exact rfl; exact rfl; exact rfl; exact rfl; exact rfl; exact rfl; exact rfl; exact rfl; assumption; (exact extA); (first | exact rfl | (focus (simp only [List.length_set]; done)) | (focus (simp; done)) | (focus (simp [*]; done)) | omega | (focus (simp only [List.length_set]; omega))); (first | assumption | (refine Cells.ext ?_ (by assumption); exact extA)); exact rfl; exact rfl; (exact extA); (first | omega | (simp; omega) | (simp at *; omega)); intro a' cap' w' hO hX' hU hF)
            | (show WL _ _ _ _ _ _ _; first | apply WL.nil | (refine WL.au (k := ?_)) | (apply WL.index tOk; exact rfl; exact rfl; exact rfl; exact rfl; exact rfl; exact rfl; exact rfl; exact rfl; assumption; (exact extA); exact rfl; omega; assumption; intro b off h; have hcc := h; first | (obtain ⟨h1, h2, h3, h4, h5, h6, _⟩ := h) | (obtain ⟨h1, h2, h3, _⟩ := h) | (obtain ⟨h1, h2, _⟩ := h) | (obtain ⟨h1, _⟩ := h)) | (apply WL.guardF; exact rfl; exact rfl))
            | (show Z _ _ _ _ _; first | apply Z.then_normal | apply Z.block_normal)
            | (show W _ _ _ _ _ _; first | apply W.seq | apply W.region | apply W.block | apply W.skip | (apply W.condF; exact rfl)))
          exact Z.againO a' cap' ⟨by omega, by assumption, by rw [e1]; exact hO, hU.own (Own.ext hY3 (by (exact extA))) (.inr fun h => hne h.symm), ne_new hne hF ((Own.ext hY3 (by (exact extA))).blk_lt g0 rfl).2⟩ (by rw [e1]; exact ⟨rfl, rfl, rfl, rfl, rfl, rfl, trivial⟩)
      obtain rfl : k = 2 := by omega
      repeat' (first
        | (apply W.condKF; exact rfl; (focus (exact dec_false (by omega); done)))
        | (show WL _ _ _ _ _ _ _; first | apply WL.nil | (refine WL.au (k := ?_)))
        | (show Z _ _ _ _ _; first | apply Z.then_normal | apply Z.then_exit | apply Z.block_exit)
        | (show W _ _ _ _ _ _; first | apply W.seq | apply W.region | apply W.ret | apply W.exit))
      exact Z.body1 Try.results50 rfl fun m => ⟨Ext.at (by (exact extA)) m, al, cl, rfl, (hO3.base (Below.size hxu)).ext ((Ext.refl _).at m)⟩
  · rw [leafF_no q0]
    rcases gate_not q0 with h | h | ⟨x, hx0, h1, h2, h3⟩
    · refine Spec.of _ Try.func50 rfl Try.ntmps50 (by kernel_rfl) rfl ?_
      repeat' (first
        | (apply WL.gT; exact rfl; exact rfl; (focus (first | exact dec_true (by omega); done)))
        | (show WL _ _ _ _ _ _ _; first | apply WL.nil | (refine WL.au (k := ?_)) | (apply WL.guardF; exact rfl; exact rfl))
        | (show Z _ _ _ _ _; first | apply Z.then_normal | apply Z.then_ret)
        | (show W _ _ _ _ _ _; first | apply W.seq | apply W.region | apply W.ret | (apply W.condT; exact rfl)))
      exact Z.body1 Try.results50 rfl fun m => ⟨(Ext.refl _).at m, none, 0, rfl, Own.nil⟩
    · refine Spec.of _ Try.func50 rfl Try.ntmps50 (by kernel_rfl) rfl ?_
      repeat' (first
        | (apply WL.gT; exact rfl; exact rfl; (focus (first | exact dec_true (by omega) | exact dec_false (by omega); done)))
        | (apply WL.gF; exact rfl; exact rfl; (focus (first | exact dec_true (by omega) | exact dec_false (by omega); done)))
        | (show WL _ _ _ _ _ _ _; first | apply WL.nil | (refine WL.au (k := ?_)) | (apply WL.guardF; exact rfl; exact rfl))
        | (show Z _ _ _ _ _; first | apply Z.then_normal | apply Z.then_ret)
        | (show W _ _ _ _ _ _; first | apply W.seq | apply W.region | apply W.ret | (apply W.condT; exact rfl)))
      exact Z.body1 Try.results50 rfl fun m => ⟨(Ext.refl _).at m, none, 0, rfl, Own.nil⟩
    · refine Spec.of _ Try.func50 rfl Try.ntmps50 (by kernel_rfl) rfl ?_
      repeat' (first
        | (apply WL.gF; exact rfl; exact rfl; (focus (first | exact dec_true (by omega) | exact dec_false (by omega); done)))
        | (apply W.condKT; exact rfl; (focus (first | exact dec_true (by omega) | exact dec_false (by omega); done)))
        | (show WL _ _ _ _ _ _ _; first | apply WL.nil | (refine WL.au (k := ?_)) | (apply WL.index tOk; exact rfl; exact rfl; exact rfl; exact rfl; exact rfl; exact rfl; exact rfl; exact rfl; assumption; (exact extA); exact rfl; omega; assumption; intro b off h; have hcc := h; first | (obtain ⟨h1, h2, h3, h4, h5, h6, _⟩ := h) | (obtain ⟨h1, h2, h3, _⟩ := h) | (obtain ⟨h1, h2, _⟩ := h) | (obtain ⟨h1, _⟩ := h)))
        | (show Z _ _ _ _ _; first | apply Z.then_normal | apply Z.then_ret)
        | (show W _ _ _ _ _ _; first | apply W.seq | apply W.region | apply W.ret))
      exact Z.body1 Try.results50 rfl fun m => ⟨(Ext.refl _).at m, none, 0, rfl, Own.nil⟩
end Go.Proofs.Ythpnahapiodflaa
namespace Go.Proofs.Ythpnahapiodflaa
open Go Go.Lt Go.RowKit
set_option linter.unusedVariables false
set_option linter.unusedSimpArgs false
set_option maxRecDepth 20000

/-- A gate's variable, and those of its two inputs. -/
abbrev G3 := Int × Int × Int
/-- It may be told now: it is not told yet, and all on which it hangs are. -/
def Rdy (gs : List G3) (T : List Nat) (i : Nat) : Prop :=
  ∃ g, gs[i]? = some g ∧ i ∉ T ∧ ∀ (j : Nat) (x : G3), gs[j]? = some x → j ∉ T → x.1 / 2 ≠ g.2.1 / 2 ∧ x.1 / 2 ≠ g.2.2 / 2
def Least (gs : List G3) (T : List Nat) (i : Nat) : Prop := Rdy gs T i ∧ ∀ j, Rdy gs T j → i ≤ j
/-- Gates told, the least one that may be first. -/
def PreOrd (gs : List G3) (L : List Nat) : Prop := ∀ (k i : Nat), L[k]? = some i → Least gs (L.take k) i
def IsOrd (gs : List G3) (L : List Nat) : Prop := PreOrd gs L ∧ ∀ i, ¬ Rdy gs L i
theorem PreOrd.nil (gs : List G3) : PreOrd gs [] := fun k i h => by simp at h
theorem PreOrd.push {gs : List G3} {L : List Nat} {i : Nat} (h : PreOrd gs L) (hi : Least gs L i) : PreOrd gs (L ++ [i]) := by
  intro k j hj
  by_cases hk : k < L.length
  · rw [List.getElem?_append_left hk] at hj
    rw [List.take_append_of_le_length (by omega)]
    exact h k j hj
  · rw [List.getElem?_append_right (by omega)] at hj
    have : k - L.length = 0 := by have := lt_of_get hj; simpa using this
    obtain rfl : k = L.length := by omega
    simp at hj; subst hj
    rw [List.take_left' rfl]
    exact hi
theorem PreOrd.take {gs : List G3} {L : List Nat} (h : PreOrd gs L) (m : Nat) : PreOrd gs (L.take m) := by
  intro k i hi
  rw [List.getElem?_take] at hi
  split at hi
  · rename_i hk
    rw [List.take_take, Nat.min_eq_left (by omega)]
    exact h k i hi
  · cases hi
theorem PreOrd.lt {gs : List G3} {L : List Nat} (h : PreOrd gs L) : ∀ i ∈ L, i < gs.length := fun i hi => by
  obtain ⟨k, hk, he⟩ := List.getElem_of_mem hi
  obtain ⟨g, hg, _⟩ := (h k i (by rw [List.getElem?_eq_getElem hk, he])).1
  exact lt_of_get hg
theorem PreOrd.nodup {gs : List G3} {L : List Nat} (h : PreOrd gs L) : L.Nodup := by
  rw [List.nodup_iff_pairwise_ne, List.pairwise_iff_getElem]
  intro i j hi hj hij he
  obtain ⟨g, _, hn, _⟩ := (h j L[j] (List.getElem?_eq_getElem hj)).1
  refine hn ?_
  rw [← he]
  exact List.mem_take_iff_getElem.2 ⟨i, by omega, rfl⟩
theorem nodup_le : ∀ (n : Nat) (L : List Nat), L.Nodup → (∀ i ∈ L, i < n) → L.length ≤ n
  | 0, L, _, h => by
    cases L with
    | nil => exact Nat.le_refl _
    | cons x r => exact absurd (h x (by simp)) (Nat.not_lt_zero _)
  | n + 1, L, hd, h => by
    have h1 := nodup_le n (L.erase n) (hd.erase n) fun i hi => by
      have h2 := h i (List.mem_of_mem_erase hi)
      have h3 : i ≠ n := fun he => by subst he; exact (List.Nodup.not_mem_erase hd) hi
      omega
    rw [List.length_erase] at h1
    split at h1 <;> omega
theorem PreOrd.le {gs : List G3} {L : List Nat} (h : PreOrd gs L) : L.length ≤ gs.length := nodup_le _ _ h.nodup h.lt
theorem least_ex {p : Nat → Prop} : ∀ (n : Nat), p n → ∃ i, p i ∧ ∀ j, p j → i ≤ j := by
  intro n
  induction n using Nat.strongRecOn with
  | ind n ih =>
    intro h
    by_cases hh : ∃ m, m < n ∧ p m
    · obtain ⟨m, h1, h2⟩ := hh
      exact ih m h1 h2
    · exact ⟨n, h, fun j hj => Nat.le_of_not_lt fun hlt => hh ⟨j, hlt, hj⟩⟩
theorem IsOrd.eq {gs : List G3} {L M : List Nat} (h : IsOrd gs L) (k : IsOrd gs M) : L = M := by
  have key : ∀ m, L.take m = M.take m := by
    intro m
    induction m with
    | zero => rfl
    | succ m ih =>
      cases hL : L[m]? with
      | none =>
        have l1 : L.length ≤ m := List.getElem?_eq_none_iff.1 hL
        cases hM : M[m]? with
        | none =>
          have l2 : M.length ≤ m := List.getElem?_eq_none_iff.1 hM
          rw [List.take_of_length_le (by omega), List.take_of_length_le (by omega), ← List.take_of_length_le l1, ← List.take_of_length_le l2, ih]
        | some i =>
          exfalso
          have h1 := (k.1 m i hM).1
          rw [← ih, List.take_of_length_le l1] at h1
          exact h.2 i h1
      | some i =>
        cases hM : M[m]? with
        | none =>
          exfalso
          have l2 : M.length ≤ m := List.getElem?_eq_none_iff.1 hM
          have h1 := (h.1 m i hL).1
          rw [ih, List.take_of_length_le l2] at h1
          exact k.2 i h1
        | some j =>
          have h1 := h.1 m i hL
          have h2 := k.1 m j hM
          rw [ih] at h1
          have : i = j := Nat.le_antisymm (h1.2 j h2.1) (h2.2 i h1.1)
          rw [take_succ' hL, take_succ' hM, ih, this]
  have h1 := key (max L.length M.length)
  rwa [List.take_of_length_le (by omega), List.take_of_length_le (by omega)] at h1
open Classical in
/-- There is one. -/
theorem ord_any (gs : List G3) : ∃ L, IsOrd gs L := by
  have key : ∀ (m : Nat) (L : List Nat), PreOrd gs L → gs.length - L.length = m → ∃ L, IsOrd gs L := by
    intro m
    induction m using Nat.strongRecOn with
    | ind m ih =>
      intro L hL hm
      by_cases h : ∃ i, Rdy gs L i
      · obtain ⟨i0, hi0⟩ := h
        obtain ⟨i, hl⟩ := least_ex (p := Rdy gs L) i0 hi0
        replace hl : Least gs L i := hl
        have h2 := (hL.push hl).le
        rw [List.length_append, List.length_singleton] at h2
        exact ih (gs.length - (L.length + 1)) (by omega) _ (hL.push hl) (by rw [List.length_append, List.length_singleton])
      · exact ⟨L, hL, fun i hi => h ⟨i, hi⟩⟩
  exact key _ [] (PreOrd.nil gs) rfl
noncomputable def ordL (gs : List G3) : List Nat := Classical.choose (ord_any gs)
theorem ordL_is (gs : List G3) : IsOrd gs (ordL gs) := Classical.choose_spec (ord_any gs)
theorem IsOrd.ord {gs : List G3} {L : List Nat} (h : IsOrd gs L) : L = ordL gs := h.eq (ordL_is gs)
end Go.Proofs.Ythpnahapiodflaa
namespace Go.Proofs.Ythpnahapiodflaa
open Go Go.Lt Go.RowKit
set_option linter.unusedVariables false
set_option linter.unusedSimpArgs false
set_option maxRecDepth 20000

abbrev T3 := Int × Int × Int
abbrev enc3 : T3 → List Value := fun x => [.int .i64 x.1, .int .i64 x.2.1, .int .i64 x.2.2]
/-- Each variable is set but once, and is one. -/
def TOk (n : Int) (L : List T3) : Prop := (∀ x ∈ L, 2 ≤ x.1 ∧ x.1 / 2 ≤ n) ∧ L.Pairwise (fun x y => x.1 / 2 ≠ y.1 / 2)
theorem TOk.inj {n : Int} {L : List T3} (h : TOk n L) {i j : Nat} {x y : T3} (hx : L[i]? = some x) (hy : L[j]? = some y) (he : x.1 / 2 = y.1 / 2) : i = j := by
  have hp := List.pairwise_iff_getElem.1 h.2
  obtain ⟨hi, rfl⟩ := List.getElem?_eq_some_iff.1 hx
  obtain ⟨hj, rfl⟩ := List.getElem?_eq_some_iff.1 hy
  rcases Nat.lt_trichotomy i j with h1 | h1 | h1
  · exact absurd he (hp i j hi hj h1)
  · exact h1
  · exact absurd he.symm (hp j i hj hi h1)
theorem TOk.sub {n : Int} {L L' : List T3} (h : TOk n L) (hs : L'.Sublist L) : TOk n L' := ⟨fun x hx => h.1 x (hs.subset hx), h.2.sublist hs⟩
theorem TOk.nil (n : Int) : TOk n [] := ⟨by simp, List.Pairwise.nil⟩
end Go.Proofs.Ythpnahapiodflaa
namespace Go.Proofs.Ythpnahapiodflaa
open Go Go.Lt Go.RowKit
set_option linter.unusedVariables false
set_option linter.unusedSimpArgs false
set_option maxRecDepth 20000

abbrev Sy := Int × Int × ByteArray
abbrev encY : Sy → List Value := fun x => [.int .u8 x.1, .int .i64 x.2.1, .string x.2.2]
/-- A circuit by value: its rows, with where they lie. -/
structure Circ where
  max : Int
  ins : RowV Int
  lat : RowV T3
  outs : RowV Int
  bads : RowV Int
  cons : RowV Int
  gates : RowV T3
  syms : RowV Sy
  com : ByteArray
abbrev rowVal {α : Type} (r : RowV α) : Value := .slice r.1 r.2.2.length r.2.1
abbrev Circ.vals (c : Circ) : List Value := [.int .i64 c.max, rowVal c.ins, rowVal c.lat, rowVal c.outs, rowVal c.bads, rowVal c.cons, rowVal c.gates, rowVal c.syms, .string c.com]
abbrev Circ.val (c : Circ) : Value := .agg c.vals.toArray
/-- A row that may be read, no longer than its room. -/
structure RowK {α : Type} (s : Nat) (enc : α → List Value) (w : World) (r : RowV α) : Prop where
  row : Row s enc w r.1 r.2.2
  cap : r.2.2.length ≤ r.2.1
  none : r.1 = none → r.2.1 = 0
theorem RowK.ext {α : Type} {s : Nat} {enc : α → List Value} {w w1 : World} {r : RowV α} (h : RowK s enc w r) (hx : Ext w w1) : RowK s enc w1 r := ⟨h.row.ext hx, h.cap, h.none⟩
structure CAt (w : World) (c : Circ) : Prop where
  ins : RowK 1 encI w c.ins
  lat : RowK 3 enc3 w c.lat
  outs : RowK 1 encI w c.outs
  bads : RowK 1 encI w c.bads
  cons : RowK 1 encI w c.cons
  gates : RowK 3 enc3 w c.gates
  syms : RowK 3 encY w c.syms
theorem CAt.ext {w w1 : World} {c : Circ} (h : CAt w c) (hx : Ext w w1) : CAt w1 c := ⟨h.1.ext hx, h.2.ext hx, h.3.ext hx, h.4.ext hx, h.5.ext hx, h.6.ext hx, h.7.ext hx⟩
/-- What a circuit is, wherever it lies. -/
structure CirT where
  max : Int
  ins : List Int
  lat : List T3
  outs : List Int
  bads : List Int
  cons : List Int
  gates : List T3
  syms : List Sy
  com : ByteArray
abbrev Circ.t (c : Circ) : CirT := ⟨c.max, c.ins.2.2, c.lat.2.2, c.outs.2.2, c.bads.2.2, c.cons.2.2, c.gates.2.2, c.syms.2.2, c.com⟩
abbrev CirT.own (c : CirT) : List Int := c.ins ++ c.lat.map (·.1) ++ c.gates.map (·.1)
abbrev CirT.used (c : CirT) : List Int := c.outs ++ c.bads ++ c.cons ++ c.lat.map (·.2.1) ++ c.gates.flatMap (fun g => [g.2.1, g.2.2])
structure GoodC' (c : CirT) : Prop where
  max : 0 ≤ c.max ∧ c.max ≤ 16777216
  own : ∀ x ∈ c.own, 2 ≤ x ∧ x % 2 = 0 ∧ x ≤ 2 * c.max
  used : ∀ x ∈ c.used, 0 ≤ x ∧ x ≤ 2 * c.max + 1
  res : ∀ x ∈ c.lat, x.2.2 = 0 ∨ x.2.2 = 1 ∨ x.2.2 = x.1
  once : c.own.Nodup
  has : ∀ x ∈ c.used, 1 < x → x - x % 2 ∈ c.own
  ord : (ordL c.gates).length = c.gates.length
end Go.Proofs.Ythpnahapiodflaa
namespace Go.Proofs.Ythpnahapiodflaa
open Go Go.Lt Go.RowKit
set_option linter.unusedVariables false
set_option linter.unusedSimpArgs false
set_option maxRecDepth 20000

def WaitsP (gs : List G3) (told : List Bool) (l : Int) : Prop := ∃ (j : Nat) (x : G3), gs[j]? = some x ∧ told[j]? = some false ∧ x.1 / 2 = l / 2
/-- Which gates are told. -/
structure TolD (gs : List G3) (L : List Nat) (told : List Bool) : Prop where
  len : told.length = gs.length
  yes : ∀ j : Nat, j ∈ L → j < gs.length → told[j]? = some true
  no : ∀ j : Nat, j ∉ L → j < gs.length → told[j]? = some false
theorem TolD.waits {gs : List G3} {L : List Nat} {told : List Bool} (h : TolD gs L told) (l : Int) : WaitsP gs told l ↔ ∃ (j : Nat) (x : G3), gs[j]? = some x ∧ j ∉ L ∧ x.1 / 2 = l / 2 := by
  constructor
  · rintro ⟨j, x, h1, h2, h3⟩
    refine ⟨j, x, h1, fun hm => ?_, h3⟩
    rw [h.yes j hm (lt_of_get h1)] at h2; cases h2
  · rintro ⟨j, x, h1, h2, h3⟩
    exact ⟨j, x, h1, h.no j h2 (lt_of_get h1), h3⟩
theorem TolD.push {gs : List G3} {L : List Nat} {told : List Bool} (h : TolD gs L told) {i : Nat} (hi : i < gs.length) : TolD gs (L ++ [i]) (told.set i true) := by
  refine ⟨by rw [List.length_set]; exact h.len, fun j hj hl => ?_, fun j hj hl => ?_⟩
  · rw [List.getElem?_set]
    split
    · rename_i e; subst e; rw [if_pos (by rw [h.len]; exact hi)]
    · rename_i e
      rcases List.mem_append.1 hj with hj | hj
      · exact h.yes j hj hl
      · exact absurd (List.mem_singleton.1 hj).symm e
  · rw [List.getElem?_set_ne (fun e => hj (by subst e; simp))]
    exact h.no j (fun hm => hj (List.mem_append_left _ hm)) hl
theorem TolD.start (gs : List G3) : TolD gs [] (List.replicate gs.length false) := by
  refine ⟨by simp, (fun j h => by cases h), fun j _ hl => ?_⟩
  rw [List.getElem?_replicate, if_pos hl]
end Go.Proofs.Ythpnahapiodflaa
namespace Go.Lt
open Go.RowKit
set_option linter.unusedVariables false
set_option linter.unusedSimpArgs false

section tree
variable {P : Program} {ops : Array Oper} {C : World → Prop} {early : Nat → Bool} {K : Act → World → Prop}

def wpX (P : Program) (ops : Array Oper) (C : World → Prop) (early : Nat → Bool) (K : Act → World → Prop) : Nat → Array Bool → Act → World → Prop
  | 0, listed, a, w => Region.ready .any ops listed = [] ∧ ∀ w', Ext w w' → K a w'
  | n + 1, listed, a, w => Region.ready .any ops listed ≠ [] ∧ ∀ w', Ext w w' → ∀ i ∈ Region.ready .any ops listed,
      wpOp P ops (onlyN K) i (fun a' w'' => (C w' → early i = true → C w'') ∧ wpX P ops C early K n (listed.setIfInBounds i true) a' w'') a w'

theorem wpX_ext : ∀ {n : Nat} {listed : Array Bool} {a : Act} {w w2 : World} (_ : Ext w w2), wpX P ops C early K n listed a w → wpX P ops C early K n listed a w2
  | 0, _, _, _, _, hx, h => ⟨h.1, fun w' h' => h.2 w' (hx.trans h')⟩
  | _ + 1, _, _, _, _, hx, h => ⟨h.1, fun w' h' => h.2 w' (hx.trans h')⟩

theorem wpAny_of_X {Q : Exit → Act → World → Prop} (hQ : ∀ a w, K a w → Q .normal a w) : ∀ (fuel : Nat) (listed : Array Bool) (a : Act) (w : World), wpX P ops C early K fuel listed a w → wpAny P .any ops Q fuel listed a w
  | 0, _, _, w, h => ⟨h.1, hQ _ _ (h.2 w (Ext.refl w))⟩
  | fuel + 1, _, _, w, h => ⟨fun h0 => absurd h0 h.1, fun i hi => wpOp_mono' (fun a w hh => wpAny_of_X hQ fuel _ a w hh.2) (h.2 w (Ext.refl w) i hi)⟩

/-- The step yields v, and only makes memory. -/
def PureAt (P : Program) (s : Sem Next) (w : World) (v : Value) : Prop :=
  s.run P w = .ok (.value v) w ∨ ∃ f args, s.run P w = .ok (.enter f args) w ∧ Calls P f args w (fun x w' => x = .returned v ∧ Ext w w')

def PYields (P : Program) (ops : Array Oper) (C : World → Prop) (o : Oper) (v : Value) (a : Act) : Prop :=
  (Region.wanted o (yielded ops a.tmps) = true ∧ ∀ w, C w → PureAt P (execOp a.eval o) w v) ∨ (Region.wanted o (yielded ops a.tmps) = false ∧ v = undef)

theorem PYields.wpOp {i : Nat} {o : Oper} {v : Value} {a : Act} {w : World} {Q : Exit → Act → World → Prop} {K' : Act → World → Prop} (hi : ops[i]? = some o) (hy : PYields P ops C o v a) (hC : C w) (h : ∀ w', Ext w w' → K' (a.put o.dst v) w') : wpOp P ops Q i K' a w := by
  unfold Go.wpOp
  simp only [hi]
  rcases hy with ⟨hw, hv⟩ | ⟨hw, rfl⟩
  · simp only [hw, if_true]
    refine .inl ?_
    unfold Oper.wp
    rcases hv w hC with hv | ⟨f, args, hv, hc⟩
    · rw [hv]; exact h w (Ext.refl w)
    · rw [hv]
      refine Calls.mono hc ?_
      rintro x w' ⟨rfl, hx⟩
      exact h w' hx
  · simp only [hw, Bool.false_eq_true, if_false]; exact h w (Ext.refl w)

theorem PYields.of_same {o : Oper} {v : Value} {a a' : Act} (hy : PYields P ops C o v a) (he : execOp a'.eval o = execOp a.eval o)
    (hw : Region.wanted o (yielded ops a'.tmps) = Region.wanted o (yielded ops a.tmps)) : PYields P ops C o v a' := by
  unfold PYields at *
  rw [he, hw]
  exact hy

theorem wpOp_putX {j : Nat} {oi oj : Oper} {v : Value} {C : World → Prop} (hj : ops[j]? = some oj) (hap : oi.apart ops oj = true)
    (hsi : ∀ cs b, oi.op ≠ .select cs b) (hsj : ∀ cs b, oj.op ≠ .select cs b) {K0 K1 : Act → World → Prop} {a : Act} {w : World}
    (hy : PYields P ops C oi v a) (h : wpOp P ops (onlyN K0) j K1 (a.put oi.dst v) w) :
    wpOp P ops (onlyN K0) j (fun a' w' => PYields P ops C oi v a' ∧ K1 (a'.put oi.dst v) w') a w := by
  obtain ⟨h1, h2, h3⟩ := Oper.apart_spec hap
  have keep : ∀ u, PYields P ops C oi v (a.put oj.dst u) := fun u => hy.of_same (execOp_put oi hsi a oj.dst u h3) (wanted_put oi a oj.dst u h3)
  have swap : ∀ u, (a.put oi.dst v).put oj.dst u = (a.put oj.dst u).put oi.dst v := fun u => Act.put_comm a v u h2
  have lets : ¬ LetsOut (onlyN K0) := fun ⟨_, _, hq⟩ => hq
  unfold Go.wpOp at *
  simp only [hj] at *
  rw [wanted_put oj a oi.dst v h1] at h
  split
  · rename_i hw
    simp only [hw, if_true] at h
    rcases h with h | ⟨_, hq⟩
    · refine .inl ?_
      unfold Oper.wp at h ⊢
      rw [execOp_put oj hsj a oi.dst v h1] at h
      revert h
      generalize (execOp a.eval oj).run P w = r
      intro h
      unfold Oper.upon at h ⊢
      split at h
      · exact ⟨keep _, by rw [← swap]; exact h⟩
      · exact ⟨keep _, by rw [← swap]; exact h⟩
      · rename_i d w'
        have e1 : ({ a with defers := d :: a.defers }.put oj.dst undef).put oi.dst v = { a.put oi.dst v with defers := d :: (a.put oi.dst v).defers }.put oj.dst undef := by
          rw [Act.put_comm _ undef v (fun q hq hh => h2 q hh hq)]
          cases oi.dst <;> rfl
        have e2 : PYields P ops C oi v ({ a with defers := d :: a.defers }.put oj.dst undef) := by
          refine (keep undef).of_same ?_ ?_
          · cases oj.dst <;> rfl
          · cases oj.dst <;> rfl
        exact ⟨e2, by rw [e1]; exact h⟩
      · refine Calls.mono h fun x w'' hx => ?_
        cases x with
        | returned u => exact ⟨keep _, by rw [← swap]; exact hx⟩
        | panicked c => exact hx.elim
        | outgrown => exact (lets hx).elim
      · exact Rows.mono h fun u w'' hx => ⟨keep _, by rw [← swap]; exact hx⟩
      · exact h.elim
      · exact h
    · exact (lets hq).elim
  · rename_i hw
    simp only [hw] at h
    exact ⟨keep _, by rw [← swap]; exact h⟩

theorem wpX_first {i : Nat} {oi : Oper} {v : Value} {b : Bool} (hup : ∀ w w', C w → Ext w w' → C w') (hi : ops[i]? = some oi) (hsel : ∀ (j : Nat) (o : Oper) cs b, ops[j]? = some o → o.op ≠ .select cs b) :
    ∀ (fuel : Nat) (listed : Array Bool) (a : Act) (w : World), (b = true ∨ C w) →
      (∀ j oj, ops[j]? = some oj → j ≠ i → listed.getD j true = false → (∀ e ∈ oj.after, Region.binds .any e = true → e.on ≠ i) → oi.apart ops oj = true ∧ (b = true ∨ early j = true)) →
      i ∈ Region.ready .any ops listed → PYields P ops (fun w => b = true ∨ C w) oi v a →
      wpX P ops C early K fuel (listed.setIfInBounds i true) (a.put oi.dst v) w → wpX P ops C early K (fuel + 1) listed a w := by
  intro fuel
  induction fuel with
  | zero =>
    intro listed a w hC _ hr hy H
    refine ⟨fun h => (by rw [h] at hr; cases hr), fun w1 hx j hj => ?_⟩
    by_cases hji : j = i
    · subst hji; exact hy.wpOp hi (hC.imp id fun h => hup _ _ h hx) fun w' hx' => ⟨fun hc _ => hup _ _ hc hx', wpX_ext (hx.trans hx') H⟩
    · have := ready_mono hj hji
      rw [H.1] at this
      cases this
  | succ fuel ih =>
    intro listed a w hC hfree hr hy H
    refine ⟨fun h => (by rw [h] at hr; cases hr), fun w1 hx j hj => ?_⟩
    by_cases hji : j = i
    · subst hji; exact hy.wpOp hi (hC.imp id fun h => hup _ _ h hx) fun w' hx' => ⟨fun hc _ => hup _ _ hc hx', wpX_ext (hx.trans hx') H⟩
    · have h1 := H.2 w1 hx j (ready_mono hj hji)
      obtain ⟨hjun, oj, hoj, hall⟩ := mem_ready.1 hj
      have hnot : ∀ e ∈ oj.after, Region.binds .any e = true → e.on ≠ i := fun e he hb heq => by
        have h1 := hall e he hb
        have h0 := (mem_ready.1 hr).1
        rw [heq] at h1
        rcases Nat.lt_or_ge i listed.size with h' | h'
        · simp [h'] at h0 h1; rw [h0] at h1; cases h1
        · simp [Array.getElem?_eq_none h'] at h1
      obtain ⟨hap, hea⟩ := hfree j oj hoj hji hjun hnot
      have h2 := wpOp_putX hoj hap (fun cs b => hsel i oi cs b hi) (fun cs b => hsel j oj cs b hoj) hy h1
      have hfree' : ∀ k ok, ops[k]? = some ok → k ≠ i → (listed.setIfInBounds j true).getD k true = false →
          (∀ e ∈ ok.after, Region.binds .any e = true → e.on ≠ i) → oi.apart ops ok = true ∧ (b = true ∨ early k = true) := fun k ok hk hki hun hno => by
        refine hfree k ok hk hki ?_ hno
        by_cases hjk : j = k
        · subst hjk; exact hjun
        · rw [getD_set_ne true hjk] at hun; exact hun
      refine wpOp_mono' (fun a' w' h3 => ⟨h3.2.1, ih (listed.setIfInBounds j true) a' w' ?_ hfree' (ready_mono hr (Ne.symm hji)) h3.1 ?_⟩) h2
      · rcases hea with hb | hea
        · exact .inl hb
        · rcases hC with hb | hc
          · exact .inl hb
          · exact .inr (h3.2.1 (hup _ _ hc hx) hea)
      · rw [Array.setIfInBounds_comm _ _ hji]
        exact h3.2.2

def wpY (P : Program) (ops : Array Oper) (C : World → Prop) (early : Nat → Bool) (K : Act → World → Prop) : Strat → Act → World → Prop
  | .done, a, w => ∀ w', Ext w w' → K a w'
  | .fl b i k, a, w => ∃ o, ops[i]? = some o ∧ ∃ v, PYields P ops (fun w => b = true ∨ C w) o v a ∧ (b = true ∨ C w) ∧ wpY P ops C early K k (a.put o.dst v) w
  | .br i k more, a, w => (∃ o, ops[i]? = some o ∧ ∀ w', Ext w w' → wpList P ops (onlyN fun a' w'' => (early i = true → C w'') ∧ wpY P ops C early K k a' w'') [o] a w') ∧ wpY P ops C early K more a w
  | .stop, _, _ => True

theorem wpY_ext (hup : ∀ w w', C w → Ext w w' → C w') : ∀ {s : Strat} {a : Act} {w w2 : World} (_ : Ext w w2), wpY P ops C early K s a w → wpY P ops C early K s a w2
  | .done, _, _, _, hx, h => fun w' h' => h w' (hx.trans h')
  | .fl b i k, _, _, _, hx, ⟨o, ho, v, h1, h2, h3⟩ => ⟨o, ho, v, h1, h2.imp id fun h => hup _ _ h hx, wpY_ext hup hx h3⟩
  | .br i k more, _, _, _, hx, ⟨⟨o, ho, h1⟩, h2⟩ => ⟨⟨o, ho, fun w' h' => h1 w' (hx.trans h')⟩, wpY_ext hup hx h2⟩
  | .stop, _, _, _, _, _ => trivial

theorem stratX_all (hup : ∀ w w', C w → Ext w w' → C w') (hsel : ∀ (j : Nat) (o : Oper) cs b, ops[j]? = some o → o.op ≠ .select cs b) : ∀ (s : Strat),
    (∀ (L : Array Bool) (a : Act) (w : World), stratB ops early true s L = true → wpY P ops C early K s a w → wpX P ops C early K (slen s) L a w) ∧
    (∀ (L : Array Bool) (a : Act) (w : World) (n : Nat), stratB ops early false s L = true → (isStop s = true ∨ slen s = n + 1) → wpY P ops C early K s a w → ∀ i ∈ heads s, ∀ w', Ext w w' →
      wpOp P ops (onlyN K) i (fun a' w'' => (C w' → early i = true → C w'') ∧ wpX P ops C early K n (L.setIfInBounds i true) a' w'') a w')
  | .done => ⟨fun L a w hB h => ⟨by simpa [stratB] using hB, h⟩, fun L a w n hB => by simp [stratB] at hB⟩
  | .stop => ⟨fun L a w hB => by simp [stratB] at hB, fun L a w n hB hn h i hi => by simp [heads] at hi⟩
  | .fl b i k => by
    refine ⟨fun L a w hB h => ?_, fun L a w n hB => by simp [stratB] at hB⟩
    obtain ⟨o, ho, v, h1, h2, h3⟩ := h
    simp only [stratB, ho, Bool.true_and, Bool.and_eq_true] at hB
    obtain ⟨⟨hB1, hB2⟩, hB3⟩ := hB
    have hfree : ∀ j oj, ops[j]? = some oj → j ≠ i → L.getD j true = false → (∀ e ∈ oj.after, Region.binds .any e = true → e.on ≠ i) → o.apart ops oj = true ∧ (b = true ∨ early j = true) := by
      intro j oj hj hji hun hno
      have hjlt : j < ops.size := (Array.getElem?_eq_some_iff.1 hj).1
      have := List.all_eq_true.1 hB2 j (List.mem_range.2 hjlt)
      simp only [hj, Bool.or_eq_true, beq_iff_eq, hji, hun, Bool.false_eq_true, false_or, Bool.and_eq_true] at this
      rcases this with hw | hw
      · exfalso
        simp only [waits, hj] at hw
        obtain ⟨e, he, hb⟩ := Array.any_eq_true'.1 hw
        simp only [Bool.and_eq_true, beq_iff_eq] at hb
        exact hno e he hb.1 hb.2
      · exact hw
    exact wpX_first hup ho hsel (slen k) L a w h2 hfree (by simpa using hB1) h1 ((stratX_all hup hsel k).1 _ _ _ hB3 h3)
  | .br i k more => by
    have key : ∀ (L : Array Bool) (a : Act) (w : World), stratB ops early true k (L.setIfInBounds i true) = true →
        (∃ o, ops[i]? = some o ∧ ∀ w', Ext w w' → wpList P ops (onlyN fun a' w'' => (early i = true → C w'') ∧ wpY P ops C early K k a' w'') [o] a w') → ∀ w', Ext w w' →
        wpOp P ops (onlyN K) i (fun a' w'' => (C w' → early i = true → C w'') ∧ wpX P ops C early K (slen k) (L.setIfInBounds i true) a' w'') a w' := by
      rintro L a w hB ⟨o, ho, h⟩ w1 hx
      refine wpOp_of_list ho (h w1 hx) _ fun a' w' h' => ?_
      have h'' : (early i = true → C w') ∧ wpY P ops C early K k a' w' := h'
      exact ⟨fun _ he => h''.1 he, (stratX_all hup hsel k).1 _ _ _ hB h''.2⟩
    refine ⟨fun L a w hB h => ?_, fun L a w n hB hn h => ?_⟩
    · simp only [stratB, Bool.not_true, Bool.false_or, Bool.and_eq_true, beq_iff_eq, Bool.or_eq_true] at hB
      obtain ⟨⟨⟨hB1, hB2⟩, hB3⟩, hB4⟩ := hB
      refine ⟨by rw [hB1]; simp, fun w1 hx j hj => ?_⟩
      rw [hB1] at hj
      rcases List.mem_cons.1 hj with rfl | hj
      · exact key L a w hB3 h.1 w1 hx
      · refine (stratX_all hup hsel more).2 L a w (slen k) hB4 ?_ h.2 j hj w1 hx
        rcases hB2 with hB2 | hB2
        · exact .inl hB2
        · exact .inr (Nat.eq_of_beq_eq_true hB2)
    · simp only [stratB, Bool.not_false, Bool.true_or, Bool.true_and, Bool.and_eq_true, Bool.or_eq_true] at hB
      obtain ⟨⟨hB2, hB3⟩, hB4⟩ := hB
      have hk : slen k = n := by
        rcases hn with hn | hn
        · cases hn
        · exact Nat.succ.inj hn
      subst hk
      intro j hj w1 hx
      rcases List.mem_cons.1 hj with rfl | hj
      · exact key L a w hB3 h.1 w1 hx
      · refine (stratX_all hup hsel more).2 L a w (slen k) hB4 ?_ h.2 j hj w1 hx
        rcases hB2 with hB2 | hB2
        · exact .inl hB2
        · exact .inr (Nat.eq_of_beq_eq_true hB2)
end tree

structure SX (P : Program) (N : Nat) (l : List Oper) (w0 : World) (early : Nat → Bool) (s : Strat) (e : Env) (w : World) (Q : Exit → Act → World → Prop) : Prop where
  go : ∀ a, Fit N e a → wpY P l.toArray (Ext w0) early (fun a w => Q .normal a w) s a w
theorem ext_up (w0 : World) : ∀ w w', Ext w0 w → Ext w w' → Ext w0 w' := fun _ _ h k => h.trans k

section rules
variable {P : Program} {N : Nat} {e : Env} {w w0 : World} {Q : Exit → Act → World → Prop} {l : List Oper} {early : Nat → Bool} {s k more : Strat} {o : Oper} {i : Nat}
theorem W.regionGX {id : Nat} (s : Strat) (E : List Nat) (hm : P.follows .mixedOrders = true) (hB : (Region.noSelect l.toArray && Nat.beq (slen s) l.toArray.size && stratB l.toArray (memN E) true s (Array.replicate l.toArray.size false)) = true)
    (h : SX P N l w (memN E) s e w Q) : W P N (.region id l.toArray true) e w Q := by
  refine ⟨fun a m hf => wp_region_any hm ?_⟩
  simp only [Bool.and_eq_true] at hB
  obtain ⟨⟨hB1, hB2⟩, hB3⟩ := hB
  have hsel : ∀ (j : Nat) (o : Oper) cs b, l.toArray[j]? = some o → o.op ≠ .select cs b := fun j o cs b ho => Region.noSelect_spec hB1 j o cs b ho
  have hsz := Nat.eq_of_beq_eq_true hB2
  have key := (stratX_all (P := P) (C := Ext w) (K := fun a w => Q .normal a w) (ext_up w) hsel s).1 _ _ _ hB3 (h.go a hf)
  rw [hsz] at key
  exact wpAny_of_X (K := fun a w => Q .normal a w) (C := Ext w) (early := memN E) (fun _ _ h => h) _ _ _ _ (wpX_ext (w := w) ((Ext.refl w).at (m + 1)) key)
theorem SX.done (h : ∀ w', Ext w w' → Z N Q .normal e w') : SX P N l w0 early .done e w Q := ⟨fun a hf w' hx => (h w' hx).go a w'.drawn hf⟩
theorem SX.stop : SX P N l w0 early .stop e w Q := ⟨fun a hf => trivial⟩
theorem SX.fl0 (ho : nthO l i = some o) (h : FL P N l.toArray (fun _ => True) [o] e w (fun a => wpY P l.toArray (Ext w0) early (fun a w => Q .normal a w) k a w)) : SX P N l w0 early (.fl true i k) e w Q := by
  refine ⟨fun a hf => ⟨o, nthO_eq ho, ?_⟩⟩
  have := h.go a hf
  unfold wpFl at this
  split at this
  · rename_i hw
    obtain ⟨v, h1, h2⟩ := this
    exact ⟨v, .inl ⟨hw, fun w' _ => .inl (h1 w' trivial)⟩, .inl rfl, h2⟩
  · rename_i hw
    exact ⟨undef, .inr ⟨by simpa using hw, rfl⟩, .inl rfl, this⟩
theorem SX.fl1 (ho : nthO l i = some o) (hC : Ext w0 w) (h : FL P N l.toArray (Ext w0) [o] e w (fun a => wpY P l.toArray (Ext w0) early (fun a w => Q .normal a w) k a w)) : SX P N l w0 early (.fl false i k) e w Q := by
  refine ⟨fun a hf => ⟨o, nthO_eq ho, ?_⟩⟩
  have := h.go a hf
  unfold wpFl at this
  split at this
  · rename_i hw
    obtain ⟨v, h1, h2⟩ := this
    exact ⟨v, .inl ⟨hw, fun w' hc => .inl (h1 w' (hc.resolve_left (by simp)))⟩, .inr hC, h2⟩
  · rename_i hw
    exact ⟨undef, .inr ⟨by simpa using hw, rfl⟩, .inr hC, this⟩
theorem FL.nilX {opsA : Array Oper} {C' : World → Prop} (h : SX P N l w0 early k e w Q) : FL P N opsA C' [] e w (fun a => wpY P l.toArray (Ext w0) early (fun a w => Q .normal a w) k a w) := ⟨fun a hf => h.go a hf⟩
theorem SX.br (ho : nthO l i = some o) (h : ∀ w', Ext w w' → WL P N l.toArray [o] e w' (onlyN fun a' w'' => (early i = true → Ext w0 w'') ∧ wpY P l.toArray (Ext w0) early (fun a w => Q .normal a w) k a' w'')) (hm : SX P N l w0 early more e w Q) : SX P N l w0 early (.br i k more) e w Q :=
  ⟨fun a hf => ⟨⟨o, nthO_eq ho, fun w' hx => (h w' hx).go a w'.drawn hf⟩, hm.go a hf⟩⟩
theorem SX.br1 (ho : nthO l i = some o) (h : ∀ w', Ext w w' → WL P N l.toArray [o] e w' (onlyN fun a' w'' => (early i = true → Ext w0 w'') ∧ wpY P l.toArray (Ext w0) early (fun a w => Q .normal a w) k a' w'')) : SX P N l w0 early (.br i k .stop) e w Q := SX.br ho h SX.stop
theorem Z.sx (hC : early i = true → Ext w0 w) (h : SX P N l w0 early k e w Q) : Z N (onlyN fun a' w'' => (early i = true → Ext w0 w'') ∧ wpY P l.toArray (Ext w0) early (fun a w => Q .normal a w) k a' w'') .normal e w :=
  ⟨fun a m hf => ⟨fun he => (hC he).at m, wpY_ext (ext_up w0) ((Ext.refl w).at m) (h.go a hf)⟩⟩
theorem Z.sxL (hE : early i = false) (h : SX P N l w0 early k e w Q) : Z N (onlyN fun a' w'' => (early i = true → Ext w0 w'') ∧ wpY P l.toArray (Ext w0) early (fun a w => Q .normal a w) k a' w'') .normal e w := Z.sx (fun h => by rw [hE] at h; cases h) h
theorem Z.sxE (hC : Ext w0 w) (h : SX P N l w0 early k e w Q) : Z N (onlyN fun a' w'' => (early i = true → Ext w0 w'') ∧ wpY P l.toArray (Ext w0) early (fun a w => Q .normal a w) k a' w'') .normal e w := Z.sx (fun _ => hC) h
end rules
end Go.Lt
namespace Go.Proofs.Ythpnahapiodflaa
open Go Go.Lt Go.RowKit
set_option linter.unusedVariables false
set_option linter.unusedSimpArgs false
set_option maxRecDepth 20000

abbrev kvN : Int × Int → Value := fun x => .agg (encN x).toArray
abbrev vvI : Int → Value := fun n => .int .i64 n
theorem encN_inj (a b : Int × Int) (h : encN a = encN b) : a = b := by
  simp only [encN, List.cons.injEq, Value.int.injEq, true_and, and_true] at h
  exact Prod.ext h.1 h.2
theorem keyN : KeyOk Try.prog 104 kvN := by
  apply keyOk_struct tOk encN
  · exact rfl
  · exact rfl
  · kernel_rfl
  · intro a b; exact rfl
  · intro a; exact rfl
  · exact encN_inj

/-- Where the gates of a net are, by what they are. -/
def gm (N : List (Int × Int)) : Nat → List ((Int × Int) × Int)
  | 0 => []
  | k + 1 => match N[k]? with | some x => if 0 ≤ x.1 then gm N k ++ [(x, 2 * ((k : Int) + 1))] else gm N k | none => gm N k
/-- The store that lies at gs. -/
abbrev stP (B gs : Nat) (a : Option Addr) (cap r : Nat) (N : List (Int × Int)) (M : List ((Int × Int) × Int)) : List Piece :=
  [pcell gs #[.slice a N.length cap, .map (some r)] 149, prow 2 encN 104 B a cap N, pmap kvN vvI r M]

set_option maxHeartbeats 4000000 in
theorem aig_put (gs r cap : Nat) (a : Option Addr) (N : List (Int × Int)) (M : List ((Int × Int) × Int)) (x : Int × Int) (rest : List Piece) (w w0 : World) (hX : Ext w0 w) (hS : Sep w0.heap.size w (stP w0.heap.size gs a cap r N M ++ rest)) (hN : N.length < 1048576) :
    Lt.Spec Try.prog 132 [.pointer (some ⟨gs, 0, none⟩), .agg (encN x).toArray] w (fun v w' => Ext w0 w' ∧ ∃ a' cap', v = .int .i64 (2 * ((N.length : Int) + 1)) ∧ Sep w0.heap.size w' (stP w0.heap.size gs a' cap' r (N ++ [x]) M ++ rest)) := by
  have hR1 := hS.row (i := 1) rfl
  have hC0 := hS.cell (i := 0) rfl
  have hgs := (hS.lt (i := 0) rfl rfl)
  obtain ⟨hD0, hD1, _⟩ := cells_heap hC0
  have hBC : ∀ k, blk a = some k → w0.heap.size ≤ k := fun k hk => (hR1.blk_lt k hk).1
  have hne : blk a ≠ some gs := fun h => by
    rcases hS.apart 1 0 _ _ rfl rfl (by decide) with h1 | h1
    · rw [show (prow 2 encN 104 w0.heap.size a cap N).b = blk a from rfl] at h1; rw [h1] at h; cases h
    · exact h1 h
  refine Spec.of _ Try.func132 rfl Try.ntmps132 (by kernel_rfl) rfl ?_
  repeat' (first
    | (apply WL.box; exact rfl; exact rfl; exact rfl; intro gb w' hb hge hc hx; have hcc := hc; (first | (obtain ⟨h1, h2, h3, _⟩ := hc) | (obtain ⟨h1, h2, _⟩ := hc)))
    | (apply WL.nilc; exact rfl; exact rfl; exact rfl)
    | (apply W.condKF; exact rfl; (focus (exact dec_false (by omega); done)))
    | (show WL _ _ _ _ _ _ _; first | apply WL.nil | (refine WL.au (k := ?_)))
    | (show Z _ _ _ _ _; apply Z.then_normal)
    | (show W _ _ _ _ _ _; first | apply W.seq | apply W.region | apply W.skip))
  have hx1 := hx
  obtain ⟨g3, rfl⟩ : ∃ x, x = gb := ⟨_, rfl⟩
  have hnx : blk a ≠ some g3 := fun h => by have := (hR1.blk_lt g3 h).2; omega
  have hD0' := hx1.cell hD0
  have hNl : (N ++ [x]).length = N.length + 1 := by simp
  repeat' (first
    | (apply WL.nilc; exact rfl; exact rfl; exact rfl)
    | (apply FL.nilc; exact rfl; exact rfl; exact rfl)
    | (apply W.regionF [0, 1, 2, 3, 4, 5] [6, 7, 8, 9] [10] (But _ (blk a)) tMix; kernel_rfl; exact rfl; exact rfl; exact rfl; exact fun m => But.at _ _ m)
    | (apply WL.lit tOk; exact rfl; exact rfl; exact rfl; exact rfl; exact rfl; exact rfl; (first | exact rfl | kernel_rfl | (simp [Instr.fill, catCells]; done)); exact rfl; intro gb w' hb hge hc hx)
    | (apply WL.append1 (z := (x)) tOk encN_ok; exact rfl; exact rfl; exact rfl; exact rfl; exact rfl; exact rfl; exact rfl; exact rfl; exact rfl; exact rfl; assumption; (exact extA); (first | exact rfl | (focus (simp only [List.length_set]; done)) | (focus (simp; done)) | (focus (simp [*]; done)) | omega | (focus (simp only [List.length_set]; omega))); (first | assumption | (refine Cells.ext ?_ (by assumption); exact extA)); exact rfl; exact rfl; (exact extA); (first | omega | (simp; omega) | (simp at *; omega)); intro a' cap' w' hO hX' hU hF; (first | replace hS := Sep.updRow (i := 0) rfl hU hO hF hS (by (exact extA)) (by (first | exact Nat.le_refl _ | exact Below.size (by (exact extA)))) | replace hS := Sep.updRow (i := 1) rfl hU hO hF hS (by (exact extA)) (by (first | exact Nat.le_refl _ | exact Below.size (by (exact extA)))) | replace hS := Sep.updRow (i := 2) rfl hU hO hF hS (by (exact extA)) (by (first | exact Nat.le_refl _ | exact Below.size (by (exact extA)))) | replace hS := Sep.updRow (i := 3) rfl hU hO hF hS (by (exact extA)) (by (first | exact Nat.le_refl _ | exact Below.size (by (exact extA)))) | replace hS := Sep.updRow (i := 4) rfl hU hO hF hS (by (exact extA)) (by (first | exact Nat.le_refl _ | exact Below.size (by (exact extA)))) | replace hS := Sep.updRow (i := 5) rfl hU hO hF hS (by (exact extA)) (by (first | exact Nat.le_refl _ | exact Below.size (by (exact extA))))); (try simp only [List.set_cons_zero, List.set_cons_succ] at hS); (try have hR0 := hS.row (i := 0) rfl); (try have hR1 := hS.row (i := 1) rfl); (try have hR2 := hS.row (i := 2) rfl); (try have hR3 := hS.row (i := 3) rfl); (try have hR4 := hS.row (i := 4) rfl); (try have hC0 := hS.cell (i := 0) rfl); (try have hD0 := (cells_heap hC0).1); (try have hE0 := (cells_heap hC0).2.1); (try have hF0 := (cells_heap hC0).2.2.1); (try have hG0 := (cells_heap hC0).2.2.2.1); (try have hC1 := hS.cell (i := 1) rfl); (try have hD1 := (cells_heap hC1).1); (try have hE1 := (cells_heap hC1).2.1); (try have hF1 := (cells_heap hC1).2.2.1); (try have hG1 := (cells_heap hC1).2.2.2.1); (try have hC2 := hS.cell (i := 2) rfl); (try have hD2 := (cells_heap hC2).1); (try have hE2 := (cells_heap hC2).2.1); (try have hF2 := (cells_heap hC2).2.2.1); (try have hG2 := (cells_heap hC2).2.2.2.1); (try have hC3 := hS.cell (i := 3) rfl); (try have hD3 := (cells_heap hC3).1); (try have hE3 := (cells_heap hC3).2.1); (try have hF3 := (cells_heap hC3).2.2.1); (try have hG3 := (cells_heap hC3).2.2.2.1); (try have hC4 := hS.cell (i := 4) rfl); (try have hD4 := (cells_heap hC4).1); (try have hE4 := (cells_heap hC4).2.1); (try have hF4 := (cells_heap hC4).2.2.1); (try have hG4 := (cells_heap hC4).2.2.2.1); (try have hM0 := hS.map (i := 0) rfl); (try have hM1 := hS.map (i := 1) rfl); (try have hM2 := hS.map (i := 2) rfl); (try have hM3 := hS.map (i := 3) rfl); (try have hM4 := hS.map (i := 4) rfl))
    | (apply WL.storeF (w0 := w0) tOk; exact rfl; exact rfl; exact rfl; exact rfl; assumption; (exact extA); exact rfl; exact rfl; exact rfl; exact rfl; (exact extA); (first | assumption | omega | (focus (apply Nat.le_trans; rotate_left; assumption; exact Below.size (by (exact extA))))); intro w' hb hX' hU; replace hS := Sep.updCell (i := 0) rfl hU hb hS (by (exact extA)) (by (first | exact Nat.le_refl _ | exact Below.size (by (exact extA)))); (try simp only [List.set_cons_zero, List.set_cons_succ] at hS); (try have hR0 := hS.row (i := 0) rfl); (try have hR1 := hS.row (i := 1) rfl); (try have hR2 := hS.row (i := 2) rfl); (try have hR3 := hS.row (i := 3) rfl); (try have hR4 := hS.row (i := 4) rfl); (try have hC0 := hS.cell (i := 0) rfl); (try have hD0 := (cells_heap hC0).1); (try have hE0 := (cells_heap hC0).2.1); (try have hF0 := (cells_heap hC0).2.2.1); (try have hG0 := (cells_heap hC0).2.2.2.1); (try have hC1 := hS.cell (i := 1) rfl); (try have hD1 := (cells_heap hC1).1); (try have hE1 := (cells_heap hC1).2.1); (try have hF1 := (cells_heap hC1).2.2.1); (try have hG1 := (cells_heap hC1).2.2.2.1); (try have hC2 := hS.cell (i := 2) rfl); (try have hD2 := (cells_heap hC2).1); (try have hE2 := (cells_heap hC2).2.1); (try have hF2 := (cells_heap hC2).2.2.1); (try have hG2 := (cells_heap hC2).2.2.2.1); (try have hC3 := hS.cell (i := 3) rfl); (try have hD3 := (cells_heap hC3).1); (try have hE3 := (cells_heap hC3).2.1); (try have hF3 := (cells_heap hC3).2.2.1); (try have hG3 := (cells_heap hC3).2.2.2.1); (try have hC4 := hS.cell (i := 4) rfl); (try have hD4 := (cells_heap hC4).1); (try have hE4 := (cells_heap hC4).2.1); (try have hF4 := (cells_heap hC4).2.2.1); (try have hG4 := (cells_heap hC4).2.2.2.1); (try have hM0 := hS.map (i := 0) rfl); (try have hM1 := hS.map (i := 1) rfl); (try have hM2 := hS.map (i := 2) rfl); (try have hM3 := hS.map (i := 3) rfl); (try have hM4 := hS.map (i := 4) rfl))
    | (show WL _ _ _ _ _ _ _; first | apply WL.nil | (refine WL.au (k := ?_)))
    | (show FL _ _ _ _ _ _ _ _; first | apply FL.nil | (refine FL.au (k := ?_)) | (apply FL.load tOk; exact rfl; exact rfl; exact rfl; exact rfl; exact rfl; (first | assumption | (focus (apply Ext.cell; rotate_left; assumption; (exact extA); done))); (first | (focus (intro h; cases h; done)) | (focus (intro h; have h9 := hBC _ h; (try simp only at h9); omega)) | assumption | (focus (intro h; simp only [blk, Option.map_some, Option.some.injEq] at h; omega)))) | (apply FL.loadA tOk; exact rfl; exact rfl; exact rfl; exact rfl; exact rfl; (first | assumption | (focus (apply Cells.ext; rotate_left; assumption; (exact extA); done))); exact rfl; (first | (focus (intro h; cases h; done)) | (focus (intro h; have h9 := hBC _ h; (try simp only at h9); omega)) | assumption | (focus (intro h; simp only [blk, Option.map_some, Option.some.injEq] at h; omega)))))
    | (show CL _ _ _ _ _ _ _ _ _; first | apply CL.nil | apply CL.cons)
    | (show Z _ _ _ _ _; first | apply Z.only | (apply Z.early; (focus (intro m; apply But.of_at; first | exact But.upd (by assumption) | exact But.ext (by (exact extA)) | (refine But.trans ?_ (But.upd (by assumption)); exact But.ext (by (exact extA))) | exact But.at _ _ _; done))))
    | (show Z _ _ _ _ _; apply Z.then_normal)
    | (show W _ _ _ _ _ _; first | apply W.seq | apply W.region | apply W.ret))
  refine Z.body1 Try.results132 rfl fun m => ⟨Ext.at (by assumption) m, a', cap', ?_, hS.ext ((Ext.refl _).at m)⟩
  rw [hNl]; rfl
end Go.Proofs.Ythpnahapiodflaa
namespace Go.Proofs.Ythpnahapiodflaa
open Go Go.Lt Go.RowKit
set_option linter.unusedVariables false
set_option linter.unusedSimpArgs false
set_option maxRecDepth 20000

theorem aig_Input (gs r cap : Nat) (a : Option Addr) (N : List (Int × Int)) (M : List ((Int × Int) × Int)) (rest : List Piece) (w w0 : World) (hX : Ext w0 w) (hS : Sep w0.heap.size w (stP w0.heap.size gs a cap r N M ++ rest)) (hN : N.length < 1048576) :
    Lt.Spec Try.prog 99 [.pointer (some ⟨gs, 0, none⟩)] w (fun v w' => Ext w0 w' ∧ ∃ a' cap', v = .int .i64 (2 * ((N.length : Int) + 1)) ∧ Sep w0.heap.size w' (stP w0.heap.size gs a' cap' r (N ++ [(-1, 0)]) M ++ rest)) := by
  refine Spec.of _ Try.func99 rfl Try.ntmps99 (by kernel_rfl) rfl ?_
  repeat' (first
    | (apply WL.eqNilS tOk; exact rfl; exact rfl; exact rfl; exact rfl; exact rfl; exact rfl)
    | (apply WL.build tOk; exact rfl; exact rfl; exact rfl; exact rfl; exact rfl; exact rfl; exact rfl; kernel_rfl)
    | (((show WL _ _ _ (⟨_, .call ⟨.value (.func 132), _, _⟩, _, _, _, _⟩ :: _) _ _ _); apply WL.call; exact rfl; exact rfl; exact rfl; exact rfl; exact aig_put gs r cap a N M (-1, 0) rest _ w0 hX hS hN; rintro v' w' ⟨hX2, a', cap', rfl, hS2⟩))
    | (show WL _ _ _ _ _ _ _; first | apply WL.nil | (refine WL.au (k := ?_)))
    | (show Z _ _ _ _ _; apply Z.then_normal)
    | (show W _ _ _ _ _ _; first | apply W.seq | apply W.region | apply W.skip | apply W.ret | (apply W.condF; exact rfl)))
  exact Z.body1 Try.results99 rfl fun m => ⟨hX2.at m, a', cap', rfl, hS2.ext ((Ext.refl _).at m)⟩
theorem aig_Len (gs cap : Nat) (a : Option Addr) (n : Nat) (v2 : Value) (w : World) (hc : w.heap[gs]? = some (.cells #[.slice a n cap, v2] 149 (0, 0))) :
    Still Try.prog 133 [.pointer (some ⟨gs, 0, none⟩)] w (.int .i64 n) := by
  obtain ⟨h1, _⟩ := cells_heap hc
  refine Spec.of _ Try.func133 rfl Try.ntmps133 (by kernel_rfl) rfl ?_
  repeat' (first
    | (apply WL.nilc; exact rfl; exact rfl; exact rfl)
    | (apply WL.eqNilS tOk; exact rfl; exact rfl; exact rfl; exact rfl; exact rfl; exact rfl)
    | (show WL _ _ _ _ _ _ _; first | apply WL.nil | (refine WL.au (k := ?_)))
    | (show Z _ _ _ _ _; apply Z.then_normal)
    | (show W _ _ _ _ _ _; first | apply W.seq | apply W.region | apply W.skip | apply W.ret | (apply W.condF; exact rfl)))
  exact Z.body1 Try.results133 rfl fun m => ⟨rfl, m, rfl⟩
def hasL (N : List (Int × Int)) (x : Int) : Prop := 0 ≤ x ∧ x < 2 * ((N.length : Int) + 1)
theorem aig_below (l m : Int) (w : World) (hm : 0 ≤ m ∧ m ≤ 4611686018427387903) : Still Try.prog 166 [.int .i64 l, .int .i64 m] w (.bool (dec (0 ≤ l ∧ l < 2 * m))) := by
  refine Spec.of _ Try.func166 rfl Try.ntmps166 (by kernel_rfl) rfl ?_
  repeat' (first
    | (show WL _ _ _ _ _ _ _; first | apply WL.nil | (refine WL.au (k := ?_)) | (apply WL.guardF; exact rfl; exact rfl) | (apply WL.gD; exact rfl; exact rfl; all_goals intro _))
    | (show Z _ _ _ _ _; apply Z.then_normal)
    | (show W _ _ _ _ _ _; first | apply W.seq | apply W.region | apply W.ret))
  all_goals (refine Z.body1 Try.results166 rfl fun m => ⟨?_, m, rfl⟩; (first | exact congrArg Value.bool (dec_true (by omega)).symm | exact congrArg Value.bool (dec_false (by omega)).symm | exact congrArg Value.bool (dec_true (by omega)) | exact congrArg Value.bool (dec_false (by omega)) | exact congrArg Value.bool (dec_congr (by omega))))
theorem aig_has1 (gs g2 cap : Nat) (a : Option Addr) (N : List (Int × Int)) (v2 : Value) (x : Int) (w : World) (hc : w.heap[gs]? = some (.cells #[.slice a N.length cap, v2] 149 (0, 0))) (h2 : w.cell? ⟨g2, 0, none⟩ = some (.pointer (some ⟨gs, 0, none⟩))) (hN : N.length ≤ 1048576) :
    Still Try.prog 165 ([.int .i64 x] ++ [.pointer (some ⟨g2, 0, none⟩)]) w (.bool (!dec (hasL N x))) := by
  obtain ⟨h1, _⟩ := cells_heap hc
  refine Spec.of _ Try.func165 rfl Try.ntmps165 (by kernel_rfl) rfl ?_
  repeat' (first
    | (apply WL.nilc; exact rfl; exact rfl; exact rfl)
    | ((show WL _ _ _ (⟨_, .call ⟨.value (.func 166), _, _⟩, _, _, _, _⟩ :: _) _ _ _); apply WL.callS; exact rfl; exact rfl; exact rfl; exact rfl; exact aig_below _ _ _ (by omega))
    | (show WL _ _ _ _ _ _ _; first | apply WL.nil | (refine WL.au (k := ?_)))
    | (show Z _ _ _ _ _; apply Z.then_normal)
    | (show W _ _ _ _ _ _; first | apply W.seq | apply W.region | apply W.ret))
  exact Z.body1 Try.results165 rfl fun m => ⟨rfl, m, rfl⟩
theorem slices_ContainsFunc (a : Option Addr) (cap : Nat) (l : List Int) (f : Nat) (us : List Value) (p : Int → Bool) (w w0 : World) (R : Row 1 encI w0 a l) (E : Ext w0 w)
    (hf : ∀ x ∈ l, Still Try.prog f ([.int .i64 x] ++ us) w (.bool (p x))) :
    Still Try.prog 164 [.slice a l.length cap, fnv f us] w (.bool (dec (∃ x ∈ l, p x = true))) := by
  refine Spec.of _ Try.func164 rfl Try.ntmps164 (by kernel_rfl) rfl ?_
  repeat' (first
    | ((show WL _ _ _ (⟨_, .call ⟨.value (.func 177), _, _⟩, _, _, _, _⟩ :: _) _ _ _); apply WL.callS; exact rfl; exact rfl; exact rfl; exact rfl; exact slices_IndexFunc _ _ l f us p _ w0 R E hf)
    | (show WL _ _ _ _ _ _ _; first | apply WL.nil | (refine WL.au (k := ?_)))
    | (show Z _ _ _ _ _; apply Z.then_normal)
    | (show W _ _ _ _ _ _; first | apply W.seq | apply W.region | apply W.ret))
  refine Z.body1 Try.results164 rfl fun m => ⟨congrArg Value.bool (dec_congr ?_), m, rfl⟩
  by_cases h : l.findIdx p < l.length
  · rw [if_pos h]
    exact ⟨fun _ => ⟨l[l.findIdx p], List.getElem_mem h, List.findIdx_getElem⟩, fun _ => by omega⟩
  · rw [if_neg h]
    exact ⟨fun hh => by omega, fun hh => absurd (List.findIdx_lt_length_of_exists hh) h⟩
def notL (l : Int) : Int := if l < 0 then l else xor1 l
end Go.Proofs.Ythpnahapiodflaa
namespace Go.Proofs.Ythpnahapiodflaa
open Go Go.Lt Go.RowKit
set_option linter.unusedVariables false
set_option linter.unusedSimpArgs false
set_option maxRecDepth 20000

set_option maxHeartbeats 4000000 in
theorem aig_has (gs cap cl : Nat) (a al : Option Addr) (N : List (Int × Int)) (L : List Int) (v2 : Value) (w : World) (hc : w.heap[gs]? = some (.cells #[.slice a N.length cap, v2] 149 (0, 0))) (RL : Row 1 encI w al L) (hN : N.length ≤ 1048576) :
    Pure Try.prog 131 [.pointer (some ⟨gs, 0, none⟩), .slice al L.length cl] w (.bool (dec (∀ x ∈ L, hasL N x))) := by
  refine Spec.of _ Try.func131 rfl Try.ntmps131 (by kernel_rfl) rfl ?_
  repeat' (first
    | (apply WL.box; exact rfl; exact rfl; exact rfl; intro gb w' hb hge hc hx; have hcc := hc; (first | (obtain ⟨h1, h2, h3, _⟩ := hc) | (obtain ⟨h1, h2, _⟩ := hc)))
    | (apply WL.neNilS tOk; exact rfl; exact rfl; exact rfl; exact rfl; exact rfl; exact rfl)
    | ((show WL _ _ _ (⟨_, .call ⟨.value (.func 164), _, _⟩, _, _, _, _⟩ :: _) _ _ _); apply WL.callS; exact rfl; exact rfl; exact rfl; exact rfl; exact slices_ContainsFunc _ _ L 165 [.pointer (some ⟨gb, 0, none⟩)] (fun x => !dec (hasL N x)) _ _ RL hx (fun x _ => aig_has1 gs gb cap a N v2 x _ (Ext.heap hx hc) h1 hN))
    | (show WL _ _ _ _ _ _ _; first | apply WL.nil | (refine WL.au (k := ?_)))
    | (show Z _ _ _ _ _; apply Z.then_normal)
    | (show W _ _ _ _ _ _; first | apply W.seq | apply W.region | apply W.ret))
  refine Z.body1 Try.results131 rfl fun m => ⟨congrArg Value.bool ?_, Ext.at (by (exact extA)) m⟩
  by_cases h : ∀ x ∈ L, hasL N x
  · rw [dec_true h, dec_false]
    · rfl
    · rintro ⟨x, hx, hp⟩; rw [dec_true (h x hx)] at hp; cases hp
  · rw [dec_false h, dec_true]
    · rfl
    · have h' : ∃ x, ¬ (x ∈ L → hasL N x) := Classical.not_forall.1 h
      obtain ⟨x, hx⟩ := h'
      have h2 : x ∈ L ∧ ¬ hasL N x := Classical.not_imp.1 hx
      exact ⟨x, h2.1, by rw [dec_false h2.2]; rfl⟩
end Go.Proofs.Ythpnahapiodflaa
