/- Words of values, and what a net is once. No conditions. -/
import Derived.Test.YtfkdlepemiepdaaWords
namespace Go.Proofs.Ytfkdlepemiepdaa
open Go Go.Lt Go.RowKit
set_option linter.unusedVariables false
set_option linter.unusedSimpArgs false

/-- A row of rows: each element a slice value with the values behind it. -/
abbrev BRow := Option Addr × Nat × List Bool
abbrev encR : BRow → List Value := fun r => [.slice r.1 r.2.2.length r.2.1]
theorem encR_ok : Enc 1 encR := ⟨fun _ => rfl, fun x u hu => by simp at hu; subst hu; rfl, by decide⟩
def RowsIn (w : World) (rs : List BRow) : Prop := ∀ r ∈ rs, Row 1 encB w r.1 r.2.2 ∧ r.2.2.length ≤ r.2.1

def growW (v : List (BitVec 64)) (m : Nat) : List (BitVec 64) := v ++ List.replicate (m - v.length) 0#64
def rowTo (v : List (BitVec 64)) (i : Nat) (row : List Bool) : Nat → List (BitVec 64)
  | 0 => v
  | k + 1 => if row.getD k false then (rowTo v i row k).set k ((rowTo v i row k).getD k 0#64 ||| (1#64 <<< i)) else rowTo v i row k
def packTo (rs : List BRow) : Nat → List (BitVec 64)
  | 0 => []
  | i + 1 => rowTo (growW (packTo rs i) (rs.getD i (none, 0, [])).2.2.length) i (rs.getD i (none, 0, [])).2.2 (rs.getD i (none, 0, [])).2.2.length
def pack (rs : List BRow) : List (BitVec 64) := packTo rs (min rs.length 64)
theorem rowTo_len (v : List (BitVec 64)) (i : Nat) (row : List Bool) (k : Nat) : (rowTo v i row k).length = v.length := by
  induction k with
  | zero => rfl
  | succ k ih => unfold rowTo; split <;> simp [ih]
theorem growW_len (v : List (BitVec 64)) (m : Nat) : (growW v m).length = max v.length m := by simp [growW]; omega

theorem sim_Pack (a : Option Addr) (cap : Nat) (rs : List BRow) (w : World) (R : Row 1 encR w a rs) (hc : rs.length ≤ cap) (hRs : RowsIn w rs) (hb : ∀ r ∈ rs, r.2.2.length ≤ 1048576) :
    Lt.Spec Try.prog 99 [.slice a rs.length cap] w (IsFresh 1 encV 45 w (pack rs)) := by
  have hlen := R.len
  have hmm : (min (rs.length : Int) 64).toNat = min rs.length 64 := by omega
  refine Spec.of _ Try.func99 rfl Try.ntmps99 (by kernel_rfl) rfl ?_
  repeat' (first
    | (apply WL.sliceH tOk; exact rfl; exact rfl; exact rfl; exact rfl; exact rfl; exact rfl; exact rfl; assumption; (first | exact rfl | (simp; done) | (simp [*]; done) | omega | (simp only [List.length_set]; omega)); (first | assumption | omega); (first | omega | (simp; omega) | (simp at *; omega)); intro hR hc)
    | (apply WL.min; exact rfl; exact rfl; exact rfl; exact rfl)
    | (apply WL.max; exact rfl; exact rfl; exact rfl; exact rfl)
    | (show WL _ _ _ _ _ _ _; first | apply WL.nil | (apply WL.pev tOk; exact rfl; exact rfl; exact rfl) | (apply WL.load tOk; exact rfl; exact rfl; exact rfl; exact rfl; exact rfl; (first | assumption | (focus (apply Ext.cell; rotate_left; assumption; (exact extA); done)))) | (apply WL.index tOk; exact rfl; exact rfl; exact rfl; exact rfl; exact rfl; exact rfl; exact rfl; exact rfl; assumption; (exact extA); exact rfl; omega; assumption; intro b off h; have hcc := h; first | (obtain ⟨h1, h2, h3, h4, h5, h6, _⟩ := h) | (obtain ⟨h1, h2, h3, _⟩ := h) | (obtain ⟨h1, h2, _⟩ := h) | (obtain ⟨h1, _⟩ := h)) | (apply WL.add; exact rfl; exact rfl; exact rfl; exact rfl; omega) | (apply WL.sub; exact rfl; exact rfl; exact rfl; exact rfl; omega) | (apply WL.mul; exact rfl; exact rfl; exact rfl; exact rfl; omega) | (apply WL.quo; exact rfl; exact rfl; exact rfl; exact rfl; omega) | (apply WL.rem; exact rfl; exact rfl; exact rfl; exact rfl; omega) | (apply WL.loadA tOk; exact rfl; exact rfl; exact rfl; exact rfl; exact rfl; (first | assumption | (focus (apply Cells.ext; rotate_left; assumption; (exact extA); done))); exact rfl) | (apply WL.guardF; exact rfl; exact rfl) | (apply WL.gD; exact rfl; exact rfl; all_goals intro _) | (apply WL.gN; exact rfl; exact rfl; all_goals intro _) | (apply WL.gB; exact rfl; exact rfl; all_goals intro _))
    | (show Z _ _ _ _ _; first | apply Z.tail | apply Z.then_normal | apply Z.block_normal | apply Z.then_exit | apply Z.block_exit | apply Z.then_ret | apply Z.block_ret | (apply Z.block_other; exact rfl))
    | (show W _ _ _ _ _ _; first | apply W.seq | apply W.region | apply W.block | apply W.skip | apply W.ret | apply W.exit | (apply W.condT; exact rfl) | (apply W.condF; exact rfl) | (apply W.condD; exact rfl; all_goals intro _) | (apply W.condN; exact rfl; all_goals intro _) | (apply W.condB; exact rfl; all_goals intro _)))
  rw [hmm] at hR hc
  have hm : (rs.take (min rs.length 64)).length = min rs.length 64 := by rw [List.length_take]; omega
  refine W.loopO (min rs.length 64) (fun i c cp w' => i ≤ min rs.length 64 ∧ Ext w w' ∧ Own 1 encV 45 w.heap.size w' c cp (packTo rs i))
    (fun i c cp => [(3, .slice c (packTo rs i).length cp), (12, .slice a (rs.take (min rs.length 64)).length cap), (13, .int .i64 (rs.take (min rs.length 64)).length), (14, .int .i64 i)]) none 0 ⟨by omega, Ext.refl w, Own.nil⟩ (fun k c cp w' h => h.1) ⟨rfl, by rw [hmm]; rfl, by rw [hmm]; rfl, rfl, trivial⟩ ?_
  rintro i c cp w' ⟨hi, hx', hO'⟩
  by_cases hlt : i < min rs.length 64
  · obtain ⟨r, hr⟩ := getI rs (show i < rs.length by omega)
    have hrt : (rs.take (min rs.length 64))[i]? = some r := by rw [List.getElem?_take, if_pos hlt]; exact hr
    have hrr := hRs r (List.mem_of_getElem? hr)
    have hrl := hb r (List.mem_of_getElem? hr)
    have Rr := hrr.1
    have hrd : rs.getD i (none, 0, []) = r := getD_of hr
    have hnext : packTo rs (i + 1) = rowTo (growW (packTo rs i) r.2.2.length) i r.2.2 r.2.2.length := by rw [packTo, hrd]
    generalize packTo rs i = v at *
    repeat' (first
      | (apply WL.gT; exact rfl; exact rfl; (focus (first | exact dec_true (by omega) | exact dec_false (by omega); done)))
      | (apply WL.gF; exact rfl; exact rfl; (focus (first | exact dec_true (by omega) | exact dec_false (by omega); done)))
      | (apply W.condKT; exact rfl; (focus (first | exact dec_true (by omega) | exact dec_false (by omega); done)))
      | (apply W.condKF; exact rfl; (focus (first | exact dec_true (by omega) | exact dec_false (by omega); done)))
      | (show WL _ _ _ _ _ _ _; first | apply WL.nil | (apply WL.pev tOk; exact rfl; exact rfl; exact rfl) | (apply WL.load tOk; exact rfl; exact rfl; exact rfl; exact rfl; exact rfl; (first | assumption | (focus (apply Ext.cell; rotate_left; assumption; (exact extA); done)))) | (apply WL.index tOk; exact rfl; exact rfl; exact rfl; exact rfl; exact rfl; exact rfl; exact rfl; exact rfl; assumption; (exact extA); exact rfl; omega; assumption; intro b off h; have hcc := h; first | (obtain ⟨h1, h2, h3, h4, h5, h6, _⟩ := h) | (obtain ⟨h1, h2, h3, _⟩ := h) | (obtain ⟨h1, h2, _⟩ := h) | (obtain ⟨h1, _⟩ := h)) | (apply WL.add; exact rfl; exact rfl; exact rfl; exact rfl; omega) | (apply WL.sub; exact rfl; exact rfl; exact rfl; exact rfl; omega) | (apply WL.mul; exact rfl; exact rfl; exact rfl; exact rfl; omega) | (apply WL.quo; exact rfl; exact rfl; exact rfl; exact rfl; omega) | (apply WL.rem; exact rfl; exact rfl; exact rfl; exact rfl; omega) | (apply WL.loadA tOk; exact rfl; exact rfl; exact rfl; exact rfl; exact rfl; (first | assumption | (focus (apply Cells.ext; rotate_left; assumption; (exact extA); done))); exact rfl) | (apply WL.guardF; exact rfl; exact rfl) | (apply WL.gD; exact rfl; exact rfl; all_goals intro _) | (apply WL.gN; exact rfl; exact rfl; all_goals intro _) | (apply WL.gB; exact rfl; exact rfl; all_goals intro _))
      | (show Z _ _ _ _ _; first | apply Z.tail | apply Z.then_normal | apply Z.block_normal | apply Z.then_exit | apply Z.block_exit | apply Z.then_ret | apply Z.block_ret | (apply Z.block_other; exact rfl))
      | (show W _ _ _ _ _ _; first | apply W.seq | apply W.region | apply W.block | apply W.skip | apply W.ret | apply W.exit | (apply W.condT; exact rfl) | (apply W.condF; exact rfl) | (apply W.condD; exact rfl; all_goals intro _) | (apply W.condN; exact rfl; all_goals intro _) | (apply W.condB; exact rfl; all_goals intro _)))
    refine W.loopO (r.2.2.length - v.length) (fun j c cp w' => j ≤ r.2.2.length - v.length ∧ Ext w w' ∧ Own 1 encV 45 w.heap.size w' c cp (v ++ List.replicate j 0#64))
      (fun j c cp => [(3, .slice c (v ++ List.replicate j 0#64).length cp), (4, .int .i64 i), (5, .slice r.1 r.2.2.length r.2.1), (12, .slice a (rs.take (min rs.length 64)).length cap), (13, .int .i64 (rs.take (min rs.length 64)).length), (14, .int .i64 i)]) c cp ⟨by omega, hx', by simpa using hO'⟩ (fun k c cp w' h => h.1) ⟨by rw [List.replicate_zero, List.append_nil]; rfl, rfl, rfl, rfl, rfl, rfl, trivial⟩ ?_
    rintro j c cp w' ⟨hj, hx', hO'⟩
    have hjl : (v ++ List.replicate j 0#64).length = v.length + j := by simp
    by_cases hjt : j < r.2.2.length - v.length
    · have e1 : v ++ List.replicate (j + 1) 0#64 = (v ++ List.replicate j 0#64) ++ [0#64] := by rw [List.append_assoc, List.replicate_succ']
      repeat' (first
        | (apply WL.gT; exact rfl; exact rfl; (focus (first | exact dec_true (by omega) | exact dec_false (by omega); done)))
        | (apply WL.gF; exact rfl; exact rfl; (focus (first | exact dec_true (by omega) | exact dec_false (by omega); done)))
        | (apply W.condKT; exact rfl; (focus (first | exact dec_true (by omega) | exact dec_false (by omega); done)))
        | (apply W.condKF; exact rfl; (focus (first | exact dec_true (by omega) | exact dec_false (by omega); done)))
        | (apply WL.lit tOk; exact rfl; exact rfl; exact rfl; exact rfl; exact rfl; exact rfl; (first | exact rfl | kernel_rfl | (simp [Instr.fill, catCells]; done)); exact rfl; intro gb w' hb hge hc hx)
        | ((apply WL.append1 (z := 0#64) tOk encV_ok; exact rfl; exact rfl; exact rfl; exact rfl; exact rfl; exact rfl; exact rfl; exact rfl; exact rfl; exact rfl; assumption; (first | exact Ext.refl _ | assumption | exact Ext.trans (by assumption) (by assumption)); (first | exact rfl | omega); assumption; exact rfl; exact rfl; (first | exact Ext.refl _ | assumption | exact Ext.trans (by assumption) (by assumption)); omega; intro a' cap' w' hO hX' hU hF))
        | (show WL _ _ _ _ _ _ _; first | apply WL.nil | (apply WL.pev tOk; exact rfl; exact rfl; exact rfl) | (apply WL.load tOk; exact rfl; exact rfl; exact rfl; exact rfl; exact rfl; (first | assumption | (focus (apply Ext.cell; rotate_left; assumption; (exact extA); done)))) | (apply WL.index tOk; exact rfl; exact rfl; exact rfl; exact rfl; exact rfl; exact rfl; exact rfl; exact rfl; assumption; (exact extA); exact rfl; omega; assumption; intro b off h; have hcc := h; first | (obtain ⟨h1, h2, h3, h4, h5, h6, _⟩ := h) | (obtain ⟨h1, h2, h3, _⟩ := h) | (obtain ⟨h1, h2, _⟩ := h) | (obtain ⟨h1, _⟩ := h)) | (apply WL.add; exact rfl; exact rfl; exact rfl; exact rfl; omega) | (apply WL.sub; exact rfl; exact rfl; exact rfl; exact rfl; omega) | (apply WL.mul; exact rfl; exact rfl; exact rfl; exact rfl; omega) | (apply WL.quo; exact rfl; exact rfl; exact rfl; exact rfl; omega) | (apply WL.rem; exact rfl; exact rfl; exact rfl; exact rfl; omega) | (apply WL.loadA tOk; exact rfl; exact rfl; exact rfl; exact rfl; exact rfl; (first | assumption | (focus (apply Cells.ext; rotate_left; assumption; (exact extA); done))); exact rfl) | (apply WL.guardF; exact rfl; exact rfl) | (apply WL.gD; exact rfl; exact rfl; all_goals intro _) | (apply WL.gN; exact rfl; exact rfl; all_goals intro _) | (apply WL.gB; exact rfl; exact rfl; all_goals intro _))
        | (show Z _ _ _ _ _; first | apply Z.tail | apply Z.then_normal | apply Z.block_normal | apply Z.then_exit | apply Z.block_exit | apply Z.then_ret | apply Z.block_ret | (apply Z.block_other; exact rfl))
        | (show W _ _ _ _ _ _; first | apply W.seq | apply W.region | apply W.block | apply W.skip | apply W.ret | apply W.exit | (apply W.condT; exact rfl) | (apply W.condF; exact rfl) | (apply W.condD; exact rfl; all_goals intro _) | (apply W.condN; exact rfl; all_goals intro _) | (apply W.condB; exact rfl; all_goals intro _)))
      exact Z.againO a' cap' ⟨by omega, hX', by rw [e1]; exact hO⟩ (by repeat' first | exact trivial | (refine And.intro ?_ ?_) | exact rfl | (rw [e1]; exact rfl))
    · repeat' (first
        | (apply WL.gT; exact rfl; exact rfl; (focus (first | exact dec_true (by omega) | exact dec_false (by omega); done)))
        | (apply WL.gF; exact rfl; exact rfl; (focus (first | exact dec_true (by omega) | exact dec_false (by omega); done)))
        | (apply W.condKT; exact rfl; (focus (first | exact dec_true (by omega) | exact dec_false (by omega); done)))
        | (apply W.condKF; exact rfl; (focus (first | exact dec_true (by omega) | exact dec_false (by omega); done)))
        | (show WL _ _ _ _ _ _ _; first | apply WL.nil | (apply WL.pev tOk; exact rfl; exact rfl; exact rfl) | (apply WL.load tOk; exact rfl; exact rfl; exact rfl; exact rfl; exact rfl; (first | assumption | (focus (apply Ext.cell; rotate_left; assumption; (exact extA); done)))) | (apply WL.index tOk; exact rfl; exact rfl; exact rfl; exact rfl; exact rfl; exact rfl; exact rfl; exact rfl; assumption; (exact extA); exact rfl; omega; assumption; intro b off h; have hcc := h; first | (obtain ⟨h1, h2, h3, h4, h5, h6, _⟩ := h) | (obtain ⟨h1, h2, h3, _⟩ := h) | (obtain ⟨h1, h2, _⟩ := h) | (obtain ⟨h1, _⟩ := h)) | (apply WL.add; exact rfl; exact rfl; exact rfl; exact rfl; omega) | (apply WL.sub; exact rfl; exact rfl; exact rfl; exact rfl; omega) | (apply WL.mul; exact rfl; exact rfl; exact rfl; exact rfl; omega) | (apply WL.quo; exact rfl; exact rfl; exact rfl; exact rfl; omega) | (apply WL.rem; exact rfl; exact rfl; exact rfl; exact rfl; omega) | (apply WL.loadA tOk; exact rfl; exact rfl; exact rfl; exact rfl; exact rfl; (first | assumption | (focus (apply Cells.ext; rotate_left; assumption; (exact extA); done))); exact rfl) | (apply WL.guardF; exact rfl; exact rfl) | (apply WL.gD; exact rfl; exact rfl; all_goals intro _) | (apply WL.gN; exact rfl; exact rfl; all_goals intro _) | (apply WL.gB; exact rfl; exact rfl; all_goals intro _))
        | (show Z _ _ _ _ _; first | apply Z.tail | apply Z.then_normal | apply Z.block_normal | apply Z.then_exit | apply Z.block_exit | apply Z.then_ret | apply Z.block_ret | (apply Z.block_other; exact rfl))
        | (show W _ _ _ _ _ _; first | apply W.seq | apply W.region | apply W.block | apply W.skip | apply W.ret | apply W.exit | (apply W.condT; exact rfl) | (apply W.condF; exact rfl) | (apply W.condD; exact rfl; all_goals intro _) | (apply W.condN; exact rfl; all_goals intro _) | (apply W.condB; exact rfl; all_goals intro _)))
      obtain rfl : j = r.2.2.length - v.length := by omega
      have hgw : v ++ List.replicate (r.2.2.length - v.length) 0#64 = growW v r.2.2.length := rfl
      rw [hgw] at hO' hjl ⊢
      have hgl := growW_len v r.2.2.length
      refine W.loopW r.2.2.length (fun k w' => k ≤ r.2.2.length ∧ Ext w w' ∧ Own 1 encV 45 w.heap.size w' c cp (rowTo (growW v r.2.2.length) i r.2.2 k))
        (fun k => [(3, .slice c (rowTo (growW v r.2.2.length) i r.2.2 k).length cp), (4, .int .i64 i), (27, .slice r.1 r.2.2.length r.2.1), (28, .int .i64 r.2.2.length), (29, .int .i64 k), (12, .slice a (rs.take (min rs.length 64)).length cap), (13, .int .i64 (rs.take (min rs.length 64)).length), (14, .int .i64 i)]) ⟨by omega, hx', hO'⟩ (fun k w' h => h.1) ⟨rfl, rfl, rfl, rfl, rfl, rfl, rfl, rfl, trivial⟩ ?_
      rintro k w' ⟨hk, hx', hO'⟩
      have hrlen := rowTo_len (growW v r.2.2.length) i r.2.2 k
      by_cases hkt : k < r.2.2.length
      · obtain ⟨z, hz⟩ := getI r.2.2 hkt
        obtain ⟨u, hu⟩ := getI (rowTo (growW v r.2.2.length) i r.2.2 k) (show k < _ by omega)
        have e0 : rowTo (growW v r.2.2.length) i r.2.2 (k + 1) = if z then (rowTo (growW v r.2.2.length) i r.2.2 k).set k (u ||| (1#64 <<< i)) else rowTo (growW v r.2.2.length) i r.2.2 k := by rw [rowTo, getD_of hz, getD_of hu]
        have e5 : (rowTo (growW v r.2.2.length) i r.2.2 (k + 1)).length = (rowTo (growW v r.2.2.length) i r.2.2 k).length := by rw [rowTo_len, rowTo_len]
        repeat' (first
          | (apply WL.gT; exact rfl; exact rfl; (focus (first | exact dec_true (by omega) | exact dec_false (by omega); done)))
          | (apply WL.gF; exact rfl; exact rfl; (focus (first | exact dec_true (by omega) | exact dec_false (by omega); done)))
          | (apply QL.gT; exact rfl; exact rfl; (focus (first | exact dec_true (by omega) | exact dec_false (by omega); done)))
          | (apply QL.gF; exact rfl; exact rfl; (focus (first | exact dec_true (by omega) | exact dec_false (by omega); done)))
          | (apply W.condKT; exact rfl; (focus (first | exact dec_true (by omega) | exact dec_false (by omega); done)))
          | (apply W.condKF; exact rfl; (focus (first | exact dec_true (by omega) | exact dec_false (by omega); done)))
          | (apply WL.uand; exact rfl; exact rfl; exact rfl; exact rfl; (first | exact rfl | exact u64_lit _ (by omega)); (first | exact rfl | exact u64_lit _ (by omega)))
          | (apply WL.uor; exact rfl; exact rfl; exact rfl; exact rfl; (first | exact rfl | exact u64_lit _ (by omega)); (first | exact rfl | exact u64_lit _ (by omega)))
          | (apply WL.uxor; exact rfl; exact rfl; exact rfl; exact rfl; (first | exact rfl | exact u64_lit _ (by omega)); (first | exact rfl | exact u64_lit _ (by omega)))
          | (apply WL.uandn; exact rfl; exact rfl; exact rfl; exact rfl; (first | exact rfl | exact u64_lit _ (by omega)); (first | exact rfl | exact u64_lit _ (by omega)))
          | (apply WL.uadd; exact rfl; exact rfl; exact rfl; exact rfl; (first | exact rfl | exact u64_lit _ (by omega)); (first | exact rfl | exact u64_lit _ (by omega)))
          | (apply WL.umul; exact rfl; exact rfl; exact rfl; exact rfl; (first | exact rfl | exact u64_lit _ (by omega)); (first | exact rfl | exact u64_lit _ (by omega)))
          | (apply WL.uquo; exact rfl; exact rfl; exact rfl; exact rfl; (first | exact rfl | exact u64_lit _ (by omega)); (first | exact rfl | exact u64_lit _ (by omega)); omega)
          | (apply WL.urem; exact rfl; exact rfl; exact rfl; exact rfl; (first | exact rfl | exact u64_lit _ (by omega)); (first | exact rfl | exact u64_lit _ (by omega)); omega)
          | (apply WL.ushr; exact rfl; exact rfl; exact rfl; exact rfl; (first | exact rfl | exact u64_lit _ (by omega)); omega)
          | (apply WL.ushl; exact rfl; exact rfl; exact rfl; exact rfl; (first | exact rfl | exact u64_lit _ (by omega)); omega)
          | (apply WL.unot; exact rfl; exact rfl; exact rfl; (first | exact rfl | exact u64_lit _ (by omega)))
          | (apply QL.uand; exact rfl; exact rfl; exact rfl; exact rfl; (first | exact rfl | exact u64_lit _ (by omega)); (first | exact rfl | exact u64_lit _ (by omega)))
          | (apply QL.uor; exact rfl; exact rfl; exact rfl; exact rfl; (first | exact rfl | exact u64_lit _ (by omega)); (first | exact rfl | exact u64_lit _ (by omega)))
          | (apply QL.uxor; exact rfl; exact rfl; exact rfl; exact rfl; (first | exact rfl | exact u64_lit _ (by omega)); (first | exact rfl | exact u64_lit _ (by omega)))
          | (apply QL.uandn; exact rfl; exact rfl; exact rfl; exact rfl; (first | exact rfl | exact u64_lit _ (by omega)); (first | exact rfl | exact u64_lit _ (by omega)))
          | (apply QL.uadd; exact rfl; exact rfl; exact rfl; exact rfl; (first | exact rfl | exact u64_lit _ (by omega)); (first | exact rfl | exact u64_lit _ (by omega)))
          | (apply QL.umul; exact rfl; exact rfl; exact rfl; exact rfl; (first | exact rfl | exact u64_lit _ (by omega)); (first | exact rfl | exact u64_lit _ (by omega)))
          | (apply QL.uquo; exact rfl; exact rfl; exact rfl; exact rfl; (first | exact rfl | exact u64_lit _ (by omega)); (first | exact rfl | exact u64_lit _ (by omega)); omega)
          | (apply QL.urem; exact rfl; exact rfl; exact rfl; exact rfl; (first | exact rfl | exact u64_lit _ (by omega)); (first | exact rfl | exact u64_lit _ (by omega)); omega)
          | (apply QL.ushr; exact rfl; exact rfl; exact rfl; exact rfl; (first | exact rfl | exact u64_lit _ (by omega)); omega)
          | (apply QL.ushl; exact rfl; exact rfl; exact rfl; exact rfl; (first | exact rfl | exact u64_lit _ (by omega)); omega)
          | (apply QL.unot; exact rfl; exact rfl; exact rfl; (first | exact rfl | exact u64_lit _ (by omega)))
          | (apply W.regionQS 8 tMix; kernel_rfl; exact rfl; kernel_rfl; kernel_rfl)
          | (apply WL.indexO tOk; exact rfl; exact rfl; exact rfl; exact rfl; exact rfl; exact rfl; exact rfl; exact rfl; assumption; (exact extA); exact encV_ok; (first | exact rfl | (simp; done) | (simp [*]; done) | omega | (simp only [List.length_set]; omega)); omega; assumption; intro gb ha hc; cases ha; have hcc := hc; first | (obtain ⟨h1, h2, h3, _⟩ := hc) | (obtain ⟨h1, h2, _⟩ := hc) | (obtain ⟨h1, _⟩ := hc))
          | (apply QL.indexO tOk; exact rfl; exact rfl; exact rfl; exact rfl; exact rfl; exact rfl; exact rfl; exact rfl; assumption; (exact extA); exact encV_ok; (first | exact rfl | (simp; done) | (simp [*]; done) | omega | (simp only [List.length_set]; omega)); omega; assumption; intro gb ha hc; cases ha; have hcc := hc; first | (obtain ⟨h1, h2, h3, _⟩ := hc) | (obtain ⟨h1, h2, _⟩ := hc) | (obtain ⟨h1, _⟩ := hc))
          | (apply WL.storeO tOk; exact rfl; exact rfl; exact rfl; exact rfl; assumption; (exact extA); exact rfl; exact rfl; exact rfl; exact encV_ok; assumption; exact rfl; (exact extA); intro w' hO hX' hU)
          | (show WL _ _ _ _ _ _ _; first | apply WL.nil | (apply WL.pev tOk; exact rfl; exact rfl; exact rfl) | (apply WL.load tOk; exact rfl; exact rfl; exact rfl; exact rfl; exact rfl; (first | assumption | (focus (apply Ext.cell; rotate_left; assumption; (exact extA); done)))) | (apply WL.index tOk; exact rfl; exact rfl; exact rfl; exact rfl; exact rfl; exact rfl; exact rfl; exact rfl; assumption; (exact extA); exact rfl; omega; assumption; intro b off h; have hcc := h; first | (obtain ⟨h1, h2, h3, h4, h5, h6, _⟩ := h) | (obtain ⟨h1, h2, h3, _⟩ := h) | (obtain ⟨h1, h2, _⟩ := h) | (obtain ⟨h1, _⟩ := h)) | (apply WL.add; exact rfl; exact rfl; exact rfl; exact rfl; omega) | (apply WL.sub; exact rfl; exact rfl; exact rfl; exact rfl; omega) | (apply WL.mul; exact rfl; exact rfl; exact rfl; exact rfl; omega) | (apply WL.quo; exact rfl; exact rfl; exact rfl; exact rfl; omega) | (apply WL.rem; exact rfl; exact rfl; exact rfl; exact rfl; omega) | (apply WL.loadA tOk; exact rfl; exact rfl; exact rfl; exact rfl; exact rfl; (first | assumption | (focus (apply Cells.ext; rotate_left; assumption; (exact extA); done))); exact rfl) | (apply WL.guardF; exact rfl; exact rfl) | (apply WL.gD; exact rfl; exact rfl; all_goals intro _) | (apply WL.gN; exact rfl; exact rfl; all_goals intro _) | (apply WL.gB; exact rfl; exact rfl; all_goals intro _))
          | (show QL _ _ _ _ _ _ _; first | apply QL.nil | (apply QL.pev tOk; exact rfl; exact rfl; exact rfl) | (apply QL.load tOk; exact rfl; exact rfl; exact rfl; exact rfl; exact rfl; (first | assumption | (focus (apply Ext.cell; rotate_left; assumption; (exact extA); done)))) | (apply QL.index tOk; exact rfl; exact rfl; exact rfl; exact rfl; exact rfl; exact rfl; exact rfl; exact rfl; assumption; (exact extA); exact rfl; omega; assumption; intro b off h; have hcc := h; first | (obtain ⟨h1, h2, h3, h4, h5, h6, _⟩ := h) | (obtain ⟨h1, h2, h3, _⟩ := h) | (obtain ⟨h1, h2, _⟩ := h) | (obtain ⟨h1, _⟩ := h)) | (apply QL.add; exact rfl; exact rfl; exact rfl; exact rfl; omega) | (apply QL.sub; exact rfl; exact rfl; exact rfl; exact rfl; omega) | (apply QL.mul; exact rfl; exact rfl; exact rfl; exact rfl; omega) | (apply QL.quo; exact rfl; exact rfl; exact rfl; exact rfl; omega) | (apply QL.rem; exact rfl; exact rfl; exact rfl; exact rfl; omega) | (apply QL.loadA tOk; exact rfl; exact rfl; exact rfl; exact rfl; exact rfl; (first | assumption | (focus (apply Cells.ext; rotate_left; assumption; (exact extA); done))); exact rfl) | (apply QL.guardF; exact rfl; exact rfl) | (apply QL.gD; exact rfl; exact rfl; all_goals intro _) | (apply QL.gN; exact rfl; exact rfl; all_goals intro _) | (apply QL.gB; exact rfl; exact rfl; all_goals intro _))
          | (show Z _ _ _ _ _; first | apply Z.tail | apply Z.then_normal | apply Z.block_normal | apply Z.then_exit | apply Z.block_exit | apply Z.then_ret | apply Z.block_ret | (apply Z.block_other; exact rfl))
          | (show W _ _ _ _ _ _; first | apply W.seq | apply W.region | apply W.block | apply W.skip | apply W.ret | apply W.exit | (apply W.condT; exact rfl) | (apply W.condF; exact rfl) | (apply W.condD; exact rfl; all_goals intro _) | (apply W.condN; exact rfl; all_goals intro _) | (apply W.condB; exact rfl; all_goals intro _) | (apply W.regionD tMix; kernel_rfl)))
        · have hz1 : z = true := by assumption
          rw [hz1, if_pos rfl] at e0
          simp only [Int.toNat_natCast, show BitVec.ofInt 64 1 = 1#64 from rfl] at hO
          rw [← e0] at hO
          exact Z.againW ⟨by omega, hX', hO⟩ (by repeat' first | exact trivial | (refine And.intro ?_ ?_) | exact rfl | (rw [e5]; exact rfl))
        · have hz1 : z = false := by assumption
          rw [hz1, if_neg (by decide)] at e0
          exact Z.againW ⟨by omega, hx', by rw [e0]; exact hO'⟩ (by repeat' first | exact trivial | (refine And.intro ?_ ?_) | exact rfl | (rw [e5]; exact rfl))
      · repeat' (first
          | (apply WL.gT; exact rfl; exact rfl; (focus (first | exact dec_true (by omega) | exact dec_false (by omega); done)))
          | (apply WL.gF; exact rfl; exact rfl; (focus (first | exact dec_true (by omega) | exact dec_false (by omega); done)))
          | (apply W.condKT; exact rfl; (focus (first | exact dec_true (by omega) | exact dec_false (by omega); done)))
          | (apply W.condKF; exact rfl; (focus (first | exact dec_true (by omega) | exact dec_false (by omega); done)))
          | (show WL _ _ _ _ _ _ _; first | apply WL.nil | (apply WL.pev tOk; exact rfl; exact rfl; exact rfl) | (apply WL.load tOk; exact rfl; exact rfl; exact rfl; exact rfl; exact rfl; (first | assumption | (focus (apply Ext.cell; rotate_left; assumption; (exact extA); done)))) | (apply WL.index tOk; exact rfl; exact rfl; exact rfl; exact rfl; exact rfl; exact rfl; exact rfl; exact rfl; assumption; (exact extA); exact rfl; omega; assumption; intro b off h; have hcc := h; first | (obtain ⟨h1, h2, h3, h4, h5, h6, _⟩ := h) | (obtain ⟨h1, h2, h3, _⟩ := h) | (obtain ⟨h1, h2, _⟩ := h) | (obtain ⟨h1, _⟩ := h)) | (apply WL.add; exact rfl; exact rfl; exact rfl; exact rfl; omega) | (apply WL.sub; exact rfl; exact rfl; exact rfl; exact rfl; omega) | (apply WL.mul; exact rfl; exact rfl; exact rfl; exact rfl; omega) | (apply WL.quo; exact rfl; exact rfl; exact rfl; exact rfl; omega) | (apply WL.rem; exact rfl; exact rfl; exact rfl; exact rfl; omega) | (apply WL.loadA tOk; exact rfl; exact rfl; exact rfl; exact rfl; exact rfl; (first | assumption | (focus (apply Cells.ext; rotate_left; assumption; (exact extA); done))); exact rfl) | (apply WL.guardF; exact rfl; exact rfl) | (apply WL.gD; exact rfl; exact rfl; all_goals intro _) | (apply WL.gN; exact rfl; exact rfl; all_goals intro _) | (apply WL.gB; exact rfl; exact rfl; all_goals intro _))
          | (show Z _ _ _ _ _; first | apply Z.tail | apply Z.then_normal | apply Z.block_normal | apply Z.then_exit | apply Z.block_exit | apply Z.then_ret | apply Z.block_ret | (apply Z.block_other; exact rfl))
          | (show W _ _ _ _ _ _; first | apply W.seq | apply W.region | apply W.block | apply W.skip | apply W.ret | apply W.exit | (apply W.condT; exact rfl) | (apply W.condF; exact rfl) | (apply W.condD; exact rfl; all_goals intro _) | (apply W.condN; exact rfl; all_goals intro _) | (apply W.condB; exact rfl; all_goals intro _)))
        obtain rfl : k = r.2.2.length := by omega
        exact Z.againO c cp ⟨by omega, hx', by rw [hnext]; exact hO'⟩ (by repeat' first | exact trivial | (refine And.intro ?_ ?_) | exact rfl | (rw [hnext]; exact rfl))
  · repeat' (first
      | (apply WL.gT; exact rfl; exact rfl; (focus (first | exact dec_true (by omega) | exact dec_false (by omega); done)))
      | (apply WL.gF; exact rfl; exact rfl; (focus (first | exact dec_true (by omega) | exact dec_false (by omega); done)))
      | (apply W.condKT; exact rfl; (focus (first | exact dec_true (by omega) | exact dec_false (by omega); done)))
      | (apply W.condKF; exact rfl; (focus (first | exact dec_true (by omega) | exact dec_false (by omega); done)))
      | (show WL _ _ _ _ _ _ _; first | apply WL.nil | (apply WL.pev tOk; exact rfl; exact rfl; exact rfl) | (apply WL.load tOk; exact rfl; exact rfl; exact rfl; exact rfl; exact rfl; (first | assumption | (focus (apply Ext.cell; rotate_left; assumption; (exact extA); done)))) | (apply WL.index tOk; exact rfl; exact rfl; exact rfl; exact rfl; exact rfl; exact rfl; exact rfl; exact rfl; assumption; (exact extA); exact rfl; omega; assumption; intro b off h; have hcc := h; first | (obtain ⟨h1, h2, h3, h4, h5, h6, _⟩ := h) | (obtain ⟨h1, h2, h3, _⟩ := h) | (obtain ⟨h1, h2, _⟩ := h) | (obtain ⟨h1, _⟩ := h)) | (apply WL.add; exact rfl; exact rfl; exact rfl; exact rfl; omega) | (apply WL.sub; exact rfl; exact rfl; exact rfl; exact rfl; omega) | (apply WL.mul; exact rfl; exact rfl; exact rfl; exact rfl; omega) | (apply WL.quo; exact rfl; exact rfl; exact rfl; exact rfl; omega) | (apply WL.rem; exact rfl; exact rfl; exact rfl; exact rfl; omega) | (apply WL.loadA tOk; exact rfl; exact rfl; exact rfl; exact rfl; exact rfl; (first | assumption | (focus (apply Cells.ext; rotate_left; assumption; (exact extA); done))); exact rfl) | (apply WL.guardF; exact rfl; exact rfl) | (apply WL.gD; exact rfl; exact rfl; all_goals intro _) | (apply WL.gN; exact rfl; exact rfl; all_goals intro _) | (apply WL.gB; exact rfl; exact rfl; all_goals intro _))
      | (show Z _ _ _ _ _; first | apply Z.tail | apply Z.then_normal | apply Z.block_normal | apply Z.then_exit | apply Z.block_exit | apply Z.then_ret | apply Z.block_ret | (apply Z.block_other; exact rfl))
      | (show W _ _ _ _ _ _; first | apply W.seq | apply W.region | apply W.block | apply W.skip | apply W.ret | apply W.exit | (apply W.condT; exact rfl) | (apply W.condF; exact rfl) | (apply W.condD; exact rfl; all_goals intro _) | (apply W.condN; exact rfl; all_goals intro _) | (apply W.condB; exact rfl; all_goals intro _)))
    obtain rfl : i = min rs.length 64 := by omega
    exact Z.body1 Try.results99 rfl fun m => ⟨hx'.at m, c, cp, rfl, hO'⟩
end Go.Proofs.Ytfkdlepemiepdaa
