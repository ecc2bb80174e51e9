/- Literals, and the values of literals in three-valued logic: the program's and the reference's. No conditions. -/
import Derived.Test.YtlmeofmhklpfdaaTri
namespace Go.Proofs.Ytlmeofmhklpfdaa
open Go Go.Lt Go.RowKit

abbrev goodL (a : Int) : Prop := 0 ≤ a ∧ a ≤ 33554433
open Classical in
noncomputable def varL (a : Int) : Int := if goodL a then a / 2 else -1
abbrev negL (a : Int) : Prop := goodL a ∧ a % 2 = 1
open Classical in
noncomputable def lit3v (l : List Int) (x : Int) : Int := if varL x = 0 then 0 else if 0 < varL x ∧ varL x < l.length then val3 (l.getD (varL x).toNat 0) else 2
open Classical in
noncomputable def lit3 (l : List Int) (x : Int) : Int := if negL x then not3 (lit3v l x) else lit3v l x

theorem lit_Good (a : Int) (w : World) : Still Try.prog 102 [.int .i64 a] w (.bool (dec (goodL a))) := by
  refine Spec.of _ Try.func102 rfl Try.ntmps102 (by kernel_rfl) rfl ?_
  repeat' (first
    | (show WL _ _ _ _ _ _ _; first | apply WL.nil | (apply WL.pev tOk; exact rfl; exact rfl; exact rfl) | (apply WL.load tOk; exact rfl; exact rfl; exact rfl; exact rfl; exact rfl; assumption) | (apply WL.index tOk; exact rfl; exact rfl; exact rfl; exact rfl; exact rfl; exact rfl; exact rfl; exact rfl; assumption; (first | exact Ext.refl _ | assumption); exact rfl; omega; assumption; intro b off h; first | (obtain ⟨h1, h2, _⟩ := h) | (obtain ⟨h1, _⟩ := h)) | (apply WL.add; exact rfl; exact rfl; exact rfl; exact rfl; omega) | (apply WL.sub; exact rfl; exact rfl; exact rfl; exact rfl; omega) | (apply WL.mul; exact rfl; exact rfl; exact rfl; exact rfl; omega) | (apply WL.quo; exact rfl; exact rfl; exact rfl; exact rfl; omega) | (apply WL.rem; exact rfl; exact rfl; exact rfl; exact rfl; omega) | (apply WL.loadA tOk; exact rfl; exact rfl; exact rfl; exact rfl; exact rfl; assumption; exact rfl) | (apply WL.guardF; exact rfl; exact rfl) | (apply WL.gD; exact rfl; exact rfl; all_goals intro _) | (apply WL.gN; exact rfl; exact rfl; all_goals intro _) | (apply WL.gB; exact rfl; exact rfl; all_goals intro _))
    | (show Z _ _ _ _ _; first | apply Z.tail | apply Z.then_normal | apply Z.block_normal | apply Z.then_exit | apply Z.block_exit | apply Z.then_ret | apply Z.block_ret | (apply Z.block_other; exact rfl))
    | (show W _ _ _ _ _ _; first | apply W.seq | apply W.region | apply W.block | apply W.skip | apply W.ret | apply W.exit | (apply W.condT; exact rfl) | (apply W.condF; exact rfl) | (apply W.condD; exact rfl; all_goals intro _) | (apply W.condN; exact rfl; all_goals intro _) | (apply W.condB; exact rfl; all_goals intro _)))
  all_goals (refine Z.body1 Try.results102 rfl fun m => ⟨?_, m, rfl⟩; (first | exact congrArg Value.bool (dec_true (by omega)).symm | exact congrArg Value.bool (dec_false (by omega)).symm | exact congrArg Value.bool (dec_true (by omega)) | exact congrArg Value.bool (dec_false (by omega)) | exact congrArg Value.bool (dec_congr (by omega))))
theorem ref_Good (a : Int) (w : World) : Still Try.prog 81 [.int .i64 a] w (.bool (dec (goodL a))) := by
  refine Spec.of _ Try.func81 rfl Try.ntmps81 (by kernel_rfl) rfl ?_
  repeat' (first
    | (show WL _ _ _ _ _ _ _; first | apply WL.nil | (apply WL.pev tOk; exact rfl; exact rfl; exact rfl) | (apply WL.load tOk; exact rfl; exact rfl; exact rfl; exact rfl; exact rfl; assumption) | (apply WL.index tOk; exact rfl; exact rfl; exact rfl; exact rfl; exact rfl; exact rfl; exact rfl; exact rfl; assumption; (first | exact Ext.refl _ | assumption); exact rfl; omega; assumption; intro b off h; first | (obtain ⟨h1, h2, _⟩ := h) | (obtain ⟨h1, _⟩ := h)) | (apply WL.add; exact rfl; exact rfl; exact rfl; exact rfl; omega) | (apply WL.sub; exact rfl; exact rfl; exact rfl; exact rfl; omega) | (apply WL.mul; exact rfl; exact rfl; exact rfl; exact rfl; omega) | (apply WL.quo; exact rfl; exact rfl; exact rfl; exact rfl; omega) | (apply WL.rem; exact rfl; exact rfl; exact rfl; exact rfl; omega) | (apply WL.loadA tOk; exact rfl; exact rfl; exact rfl; exact rfl; exact rfl; assumption; exact rfl) | (apply WL.guardF; exact rfl; exact rfl) | (apply WL.gD; exact rfl; exact rfl; all_goals intro _) | (apply WL.gN; exact rfl; exact rfl; all_goals intro _) | (apply WL.gB; exact rfl; exact rfl; all_goals intro _))
    | (show Z _ _ _ _ _; first | apply Z.tail | apply Z.then_normal | apply Z.block_normal | apply Z.then_exit | apply Z.block_exit | apply Z.then_ret | apply Z.block_ret | (apply Z.block_other; exact rfl))
    | (show W _ _ _ _ _ _; first | apply W.seq | apply W.region | apply W.block | apply W.skip | apply W.ret | apply W.exit | (apply W.condT; exact rfl) | (apply W.condF; exact rfl) | (apply W.condD; exact rfl; all_goals intro _) | (apply W.condN; exact rfl; all_goals intro _) | (apply W.condB; exact rfl; all_goals intro _)))
  all_goals (refine Z.body1 Try.results81 rfl fun m => ⟨?_, m, rfl⟩; (first | exact congrArg Value.bool (dec_true (by omega)).symm | exact congrArg Value.bool (dec_false (by omega)).symm | exact congrArg Value.bool (dec_true (by omega)) | exact congrArg Value.bool (dec_false (by omega)) | exact congrArg Value.bool (dec_congr (by omega))))
theorem lit_Var1 (a : Int) (w : World) : Still Try.prog 101 [.int .i64 a] w (.int .i64 (a / 2)) := by
  refine Spec.of _ Try.func101 rfl Try.ntmps101 (by kernel_rfl) rfl ?_
  repeat' (first
    | (apply WL.shr (n := 1); exact rfl; exact rfl; exact rfl; exact rfl; decide)
    | (show WL _ _ _ _ _ _ _; first | apply WL.nil | (apply WL.pev tOk; exact rfl; exact rfl; exact rfl) | (apply WL.load tOk; exact rfl; exact rfl; exact rfl; exact rfl; exact rfl; assumption) | (apply WL.index tOk; exact rfl; exact rfl; exact rfl; exact rfl; exact rfl; exact rfl; exact rfl; exact rfl; assumption; (first | exact Ext.refl _ | assumption); exact rfl; omega; assumption; intro b off h; first | (obtain ⟨h1, h2, _⟩ := h) | (obtain ⟨h1, _⟩ := h)) | (apply WL.add; exact rfl; exact rfl; exact rfl; exact rfl; omega) | (apply WL.sub; exact rfl; exact rfl; exact rfl; exact rfl; omega) | (apply WL.mul; exact rfl; exact rfl; exact rfl; exact rfl; omega) | (apply WL.quo; exact rfl; exact rfl; exact rfl; exact rfl; omega) | (apply WL.rem; exact rfl; exact rfl; exact rfl; exact rfl; omega) | (apply WL.loadA tOk; exact rfl; exact rfl; exact rfl; exact rfl; exact rfl; assumption; exact rfl) | (apply WL.guardF; exact rfl; exact rfl) | (apply WL.gD; exact rfl; exact rfl; all_goals intro _) | (apply WL.gN; exact rfl; exact rfl; all_goals intro _) | (apply WL.gB; exact rfl; exact rfl; all_goals intro _))
    | (show Z _ _ _ _ _; first | apply Z.tail | apply Z.then_normal | apply Z.block_normal | apply Z.then_exit | apply Z.block_exit | apply Z.then_ret | apply Z.block_ret | (apply Z.block_other; exact rfl))
    | (show W _ _ _ _ _ _; first | apply W.seq | apply W.region | apply W.block | apply W.skip | apply W.ret | apply W.exit | (apply W.condT; exact rfl) | (apply W.condF; exact rfl) | (apply W.condD; exact rfl; all_goals intro _) | (apply W.condN; exact rfl; all_goals intro _) | (apply W.condB; exact rfl; all_goals intro _)))
  all_goals (refine Z.body1 Try.results101 rfl fun m => ⟨?_, m, rfl⟩; congr 1)
theorem lit_good_var (a : Int) (w : World) : Still Try.prog 100 [.int .i64 a, .func (.func 101) #[] #[]] w (.int .i64 (varL a)) := by
  refine Spec.of _ Try.func100 rfl Try.ntmps100 (by kernel_rfl) rfl ?_
  repeat' (first
    | (apply WL.callS; exact rfl; exact rfl; exact rfl; exact rfl; exact lit_Good _ _)
    | (apply WL.callS; exact rfl; exact rfl; exact rfl; exact rfl; exact lit_Var1 _ _)
    | (show WL _ _ _ _ _ _ _; first | apply WL.nil | (apply WL.pev tOk; exact rfl; exact rfl; exact rfl) | (apply WL.load tOk; exact rfl; exact rfl; exact rfl; exact rfl; exact rfl; assumption) | (apply WL.index tOk; exact rfl; exact rfl; exact rfl; exact rfl; exact rfl; exact rfl; exact rfl; exact rfl; assumption; (first | exact Ext.refl _ | assumption); exact rfl; omega; assumption; intro b off h; first | (obtain ⟨h1, h2, _⟩ := h) | (obtain ⟨h1, _⟩ := h)) | (apply WL.add; exact rfl; exact rfl; exact rfl; exact rfl; omega) | (apply WL.sub; exact rfl; exact rfl; exact rfl; exact rfl; omega) | (apply WL.mul; exact rfl; exact rfl; exact rfl; exact rfl; omega) | (apply WL.quo; exact rfl; exact rfl; exact rfl; exact rfl; omega) | (apply WL.rem; exact rfl; exact rfl; exact rfl; exact rfl; omega) | (apply WL.loadA tOk; exact rfl; exact rfl; exact rfl; exact rfl; exact rfl; assumption; exact rfl) | (apply WL.guardF; exact rfl; exact rfl) | (apply WL.gD; exact rfl; exact rfl; all_goals intro _) | (apply WL.gN; exact rfl; exact rfl; all_goals intro _) | (apply WL.gB; exact rfl; exact rfl; all_goals intro _))
    | (show Z _ _ _ _ _; first | apply Z.tail | apply Z.then_normal | apply Z.block_normal | apply Z.then_exit | apply Z.block_exit | apply Z.then_ret | apply Z.block_ret | (apply Z.block_other; exact rfl))
    | (show W _ _ _ _ _ _; first | apply W.seq | apply W.region | apply W.block | apply W.skip | apply W.ret | apply W.exit | (apply W.condT; exact rfl) | (apply W.condF; exact rfl) | (apply W.condD; exact rfl; all_goals intro _) | (apply W.condN; exact rfl; all_goals intro _) | (apply W.condB; exact rfl; all_goals intro _)))
  all_goals (refine Z.body1 Try.results100 rfl fun m => ⟨?_, m, rfl⟩; congr 1; unfold varL; first | rw [if_pos (by assumption)] | rw [if_neg (by assumption)])
theorem lit_Var (a : Int) (w : World) : Still Try.prog 79 [.int .i64 a] w (.int .i64 (varL a)) := by
  refine Spec.of _ Try.func79 rfl Try.ntmps79 (by kernel_rfl) rfl ?_
  repeat' (first
    | (apply WL.callS; exact rfl; exact rfl; exact rfl; exact rfl; exact lit_good_var _ _)
    | (show WL _ _ _ _ _ _ _; first | apply WL.nil | (apply WL.pev tOk; exact rfl; exact rfl; exact rfl) | (apply WL.load tOk; exact rfl; exact rfl; exact rfl; exact rfl; exact rfl; assumption) | (apply WL.index tOk; exact rfl; exact rfl; exact rfl; exact rfl; exact rfl; exact rfl; exact rfl; exact rfl; assumption; (first | exact Ext.refl _ | assumption); exact rfl; omega; assumption; intro b off h; first | (obtain ⟨h1, h2, _⟩ := h) | (obtain ⟨h1, _⟩ := h)) | (apply WL.add; exact rfl; exact rfl; exact rfl; exact rfl; omega) | (apply WL.sub; exact rfl; exact rfl; exact rfl; exact rfl; omega) | (apply WL.mul; exact rfl; exact rfl; exact rfl; exact rfl; omega) | (apply WL.quo; exact rfl; exact rfl; exact rfl; exact rfl; omega) | (apply WL.rem; exact rfl; exact rfl; exact rfl; exact rfl; omega) | (apply WL.loadA tOk; exact rfl; exact rfl; exact rfl; exact rfl; exact rfl; assumption; exact rfl) | (apply WL.guardF; exact rfl; exact rfl) | (apply WL.gD; exact rfl; exact rfl; all_goals intro _) | (apply WL.gN; exact rfl; exact rfl; all_goals intro _) | (apply WL.gB; exact rfl; exact rfl; all_goals intro _))
    | (show Z _ _ _ _ _; first | apply Z.tail | apply Z.then_normal | apply Z.block_normal | apply Z.then_exit | apply Z.block_exit | apply Z.then_ret | apply Z.block_ret | (apply Z.block_other; exact rfl))
    | (show W _ _ _ _ _ _; first | apply W.seq | apply W.region | apply W.block | apply W.skip | apply W.ret | apply W.exit | (apply W.condT; exact rfl) | (apply W.condF; exact rfl) | (apply W.condD; exact rfl; all_goals intro _) | (apply W.condN; exact rfl; all_goals intro _) | (apply W.condB; exact rfl; all_goals intro _)))
  all_goals (refine Z.body1 Try.results79 rfl fun m => ⟨rfl, m, rfl⟩)
theorem lit_Neg (a : Int) (w : World) : Still Try.prog 80 [.int .i64 a] w (.bool (dec (negL a))) := by
  refine Spec.of _ Try.func80 rfl Try.ntmps80 (by kernel_rfl) rfl ?_
  repeat' (first
    | (apply WL.callS; exact rfl; exact rfl; exact rfl; exact rfl; exact lit_Good _ _)
    | (apply WL.and1; exact rfl; exact rfl; exact rfl; exact rfl; omega)
    | (show WL _ _ _ _ _ _ _; first | apply WL.nil | (apply WL.pev tOk; exact rfl; exact rfl; exact rfl) | (apply WL.load tOk; exact rfl; exact rfl; exact rfl; exact rfl; exact rfl; assumption) | (apply WL.index tOk; exact rfl; exact rfl; exact rfl; exact rfl; exact rfl; exact rfl; exact rfl; exact rfl; assumption; (first | exact Ext.refl _ | assumption); exact rfl; omega; assumption; intro b off h; first | (obtain ⟨h1, h2, _⟩ := h) | (obtain ⟨h1, _⟩ := h)) | (apply WL.add; exact rfl; exact rfl; exact rfl; exact rfl; omega) | (apply WL.sub; exact rfl; exact rfl; exact rfl; exact rfl; omega) | (apply WL.mul; exact rfl; exact rfl; exact rfl; exact rfl; omega) | (apply WL.quo; exact rfl; exact rfl; exact rfl; exact rfl; omega) | (apply WL.rem; exact rfl; exact rfl; exact rfl; exact rfl; omega) | (apply WL.loadA tOk; exact rfl; exact rfl; exact rfl; exact rfl; exact rfl; assumption; exact rfl) | (apply WL.guardF; exact rfl; exact rfl) | (apply WL.gD; exact rfl; exact rfl; all_goals intro _) | (apply WL.gN; exact rfl; exact rfl; all_goals intro _) | (apply WL.gB; exact rfl; exact rfl; all_goals intro _))
    | (show Z _ _ _ _ _; first | apply Z.tail | apply Z.then_normal | apply Z.block_normal | apply Z.then_exit | apply Z.block_exit | apply Z.then_ret | apply Z.block_ret | (apply Z.block_other; exact rfl))
    | (show W _ _ _ _ _ _; first | apply W.seq | apply W.region | apply W.block | apply W.skip | apply W.ret | apply W.exit | (apply W.condT; exact rfl) | (apply W.condF; exact rfl) | (apply W.condD; exact rfl; all_goals intro _) | (apply W.condN; exact rfl; all_goals intro _) | (apply W.condB; exact rfl; all_goals intro _)))
  all_goals (refine Z.body1 Try.results80 rfl fun m => ⟨?_, m, rfl⟩; (first | exact congrArg Value.bool (dec_true (by omega)).symm | exact congrArg Value.bool (dec_false (by omega)).symm | exact congrArg Value.bool (dec_true (by omega)) | exact congrArg Value.bool (dec_false (by omega)) | exact congrArg Value.bool (dec_congr (by omega))))
theorem varL_pos {x : Int} (h : 0 ≤ varL x) : goodL x ∧ varL x = x / 2 := by
  unfold varL at *; split at h <;> rename_i hg
  · exact ⟨hg, by rw [if_pos hg]⟩
  · omega
theorem tri_Lit (a : Option Addr) (cap : Nat) (l : List Int) (x : Int) (w : World) (R : Row 1 encI w a l) : Still Try.prog 26 [.slice a l.length cap, .int .i64 x] w (.int .i64 (lit3 l x)) := by
  by_cases h : 0 < varL x ∧ varL x < l.length
  · obtain ⟨z, hz⟩ : ∃ z, l[(varL x).toNat]? = some z := ⟨l[(varL x).toNat]'(by omega), by simp [show (varL x).toNat < l.length by omega]⟩
    have hd : l.getD (varL x).toNat 0 = z := by simp [List.getD, hz]
    refine Spec.of _ Try.func26 rfl Try.ntmps26 (by kernel_rfl) rfl ?_
    repeat' (first
      | (apply WL.callS; exact rfl; exact rfl; exact rfl; exact rfl; exact lit_Var _ _)
      | (apply WL.callS; exact rfl; exact rfl; exact rfl; exact rfl; exact lit_Neg _ _)
      | (apply WL.callS; exact rfl; exact rfl; exact rfl; exact rfl; exact tri_told _ _)
      | (apply WL.callS; exact rfl; exact rfl; exact rfl; exact rfl; exact tri_Not _ _)
      | (show WL _ _ _ _ _ _ _; first | apply WL.nil | (apply WL.pev tOk; exact rfl; exact rfl; exact rfl) | (apply WL.load tOk; exact rfl; exact rfl; exact rfl; exact rfl; exact rfl; assumption) | (apply WL.index tOk; exact rfl; exact rfl; exact rfl; exact rfl; exact rfl; exact rfl; exact rfl; exact rfl; assumption; (first | exact Ext.refl _ | assumption); exact rfl; omega; assumption; intro b off h; first | (obtain ⟨h1, h2, _⟩ := h) | (obtain ⟨h1, _⟩ := h)) | (apply WL.add; exact rfl; exact rfl; exact rfl; exact rfl; omega) | (apply WL.sub; exact rfl; exact rfl; exact rfl; exact rfl; omega) | (apply WL.mul; exact rfl; exact rfl; exact rfl; exact rfl; omega) | (apply WL.quo; exact rfl; exact rfl; exact rfl; exact rfl; omega) | (apply WL.rem; exact rfl; exact rfl; exact rfl; exact rfl; omega) | (apply WL.loadA tOk; exact rfl; exact rfl; exact rfl; exact rfl; exact rfl; assumption; exact rfl) | (apply WL.guardF; exact rfl; exact rfl) | (apply WL.gD; exact rfl; exact rfl; all_goals intro _) | (apply WL.gN; exact rfl; exact rfl; all_goals intro _) | (apply WL.gB; exact rfl; exact rfl; all_goals intro _))
      | (show Z _ _ _ _ _; first | apply Z.tail | apply Z.then_normal | apply Z.block_normal | apply Z.then_exit | apply Z.block_exit | apply Z.then_ret | apply Z.block_ret | (apply Z.block_other; exact rfl))
      | (show W _ _ _ _ _ _; first | apply W.seq | apply W.region | apply W.block | apply W.skip | apply W.ret | apply W.exit | (apply W.condT; exact rfl) | (apply W.condF; exact rfl) | (apply W.condD; exact rfl; all_goals intro _) | (apply W.condN; exact rfl; all_goals intro _) | (apply W.condB; exact rfl; all_goals intro _)))
    all_goals (refine Z.body1 Try.results26 rfl fun m => ⟨?_, m, rfl⟩; congr 1; grind [lit3, lit3v, val3, told3, not3])
  · refine Spec.of _ Try.func26 rfl Try.ntmps26 (by kernel_rfl) rfl ?_
    repeat' (first
      | (apply WL.callS; exact rfl; exact rfl; exact rfl; exact rfl; exact lit_Var _ _)
      | (apply WL.callS; exact rfl; exact rfl; exact rfl; exact rfl; exact lit_Neg _ _)
      | (apply WL.callS; exact rfl; exact rfl; exact rfl; exact rfl; exact tri_told _ _)
      | (apply WL.callS; exact rfl; exact rfl; exact rfl; exact rfl; exact tri_Not _ _)
      | (apply WL.gT; exact rfl; exact rfl; (focus (exact dec_false (by omega); done)))
      | (apply WL.gF; exact rfl; exact rfl; (focus (exact dec_false (by omega); done)))
      | (apply W.condKT; exact rfl; (focus (exact dec_false (by omega); done)))
      | (apply W.condKF; exact rfl; (focus (exact dec_false (by omega); done)))
      | (show WL _ _ _ _ _ _ _; first | apply WL.nil | (apply WL.pev tOk; exact rfl; exact rfl; exact rfl) | (apply WL.load tOk; exact rfl; exact rfl; exact rfl; exact rfl; exact rfl; assumption) | (apply WL.index tOk; exact rfl; exact rfl; exact rfl; exact rfl; exact rfl; exact rfl; exact rfl; exact rfl; assumption; (first | exact Ext.refl _ | assumption); exact rfl; omega; assumption; intro b off h; first | (obtain ⟨h1, h2, _⟩ := h) | (obtain ⟨h1, _⟩ := h)) | (apply WL.add; exact rfl; exact rfl; exact rfl; exact rfl; omega) | (apply WL.sub; exact rfl; exact rfl; exact rfl; exact rfl; omega) | (apply WL.mul; exact rfl; exact rfl; exact rfl; exact rfl; omega) | (apply WL.quo; exact rfl; exact rfl; exact rfl; exact rfl; omega) | (apply WL.rem; exact rfl; exact rfl; exact rfl; exact rfl; omega) | (apply WL.loadA tOk; exact rfl; exact rfl; exact rfl; exact rfl; exact rfl; assumption; exact rfl) | (apply WL.guardF; exact rfl; exact rfl) | (apply WL.gD; exact rfl; exact rfl; all_goals intro _) | (apply WL.gN; exact rfl; exact rfl; all_goals intro _) | (apply WL.gB; exact rfl; exact rfl; all_goals intro _))
      | (show Z _ _ _ _ _; first | apply Z.tail | apply Z.then_normal | apply Z.block_normal | apply Z.then_exit | apply Z.block_exit | apply Z.then_ret | apply Z.block_ret | (apply Z.block_other; exact rfl))
      | (show W _ _ _ _ _ _; first | apply W.seq | apply W.region | apply W.block | apply W.skip | apply W.ret | apply W.exit | (apply W.condT; exact rfl) | (apply W.condF; exact rfl) | (apply W.condD; exact rfl; all_goals intro _) | (apply W.condN; exact rfl; all_goals intro _) | (apply W.condB; exact rfl; all_goals intro _)))
    all_goals (refine Z.body1 Try.results26 rfl fun m => ⟨?_, m, rfl⟩; congr 1; grind [lit3, lit3v, val3, told3, not3])
theorem ref_Lit (a : Option Addr) (cap : Nat) (l : List Int) (x : Int) (w : World) (R : Row 1 encI w a l) : Still Try.prog 27 [.slice a l.length cap, .int .i64 x] w (.int .i64 (lit3 l x)) := by
  have hv : goodL x → varL x = x / 2 := fun h => by unfold varL; rw [if_pos h]
  have hv' : ¬ goodL x → varL x = -1 := fun h => by unfold varL; rw [if_neg h]
  by_cases h : goodL x ∧ 0 < x / 2 ∧ x / 2 < l.length
  · obtain ⟨z, hz⟩ : ∃ z, l[(x / 2).toNat]? = some z := ⟨l[(x / 2).toNat]'(by omega), by simp [show (x / 2).toNat < l.length by omega]⟩
    have hd : l.getD (x / 2).toNat 0 = z := by simp [List.getD, hz]
    refine Spec.of _ Try.func27 rfl Try.ntmps27 (by kernel_rfl) rfl ?_
    repeat' (first
      | (apply WL.callS; exact rfl; exact rfl; exact rfl; exact rfl; exact ref_Good _ _)
      | (apply WL.callS; exact rfl; exact rfl; exact rfl; exact rfl; exact ref_value _ _)
      | (apply WL.callS; exact rfl; exact rfl; exact rfl; exact rfl; exact ref_Not _ _)
      | (show WL _ _ _ _ _ _ _; first | apply WL.nil | (apply WL.pev tOk; exact rfl; exact rfl; exact rfl) | (apply WL.load tOk; exact rfl; exact rfl; exact rfl; exact rfl; exact rfl; assumption) | (apply WL.index tOk; exact rfl; exact rfl; exact rfl; exact rfl; exact rfl; exact rfl; exact rfl; exact rfl; assumption; (first | exact Ext.refl _ | assumption); exact rfl; omega; assumption; intro b off h; first | (obtain ⟨h1, h2, _⟩ := h) | (obtain ⟨h1, _⟩ := h)) | (apply WL.add; exact rfl; exact rfl; exact rfl; exact rfl; omega) | (apply WL.sub; exact rfl; exact rfl; exact rfl; exact rfl; omega) | (apply WL.mul; exact rfl; exact rfl; exact rfl; exact rfl; omega) | (apply WL.quo; exact rfl; exact rfl; exact rfl; exact rfl; omega) | (apply WL.rem; exact rfl; exact rfl; exact rfl; exact rfl; omega) | (apply WL.loadA tOk; exact rfl; exact rfl; exact rfl; exact rfl; exact rfl; assumption; exact rfl) | (apply WL.guardF; exact rfl; exact rfl) | (apply WL.gD; exact rfl; exact rfl; all_goals intro _) | (apply WL.gN; exact rfl; exact rfl; all_goals intro _) | (apply WL.gB; exact rfl; exact rfl; all_goals intro _))
      | (show Z _ _ _ _ _; first | apply Z.tail | apply Z.then_normal | apply Z.block_normal | apply Z.then_exit | apply Z.block_exit | apply Z.then_ret | apply Z.block_ret | (apply Z.block_other; exact rfl))
      | (show W _ _ _ _ _ _; first | apply W.seq | apply W.region | apply W.block | apply W.skip | apply W.ret | apply W.exit | (apply W.condT; exact rfl) | (apply W.condF; exact rfl) | (apply W.condD; exact rfl; all_goals intro _) | (apply W.condN; exact rfl; all_goals intro _) | (apply W.condB; exact rfl; all_goals intro _)))
    all_goals (refine Z.body1 Try.results27 rfl fun m => ⟨?_, m, rfl⟩; congr 1; grind [lit3, lit3v, val3, not3])
  · refine Spec.of _ Try.func27 rfl Try.ntmps27 (by kernel_rfl) rfl ?_
    repeat' (first
      | (apply WL.callS; exact rfl; exact rfl; exact rfl; exact rfl; exact ref_Good _ _)
      | (apply WL.callS; exact rfl; exact rfl; exact rfl; exact rfl; exact ref_value _ _)
      | (apply WL.callS; exact rfl; exact rfl; exact rfl; exact rfl; exact ref_Not _ _)
      | (apply WL.gT; exact rfl; exact rfl; (focus (exact dec_false (by omega); done)))
      | (apply WL.gF; exact rfl; exact rfl; (focus (exact dec_false (by omega); done)))
      | (apply W.condKT; exact rfl; (focus (exact dec_false (by omega); done)))
      | (apply W.condKF; exact rfl; (focus (exact dec_false (by omega); done)))
      | (show WL _ _ _ _ _ _ _; first | apply WL.nil | (apply WL.pev tOk; exact rfl; exact rfl; exact rfl) | (apply WL.load tOk; exact rfl; exact rfl; exact rfl; exact rfl; exact rfl; assumption) | (apply WL.index tOk; exact rfl; exact rfl; exact rfl; exact rfl; exact rfl; exact rfl; exact rfl; exact rfl; assumption; (first | exact Ext.refl _ | assumption); exact rfl; omega; assumption; intro b off h; first | (obtain ⟨h1, h2, _⟩ := h) | (obtain ⟨h1, _⟩ := h)) | (apply WL.add; exact rfl; exact rfl; exact rfl; exact rfl; omega) | (apply WL.sub; exact rfl; exact rfl; exact rfl; exact rfl; omega) | (apply WL.mul; exact rfl; exact rfl; exact rfl; exact rfl; omega) | (apply WL.quo; exact rfl; exact rfl; exact rfl; exact rfl; omega) | (apply WL.rem; exact rfl; exact rfl; exact rfl; exact rfl; omega) | (apply WL.loadA tOk; exact rfl; exact rfl; exact rfl; exact rfl; exact rfl; assumption; exact rfl) | (apply WL.guardF; exact rfl; exact rfl) | (apply WL.gD; exact rfl; exact rfl; all_goals intro _) | (apply WL.gN; exact rfl; exact rfl; all_goals intro _) | (apply WL.gB; exact rfl; exact rfl; all_goals intro _))
      | (show Z _ _ _ _ _; first | apply Z.tail | apply Z.then_normal | apply Z.block_normal | apply Z.then_exit | apply Z.block_exit | apply Z.then_ret | apply Z.block_ret | (apply Z.block_other; exact rfl))
      | (show W _ _ _ _ _ _; first | apply W.seq | apply W.region | apply W.block | apply W.skip | apply W.ret | apply W.exit | (apply W.condT; exact rfl) | (apply W.condF; exact rfl) | (apply W.condD; exact rfl; all_goals intro _) | (apply W.condN; exact rfl; all_goals intro _) | (apply W.condB; exact rfl; all_goals intro _)))
    all_goals (refine Z.body1 Try.results27 rfl fun m => ⟨?_, m, rfl⟩; congr 1; grind [lit3, lit3v, val3, not3])
end Go.Proofs.Ytlmeofmhklpfdaa
