/- Part 5 of what the claim CircSame needs: lemmas and contracts, printed from longer texts. No conditions. -/
import Derived.Test.YtmaekaflpbenmaaRows
import Derived.Lib.SmallJoins
import Derived.KernelRfl
import Derived.WalkKit
import Derived.ProofKit
import Derived.Deep.Quiet
import Derived.Deep.LoopGhost
import Derived.StillTail
import Derived.Test.YtmaekaflpbenmaaProg
import Derived.OpenShut
import Derived.ShutString
import Derived.ChangeOld
import Derived.Deep.Slices
import Derived.SizedLaws
import Derived.Laws.StructEq
import Derived.Test.YtmaekaflpbenmaaCircSameP4
namespace Go.Proofs.Ytmaekaflpbenmaa
open Go Go.Lt Go.RowKit
set_option linter.unusedVariables false
set_option linter.unusedSimpArgs false
set_option maxRecDepth 20000

theorem factLt : FactEq Try.prog 58 := ⟨by kernel_rfl, by kernel_rfl⟩
theorem factGt : FactEq Try.prog 60 := ⟨by kernel_rfl, by kernel_rfl⟩
theorem factSy : FactEq Try.prog 109 := ⟨by kernel_rfl, by kernel_rfl⟩
theorem enc3_inj {x y : T3} (h : enc3 x = enc3 y) : x = y := by
  obtain ⟨a, b, c⟩ := x
  obtain ⟨d, e, f⟩ := y
  simp only [enc3, List.cons.injEq, Value.int.injEq, true_and, and_true] at h
  obtain ⟨rfl, rfl, rfl⟩ := h
  rfl
theorem encY_inj {x y : Sy} (h : encY x = encY y) : x = y := by
  obtain ⟨a, b, c⟩ := x
  obtain ⟨d, e, f⟩ := y
  simp only [encY, List.cons.injEq, Value.int.injEq, Value.string.injEq, true_and, and_true] at h
  obtain ⟨rfl, rfl, rfl⟩ := h
  rfl
theorem ne_iff {α : Type} {enc : α → List Value} (inj : ∀ {x y}, enc x = enc y → x = y) {x y : α} (h : ¬ x = y) : enc x ≠ enc y := fun he => h (inj he)
set_option maxHeartbeats 4000000 in
theorem eq_I (aa ab : Option Addr) (ca cb : Nat) (la lb : List Int) (w : World) (Ra : Row 1 encI w aa la) (Rb : Row 1 encI w ab lb) : Still Try.prog 86 [.slice aa la.length ca, .slice ab lb.length cb] w (.bool (dec (la = lb))) := by
  have hla := Ra.len
  have hlb := Rb.len
  by_cases hlen : la.length = lb.length
  · refine Spec.of _ Try.func86 rfl Try.ntmps86 (by kernel_rfl) rfl ?_
    repeat' (first
      | (apply WL.gT; exact rfl; exact rfl; (focus (exact dec_false (by omega); done)))
      | (apply WL.gF; exact rfl; exact rfl; (focus (exact dec_false (by omega); done)))
      | (apply QL.gT; exact rfl; exact rfl; (focus (exact dec_false (by omega); done)))
      | (apply QL.gF; exact rfl; exact rfl; (focus (exact dec_false (by omega); done)))
      | (apply W.condKT; exact rfl; (focus (exact dec_false (by omega); done)))
      | (apply W.condKF; exact rfl; (focus (exact dec_false (by omega); done)))
      | (show WL _ _ _ _ _ _ _; first | apply WL.nil | (refine WL.au (k := ?_)) | (apply WL.index tOk; exact rfl; exact rfl; exact rfl; exact rfl; exact rfl; exact rfl; exact rfl; exact rfl; assumption; (exact extA); exact rfl; omega; assumption; intro b off h; have hcc := h; first | (obtain ⟨h1, h2, h3, h4, h5, h6, _⟩ := h) | (obtain ⟨h1, h2, h3, _⟩ := h) | (obtain ⟨h1, h2, _⟩ := h) | (obtain ⟨h1, _⟩ := h)) | (apply WL.guardF; exact rfl; exact rfl) | (apply WL.gD; exact rfl; exact rfl; all_goals intro _) | (apply WL.gN; exact rfl; exact rfl; all_goals intro _) | (apply WL.gB; exact rfl; exact rfl; all_goals intro _))
      | (show QL _ _ _ _ _ _ _; first | apply QL.nil | (refine QL.au (k := ?_)) | (apply QL.index tOk; exact rfl; exact rfl; exact rfl; exact rfl; exact rfl; exact rfl; exact rfl; exact rfl; assumption; (exact extA); exact rfl; omega; assumption; intro b off h; have hcc := h; first | (obtain ⟨h1, h2, h3, h4, h5, h6, _⟩ := h) | (obtain ⟨h1, h2, h3, _⟩ := h) | (obtain ⟨h1, h2, _⟩ := h) | (obtain ⟨h1, _⟩ := h)) | (apply QL.guardF; exact rfl; exact rfl) | (apply QL.gD; exact rfl; exact rfl; all_goals intro _) | (apply QL.gN; exact rfl; exact rfl; all_goals intro _) | (apply QL.gB; exact rfl; exact rfl; all_goals intro _))
      | (show Z _ _ _ _ _; first | apply Z.tail | apply Z.then_normal | apply Z.block_normal | apply Z.then_exit | apply Z.block_exit | apply Z.then_ret | apply Z.block_ret | (apply Z.block_other; exact rfl))
      | (show W _ _ _ _ _ _; first | apply W.seq | apply W.region | apply W.block | apply W.skip | apply W.ret | apply W.exit | (apply W.condT; exact rfl) | (apply W.condF; exact rfl) | (apply W.condD; exact rfl; all_goals intro _) | (apply W.condN; exact rfl; all_goals intro _) | (apply W.condB; exact rfl; all_goals intro _) | (apply W.regionD tMix; kernel_rfl)))
    refine W.loop1 la.length (fun k => k ≤ la.length ∧ ∀ i, i < k → la[i]? = lb[i]?) (fun k => [(0, .slice aa la.length ca), (1, .slice ab lb.length cb), (12, .int .i64 (la.length : Nat)), (13, .int .i64 k)]) ⟨by omega, fun i hi => by omega⟩ (fun k h => h.1) ⟨rfl, rfl, rfl, rfl, trivial⟩ ?_
    rintro k ⟨hk, heq⟩
    by_cases hlt : k < la.length
    · obtain ⟨x, hx⟩ := getI la hlt
      obtain ⟨y, hy⟩ := getI lb (show k < lb.length by omega)
      by_cases hxy : x = y
      · subst hxy
        repeat' (first
          | (apply WL.gT; exact rfl; exact rfl; (focus (first | exact dec_true (show ((k : Nat) : Int) < (la.length : Int) by omega) | exact dec_false (fun h => h rfl); done)))
          | (apply WL.gF; exact rfl; exact rfl; (focus (first | exact dec_true (show ((k : Nat) : Int) < (la.length : Int) by omega) | exact dec_false (fun h => h rfl); done)))
          | (apply QL.gT; exact rfl; exact rfl; (focus (first | exact dec_true (show ((k : Nat) : Int) < (la.length : Int) by omega) | exact dec_false (fun h => h rfl); done)))
          | (apply QL.gF; exact rfl; exact rfl; (focus (first | exact dec_true (show ((k : Nat) : Int) < (la.length : Int) by omega) | exact dec_false (fun h => h rfl); done)))
          | (apply W.condKT; exact rfl; (focus (first | exact dec_true (show ((k : Nat) : Int) < (la.length : Int) by omega) | exact dec_false (fun h => h rfl); done)))
          | (apply W.condKF; exact rfl; (focus (first | exact dec_true (show ((k : Nat) : Int) < (la.length : Int) by omega) | exact dec_false (fun h => h rfl); done)))
          | (show WL _ _ _ _ _ _ _; first | apply WL.nil | (refine WL.au (k := ?_)) | (apply WL.index tOk; exact rfl; exact rfl; exact rfl; exact rfl; exact rfl; exact rfl; exact rfl; exact rfl; assumption; (exact extA); exact rfl; omega; assumption; intro b off h; have hcc := h; first | (obtain ⟨h1, h2, h3, h4, h5, h6, _⟩ := h) | (obtain ⟨h1, h2, h3, _⟩ := h) | (obtain ⟨h1, h2, _⟩ := h) | (obtain ⟨h1, _⟩ := h)) | (apply WL.guardF; exact rfl; exact rfl) | (apply WL.gD; exact rfl; exact rfl; all_goals intro _) | (apply WL.gN; exact rfl; exact rfl; all_goals intro _) | (apply WL.gB; exact rfl; exact rfl; all_goals intro _))
          | (show QL _ _ _ _ _ _ _; first | apply QL.nil | (refine QL.au (k := ?_)) | (apply QL.index tOk; exact rfl; exact rfl; exact rfl; exact rfl; exact rfl; exact rfl; exact rfl; exact rfl; assumption; (exact extA); exact rfl; omega; assumption; intro b off h; have hcc := h; first | (obtain ⟨h1, h2, h3, h4, h5, h6, _⟩ := h) | (obtain ⟨h1, h2, h3, _⟩ := h) | (obtain ⟨h1, h2, _⟩ := h) | (obtain ⟨h1, _⟩ := h)) | (apply QL.guardF; exact rfl; exact rfl) | (apply QL.gD; exact rfl; exact rfl; all_goals intro _) | (apply QL.gN; exact rfl; exact rfl; all_goals intro _) | (apply QL.gB; exact rfl; exact rfl; all_goals intro _))
          | (show Z _ _ _ _ _; first | apply Z.tail | apply Z.then_normal | apply Z.block_normal | apply Z.then_exit | apply Z.block_exit | apply Z.then_ret | apply Z.block_ret | (apply Z.block_other; exact rfl))
          | (show W _ _ _ _ _ _; first | apply W.seq | apply W.region | apply W.block | apply W.skip | apply W.ret | apply W.exit | (apply W.condT; exact rfl) | (apply W.condF; exact rfl) | (apply W.condD; exact rfl; all_goals intro _) | (apply W.condN; exact rfl; all_goals intro _) | (apply W.condB; exact rfl; all_goals intro _) | (apply W.regionD tMix; kernel_rfl)))
        exact Z.again1 ⟨by omega, eq_snoc heq hx hy rfl⟩ ⟨rfl, rfl, rfl, rfl, trivial⟩
      · repeat' (first
          | (apply WL.gT; exact rfl; exact rfl; (focus (first | exact dec_true (show ((k : Nat) : Int) < (la.length : Int) by omega) | exact dec_true hxy; done)))
          | (apply WL.gF; exact rfl; exact rfl; (focus (first | exact dec_true (show ((k : Nat) : Int) < (la.length : Int) by omega) | exact dec_true hxy; done)))
          | (apply QL.gT; exact rfl; exact rfl; (focus (first | exact dec_true (show ((k : Nat) : Int) < (la.length : Int) by omega) | exact dec_true hxy; done)))
          | (apply QL.gF; exact rfl; exact rfl; (focus (first | exact dec_true (show ((k : Nat) : Int) < (la.length : Int) by omega) | exact dec_true hxy; done)))
          | (apply W.condKT; exact rfl; (focus (first | exact dec_true (show ((k : Nat) : Int) < (la.length : Int) by omega) | exact dec_true hxy; done)))
          | (apply W.condKF; exact rfl; (focus (first | exact dec_true (show ((k : Nat) : Int) < (la.length : Int) by omega) | exact dec_true hxy; done)))
          | (show WL _ _ _ _ _ _ _; first | apply WL.nil | (refine WL.au (k := ?_)) | (apply WL.index tOk; exact rfl; exact rfl; exact rfl; exact rfl; exact rfl; exact rfl; exact rfl; exact rfl; assumption; (exact extA); exact rfl; omega; assumption; intro b off h; have hcc := h; first | (obtain ⟨h1, h2, h3, h4, h5, h6, _⟩ := h) | (obtain ⟨h1, h2, h3, _⟩ := h) | (obtain ⟨h1, h2, _⟩ := h) | (obtain ⟨h1, _⟩ := h)) | (apply WL.guardF; exact rfl; exact rfl) | (apply WL.gD; exact rfl; exact rfl; all_goals intro _) | (apply WL.gN; exact rfl; exact rfl; all_goals intro _) | (apply WL.gB; exact rfl; exact rfl; all_goals intro _))
          | (show QL _ _ _ _ _ _ _; first | apply QL.nil | (refine QL.au (k := ?_)) | (apply QL.index tOk; exact rfl; exact rfl; exact rfl; exact rfl; exact rfl; exact rfl; exact rfl; exact rfl; assumption; (exact extA); exact rfl; omega; assumption; intro b off h; have hcc := h; first | (obtain ⟨h1, h2, h3, h4, h5, h6, _⟩ := h) | (obtain ⟨h1, h2, h3, _⟩ := h) | (obtain ⟨h1, h2, _⟩ := h) | (obtain ⟨h1, _⟩ := h)) | (apply QL.guardF; exact rfl; exact rfl) | (apply QL.gD; exact rfl; exact rfl; all_goals intro _) | (apply QL.gN; exact rfl; exact rfl; all_goals intro _) | (apply QL.gB; exact rfl; exact rfl; all_goals intro _))
          | (show Z _ _ _ _ _; first | apply Z.tail | apply Z.then_normal | apply Z.block_normal | apply Z.then_exit | apply Z.block_exit | apply Z.then_ret | apply Z.block_ret | (apply Z.block_other; exact rfl))
          | (show W _ _ _ _ _ _; first | apply W.seq | apply W.region | apply W.block | apply W.skip | apply W.ret | apply W.exit | (apply W.condT; exact rfl) | (apply W.condF; exact rfl) | (apply W.condD; exact rfl; all_goals intro _) | (apply W.condN; exact rfl; all_goals intro _) | (apply W.condB; exact rfl; all_goals intro _) | (apply W.regionD tMix; kernel_rfl)))
        exact Z.body1 Try.results86 rfl fun m => ⟨congrArg Value.bool (dec_false (ne_at hx hy hxy)).symm, m, rfl⟩
    · repeat' (first
        | (apply WL.gT; exact rfl; exact rfl; (focus (exact dec_false (by omega); done)))
        | (apply WL.gF; exact rfl; exact rfl; (focus (exact dec_false (by omega); done)))
        | (apply QL.gT; exact rfl; exact rfl; (focus (exact dec_false (by omega); done)))
        | (apply QL.gF; exact rfl; exact rfl; (focus (exact dec_false (by omega); done)))
        | (apply W.condKT; exact rfl; (focus (exact dec_false (by omega); done)))
        | (apply W.condKF; exact rfl; (focus (exact dec_false (by omega); done)))
        | (show WL _ _ _ _ _ _ _; first | apply WL.nil | (refine WL.au (k := ?_)) | (apply WL.index tOk; exact rfl; exact rfl; exact rfl; exact rfl; exact rfl; exact rfl; exact rfl; exact rfl; assumption; (exact extA); exact rfl; omega; assumption; intro b off h; have hcc := h; first | (obtain ⟨h1, h2, h3, h4, h5, h6, _⟩ := h) | (obtain ⟨h1, h2, h3, _⟩ := h) | (obtain ⟨h1, h2, _⟩ := h) | (obtain ⟨h1, _⟩ := h)) | (apply WL.guardF; exact rfl; exact rfl) | (apply WL.gD; exact rfl; exact rfl; all_goals intro _) | (apply WL.gN; exact rfl; exact rfl; all_goals intro _) | (apply WL.gB; exact rfl; exact rfl; all_goals intro _))
        | (show QL _ _ _ _ _ _ _; first | apply QL.nil | (refine QL.au (k := ?_)) | (apply QL.index tOk; exact rfl; exact rfl; exact rfl; exact rfl; exact rfl; exact rfl; exact rfl; exact rfl; assumption; (exact extA); exact rfl; omega; assumption; intro b off h; have hcc := h; first | (obtain ⟨h1, h2, h3, h4, h5, h6, _⟩ := h) | (obtain ⟨h1, h2, h3, _⟩ := h) | (obtain ⟨h1, h2, _⟩ := h) | (obtain ⟨h1, _⟩ := h)) | (apply QL.guardF; exact rfl; exact rfl) | (apply QL.gD; exact rfl; exact rfl; all_goals intro _) | (apply QL.gN; exact rfl; exact rfl; all_goals intro _) | (apply QL.gB; exact rfl; exact rfl; all_goals intro _))
        | (show Z _ _ _ _ _; first | apply Z.tail | apply Z.then_normal | apply Z.block_normal | apply Z.then_exit | apply Z.block_exit | apply Z.then_ret | apply Z.block_ret | (apply Z.block_other; exact rfl))
        | (show W _ _ _ _ _ _; first | apply W.seq | apply W.region | apply W.block | apply W.skip | apply W.ret | apply W.exit | (apply W.condT; exact rfl) | (apply W.condF; exact rfl) | (apply W.condD; exact rfl; all_goals intro _) | (apply W.condN; exact rfl; all_goals intro _) | (apply W.condB; exact rfl; all_goals intro _) | (apply W.regionD tMix; kernel_rfl)))
      exact Z.body1 Try.results86 rfl fun m => ⟨congrArg Value.bool (dec_true (eq_all heq hlen (by omega))).symm, m, rfl⟩
  · refine Spec.of _ Try.func86 rfl Try.ntmps86 (by kernel_rfl) rfl ?_
    repeat' (first
      | (apply WL.gT; exact rfl; exact rfl; (focus (exact dec_true (by omega); done)))
      | (apply WL.gF; exact rfl; exact rfl; (focus (exact dec_true (by omega); done)))
      | (apply QL.gT; exact rfl; exact rfl; (focus (exact dec_true (by omega); done)))
      | (apply QL.gF; exact rfl; exact rfl; (focus (exact dec_true (by omega); done)))
      | (apply W.condKT; exact rfl; (focus (exact dec_true (by omega); done)))
      | (apply W.condKF; exact rfl; (focus (exact dec_true (by omega); done)))
      | (show WL _ _ _ _ _ _ _; first | apply WL.nil | (refine WL.au (k := ?_)) | (apply WL.index tOk; exact rfl; exact rfl; exact rfl; exact rfl; exact rfl; exact rfl; exact rfl; exact rfl; assumption; (exact extA); exact rfl; omega; assumption; intro b off h; have hcc := h; first | (obtain ⟨h1, h2, h3, h4, h5, h6, _⟩ := h) | (obtain ⟨h1, h2, h3, _⟩ := h) | (obtain ⟨h1, h2, _⟩ := h) | (obtain ⟨h1, _⟩ := h)) | (apply WL.guardF; exact rfl; exact rfl) | (apply WL.gD; exact rfl; exact rfl; all_goals intro _) | (apply WL.gN; exact rfl; exact rfl; all_goals intro _) | (apply WL.gB; exact rfl; exact rfl; all_goals intro _))
      | (show QL _ _ _ _ _ _ _; first | apply QL.nil | (refine QL.au (k := ?_)) | (apply QL.index tOk; exact rfl; exact rfl; exact rfl; exact rfl; exact rfl; exact rfl; exact rfl; exact rfl; assumption; (exact extA); exact rfl; omega; assumption; intro b off h; have hcc := h; first | (obtain ⟨h1, h2, h3, h4, h5, h6, _⟩ := h) | (obtain ⟨h1, h2, h3, _⟩ := h) | (obtain ⟨h1, h2, _⟩ := h) | (obtain ⟨h1, _⟩ := h)) | (apply QL.guardF; exact rfl; exact rfl) | (apply QL.gD; exact rfl; exact rfl; all_goals intro _) | (apply QL.gN; exact rfl; exact rfl; all_goals intro _) | (apply QL.gB; exact rfl; exact rfl; all_goals intro _))
      | (show Z _ _ _ _ _; first | apply Z.tail | apply Z.then_normal | apply Z.block_normal | apply Z.then_exit | apply Z.block_exit | apply Z.then_ret | apply Z.block_ret | (apply Z.block_other; exact rfl))
      | (show W _ _ _ _ _ _; first | apply W.seq | apply W.region | apply W.block | apply W.skip | apply W.ret | apply W.exit | (apply W.condT; exact rfl) | (apply W.condF; exact rfl) | (apply W.condD; exact rfl; all_goals intro _) | (apply W.condN; exact rfl; all_goals intro _) | (apply W.condB; exact rfl; all_goals intro _) | (apply W.regionD tMix; kernel_rfl)))
    exact Z.body1 Try.results86 rfl fun m => ⟨congrArg Value.bool (dec_false (fun h => hlen (by rw [h]))).symm, m, rfl⟩
set_option maxHeartbeats 4000000 in
theorem eq_L (aa ab : Option Addr) (ca cb : Nat) (la lb : List T3) (w : World) (Ra : Row 3 enc3 w aa la) (Rb : Row 3 enc3 w ab lb) : Still Try.prog 87 [.slice aa la.length ca, .slice ab lb.length cb] w (.bool (dec (la = lb))) := by
  have hla := Ra.len
  have hlb := Rb.len
  by_cases hlen : la.length = lb.length
  · refine Spec.of _ Try.func87 rfl Try.ntmps87 (by kernel_rfl) rfl ?_
    repeat' (first
      | (apply WL.gT; exact rfl; exact rfl; (focus (exact dec_false (by omega); done)))
      | (apply WL.gF; exact rfl; exact rfl; (focus (exact dec_false (by omega); done)))
      | (apply QL.gT; exact rfl; exact rfl; (focus (exact dec_false (by omega); done)))
      | (apply QL.gF; exact rfl; exact rfl; (focus (exact dec_false (by omega); done)))
      | (apply W.condKT; exact rfl; (focus (exact dec_false (by omega); done)))
      | (apply W.condKF; exact rfl; (focus (exact dec_false (by omega); done)))
      | (show WL _ _ _ _ _ _ _; first | apply WL.nil | (refine WL.au (k := ?_)) | (apply WL.index tOk; exact rfl; exact rfl; exact rfl; exact rfl; exact rfl; exact rfl; exact rfl; exact rfl; assumption; (exact extA); exact rfl; omega; assumption; intro b off h; have hcc := h; first | (obtain ⟨h1, h2, h3, h4, h5, h6, _⟩ := h) | (obtain ⟨h1, h2, h3, _⟩ := h) | (obtain ⟨h1, h2, _⟩ := h) | (obtain ⟨h1, _⟩ := h)) | (apply WL.guardF; exact rfl; exact rfl) | (apply WL.gD; exact rfl; exact rfl; all_goals intro _) | (apply WL.gN; exact rfl; exact rfl; all_goals intro _) | (apply WL.gB; exact rfl; exact rfl; all_goals intro _))
      | (show QL _ _ _ _ _ _ _; first | apply QL.nil | (refine QL.au (k := ?_)) | (apply QL.index tOk; exact rfl; exact rfl; exact rfl; exact rfl; exact rfl; exact rfl; exact rfl; exact rfl; assumption; (exact extA); exact rfl; omega; assumption; intro b off h; have hcc := h; first | (obtain ⟨h1, h2, h3, h4, h5, h6, _⟩ := h) | (obtain ⟨h1, h2, h3, _⟩ := h) | (obtain ⟨h1, h2, _⟩ := h) | (obtain ⟨h1, _⟩ := h)) | (apply QL.guardF; exact rfl; exact rfl) | (apply QL.gD; exact rfl; exact rfl; all_goals intro _) | (apply QL.gN; exact rfl; exact rfl; all_goals intro _) | (apply QL.gB; exact rfl; exact rfl; all_goals intro _))
      | (show Z _ _ _ _ _; first | apply Z.tail | apply Z.then_normal | apply Z.block_normal | apply Z.then_exit | apply Z.block_exit | apply Z.then_ret | apply Z.block_ret | (apply Z.block_other; exact rfl))
      | (show W _ _ _ _ _ _; first | apply W.seq | apply W.region | apply W.block | apply W.skip | apply W.ret | apply W.exit | (apply W.condT; exact rfl) | (apply W.condF; exact rfl) | (apply W.condD; exact rfl; all_goals intro _) | (apply W.condN; exact rfl; all_goals intro _) | (apply W.condB; exact rfl; all_goals intro _) | (apply W.regionD tMix; kernel_rfl)))
    refine W.loop1 la.length (fun k => k ≤ la.length ∧ ∀ i, i < k → la[i]? = lb[i]?) (fun k => [(0, .slice aa la.length ca), (1, .slice ab lb.length cb), (12, .int .i64 (la.length : Nat)), (13, .int .i64 k)]) ⟨by omega, fun i hi => by omega⟩ (fun k h => h.1) ⟨rfl, rfl, rfl, rfl, trivial⟩ ?_
    rintro k ⟨hk, heq⟩
    by_cases hlt : k < la.length
    · obtain ⟨x, hx⟩ := getI la hlt
      obtain ⟨y, hy⟩ := getI lb (show k < lb.length by omega)
      by_cases hxy : x = y
      · subst hxy
        repeat' (first
          | (apply WL.gT; exact rfl; exact rfl; (focus (first | exact dec_true (show ((k : Nat) : Int) < (la.length : Int) by omega) | exact dec_false (fun h => h rfl); done)))
          | (apply WL.gF; exact rfl; exact rfl; (focus (first | exact dec_true (show ((k : Nat) : Int) < (la.length : Int) by omega) | exact dec_false (fun h => h rfl); done)))
          | (apply QL.gT; exact rfl; exact rfl; (focus (first | exact dec_true (show ((k : Nat) : Int) < (la.length : Int) by omega) | exact dec_false (fun h => h rfl); done)))
          | (apply QL.gF; exact rfl; exact rfl; (focus (first | exact dec_true (show ((k : Nat) : Int) < (la.length : Int) by omega) | exact dec_false (fun h => h rfl); done)))
          | (apply W.condKT; exact rfl; (focus (first | exact dec_true (show ((k : Nat) : Int) < (la.length : Int) by omega) | exact dec_false (fun h => h rfl); done)))
          | (apply W.condKF; exact rfl; (focus (first | exact dec_true (show ((k : Nat) : Int) < (la.length : Int) by omega) | exact dec_false (fun h => h rfl); done)))
          | (apply WL.neqS tOk; exact rfl; exact rfl; exact rfl; exact rfl; exact rfl; exact rfl; exact rfl; exact factLt)
          | (apply QL.neqS tOk; exact rfl; exact rfl; exact rfl; exact rfl; exact rfl; exact rfl; exact rfl; exact factLt)
          | (show WL _ _ _ _ _ _ _; first | apply WL.nil | (refine WL.au (k := ?_)) | (apply WL.index tOk; exact rfl; exact rfl; exact rfl; exact rfl; exact rfl; exact rfl; exact rfl; exact rfl; assumption; (exact extA); exact rfl; omega; assumption; intro b off h; have hcc := h; first | (obtain ⟨h1, h2, h3, h4, h5, h6, _⟩ := h) | (obtain ⟨h1, h2, h3, _⟩ := h) | (obtain ⟨h1, h2, _⟩ := h) | (obtain ⟨h1, _⟩ := h)) | (apply WL.guardF; exact rfl; exact rfl) | (apply WL.gD; exact rfl; exact rfl; all_goals intro _) | (apply WL.gN; exact rfl; exact rfl; all_goals intro _) | (apply WL.gB; exact rfl; exact rfl; all_goals intro _))
          | (show QL _ _ _ _ _ _ _; first | apply QL.nil | (refine QL.au (k := ?_)) | (apply QL.index tOk; exact rfl; exact rfl; exact rfl; exact rfl; exact rfl; exact rfl; exact rfl; exact rfl; assumption; (exact extA); exact rfl; omega; assumption; intro b off h; have hcc := h; first | (obtain ⟨h1, h2, h3, h4, h5, h6, _⟩ := h) | (obtain ⟨h1, h2, h3, _⟩ := h) | (obtain ⟨h1, h2, _⟩ := h) | (obtain ⟨h1, _⟩ := h)) | (apply QL.guardF; exact rfl; exact rfl) | (apply QL.gD; exact rfl; exact rfl; all_goals intro _) | (apply QL.gN; exact rfl; exact rfl; all_goals intro _) | (apply QL.gB; exact rfl; exact rfl; all_goals intro _))
          | (show Z _ _ _ _ _; first | apply Z.tail | apply Z.then_normal | apply Z.block_normal | apply Z.then_exit | apply Z.block_exit | apply Z.then_ret | apply Z.block_ret | (apply Z.block_other; exact rfl))
          | (show W _ _ _ _ _ _; first | apply W.seq | apply W.region | apply W.block | apply W.skip | apply W.ret | apply W.exit | (apply W.condT; exact rfl) | (apply W.condF; exact rfl) | (apply W.condD; exact rfl; all_goals intro _) | (apply W.condN; exact rfl; all_goals intro _) | (apply W.condB; exact rfl; all_goals intro _) | (apply W.regionD tMix; kernel_rfl)))
        exact Z.again1 ⟨by omega, eq_snoc heq hx hy rfl⟩ ⟨rfl, rfl, rfl, rfl, trivial⟩
      · repeat' (first
          | (apply WL.gT; exact rfl; exact rfl; (focus (first | exact dec_true (show ((k : Nat) : Int) < (la.length : Int) by omega) | exact dec_true (ne_iff enc3_inj hxy); done)))
          | (apply WL.gF; exact rfl; exact rfl; (focus (first | exact dec_true (show ((k : Nat) : Int) < (la.length : Int) by omega) | exact dec_true (ne_iff enc3_inj hxy); done)))
          | (apply QL.gT; exact rfl; exact rfl; (focus (first | exact dec_true (show ((k : Nat) : Int) < (la.length : Int) by omega) | exact dec_true (ne_iff enc3_inj hxy); done)))
          | (apply QL.gF; exact rfl; exact rfl; (focus (first | exact dec_true (show ((k : Nat) : Int) < (la.length : Int) by omega) | exact dec_true (ne_iff enc3_inj hxy); done)))
          | (apply W.condKT; exact rfl; (focus (first | exact dec_true (show ((k : Nat) : Int) < (la.length : Int) by omega) | exact dec_true (ne_iff enc3_inj hxy); done)))
          | (apply W.condKF; exact rfl; (focus (first | exact dec_true (show ((k : Nat) : Int) < (la.length : Int) by omega) | exact dec_true (ne_iff enc3_inj hxy); done)))
          | (apply WL.neqS tOk; exact rfl; exact rfl; exact rfl; exact rfl; exact rfl; exact rfl; exact rfl; exact factLt)
          | (apply QL.neqS tOk; exact rfl; exact rfl; exact rfl; exact rfl; exact rfl; exact rfl; exact rfl; exact factLt)
          | (show WL _ _ _ _ _ _ _; first | apply WL.nil | (refine WL.au (k := ?_)) | (apply WL.index tOk; exact rfl; exact rfl; exact rfl; exact rfl; exact rfl; exact rfl; exact rfl; exact rfl; assumption; (exact extA); exact rfl; omega; assumption; intro b off h; have hcc := h; first | (obtain ⟨h1, h2, h3, h4, h5, h6, _⟩ := h) | (obtain ⟨h1, h2, h3, _⟩ := h) | (obtain ⟨h1, h2, _⟩ := h) | (obtain ⟨h1, _⟩ := h)) | (apply WL.guardF; exact rfl; exact rfl) | (apply WL.gD; exact rfl; exact rfl; all_goals intro _) | (apply WL.gN; exact rfl; exact rfl; all_goals intro _) | (apply WL.gB; exact rfl; exact rfl; all_goals intro _))
          | (show QL _ _ _ _ _ _ _; first | apply QL.nil | (refine QL.au (k := ?_)) | (apply QL.index tOk; exact rfl; exact rfl; exact rfl; exact rfl; exact rfl; exact rfl; exact rfl; exact rfl; assumption; (exact extA); exact rfl; omega; assumption; intro b off h; have hcc := h; first | (obtain ⟨h1, h2, h3, h4, h5, h6, _⟩ := h) | (obtain ⟨h1, h2, h3, _⟩ := h) | (obtain ⟨h1, h2, _⟩ := h) | (obtain ⟨h1, _⟩ := h)) | (apply QL.guardF; exact rfl; exact rfl) | (apply QL.gD; exact rfl; exact rfl; all_goals intro _) | (apply QL.gN; exact rfl; exact rfl; all_goals intro _) | (apply QL.gB; exact rfl; exact rfl; all_goals intro _))
          | (show Z _ _ _ _ _; first | apply Z.tail | apply Z.then_normal | apply Z.block_normal | apply Z.then_exit | apply Z.block_exit | apply Z.then_ret | apply Z.block_ret | (apply Z.block_other; exact rfl))
          | (show W _ _ _ _ _ _; first | apply W.seq | apply W.region | apply W.block | apply W.skip | apply W.ret | apply W.exit | (apply W.condT; exact rfl) | (apply W.condF; exact rfl) | (apply W.condD; exact rfl; all_goals intro _) | (apply W.condN; exact rfl; all_goals intro _) | (apply W.condB; exact rfl; all_goals intro _) | (apply W.regionD tMix; kernel_rfl)))
        exact Z.body1 Try.results87 rfl fun m => ⟨congrArg Value.bool (dec_false (ne_at hx hy hxy)).symm, m, rfl⟩
    · repeat' (first
        | (apply WL.gT; exact rfl; exact rfl; (focus (exact dec_false (by omega); done)))
        | (apply WL.gF; exact rfl; exact rfl; (focus (exact dec_false (by omega); done)))
        | (apply QL.gT; exact rfl; exact rfl; (focus (exact dec_false (by omega); done)))
        | (apply QL.gF; exact rfl; exact rfl; (focus (exact dec_false (by omega); done)))
        | (apply W.condKT; exact rfl; (focus (exact dec_false (by omega); done)))
        | (apply W.condKF; exact rfl; (focus (exact dec_false (by omega); done)))
        | (show WL _ _ _ _ _ _ _; first | apply WL.nil | (refine WL.au (k := ?_)) | (apply WL.index tOk; exact rfl; exact rfl; exact rfl; exact rfl; exact rfl; exact rfl; exact rfl; exact rfl; assumption; (exact extA); exact rfl; omega; assumption; intro b off h; have hcc := h; first | (obtain ⟨h1, h2, h3, h4, h5, h6, _⟩ := h) | (obtain ⟨h1, h2, h3, _⟩ := h) | (obtain ⟨h1, h2, _⟩ := h) | (obtain ⟨h1, _⟩ := h)) | (apply WL.guardF; exact rfl; exact rfl) | (apply WL.gD; exact rfl; exact rfl; all_goals intro _) | (apply WL.gN; exact rfl; exact rfl; all_goals intro _) | (apply WL.gB; exact rfl; exact rfl; all_goals intro _))
        | (show QL _ _ _ _ _ _ _; first | apply QL.nil | (refine QL.au (k := ?_)) | (apply QL.index tOk; exact rfl; exact rfl; exact rfl; exact rfl; exact rfl; exact rfl; exact rfl; exact rfl; assumption; (exact extA); exact rfl; omega; assumption; intro b off h; have hcc := h; first | (obtain ⟨h1, h2, h3, h4, h5, h6, _⟩ := h) | (obtain ⟨h1, h2, h3, _⟩ := h) | (obtain ⟨h1, h2, _⟩ := h) | (obtain ⟨h1, _⟩ := h)) | (apply QL.guardF; exact rfl; exact rfl) | (apply QL.gD; exact rfl; exact rfl; all_goals intro _) | (apply QL.gN; exact rfl; exact rfl; all_goals intro _) | (apply QL.gB; exact rfl; exact rfl; all_goals intro _))
        | (show Z _ _ _ _ _; first | apply Z.tail | apply Z.then_normal | apply Z.block_normal | apply Z.then_exit | apply Z.block_exit | apply Z.then_ret | apply Z.block_ret | (apply Z.block_other; exact rfl))
        | (show W _ _ _ _ _ _; first | apply W.seq | apply W.region | apply W.block | apply W.skip | apply W.ret | apply W.exit | (apply W.condT; exact rfl) | (apply W.condF; exact rfl) | (apply W.condD; exact rfl; all_goals intro _) | (apply W.condN; exact rfl; all_goals intro _) | (apply W.condB; exact rfl; all_goals intro _) | (apply W.regionD tMix; kernel_rfl)))
      exact Z.body1 Try.results87 rfl fun m => ⟨congrArg Value.bool (dec_true (eq_all heq hlen (by omega))).symm, m, rfl⟩
  · refine Spec.of _ Try.func87 rfl Try.ntmps87 (by kernel_rfl) rfl ?_
    repeat' (first
      | (apply WL.gT; exact rfl; exact rfl; (focus (exact dec_true (by omega); done)))
      | (apply WL.gF; exact rfl; exact rfl; (focus (exact dec_true (by omega); done)))
      | (apply QL.gT; exact rfl; exact rfl; (focus (exact dec_true (by omega); done)))
      | (apply QL.gF; exact rfl; exact rfl; (focus (exact dec_true (by omega); done)))
      | (apply W.condKT; exact rfl; (focus (exact dec_true (by omega); done)))
      | (apply W.condKF; exact rfl; (focus (exact dec_true (by omega); done)))
      | (show WL _ _ _ _ _ _ _; first | apply WL.nil | (refine WL.au (k := ?_)) | (apply WL.index tOk; exact rfl; exact rfl; exact rfl; exact rfl; exact rfl; exact rfl; exact rfl; exact rfl; assumption; (exact extA); exact rfl; omega; assumption; intro b off h; have hcc := h; first | (obtain ⟨h1, h2, h3, h4, h5, h6, _⟩ := h) | (obtain ⟨h1, h2, h3, _⟩ := h) | (obtain ⟨h1, h2, _⟩ := h) | (obtain ⟨h1, _⟩ := h)) | (apply WL.guardF; exact rfl; exact rfl) | (apply WL.gD; exact rfl; exact rfl; all_goals intro _) | (apply WL.gN; exact rfl; exact rfl; all_goals intro _) | (apply WL.gB; exact rfl; exact rfl; all_goals intro _))
      | (show QL _ _ _ _ _ _ _; first | apply QL.nil | (refine QL.au (k := ?_)) | (apply QL.index tOk; exact rfl; exact rfl; exact rfl; exact rfl; exact rfl; exact rfl; exact rfl; exact rfl; assumption; (exact extA); exact rfl; omega; assumption; intro b off h; have hcc := h; first | (obtain ⟨h1, h2, h3, h4, h5, h6, _⟩ := h) | (obtain ⟨h1, h2, h3, _⟩ := h) | (obtain ⟨h1, h2, _⟩ := h) | (obtain ⟨h1, _⟩ := h)) | (apply QL.guardF; exact rfl; exact rfl) | (apply QL.gD; exact rfl; exact rfl; all_goals intro _) | (apply QL.gN; exact rfl; exact rfl; all_goals intro _) | (apply QL.gB; exact rfl; exact rfl; all_goals intro _))
      | (show Z _ _ _ _ _; first | apply Z.tail | apply Z.then_normal | apply Z.block_normal | apply Z.then_exit | apply Z.block_exit | apply Z.then_ret | apply Z.block_ret | (apply Z.block_other; exact rfl))
      | (show W _ _ _ _ _ _; first | apply W.seq | apply W.region | apply W.block | apply W.skip | apply W.ret | apply W.exit | (apply W.condT; exact rfl) | (apply W.condF; exact rfl) | (apply W.condD; exact rfl; all_goals intro _) | (apply W.condN; exact rfl; all_goals intro _) | (apply W.condB; exact rfl; all_goals intro _) | (apply W.regionD tMix; kernel_rfl)))
    exact Z.body1 Try.results87 rfl fun m => ⟨congrArg Value.bool (dec_false (fun h => hlen (by rw [h]))).symm, m, rfl⟩
set_option maxHeartbeats 4000000 in
theorem eq_G (aa ab : Option Addr) (ca cb : Nat) (la lb : List T3) (w : World) (Ra : Row 3 enc3 w aa la) (Rb : Row 3 enc3 w ab lb) : Still Try.prog 88 [.slice aa la.length ca, .slice ab lb.length cb] w (.bool (dec (la = lb))) := by
  have hla := Ra.len
  have hlb := Rb.len
  by_cases hlen : la.length = lb.length
  · refine Spec.of _ Try.func88 rfl Try.ntmps88 (by kernel_rfl) rfl ?_
    repeat' (first
      | (apply WL.gT; exact rfl; exact rfl; (focus (exact dec_false (by omega); done)))
      | (apply WL.gF; exact rfl; exact rfl; (focus (exact dec_false (by omega); done)))
      | (apply QL.gT; exact rfl; exact rfl; (focus (exact dec_false (by omega); done)))
      | (apply QL.gF; exact rfl; exact rfl; (focus (exact dec_false (by omega); done)))
      | (apply W.condKT; exact rfl; (focus (exact dec_false (by omega); done)))
      | (apply W.condKF; exact rfl; (focus (exact dec_false (by omega); done)))
      | (show WL _ _ _ _ _ _ _; first | apply WL.nil | (refine WL.au (k := ?_)) | (apply WL.index tOk; exact rfl; exact rfl; exact rfl; exact rfl; exact rfl; exact rfl; exact rfl; exact rfl; assumption; (exact extA); exact rfl; omega; assumption; intro b off h; have hcc := h; first | (obtain ⟨h1, h2, h3, h4, h5, h6, _⟩ := h) | (obtain ⟨h1, h2, h3, _⟩ := h) | (obtain ⟨h1, h2, _⟩ := h) | (obtain ⟨h1, _⟩ := h)) | (apply WL.guardF; exact rfl; exact rfl) | (apply WL.gD; exact rfl; exact rfl; all_goals intro _) | (apply WL.gN; exact rfl; exact rfl; all_goals intro _) | (apply WL.gB; exact rfl; exact rfl; all_goals intro _))
      | (show QL _ _ _ _ _ _ _; first | apply QL.nil | (refine QL.au (k := ?_)) | (apply QL.index tOk; exact rfl; exact rfl; exact rfl; exact rfl; exact rfl; exact rfl; exact rfl; exact rfl; assumption; (exact extA); exact rfl; omega; assumption; intro b off h; have hcc := h; first | (obtain ⟨h1, h2, h3, h4, h5, h6, _⟩ := h) | (obtain ⟨h1, h2, h3, _⟩ := h) | (obtain ⟨h1, h2, _⟩ := h) | (obtain ⟨h1, _⟩ := h)) | (apply QL.guardF; exact rfl; exact rfl) | (apply QL.gD; exact rfl; exact rfl; all_goals intro _) | (apply QL.gN; exact rfl; exact rfl; all_goals intro _) | (apply QL.gB; exact rfl; exact rfl; all_goals intro _))
      | (show Z _ _ _ _ _; first | apply Z.tail | apply Z.then_normal | apply Z.block_normal | apply Z.then_exit | apply Z.block_exit | apply Z.then_ret | apply Z.block_ret | (apply Z.block_other; exact rfl))
      | (show W _ _ _ _ _ _; first | apply W.seq | apply W.region | apply W.block | apply W.skip | apply W.ret | apply W.exit | (apply W.condT; exact rfl) | (apply W.condF; exact rfl) | (apply W.condD; exact rfl; all_goals intro _) | (apply W.condN; exact rfl; all_goals intro _) | (apply W.condB; exact rfl; all_goals intro _) | (apply W.regionD tMix; kernel_rfl)))
    refine W.loop1 la.length (fun k => k ≤ la.length ∧ ∀ i, i < k → la[i]? = lb[i]?) (fun k => [(0, .slice aa la.length ca), (1, .slice ab lb.length cb), (12, .int .i64 (la.length : Nat)), (13, .int .i64 k)]) ⟨by omega, fun i hi => by omega⟩ (fun k h => h.1) ⟨rfl, rfl, rfl, rfl, trivial⟩ ?_
    rintro k ⟨hk, heq⟩
    by_cases hlt : k < la.length
    · obtain ⟨x, hx⟩ := getI la hlt
      obtain ⟨y, hy⟩ := getI lb (show k < lb.length by omega)
      by_cases hxy : x = y
      · subst hxy
        repeat' (first
          | (apply WL.gT; exact rfl; exact rfl; (focus (first | exact dec_true (show ((k : Nat) : Int) < (la.length : Int) by omega) | exact dec_false (fun h => h rfl); done)))
          | (apply WL.gF; exact rfl; exact rfl; (focus (first | exact dec_true (show ((k : Nat) : Int) < (la.length : Int) by omega) | exact dec_false (fun h => h rfl); done)))
          | (apply QL.gT; exact rfl; exact rfl; (focus (first | exact dec_true (show ((k : Nat) : Int) < (la.length : Int) by omega) | exact dec_false (fun h => h rfl); done)))
          | (apply QL.gF; exact rfl; exact rfl; (focus (first | exact dec_true (show ((k : Nat) : Int) < (la.length : Int) by omega) | exact dec_false (fun h => h rfl); done)))
          | (apply W.condKT; exact rfl; (focus (first | exact dec_true (show ((k : Nat) : Int) < (la.length : Int) by omega) | exact dec_false (fun h => h rfl); done)))
          | (apply W.condKF; exact rfl; (focus (first | exact dec_true (show ((k : Nat) : Int) < (la.length : Int) by omega) | exact dec_false (fun h => h rfl); done)))
          | (apply WL.neqS tOk; exact rfl; exact rfl; exact rfl; exact rfl; exact rfl; exact rfl; exact rfl; exact factGt)
          | (apply QL.neqS tOk; exact rfl; exact rfl; exact rfl; exact rfl; exact rfl; exact rfl; exact rfl; exact factGt)
          | (show WL _ _ _ _ _ _ _; first | apply WL.nil | (refine WL.au (k := ?_)) | (apply WL.index tOk; exact rfl; exact rfl; exact rfl; exact rfl; exact rfl; exact rfl; exact rfl; exact rfl; assumption; (exact extA); exact rfl; omega; assumption; intro b off h; have hcc := h; first | (obtain ⟨h1, h2, h3, h4, h5, h6, _⟩ := h) | (obtain ⟨h1, h2, h3, _⟩ := h) | (obtain ⟨h1, h2, _⟩ := h) | (obtain ⟨h1, _⟩ := h)) | (apply WL.guardF; exact rfl; exact rfl) | (apply WL.gD; exact rfl; exact rfl; all_goals intro _) | (apply WL.gN; exact rfl; exact rfl; all_goals intro _) | (apply WL.gB; exact rfl; exact rfl; all_goals intro _))
          | (show QL _ _ _ _ _ _ _; first | apply QL.nil | (refine QL.au (k := ?_)) | (apply QL.index tOk; exact rfl; exact rfl; exact rfl; exact rfl; exact rfl; exact rfl; exact rfl; exact rfl; assumption; (exact extA); exact rfl; omega; assumption; intro b off h; have hcc := h; first | (obtain ⟨h1, h2, h3, h4, h5, h6, _⟩ := h) | (obtain ⟨h1, h2, h3, _⟩ := h) | (obtain ⟨h1, h2, _⟩ := h) | (obtain ⟨h1, _⟩ := h)) | (apply QL.guardF; exact rfl; exact rfl) | (apply QL.gD; exact rfl; exact rfl; all_goals intro _) | (apply QL.gN; exact rfl; exact rfl; all_goals intro _) | (apply QL.gB; exact rfl; exact rfl; all_goals intro _))
          | (show Z _ _ _ _ _; first | apply Z.tail | apply Z.then_normal | apply Z.block_normal | apply Z.then_exit | apply Z.block_exit | apply Z.then_ret | apply Z.block_ret | (apply Z.block_other; exact rfl))
          | (show W _ _ _ _ _ _; first | apply W.seq | apply W.region | apply W.block | apply W.skip | apply W.ret | apply W.exit | (apply W.condT; exact rfl) | (apply W.condF; exact rfl) | (apply W.condD; exact rfl; all_goals intro _) | (apply W.condN; exact rfl; all_goals intro _) | (apply W.condB; exact rfl; all_goals intro _) | (apply W.regionD tMix; kernel_rfl)))
        exact Z.again1 ⟨by omega, eq_snoc heq hx hy rfl⟩ ⟨rfl, rfl, rfl, rfl, trivial⟩
      · repeat' (first
          | (apply WL.gT; exact rfl; exact rfl; (focus (first | exact dec_true (show ((k : Nat) : Int) < (la.length : Int) by omega) | exact dec_true (ne_iff enc3_inj hxy); done)))
          | (apply WL.gF; exact rfl; exact rfl; (focus (first | exact dec_true (show ((k : Nat) : Int) < (la.length : Int) by omega) | exact dec_true (ne_iff enc3_inj hxy); done)))
          | (apply QL.gT; exact rfl; exact rfl; (focus (first | exact dec_true (show ((k : Nat) : Int) < (la.length : Int) by omega) | exact dec_true (ne_iff enc3_inj hxy); done)))
          | (apply QL.gF; exact rfl; exact rfl; (focus (first | exact dec_true (show ((k : Nat) : Int) < (la.length : Int) by omega) | exact dec_true (ne_iff enc3_inj hxy); done)))
          | (apply W.condKT; exact rfl; (focus (first | exact dec_true (show ((k : Nat) : Int) < (la.length : Int) by omega) | exact dec_true (ne_iff enc3_inj hxy); done)))
          | (apply W.condKF; exact rfl; (focus (first | exact dec_true (show ((k : Nat) : Int) < (la.length : Int) by omega) | exact dec_true (ne_iff enc3_inj hxy); done)))
          | (apply WL.neqS tOk; exact rfl; exact rfl; exact rfl; exact rfl; exact rfl; exact rfl; exact rfl; exact factGt)
          | (apply QL.neqS tOk; exact rfl; exact rfl; exact rfl; exact rfl; exact rfl; exact rfl; exact rfl; exact factGt)
          | (show WL _ _ _ _ _ _ _; first | apply WL.nil | (refine WL.au (k := ?_)) | (apply WL.index tOk; exact rfl; exact rfl; exact rfl; exact rfl; exact rfl; exact rfl; exact rfl; exact rfl; assumption; (exact extA); exact rfl; omega; assumption; intro b off h; have hcc := h; first | (obtain ⟨h1, h2, h3, h4, h5, h6, _⟩ := h) | (obtain ⟨h1, h2, h3, _⟩ := h) | (obtain ⟨h1, h2, _⟩ := h) | (obtain ⟨h1, _⟩ := h)) | (apply WL.guardF; exact rfl; exact rfl) | (apply WL.gD; exact rfl; exact rfl; all_goals intro _) | (apply WL.gN; exact rfl; exact rfl; all_goals intro _) | (apply WL.gB; exact rfl; exact rfl; all_goals intro _))
          | (show QL _ _ _ _ _ _ _; first | apply QL.nil | (refine QL.au (k := ?_)) | (apply QL.index tOk; exact rfl; exact rfl; exact rfl; exact rfl; exact rfl; exact rfl; exact rfl; exact rfl; assumption; (exact extA); exact rfl; omega; assumption; intro b off h; have hcc := h; first | (obtain ⟨h1, h2, h3, h4, h5, h6, _⟩ := h) | (obtain ⟨h1, h2, h3, _⟩ := h) | (obtain ⟨h1, h2, _⟩ := h) | (obtain ⟨h1, _⟩ := h)) | (apply QL.guardF; exact rfl; exact rfl) | (apply QL.gD; exact rfl; exact rfl; all_goals intro _) | (apply QL.gN; exact rfl; exact rfl; all_goals intro _) | (apply QL.gB; exact rfl; exact rfl; all_goals intro _))
          | (show Z _ _ _ _ _; first | apply Z.tail | apply Z.then_normal | apply Z.block_normal | apply Z.then_exit | apply Z.block_exit | apply Z.then_ret | apply Z.block_ret | (apply Z.block_other; exact rfl))
          | (show W _ _ _ _ _ _; first | apply W.seq | apply W.region | apply W.block | apply W.skip | apply W.ret | apply W.exit | (apply W.condT; exact rfl) | (apply W.condF; exact rfl) | (apply W.condD; exact rfl; all_goals intro _) | (apply W.condN; exact rfl; all_goals intro _) | (apply W.condB; exact rfl; all_goals intro _) | (apply W.regionD tMix; kernel_rfl)))
        exact Z.body1 Try.results88 rfl fun m => ⟨congrArg Value.bool (dec_false (ne_at hx hy hxy)).symm, m, rfl⟩
    · repeat' (first
        | (apply WL.gT; exact rfl; exact rfl; (focus (exact dec_false (by omega); done)))
        | (apply WL.gF; exact rfl; exact rfl; (focus (exact dec_false (by omega); done)))
        | (apply QL.gT; exact rfl; exact rfl; (focus (exact dec_false (by omega); done)))
        | (apply QL.gF; exact rfl; exact rfl; (focus (exact dec_false (by omega); done)))
        | (apply W.condKT; exact rfl; (focus (exact dec_false (by omega); done)))
        | (apply W.condKF; exact rfl; (focus (exact dec_false (by omega); done)))
        | (show WL _ _ _ _ _ _ _; first | apply WL.nil | (refine WL.au (k := ?_)) | (apply WL.index tOk; exact rfl; exact rfl; exact rfl; exact rfl; exact rfl; exact rfl; exact rfl; exact rfl; assumption; (exact extA); exact rfl; omega; assumption; intro b off h; have hcc := h; first | (obtain ⟨h1, h2, h3, h4, h5, h6, _⟩ := h) | (obtain ⟨h1, h2, h3, _⟩ := h) | (obtain ⟨h1, h2, _⟩ := h) | (obtain ⟨h1, _⟩ := h)) | (apply WL.guardF; exact rfl; exact rfl) | (apply WL.gD; exact rfl; exact rfl; all_goals intro _) | (apply WL.gN; exact rfl; exact rfl; all_goals intro _) | (apply WL.gB; exact rfl; exact rfl; all_goals intro _))
        | (show QL _ _ _ _ _ _ _; first | apply QL.nil | (refine QL.au (k := ?_)) | (apply QL.index tOk; exact rfl; exact rfl; exact rfl; exact rfl; exact rfl; exact rfl; exact rfl; exact rfl; assumption; (exact extA); exact rfl; omega; assumption; intro b off h; have hcc := h; first | (obtain ⟨h1, h2, h3, h4, h5, h6, _⟩ := h) | (obtain ⟨h1, h2, h3, _⟩ := h) | (obtain ⟨h1, h2, _⟩ := h) | (obtain ⟨h1, _⟩ := h)) | (apply QL.guardF; exact rfl; exact rfl) | (apply QL.gD; exact rfl; exact rfl; all_goals intro _) | (apply QL.gN; exact rfl; exact rfl; all_goals intro _) | (apply QL.gB; exact rfl; exact rfl; all_goals intro _))
        | (show Z _ _ _ _ _; first | apply Z.tail | apply Z.then_normal | apply Z.block_normal | apply Z.then_exit | apply Z.block_exit | apply Z.then_ret | apply Z.block_ret | (apply Z.block_other; exact rfl))
        | (show W _ _ _ _ _ _; first | apply W.seq | apply W.region | apply W.block | apply W.skip | apply W.ret | apply W.exit | (apply W.condT; exact rfl) | (apply W.condF; exact rfl) | (apply W.condD; exact rfl; all_goals intro _) | (apply W.condN; exact rfl; all_goals intro _) | (apply W.condB; exact rfl; all_goals intro _) | (apply W.regionD tMix; kernel_rfl)))
      exact Z.body1 Try.results88 rfl fun m => ⟨congrArg Value.bool (dec_true (eq_all heq hlen (by omega))).symm, m, rfl⟩
  · refine Spec.of _ Try.func88 rfl Try.ntmps88 (by kernel_rfl) rfl ?_
    repeat' (first
      | (apply WL.gT; exact rfl; exact rfl; (focus (exact dec_true (by omega); done)))
      | (apply WL.gF; exact rfl; exact rfl; (focus (exact dec_true (by omega); done)))
      | (apply QL.gT; exact rfl; exact rfl; (focus (exact dec_true (by omega); done)))
      | (apply QL.gF; exact rfl; exact rfl; (focus (exact dec_true (by omega); done)))
      | (apply W.condKT; exact rfl; (focus (exact dec_true (by omega); done)))
      | (apply W.condKF; exact rfl; (focus (exact dec_true (by omega); done)))
      | (show WL _ _ _ _ _ _ _; first | apply WL.nil | (refine WL.au (k := ?_)) | (apply WL.index tOk; exact rfl; exact rfl; exact rfl; exact rfl; exact rfl; exact rfl; exact rfl; exact rfl; assumption; (exact extA); exact rfl; omega; assumption; intro b off h; have hcc := h; first | (obtain ⟨h1, h2, h3, h4, h5, h6, _⟩ := h) | (obtain ⟨h1, h2, h3, _⟩ := h) | (obtain ⟨h1, h2, _⟩ := h) | (obtain ⟨h1, _⟩ := h)) | (apply WL.guardF; exact rfl; exact rfl) | (apply WL.gD; exact rfl; exact rfl; all_goals intro _) | (apply WL.gN; exact rfl; exact rfl; all_goals intro _) | (apply WL.gB; exact rfl; exact rfl; all_goals intro _))
      | (show QL _ _ _ _ _ _ _; first | apply QL.nil | (refine QL.au (k := ?_)) | (apply QL.index tOk; exact rfl; exact rfl; exact rfl; exact rfl; exact rfl; exact rfl; exact rfl; exact rfl; assumption; (exact extA); exact rfl; omega; assumption; intro b off h; have hcc := h; first | (obtain ⟨h1, h2, h3, h4, h5, h6, _⟩ := h) | (obtain ⟨h1, h2, h3, _⟩ := h) | (obtain ⟨h1, h2, _⟩ := h) | (obtain ⟨h1, _⟩ := h)) | (apply QL.guardF; exact rfl; exact rfl) | (apply QL.gD; exact rfl; exact rfl; all_goals intro _) | (apply QL.gN; exact rfl; exact rfl; all_goals intro _) | (apply QL.gB; exact rfl; exact rfl; all_goals intro _))
      | (show Z _ _ _ _ _; first | apply Z.tail | apply Z.then_normal | apply Z.block_normal | apply Z.then_exit | apply Z.block_exit | apply Z.then_ret | apply Z.block_ret | (apply Z.block_other; exact rfl))
      | (show W _ _ _ _ _ _; first | apply W.seq | apply W.region | apply W.block | apply W.skip | apply W.ret | apply W.exit | (apply W.condT; exact rfl) | (apply W.condF; exact rfl) | (apply W.condD; exact rfl; all_goals intro _) | (apply W.condN; exact rfl; all_goals intro _) | (apply W.condB; exact rfl; all_goals intro _) | (apply W.regionD tMix; kernel_rfl)))
    exact Z.body1 Try.results88 rfl fun m => ⟨congrArg Value.bool (dec_false (fun h => hlen (by rw [h]))).symm, m, rfl⟩
set_option maxHeartbeats 4000000 in
theorem eq_Y (aa ab : Option Addr) (ca cb : Nat) (la lb : List Sy) (w : World) (Ra : Row 3 encY w aa la) (Rb : Row 3 encY w ab lb) : Still Try.prog 89 [.slice aa la.length ca, .slice ab lb.length cb] w (.bool (dec (la = lb))) := by
  have hla := Ra.len
  have hlb := Rb.len
  by_cases hlen : la.length = lb.length
  · refine Spec.of _ Try.func89 rfl Try.ntmps89 (by kernel_rfl) rfl ?_
    repeat' (first
      | (apply WL.gT; exact rfl; exact rfl; (focus (exact dec_false (by omega); done)))
      | (apply WL.gF; exact rfl; exact rfl; (focus (exact dec_false (by omega); done)))
      | (apply QL.gT; exact rfl; exact rfl; (focus (exact dec_false (by omega); done)))
      | (apply QL.gF; exact rfl; exact rfl; (focus (exact dec_false (by omega); done)))
      | (apply W.condKT; exact rfl; (focus (exact dec_false (by omega); done)))
      | (apply W.condKF; exact rfl; (focus (exact dec_false (by omega); done)))
      | (show WL _ _ _ _ _ _ _; first | apply WL.nil | (refine WL.au (k := ?_)) | (apply WL.index tOk; exact rfl; exact rfl; exact rfl; exact rfl; exact rfl; exact rfl; exact rfl; exact rfl; assumption; (exact extA); exact rfl; omega; assumption; intro b off h; have hcc := h; first | (obtain ⟨h1, h2, h3, h4, h5, h6, _⟩ := h) | (obtain ⟨h1, h2, h3, _⟩ := h) | (obtain ⟨h1, h2, _⟩ := h) | (obtain ⟨h1, _⟩ := h)) | (apply WL.guardF; exact rfl; exact rfl) | (apply WL.gD; exact rfl; exact rfl; all_goals intro _) | (apply WL.gN; exact rfl; exact rfl; all_goals intro _) | (apply WL.gB; exact rfl; exact rfl; all_goals intro _))
      | (show QL _ _ _ _ _ _ _; first | apply QL.nil | (refine QL.au (k := ?_)) | (apply QL.index tOk; exact rfl; exact rfl; exact rfl; exact rfl; exact rfl; exact rfl; exact rfl; exact rfl; assumption; (exact extA); exact rfl; omega; assumption; intro b off h; have hcc := h; first | (obtain ⟨h1, h2, h3, h4, h5, h6, _⟩ := h) | (obtain ⟨h1, h2, h3, _⟩ := h) | (obtain ⟨h1, h2, _⟩ := h) | (obtain ⟨h1, _⟩ := h)) | (apply QL.guardF; exact rfl; exact rfl) | (apply QL.gD; exact rfl; exact rfl; all_goals intro _) | (apply QL.gN; exact rfl; exact rfl; all_goals intro _) | (apply QL.gB; exact rfl; exact rfl; all_goals intro _))
      | (show Z _ _ _ _ _; first | apply Z.tail | apply Z.then_normal | apply Z.block_normal | apply Z.then_exit | apply Z.block_exit | apply Z.then_ret | apply Z.block_ret | (apply Z.block_other; exact rfl))
      | (show W _ _ _ _ _ _; first | apply W.seq | apply W.region | apply W.block | apply W.skip | apply W.ret | apply W.exit | (apply W.condT; exact rfl) | (apply W.condF; exact rfl) | (apply W.condD; exact rfl; all_goals intro _) | (apply W.condN; exact rfl; all_goals intro _) | (apply W.condB; exact rfl; all_goals intro _) | (apply W.regionD tMix; kernel_rfl)))
    refine W.loop1 la.length (fun k => k ≤ la.length ∧ ∀ i, i < k → la[i]? = lb[i]?) (fun k => [(0, .slice aa la.length ca), (1, .slice ab lb.length cb), (12, .int .i64 (la.length : Nat)), (13, .int .i64 k)]) ⟨by omega, fun i hi => by omega⟩ (fun k h => h.1) ⟨rfl, rfl, rfl, rfl, trivial⟩ ?_
    rintro k ⟨hk, heq⟩
    by_cases hlt : k < la.length
    · obtain ⟨x, hx⟩ := getI la hlt
      obtain ⟨y, hy⟩ := getI lb (show k < lb.length by omega)
      by_cases hxy : x = y
      · subst hxy
        repeat' (first
          | (apply WL.gT; exact rfl; exact rfl; (focus (first | exact dec_true (show ((k : Nat) : Int) < (la.length : Int) by omega) | exact dec_false (fun h => h rfl); done)))
          | (apply WL.gF; exact rfl; exact rfl; (focus (first | exact dec_true (show ((k : Nat) : Int) < (la.length : Int) by omega) | exact dec_false (fun h => h rfl); done)))
          | (apply QL.gT; exact rfl; exact rfl; (focus (first | exact dec_true (show ((k : Nat) : Int) < (la.length : Int) by omega) | exact dec_false (fun h => h rfl); done)))
          | (apply QL.gF; exact rfl; exact rfl; (focus (first | exact dec_true (show ((k : Nat) : Int) < (la.length : Int) by omega) | exact dec_false (fun h => h rfl); done)))
          | (apply W.condKT; exact rfl; (focus (first | exact dec_true (show ((k : Nat) : Int) < (la.length : Int) by omega) | exact dec_false (fun h => h rfl); done)))
          | (apply W.condKF; exact rfl; (focus (first | exact dec_true (show ((k : Nat) : Int) < (la.length : Int) by omega) | exact dec_false (fun h => h rfl); done)))
          | (apply WL.neqS tOk; exact rfl; exact rfl; exact rfl; exact rfl; exact rfl; exact rfl; exact rfl; exact factSy)
          | (apply QL.neqS tOk; exact rfl; exact rfl; exact rfl; exact rfl; exact rfl; exact rfl; exact rfl; exact factSy)
          | (show WL _ _ _ _ _ _ _; first | apply WL.nil | (refine WL.au (k := ?_)) | (apply WL.index tOk; exact rfl; exact rfl; exact rfl; exact rfl; exact rfl; exact rfl; exact rfl; exact rfl; assumption; (exact extA); exact rfl; omega; assumption; intro b off h; have hcc := h; first | (obtain ⟨h1, h2, h3, h4, h5, h6, _⟩ := h) | (obtain ⟨h1, h2, h3, _⟩ := h) | (obtain ⟨h1, h2, _⟩ := h) | (obtain ⟨h1, _⟩ := h)) | (apply WL.guardF; exact rfl; exact rfl) | (apply WL.gD; exact rfl; exact rfl; all_goals intro _) | (apply WL.gN; exact rfl; exact rfl; all_goals intro _) | (apply WL.gB; exact rfl; exact rfl; all_goals intro _))
          | (show QL _ _ _ _ _ _ _; first | apply QL.nil | (refine QL.au (k := ?_)) | (apply QL.index tOk; exact rfl; exact rfl; exact rfl; exact rfl; exact rfl; exact rfl; exact rfl; exact rfl; assumption; (exact extA); exact rfl; omega; assumption; intro b off h; have hcc := h; first | (obtain ⟨h1, h2, h3, h4, h5, h6, _⟩ := h) | (obtain ⟨h1, h2, h3, _⟩ := h) | (obtain ⟨h1, h2, _⟩ := h) | (obtain ⟨h1, _⟩ := h)) | (apply QL.guardF; exact rfl; exact rfl) | (apply QL.gD; exact rfl; exact rfl; all_goals intro _) | (apply QL.gN; exact rfl; exact rfl; all_goals intro _) | (apply QL.gB; exact rfl; exact rfl; all_goals intro _))
          | (show Z _ _ _ _ _; first | apply Z.tail | apply Z.then_normal | apply Z.block_normal | apply Z.then_exit | apply Z.block_exit | apply Z.then_ret | apply Z.block_ret | (apply Z.block_other; exact rfl))
          | (show W _ _ _ _ _ _; first | apply W.seq | apply W.region | apply W.block | apply W.skip | apply W.ret | apply W.exit | (apply W.condT; exact rfl) | (apply W.condF; exact rfl) | (apply W.condD; exact rfl; all_goals intro _) | (apply W.condN; exact rfl; all_goals intro _) | (apply W.condB; exact rfl; all_goals intro _) | (apply W.regionD tMix; kernel_rfl)))
        exact Z.again1 ⟨by omega, eq_snoc heq hx hy rfl⟩ ⟨rfl, rfl, rfl, rfl, trivial⟩
      · repeat' (first
          | (apply WL.gT; exact rfl; exact rfl; (focus (first | exact dec_true (show ((k : Nat) : Int) < (la.length : Int) by omega) | exact dec_true (ne_iff encY_inj hxy); done)))
          | (apply WL.gF; exact rfl; exact rfl; (focus (first | exact dec_true (show ((k : Nat) : Int) < (la.length : Int) by omega) | exact dec_true (ne_iff encY_inj hxy); done)))
          | (apply QL.gT; exact rfl; exact rfl; (focus (first | exact dec_true (show ((k : Nat) : Int) < (la.length : Int) by omega) | exact dec_true (ne_iff encY_inj hxy); done)))
          | (apply QL.gF; exact rfl; exact rfl; (focus (first | exact dec_true (show ((k : Nat) : Int) < (la.length : Int) by omega) | exact dec_true (ne_iff encY_inj hxy); done)))
          | (apply W.condKT; exact rfl; (focus (first | exact dec_true (show ((k : Nat) : Int) < (la.length : Int) by omega) | exact dec_true (ne_iff encY_inj hxy); done)))
          | (apply W.condKF; exact rfl; (focus (first | exact dec_true (show ((k : Nat) : Int) < (la.length : Int) by omega) | exact dec_true (ne_iff encY_inj hxy); done)))
          | (apply WL.neqS tOk; exact rfl; exact rfl; exact rfl; exact rfl; exact rfl; exact rfl; exact rfl; exact factSy)
          | (apply QL.neqS tOk; exact rfl; exact rfl; exact rfl; exact rfl; exact rfl; exact rfl; exact rfl; exact factSy)
          | (show WL _ _ _ _ _ _ _; first | apply WL.nil | (refine WL.au (k := ?_)) | (apply WL.index tOk; exact rfl; exact rfl; exact rfl; exact rfl; exact rfl; exact rfl; exact rfl; exact rfl; assumption; (exact extA); exact rfl; omega; assumption; intro b off h; have hcc := h; first | (obtain ⟨h1, h2, h3, h4, h5, h6, _⟩ := h) | (obtain ⟨h1, h2, h3, _⟩ := h) | (obtain ⟨h1, h2, _⟩ := h) | (obtain ⟨h1, _⟩ := h)) | (apply WL.guardF; exact rfl; exact rfl) | (apply WL.gD; exact rfl; exact rfl; all_goals intro _) | (apply WL.gN; exact rfl; exact rfl; all_goals intro _) | (apply WL.gB; exact rfl; exact rfl; all_goals intro _))
          | (show QL _ _ _ _ _ _ _; first | apply QL.nil | (refine QL.au (k := ?_)) | (apply QL.index tOk; exact rfl; exact rfl; exact rfl; exact rfl; exact rfl; exact rfl; exact rfl; exact rfl; assumption; (exact extA); exact rfl; omega; assumption; intro b off h; have hcc := h; first | (obtain ⟨h1, h2, h3, h4, h5, h6, _⟩ := h) | (obtain ⟨h1, h2, h3, _⟩ := h) | (obtain ⟨h1, h2, _⟩ := h) | (obtain ⟨h1, _⟩ := h)) | (apply QL.guardF; exact rfl; exact rfl) | (apply QL.gD; exact rfl; exact rfl; all_goals intro _) | (apply QL.gN; exact rfl; exact rfl; all_goals intro _) | (apply QL.gB; exact rfl; exact rfl; all_goals intro _))
          | (show Z _ _ _ _ _; first | apply Z.tail | apply Z.then_normal | apply Z.block_normal | apply Z.then_exit | apply Z.block_exit | apply Z.then_ret | apply Z.block_ret | (apply Z.block_other; exact rfl))
          | (show W _ _ _ _ _ _; first | apply W.seq | apply W.region | apply W.block | apply W.skip | apply W.ret | apply W.exit | (apply W.condT; exact rfl) | (apply W.condF; exact rfl) | (apply W.condD; exact rfl; all_goals intro _) | (apply W.condN; exact rfl; all_goals intro _) | (apply W.condB; exact rfl; all_goals intro _) | (apply W.regionD tMix; kernel_rfl)))
        exact Z.body1 Try.results89 rfl fun m => ⟨congrArg Value.bool (dec_false (ne_at hx hy hxy)).symm, m, rfl⟩
    · repeat' (first
        | (apply WL.gT; exact rfl; exact rfl; (focus (exact dec_false (by omega); done)))
        | (apply WL.gF; exact rfl; exact rfl; (focus (exact dec_false (by omega); done)))
        | (apply QL.gT; exact rfl; exact rfl; (focus (exact dec_false (by omega); done)))
        | (apply QL.gF; exact rfl; exact rfl; (focus (exact dec_false (by omega); done)))
        | (apply W.condKT; exact rfl; (focus (exact dec_false (by omega); done)))
        | (apply W.condKF; exact rfl; (focus (exact dec_false (by omega); done)))
        | (show WL _ _ _ _ _ _ _; first | apply WL.nil | (refine WL.au (k := ?_)) | (apply WL.index tOk; exact rfl; exact rfl; exact rfl; exact rfl; exact rfl; exact rfl; exact rfl; exact rfl; assumption; (exact extA); exact rfl; omega; assumption; intro b off h; have hcc := h; first | (obtain ⟨h1, h2, h3, h4, h5, h6, _⟩ := h) | (obtain ⟨h1, h2, h3, _⟩ := h) | (obtain ⟨h1, h2, _⟩ := h) | (obtain ⟨h1, _⟩ := h)) | (apply WL.guardF; exact rfl; exact rfl) | (apply WL.gD; exact rfl; exact rfl; all_goals intro _) | (apply WL.gN; exact rfl; exact rfl; all_goals intro _) | (apply WL.gB; exact rfl; exact rfl; all_goals intro _))
        | (show QL _ _ _ _ _ _ _; first | apply QL.nil | (refine QL.au (k := ?_)) | (apply QL.index tOk; exact rfl; exact rfl; exact rfl; exact rfl; exact rfl; exact rfl; exact rfl; exact rfl; assumption; (exact extA); exact rfl; omega; assumption; intro b off h; have hcc := h; first | (obtain ⟨h1, h2, h3, h4, h5, h6, _⟩ := h) | (obtain ⟨h1, h2, h3, _⟩ := h) | (obtain ⟨h1, h2, _⟩ := h) | (obtain ⟨h1, _⟩ := h)) | (apply QL.guardF; exact rfl; exact rfl) | (apply QL.gD; exact rfl; exact rfl; all_goals intro _) | (apply QL.gN; exact rfl; exact rfl; all_goals intro _) | (apply QL.gB; exact rfl; exact rfl; all_goals intro _))
        | (show Z _ _ _ _ _; first | apply Z.tail | apply Z.then_normal | apply Z.block_normal | apply Z.then_exit | apply Z.block_exit | apply Z.then_ret | apply Z.block_ret | (apply Z.block_other; exact rfl))
        | (show W _ _ _ _ _ _; first | apply W.seq | apply W.region | apply W.block | apply W.skip | apply W.ret | apply W.exit | (apply W.condT; exact rfl) | (apply W.condF; exact rfl) | (apply W.condD; exact rfl; all_goals intro _) | (apply W.condN; exact rfl; all_goals intro _) | (apply W.condB; exact rfl; all_goals intro _) | (apply W.regionD tMix; kernel_rfl)))
      exact Z.body1 Try.results89 rfl fun m => ⟨congrArg Value.bool (dec_true (eq_all heq hlen (by omega))).symm, m, rfl⟩
  · refine Spec.of _ Try.func89 rfl Try.ntmps89 (by kernel_rfl) rfl ?_
    repeat' (first
      | (apply WL.gT; exact rfl; exact rfl; (focus (exact dec_true (by omega); done)))
      | (apply WL.gF; exact rfl; exact rfl; (focus (exact dec_true (by omega); done)))
      | (apply QL.gT; exact rfl; exact rfl; (focus (exact dec_true (by omega); done)))
      | (apply QL.gF; exact rfl; exact rfl; (focus (exact dec_true (by omega); done)))
      | (apply W.condKT; exact rfl; (focus (exact dec_true (by omega); done)))
      | (apply W.condKF; exact rfl; (focus (exact dec_true (by omega); done)))
      | (show WL _ _ _ _ _ _ _; first | apply WL.nil | (refine WL.au (k := ?_)) | (apply WL.index tOk; exact rfl; exact rfl; exact rfl; exact rfl; exact rfl; exact rfl; exact rfl; exact rfl; assumption; (exact extA); exact rfl; omega; assumption; intro b off h; have hcc := h; first | (obtain ⟨h1, h2, h3, h4, h5, h6, _⟩ := h) | (obtain ⟨h1, h2, h3, _⟩ := h) | (obtain ⟨h1, h2, _⟩ := h) | (obtain ⟨h1, _⟩ := h)) | (apply WL.guardF; exact rfl; exact rfl) | (apply WL.gD; exact rfl; exact rfl; all_goals intro _) | (apply WL.gN; exact rfl; exact rfl; all_goals intro _) | (apply WL.gB; exact rfl; exact rfl; all_goals intro _))
      | (show QL _ _ _ _ _ _ _; first | apply QL.nil | (refine QL.au (k := ?_)) | (apply QL.index tOk; exact rfl; exact rfl; exact rfl; exact rfl; exact rfl; exact rfl; exact rfl; exact rfl; assumption; (exact extA); exact rfl; omega; assumption; intro b off h; have hcc := h; first | (obtain ⟨h1, h2, h3, h4, h5, h6, _⟩ := h) | (obtain ⟨h1, h2, h3, _⟩ := h) | (obtain ⟨h1, h2, _⟩ := h) | (obtain ⟨h1, _⟩ := h)) | (apply QL.guardF; exact rfl; exact rfl) | (apply QL.gD; exact rfl; exact rfl; all_goals intro _) | (apply QL.gN; exact rfl; exact rfl; all_goals intro _) | (apply QL.gB; exact rfl; exact rfl; all_goals intro _))
      | (show Z _ _ _ _ _; first | apply Z.tail | apply Z.then_normal | apply Z.block_normal | apply Z.then_exit | apply Z.block_exit | apply Z.then_ret | apply Z.block_ret | (apply Z.block_other; exact rfl))
      | (show W _ _ _ _ _ _; first | apply W.seq | apply W.region | apply W.block | apply W.skip | apply W.ret | apply W.exit | (apply W.condT; exact rfl) | (apply W.condF; exact rfl) | (apply W.condD; exact rfl; all_goals intro _) | (apply W.condN; exact rfl; all_goals intro _) | (apply W.condB; exact rfl; all_goals intro _) | (apply W.regionD tMix; kernel_rfl)))
    exact Z.body1 Try.results89 rfl fun m => ⟨congrArg Value.bool (dec_false (fun h => hlen (by rw [h]))).symm, m, rfl⟩
theorem clone_L (a : Option Addr) (cap : Nat) (l : List T3) (w : World) (R : Row 3 enc3 w a l) (hna : a = none → cap = 0) (hl : l.length ≤ 1048576) :
    Lt.Spec Try.prog 91 [.slice a l.length cap] w (IsFresh 3 enc3 58 w l) := by
  by_cases ha : a = none
  · subst ha
    have hl0 : l = [] := by
      cases l with
      | nil => rfl
      | cons x r => obtain ⟨b, off, h1, _⟩ := R.elem 0 x rfl; cases h1
    subst hl0
    refine Spec.of _ Try.func91 rfl Try.ntmps91 (by kernel_rfl) rfl ?_
    repeat' (first
      | (apply WL.eqSl tOk; exact rfl; exact rfl; exact rfl; exact rfl; exact rfl; exact rfl)
      | (apply WL.neSl tOk; exact rfl; exact rfl; exact rfl; exact rfl; exact rfl; exact rfl)
      | (apply WL.gT; exact rfl; exact rfl; (focus (exact dec_true rfl; done)))
      | (apply WL.gF; exact rfl; exact rfl; (focus (exact dec_true rfl; done)))
      | (apply W.condKT; exact rfl; (focus (exact dec_true rfl; done)))
      | (apply W.condKF; exact rfl; (focus (exact dec_true rfl; done)))
      | (show WL _ _ _ _ _ _ _; first | apply WL.nil | (refine WL.au (k := ?_)) | (apply WL.index tOk; exact rfl; exact rfl; exact rfl; exact rfl; exact rfl; exact rfl; exact rfl; exact rfl; assumption; (exact extA); exact rfl; omega; assumption; intro b off h; have hcc := h; first | (obtain ⟨h1, h2, h3, h4, h5, h6, _⟩ := h) | (obtain ⟨h1, h2, h3, _⟩ := h) | (obtain ⟨h1, h2, _⟩ := h) | (obtain ⟨h1, _⟩ := h)) | (apply WL.guardF; exact rfl; exact rfl) | (apply WL.gD; exact rfl; exact rfl; all_goals intro _) | (apply WL.gN; exact rfl; exact rfl; all_goals intro _) | (apply WL.gB; exact rfl; exact rfl; all_goals intro _))
      | (show Z _ _ _ _ _; first | apply Z.tail | apply Z.then_normal | apply Z.block_normal | apply Z.then_exit | apply Z.block_exit | apply Z.then_ret | apply Z.block_ret | (apply Z.block_other; exact rfl))
      | (show W _ _ _ _ _ _; first | apply W.seq | apply W.region | apply W.block | apply W.skip | apply W.ret | apply W.exit | (apply W.condT; exact rfl) | (apply W.condF; exact rfl) | (apply W.condD; exact rfl; all_goals intro _) | (apply W.condN; exact rfl; all_goals intro _) | (apply W.condB; exact rfl; all_goals intro _)))
    exact Z.body1 Try.results91 rfl fun m => ⟨(Ext.refl _).at m, none, 0, rfl, Own.nil⟩
  · refine Spec.of _ Try.func91 rfl Try.ntmps91 (by kernel_rfl) rfl ?_
    repeat' (first
      | (apply WL.eqSl tOk; exact rfl; exact rfl; exact rfl; exact rfl; exact rfl; exact rfl)
      | (apply WL.neSl tOk; exact rfl; exact rfl; exact rfl; exact rfl; exact rfl; exact rfl)
      | (apply WL.gT; exact rfl; exact rfl; (focus (exact dec_false ha; done)))
      | (apply WL.gF; exact rfl; exact rfl; (focus (exact dec_false ha; done)))
      | (apply W.condKT; exact rfl; (focus (exact dec_false ha; done)))
      | (apply W.condKF; exact rfl; (focus (exact dec_false ha; done)))
      | (apply WL.lit (len := 0) tOk; exact rfl; exact rfl; exact rfl; exact rfl; exact rfl; exact rfl; (first | exact rfl | kernel_rfl | (simp [Instr.fill, catCells]; done)); exact rfl; intro gb w' hb hge hc hx; have hO0 := Own.of_block0 (enc := enc3) (s := 3) hb hge)
      | (apply WL.appendS tOk enc3_ok; exact rfl; exact rfl; exact rfl; exact rfl; exact rfl; exact rfl; exact rfl; exact rfl; exact rfl; exact rfl; assumption; (exact extA); (first | exact rfl | (focus (simp only [List.length_set]; done)) | (focus (simp; done)) | (focus (simp [*]; done)) | omega | (focus (simp only [List.length_set]; omega))); assumption; (exact extA); (first | exact rfl | (focus (simp only [List.length_set]; done)) | (focus (simp; done)) | (focus (simp [*]; done)) | omega | (focus (simp only [List.length_set]; omega))); (first | assumption | (intro h; cases h) | exact Own.noneCap (by assumption)); exact rfl; (exact extA); (first | omega | (simp; omega) | (simp at *; omega)); intro a' cap' w' hO hX' hU hF)
      | (show WL _ _ _ _ _ _ _; first | apply WL.nil | (refine WL.au (k := ?_)) | (apply WL.index tOk; exact rfl; exact rfl; exact rfl; exact rfl; exact rfl; exact rfl; exact rfl; exact rfl; assumption; (exact extA); exact rfl; omega; assumption; intro b off h; have hcc := h; first | (obtain ⟨h1, h2, h3, h4, h5, h6, _⟩ := h) | (obtain ⟨h1, h2, h3, _⟩ := h) | (obtain ⟨h1, h2, _⟩ := h) | (obtain ⟨h1, _⟩ := h)) | (apply WL.guardF; exact rfl; exact rfl) | (apply WL.gD; exact rfl; exact rfl; all_goals intro _) | (apply WL.gN; exact rfl; exact rfl; all_goals intro _) | (apply WL.gB; exact rfl; exact rfl; all_goals intro _))
      | (show Z _ _ _ _ _; first | apply Z.tail | apply Z.then_normal | apply Z.block_normal | apply Z.then_exit | apply Z.block_exit | apply Z.then_ret | apply Z.block_ret | (apply Z.block_other; exact rfl))
      | (show W _ _ _ _ _ _; first | apply W.seq | apply W.region | apply W.block | apply W.skip | apply W.ret | apply W.exit | (apply W.condT; exact rfl) | (apply W.condF; exact rfl) | (apply W.condD; exact rfl; all_goals intro _) | (apply W.condN; exact rfl; all_goals intro _) | (apply W.condB; exact rfl; all_goals intro _)))
    exact Z.body1 Try.results91 rfl fun m => ⟨Ext.at (by (exact extA)) m, a', cap', by rw [List.nil_append], by rw [List.nil_append] at hO; exact hO⟩
theorem clone_G (a : Option Addr) (cap : Nat) (l : List T3) (w : World) (R : Row 3 enc3 w a l) (hna : a = none → cap = 0) (hl : l.length ≤ 1048576) :
    Lt.Spec Try.prog 92 [.slice a l.length cap] w (IsFresh 3 enc3 60 w l) := by
  by_cases ha : a = none
  · subst ha
    have hl0 : l = [] := by
      cases l with
      | nil => rfl
      | cons x r => obtain ⟨b, off, h1, _⟩ := R.elem 0 x rfl; cases h1
    subst hl0
    refine Spec.of _ Try.func92 rfl Try.ntmps92 (by kernel_rfl) rfl ?_
    repeat' (first
      | (apply WL.eqSl tOk; exact rfl; exact rfl; exact rfl; exact rfl; exact rfl; exact rfl)
      | (apply WL.neSl tOk; exact rfl; exact rfl; exact rfl; exact rfl; exact rfl; exact rfl)
      | (apply WL.gT; exact rfl; exact rfl; (focus (exact dec_true rfl; done)))
      | (apply WL.gF; exact rfl; exact rfl; (focus (exact dec_true rfl; done)))
      | (apply W.condKT; exact rfl; (focus (exact dec_true rfl; done)))
      | (apply W.condKF; exact rfl; (focus (exact dec_true rfl; done)))
      | (show WL _ _ _ _ _ _ _; first | apply WL.nil | (refine WL.au (k := ?_)) | (apply WL.index tOk; exact rfl; exact rfl; exact rfl; exact rfl; exact rfl; exact rfl; exact rfl; exact rfl; assumption; (exact extA); exact rfl; omega; assumption; intro b off h; have hcc := h; first | (obtain ⟨h1, h2, h3, h4, h5, h6, _⟩ := h) | (obtain ⟨h1, h2, h3, _⟩ := h) | (obtain ⟨h1, h2, _⟩ := h) | (obtain ⟨h1, _⟩ := h)) | (apply WL.guardF; exact rfl; exact rfl) | (apply WL.gD; exact rfl; exact rfl; all_goals intro _) | (apply WL.gN; exact rfl; exact rfl; all_goals intro _) | (apply WL.gB; exact rfl; exact rfl; all_goals intro _))
      | (show Z _ _ _ _ _; first | apply Z.tail | apply Z.then_normal | apply Z.block_normal | apply Z.then_exit | apply Z.block_exit | apply Z.then_ret | apply Z.block_ret | (apply Z.block_other; exact rfl))
      | (show W _ _ _ _ _ _; first | apply W.seq | apply W.region | apply W.block | apply W.skip | apply W.ret | apply W.exit | (apply W.condT; exact rfl) | (apply W.condF; exact rfl) | (apply W.condD; exact rfl; all_goals intro _) | (apply W.condN; exact rfl; all_goals intro _) | (apply W.condB; exact rfl; all_goals intro _)))
    exact Z.body1 Try.results92 rfl fun m => ⟨(Ext.refl _).at m, none, 0, rfl, Own.nil⟩
  · refine Spec.of _ Try.func92 rfl Try.ntmps92 (by kernel_rfl) rfl ?_
    repeat' (first
      | (apply WL.eqSl tOk; exact rfl; exact rfl; exact rfl; exact rfl; exact rfl; exact rfl)
      | (apply WL.neSl tOk; exact rfl; exact rfl; exact rfl; exact rfl; exact rfl; exact rfl)
      | (apply WL.gT; exact rfl; exact rfl; (focus (exact dec_false ha; done)))
      | (apply WL.gF; exact rfl; exact rfl; (focus (exact dec_false ha; done)))
      | (apply W.condKT; exact rfl; (focus (exact dec_false ha; done)))
      | (apply W.condKF; exact rfl; (focus (exact dec_false ha; done)))
      | (apply WL.lit (len := 0) tOk; exact rfl; exact rfl; exact rfl; exact rfl; exact rfl; exact rfl; (first | exact rfl | kernel_rfl | (simp [Instr.fill, catCells]; done)); exact rfl; intro gb w' hb hge hc hx; have hO0 := Own.of_block0 (enc := enc3) (s := 3) hb hge)
      | (apply WL.appendS tOk enc3_ok; exact rfl; exact rfl; exact rfl; exact rfl; exact rfl; exact rfl; exact rfl; exact rfl; exact rfl; exact rfl; assumption; (exact extA); (first | exact rfl | (focus (simp only [List.length_set]; done)) | (focus (simp; done)) | (focus (simp [*]; done)) | omega | (focus (simp only [List.length_set]; omega))); assumption; (exact extA); (first | exact rfl | (focus (simp only [List.length_set]; done)) | (focus (simp; done)) | (focus (simp [*]; done)) | omega | (focus (simp only [List.length_set]; omega))); (first | assumption | (intro h; cases h) | exact Own.noneCap (by assumption)); exact rfl; (exact extA); (first | omega | (simp; omega) | (simp at *; omega)); intro a' cap' w' hO hX' hU hF)
      | (show WL _ _ _ _ _ _ _; first | apply WL.nil | (refine WL.au (k := ?_)) | (apply WL.index tOk; exact rfl; exact rfl; exact rfl; exact rfl; exact rfl; exact rfl; exact rfl; exact rfl; assumption; (exact extA); exact rfl; omega; assumption; intro b off h; have hcc := h; first | (obtain ⟨h1, h2, h3, h4, h5, h6, _⟩ := h) | (obtain ⟨h1, h2, h3, _⟩ := h) | (obtain ⟨h1, h2, _⟩ := h) | (obtain ⟨h1, _⟩ := h)) | (apply WL.guardF; exact rfl; exact rfl) | (apply WL.gD; exact rfl; exact rfl; all_goals intro _) | (apply WL.gN; exact rfl; exact rfl; all_goals intro _) | (apply WL.gB; exact rfl; exact rfl; all_goals intro _))
      | (show Z _ _ _ _ _; first | apply Z.tail | apply Z.then_normal | apply Z.block_normal | apply Z.then_exit | apply Z.block_exit | apply Z.then_ret | apply Z.block_ret | (apply Z.block_other; exact rfl))
      | (show W _ _ _ _ _ _; first | apply W.seq | apply W.region | apply W.block | apply W.skip | apply W.ret | apply W.exit | (apply W.condT; exact rfl) | (apply W.condF; exact rfl) | (apply W.condD; exact rfl; all_goals intro _) | (apply W.condN; exact rfl; all_goals intro _) | (apply W.condB; exact rfl; all_goals intro _)))
    exact Z.body1 Try.results92 rfl fun m => ⟨Ext.at (by (exact extA)) m, a', cap', by rw [List.nil_append], by rw [List.nil_append] at hO; exact hO⟩
theorem clone_Y (a : Option Addr) (cap : Nat) (l : List Sy) (w : World) (R : Row 3 encY w a l) (hna : a = none → cap = 0) (hl : l.length ≤ 1048576) :
    Lt.Spec Try.prog 93 [.slice a l.length cap] w (IsFresh 3 encY 109 w l) := by
  by_cases ha : a = none
  · subst ha
    have hl0 : l = [] := by
      cases l with
      | nil => rfl
      | cons x r => obtain ⟨b, off, h1, _⟩ := R.elem 0 x rfl; cases h1
    subst hl0
    refine Spec.of _ Try.func93 rfl Try.ntmps93 (by kernel_rfl) rfl ?_
    repeat' (first
      | (apply WL.eqSl tOk; exact rfl; exact rfl; exact rfl; exact rfl; exact rfl; exact rfl)
      | (apply WL.neSl tOk; exact rfl; exact rfl; exact rfl; exact rfl; exact rfl; exact rfl)
      | (apply WL.gT; exact rfl; exact rfl; (focus (exact dec_true rfl; done)))
      | (apply WL.gF; exact rfl; exact rfl; (focus (exact dec_true rfl; done)))
      | (apply W.condKT; exact rfl; (focus (exact dec_true rfl; done)))
      | (apply W.condKF; exact rfl; (focus (exact dec_true rfl; done)))
      | (show WL _ _ _ _ _ _ _; first | apply WL.nil | (refine WL.au (k := ?_)) | (apply WL.index tOk; exact rfl; exact rfl; exact rfl; exact rfl; exact rfl; exact rfl; exact rfl; exact rfl; assumption; (exact extA); exact rfl; omega; assumption; intro b off h; have hcc := h; first | (obtain ⟨h1, h2, h3, h4, h5, h6, _⟩ := h) | (obtain ⟨h1, h2, h3, _⟩ := h) | (obtain ⟨h1, h2, _⟩ := h) | (obtain ⟨h1, _⟩ := h)) | (apply WL.guardF; exact rfl; exact rfl) | (apply WL.gD; exact rfl; exact rfl; all_goals intro _) | (apply WL.gN; exact rfl; exact rfl; all_goals intro _) | (apply WL.gB; exact rfl; exact rfl; all_goals intro _))
      | (show Z _ _ _ _ _; first | apply Z.tail | apply Z.then_normal | apply Z.block_normal | apply Z.then_exit | apply Z.block_exit | apply Z.then_ret | apply Z.block_ret | (apply Z.block_other; exact rfl))
      | (show W _ _ _ _ _ _; first | apply W.seq | apply W.region | apply W.block | apply W.skip | apply W.ret | apply W.exit | (apply W.condT; exact rfl) | (apply W.condF; exact rfl) | (apply W.condD; exact rfl; all_goals intro _) | (apply W.condN; exact rfl; all_goals intro _) | (apply W.condB; exact rfl; all_goals intro _)))
    exact Z.body1 Try.results93 rfl fun m => ⟨(Ext.refl _).at m, none, 0, rfl, Own.nil⟩
  · refine Spec.of _ Try.func93 rfl Try.ntmps93 (by kernel_rfl) rfl ?_
    repeat' (first
      | (apply WL.eqSl tOk; exact rfl; exact rfl; exact rfl; exact rfl; exact rfl; exact rfl)
      | (apply WL.neSl tOk; exact rfl; exact rfl; exact rfl; exact rfl; exact rfl; exact rfl)
      | (apply WL.gT; exact rfl; exact rfl; (focus (exact dec_false ha; done)))
      | (apply WL.gF; exact rfl; exact rfl; (focus (exact dec_false ha; done)))
      | (apply W.condKT; exact rfl; (focus (exact dec_false ha; done)))
      | (apply W.condKF; exact rfl; (focus (exact dec_false ha; done)))
      | (apply WL.lit (len := 0) tOk; exact rfl; exact rfl; exact rfl; exact rfl; exact rfl; exact rfl; (first | exact rfl | kernel_rfl | (simp [Instr.fill, catCells]; done)); exact rfl; intro gb w' hb hge hc hx; have hO0 := Own.of_block0 (enc := encY) (s := 3) hb hge)
      | (apply WL.appendS tOk encY_ok; exact rfl; exact rfl; exact rfl; exact rfl; exact rfl; exact rfl; exact rfl; exact rfl; exact rfl; exact rfl; assumption; (exact extA); (first | exact rfl | (focus (simp only [List.length_set]; done)) | (focus (simp; done)) | (focus (simp [*]; done)) | omega | (focus (simp only [List.length_set]; omega))); assumption; (exact extA); (first | exact rfl | (focus (simp only [List.length_set]; done)) | (focus (simp; done)) | (focus (simp [*]; done)) | omega | (focus (simp only [List.length_set]; omega))); (first | assumption | (intro h; cases h) | exact Own.noneCap (by assumption)); exact rfl; (exact extA); (first | omega | (simp; omega) | (simp at *; omega)); intro a' cap' w' hO hX' hU hF)
      | (show WL _ _ _ _ _ _ _; first | apply WL.nil | (refine WL.au (k := ?_)) | (apply WL.index tOk; exact rfl; exact rfl; exact rfl; exact rfl; exact rfl; exact rfl; exact rfl; exact rfl; assumption; (exact extA); exact rfl; omega; assumption; intro b off h; have hcc := h; first | (obtain ⟨h1, h2, h3, h4, h5, h6, _⟩ := h) | (obtain ⟨h1, h2, h3, _⟩ := h) | (obtain ⟨h1, h2, _⟩ := h) | (obtain ⟨h1, _⟩ := h)) | (apply WL.guardF; exact rfl; exact rfl) | (apply WL.gD; exact rfl; exact rfl; all_goals intro _) | (apply WL.gN; exact rfl; exact rfl; all_goals intro _) | (apply WL.gB; exact rfl; exact rfl; all_goals intro _))
      | (show Z _ _ _ _ _; first | apply Z.tail | apply Z.then_normal | apply Z.block_normal | apply Z.then_exit | apply Z.block_exit | apply Z.then_ret | apply Z.block_ret | (apply Z.block_other; exact rfl))
      | (show W _ _ _ _ _ _; first | apply W.seq | apply W.region | apply W.block | apply W.skip | apply W.ret | apply W.exit | (apply W.condT; exact rfl) | (apply W.condF; exact rfl) | (apply W.condD; exact rfl; all_goals intro _) | (apply W.condN; exact rfl; all_goals intro _) | (apply W.condB; exact rfl; all_goals intro _)))
    exact Z.body1 Try.results93 rfl fun m => ⟨Ext.at (by (exact extA)) m, a', cap', by rw [List.nil_append], by rw [List.nil_append] at hO; exact hO⟩
end Go.Proofs.Ytmaekaflpbenmaa
namespace Go.Lt
open Go.RowKit
set_option linter.unusedVariables false
set_option linter.unusedSimpArgs false
section
variable {P : Program} {T : Tab} {e : Env} {dd : Option Tmp} {tt ty t : TypeId} {x y : Operand} {ps : String} {af : Array Edge} {g : Option (Nat × Bool)} {i : TI} {u v : ByteArray}
theorem loop_eq (u : ByteArray) : ∀ (n i : Nat) (r : List UInt8), u.size - i = n → ByteArray.toList.loop u i r = r.reverse ++ u.data.toList.drop i := by
  intro n
  induction n with
  | zero =>
    intro i r h
    unfold ByteArray.toList.loop
    rw [if_neg (by omega), List.drop_eq_nil_of_le (by show u.data.size ≤ i; have : u.size = u.data.size := rfl; omega), List.append_nil]
  | succ n ih =>
    intro i r h
    unfold ByteArray.toList.loop
    have hi : i < u.data.toList.length := by show i < u.data.size; have : u.size = u.data.size := rfl; omega
    rw [if_pos (by omega), ih (i + 1) _ (by omega), List.reverse_cons, List.append_assoc, List.drop_eq_getElem_cons hi]
    congr 1
    rw [List.singleton_append]
    congr 1
    show u.data[i]! = u.data.toList[i]
    have hi2 : i < u.data.size := hi
    rw [getElem!_pos u.data i hi2]; rfl
theorem bytesL (u : ByteArray) : u.toList = u.data.toList := by
  unfold ByteArray.toList
  rw [loop_eq u u.size 0 [] rfl]; rfl
theorem bytesL_inj {u v : ByteArray} (h : u.toList = v.toList) : u = v := by
  rw [bytesL, bytesL] at h
  exact ByteArray.ext (Array.ext' h)
theorem yeqStr (hT : OkTab P T) (hx : ev e x = some (.string u)) (hy : ev e y = some (.string v)) (ht : tget T t = some i) (hd : i.desc = .string) : Yields P e ⟨dd, .binOp .eql t x y ty, tt, ps, af, g⟩ (.bool (dec (u = v))) := by
  intro ρ hρ w
  have h1 : (eqGuard .eql t x y (.string u) (.string v)).run P w = .ok () w := by simp [eqGuard]
  have h2 : (binOp .eql t (.string u) (.string v)).run P w = .ok (.bool (dec (u = v))) w := by
    by_cases h : u = v
    · subst h; rw [dec_true rfl]; simp [binOp, Op.stringOp]
    · rw [dec_false h]; have hh : ¬ u.toList = v.toList := fun q => h (bytesL_inj q); simp [binOp, Op.stringOp, hh]
  simp [execOp, hρ _ _ hx, hρ _ _ hy, h1, h2]
theorem yneStr (hT : OkTab P T) (hx : ev e x = some (.string u)) (hy : ev e y = some (.string v)) (ht : tget T t = some i) (hd : i.desc = .string) : Yields P e ⟨dd, .binOp .neq t x y ty, tt, ps, af, g⟩ (.bool (dec (u ≠ v))) := by
  intro ρ hρ w
  have h1 : (eqGuard .neq t x y (.string u) (.string v)).run P w = .ok () w := by simp [eqGuard]
  have h3 : (!dec (u = v)) = dec (u ≠ v) := by
    by_cases hh : u = v
    · rw [dec_true hh, dec_false (fun h => h hh)]; rfl
    · rw [dec_false hh, dec_true hh]; rfl
  have h2 : (binOp .neq t (.string u) (.string v)).run P w = .ok (.bool (dec (u ≠ v))) w := by
    by_cases h : u = v
    · subst h; rw [dec_false (fun h => h rfl)]; simp [binOp, Op.stringOp]
    · rw [dec_true h]; have hh : ¬ u.toList = v.toList := fun q => h (bytesL_inj q); simp [binOp, Op.stringOp, hh]
  simp [execOp, hρ _ _ hx, hρ _ _ hy, h1, h2]
variable {N d : Nat} {w : World} {Q : Exit → Act → World → Prop} {C : World → Prop} {ops l : List Oper}
theorem WL.eqStr (hT : OkTab P T) (hg : gate ops e g = some true) (hd : Nat.blt d N = true) (hx : ev e x = some (.string u)) (hy : ev e y = some (.string v)) (ht : tget T t = some i) (htd : i.desc = .string) (k : WL P N ops.toArray l ((d, .bool (dec (u = v))) :: e) w Q) : WL P N ops.toArray (⟨some d, .binOp .eql t x y ty, tt, ps, af, g⟩ :: l) e w Q := WL.step hg hd (yeqStr hT hx hy ht htd).in k
theorem WL.neStr (hT : OkTab P T) (hg : gate ops e g = some true) (hd : Nat.blt d N = true) (hx : ev e x = some (.string u)) (hy : ev e y = some (.string v)) (ht : tget T t = some i) (htd : i.desc = .string) (k : WL P N ops.toArray l ((d, .bool (dec (u ≠ v))) :: e) w Q) : WL P N ops.toArray (⟨some d, .binOp .neq t x y ty, tt, ps, af, g⟩ :: l) e w Q := WL.step hg hd (yneStr hT hx hy ht htd).in k
theorem QL.eqStr (hT : OkTab P T) (hg : gate ops e g = some true) (hd : Nat.blt d N = true) (hx : ev e x = some (.string u)) (hy : ev e y = some (.string v)) (ht : tget T t = some i) (htd : i.desc = .string) (k : QL P N C ops.toArray l ((d, .bool (dec (u = v))) :: e) Q) : QL P N C ops.toArray (⟨some d, .binOp .eql t x y ty, tt, ps, af, g⟩ :: l) e Q := QL.step hg hd (yeqStr hT hx hy ht htd).in k
theorem QL.neStr (hT : OkTab P T) (hg : gate ops e g = some true) (hd : Nat.blt d N = true) (hx : ev e x = some (.string u)) (hy : ev e y = some (.string v)) (ht : tget T t = some i) (htd : i.desc = .string) (k : QL P N C ops.toArray l ((d, .bool (dec (u ≠ v))) :: e) Q) : QL P N C ops.toArray (⟨some d, .binOp .neq t x y ty, tt, ps, af, g⟩ :: l) e Q := QL.step hg hd (yneStr hT hx hy ht htd).in k
end
end Go.Lt
namespace Go.Proofs.Ytmaekaflpbenmaa
open Go Go.Lt Go.RowKit
set_option linter.unusedVariables false
set_option linter.unusedSimpArgs false
set_option maxRecDepth 20000

set_option maxHeartbeats 32000000 in
set_option maxRecDepth 20000 in
theorem circ_Same (a b : Circ) (w : World) (hCa : CAt w a) (hCb : CAt w b) : Pure Try.prog 38 [a.val, b.val] w (.bool (dec (a.t = b.t))) := by
  by_cases e0 : a.max = b.max
  rotate_left
  · skip
    refine Spec.of _ Try.func38 rfl Try.ntmps38 (by kernel_rfl) rfl ?_
    repeat' (first
      | (apply WL.box; exact rfl; exact rfl; exact rfl; intro gb w' hb hge hc hx; have hcc := hc; (first | (obtain ⟨h1, h2, h3, _⟩ := hc) | (obtain ⟨h1, h2, _⟩ := hc)); (first | (have h_0 := xA0; clear h_0; have hB := hcc; obtain ⟨xB0, xB1, xB2, xB3, xB4, xB5, xB6, xB7, xB8, _⟩ := hcc; (obtain ⟨gB, rfl⟩ : ∃ x, x = gb := ⟨_, rfl⟩; obtain ⟨wB, rfl⟩ : ∃ x, x = w' := ⟨_, rfl⟩; obtain ⟨hxB, rfl⟩ : ∃ x, x = hx := ⟨_, rfl⟩)) | (have hA := hcc; obtain ⟨xA0, xA1, xA2, xA3, xA4, xA5, xA6, xA7, xA8, _⟩ := hcc; (obtain ⟨gA, rfl⟩ : ∃ x, x = gb := ⟨_, rfl⟩; obtain ⟨wA, rfl⟩ : ∃ x, x = w' := ⟨_, rfl⟩; obtain ⟨hxA, rfl⟩ : ∃ x, x = hx := ⟨_, rfl⟩))))
      | (apply WL.eqStr tOk; exact rfl; exact rfl; exact rfl; exact rfl; exact rfl; exact rfl)
      | (apply WL.neStr tOk; exact rfl; exact rfl; exact rfl; exact rfl; exact rfl; exact rfl)
      | (apply WL.gT; exact rfl; exact rfl; (focus (first | exact dec_false e0; done)))
      | (apply WL.gF; exact rfl; exact rfl; (focus (first | exact dec_false e0; done)))
      | (apply W.condKT; exact rfl; (focus (first | exact dec_false e0; done)))
      | (apply W.condKF; exact rfl; (focus (first | exact dec_false e0; done)))
      | (show WL _ _ _ _ _ _ _; first | apply WL.nil | (refine WL.au (k := ?_)) | (apply WL.index tOk; exact rfl; exact rfl; exact rfl; exact rfl; exact rfl; exact rfl; exact rfl; exact rfl; assumption; (exact extA); exact rfl; omega; assumption; intro b off h; have hcc := h; first | (obtain ⟨h1, h2, h3, h4, h5, h6, _⟩ := h) | (obtain ⟨h1, h2, h3, _⟩ := h) | (obtain ⟨h1, h2, _⟩ := h) | (obtain ⟨h1, _⟩ := h)) | (apply WL.guardF; exact rfl; exact rfl) | (apply WL.gD; exact rfl; exact rfl; all_goals intro _) | (apply WL.gN; exact rfl; exact rfl; all_goals intro _) | (apply WL.gB; exact rfl; exact rfl; all_goals intro _))
      | (show Z _ _ _ _ _; first | apply Z.tail | apply Z.then_normal | apply Z.block_normal | apply Z.then_exit | apply Z.block_exit | apply Z.then_ret | apply Z.block_ret | (apply Z.block_other; exact rfl))
      | (show W _ _ _ _ _ _; first | apply W.seq | apply W.region | apply W.block | apply W.skip | apply W.ret | apply W.exit | (apply W.condT; exact rfl) | (apply W.condF; exact rfl) | (apply W.condD; exact rfl; all_goals intro _) | (apply W.condN; exact rfl; all_goals intro _) | (apply W.condB; exact rfl; all_goals intro _)))
    exact Z.body1 Try.results38 rfl fun m => ⟨congrArg Value.bool (by rw [dec_false (show ¬ a.t = b.t from fun h => e0 (congrArg CirT.max h))] <;> exact dec_false e0), Ext.at (by (exact extA)) m⟩
  by_cases e1 : a.com = b.com
  rotate_left
  · skip
    refine Spec.of _ Try.func38 rfl Try.ntmps38 (by kernel_rfl) rfl ?_
    repeat' (first
      | (apply WL.box; exact rfl; exact rfl; exact rfl; intro gb w' hb hge hc hx; have hcc := hc; (first | (obtain ⟨h1, h2, h3, _⟩ := hc) | (obtain ⟨h1, h2, _⟩ := hc)); (first | (have h_0 := xA0; clear h_0; have hB := hcc; obtain ⟨xB0, xB1, xB2, xB3, xB4, xB5, xB6, xB7, xB8, _⟩ := hcc; (obtain ⟨gB, rfl⟩ : ∃ x, x = gb := ⟨_, rfl⟩; obtain ⟨wB, rfl⟩ : ∃ x, x = w' := ⟨_, rfl⟩; obtain ⟨hxB, rfl⟩ : ∃ x, x = hx := ⟨_, rfl⟩)) | (have hA := hcc; obtain ⟨xA0, xA1, xA2, xA3, xA4, xA5, xA6, xA7, xA8, _⟩ := hcc; (obtain ⟨gA, rfl⟩ : ∃ x, x = gb := ⟨_, rfl⟩; obtain ⟨wA, rfl⟩ : ∃ x, x = w' := ⟨_, rfl⟩; obtain ⟨hxA, rfl⟩ : ∃ x, x = hx := ⟨_, rfl⟩))))
      | (apply WL.eqStr tOk; exact rfl; exact rfl; exact rfl; exact rfl; exact rfl; exact rfl)
      | (apply WL.neStr tOk; exact rfl; exact rfl; exact rfl; exact rfl; exact rfl; exact rfl)
      | (apply WL.gT; exact rfl; exact rfl; (focus (first | exact dec_true e0 | exact dec_false e1; done)))
      | (apply WL.gF; exact rfl; exact rfl; (focus (first | exact dec_true e0 | exact dec_false e1; done)))
      | (apply W.condKT; exact rfl; (focus (first | exact dec_true e0 | exact dec_false e1; done)))
      | (apply W.condKF; exact rfl; (focus (first | exact dec_true e0 | exact dec_false e1; done)))
      | (show WL _ _ _ _ _ _ _; first | apply WL.nil | (refine WL.au (k := ?_)) | (apply WL.index tOk; exact rfl; exact rfl; exact rfl; exact rfl; exact rfl; exact rfl; exact rfl; exact rfl; assumption; (exact extA); exact rfl; omega; assumption; intro b off h; have hcc := h; first | (obtain ⟨h1, h2, h3, h4, h5, h6, _⟩ := h) | (obtain ⟨h1, h2, h3, _⟩ := h) | (obtain ⟨h1, h2, _⟩ := h) | (obtain ⟨h1, _⟩ := h)) | (apply WL.guardF; exact rfl; exact rfl) | (apply WL.gD; exact rfl; exact rfl; all_goals intro _) | (apply WL.gN; exact rfl; exact rfl; all_goals intro _) | (apply WL.gB; exact rfl; exact rfl; all_goals intro _))
      | (show Z _ _ _ _ _; first | apply Z.tail | apply Z.then_normal | apply Z.block_normal | apply Z.then_exit | apply Z.block_exit | apply Z.then_ret | apply Z.block_ret | (apply Z.block_other; exact rfl))
      | (show W _ _ _ _ _ _; first | apply W.seq | apply W.region | apply W.block | apply W.skip | apply W.ret | apply W.exit | (apply W.condT; exact rfl) | (apply W.condF; exact rfl) | (apply W.condD; exact rfl; all_goals intro _) | (apply W.condN; exact rfl; all_goals intro _) | (apply W.condB; exact rfl; all_goals intro _)))
    exact Z.body1 Try.results38 rfl fun m => ⟨congrArg Value.bool (by rw [dec_false (show ¬ a.t = b.t from fun h => e1 (congrArg CirT.com h))] <;> exact dec_false e1), Ext.at (by (exact extA)) m⟩
  by_cases e2 : a.ins.2.2 = b.ins.2.2
  rotate_left
  · skip
    refine Spec.of _ Try.func38 rfl Try.ntmps38 (by kernel_rfl) rfl ?_
    repeat' (first
      | (apply WL.box; exact rfl; exact rfl; exact rfl; intro gb w' hb hge hc hx; have hcc := hc; (first | (obtain ⟨h1, h2, h3, _⟩ := hc) | (obtain ⟨h1, h2, _⟩ := hc)); (first | (have h_0 := xA0; clear h_0; have hB := hcc; obtain ⟨xB0, xB1, xB2, xB3, xB4, xB5, xB6, xB7, xB8, _⟩ := hcc; (obtain ⟨gB, rfl⟩ : ∃ x, x = gb := ⟨_, rfl⟩; obtain ⟨wB, rfl⟩ : ∃ x, x = w' := ⟨_, rfl⟩; obtain ⟨hxB, rfl⟩ : ∃ x, x = hx := ⟨_, rfl⟩)) | (have hA := hcc; obtain ⟨xA0, xA1, xA2, xA3, xA4, xA5, xA6, xA7, xA8, _⟩ := hcc; (obtain ⟨gA, rfl⟩ : ∃ x, x = gb := ⟨_, rfl⟩; obtain ⟨wA, rfl⟩ : ∃ x, x = w' := ⟨_, rfl⟩; obtain ⟨hxA, rfl⟩ : ∃ x, x = hx := ⟨_, rfl⟩))))
      | (apply WL.eqStr tOk; exact rfl; exact rfl; exact rfl; exact rfl; exact rfl; exact rfl)
      | (apply WL.neStr tOk; exact rfl; exact rfl; exact rfl; exact rfl; exact rfl; exact rfl)
      | (apply WL.gT; exact rfl; exact rfl; (focus (first | exact dec_true e0 | exact dec_true e1 | exact dec_false e2; done)))
      | (apply WL.gF; exact rfl; exact rfl; (focus (first | exact dec_true e0 | exact dec_true e1 | exact dec_false e2; done)))
      | (apply W.condKT; exact rfl; (focus (first | exact dec_true e0 | exact dec_true e1 | exact dec_false e2; done)))
      | (apply W.condKF; exact rfl; (focus (first | exact dec_true e0 | exact dec_true e1 | exact dec_false e2; done)))
      | ((show WL _ _ _ (⟨_, .call ⟨.value (.func 86), _, _⟩, _, _, _, _⟩ :: _) _ _ _); apply WL.callS; exact rfl; exact rfl; exact rfl; exact rfl; exact eq_I _ _ _ _ _ _ _ (hCa.ins.row.ext (by (exact extA))) (hCb.ins.row.ext (by (exact extA))))
      | (show WL _ _ _ _ _ _ _; first | apply WL.nil | (refine WL.au (k := ?_)) | (apply WL.index tOk; exact rfl; exact rfl; exact rfl; exact rfl; exact rfl; exact rfl; exact rfl; exact rfl; assumption; (exact extA); exact rfl; omega; assumption; intro b off h; have hcc := h; first | (obtain ⟨h1, h2, h3, h4, h5, h6, _⟩ := h) | (obtain ⟨h1, h2, h3, _⟩ := h) | (obtain ⟨h1, h2, _⟩ := h) | (obtain ⟨h1, _⟩ := h)) | (apply WL.guardF; exact rfl; exact rfl) | (apply WL.gD; exact rfl; exact rfl; all_goals intro _) | (apply WL.gN; exact rfl; exact rfl; all_goals intro _) | (apply WL.gB; exact rfl; exact rfl; all_goals intro _))
      | (show Z _ _ _ _ _; first | apply Z.tail | apply Z.then_normal | apply Z.block_normal | apply Z.then_exit | apply Z.block_exit | apply Z.then_ret | apply Z.block_ret | (apply Z.block_other; exact rfl))
      | (show W _ _ _ _ _ _; first | apply W.seq | apply W.region | apply W.block | apply W.skip | apply W.ret | apply W.exit | (apply W.condT; exact rfl) | (apply W.condF; exact rfl) | (apply W.condD; exact rfl; all_goals intro _) | (apply W.condN; exact rfl; all_goals intro _) | (apply W.condB; exact rfl; all_goals intro _)))
    exact Z.body1 Try.results38 rfl fun m => ⟨congrArg Value.bool (by rw [dec_false (show ¬ a.t = b.t from fun h => e2 (congrArg CirT.ins h))] <;> exact dec_false e2), Ext.at (by (exact extA)) m⟩
  by_cases e3 : a.lat.2.2 = b.lat.2.2
  rotate_left
  · skip
    refine Spec.of _ Try.func38 rfl Try.ntmps38 (by kernel_rfl) rfl ?_
    repeat' (first
      | (apply WL.box; exact rfl; exact rfl; exact rfl; intro gb w' hb hge hc hx; have hcc := hc; (first | (obtain ⟨h1, h2, h3, _⟩ := hc) | (obtain ⟨h1, h2, _⟩ := hc)); (first | (have h_0 := xA0; clear h_0; have hB := hcc; obtain ⟨xB0, xB1, xB2, xB3, xB4, xB5, xB6, xB7, xB8, _⟩ := hcc; (obtain ⟨gB, rfl⟩ : ∃ x, x = gb := ⟨_, rfl⟩; obtain ⟨wB, rfl⟩ : ∃ x, x = w' := ⟨_, rfl⟩; obtain ⟨hxB, rfl⟩ : ∃ x, x = hx := ⟨_, rfl⟩)) | (have hA := hcc; obtain ⟨xA0, xA1, xA2, xA3, xA4, xA5, xA6, xA7, xA8, _⟩ := hcc; (obtain ⟨gA, rfl⟩ : ∃ x, x = gb := ⟨_, rfl⟩; obtain ⟨wA, rfl⟩ : ∃ x, x = w' := ⟨_, rfl⟩; obtain ⟨hxA, rfl⟩ : ∃ x, x = hx := ⟨_, rfl⟩))))
      | (apply WL.eqStr tOk; exact rfl; exact rfl; exact rfl; exact rfl; exact rfl; exact rfl)
      | (apply WL.neStr tOk; exact rfl; exact rfl; exact rfl; exact rfl; exact rfl; exact rfl)
      | (apply WL.gT; exact rfl; exact rfl; (focus (first | exact dec_true e0 | exact dec_true e1 | exact dec_true e2 | exact dec_false e3; done)))
      | (apply WL.gF; exact rfl; exact rfl; (focus (first | exact dec_true e0 | exact dec_true e1 | exact dec_true e2 | exact dec_false e3; done)))
      | (apply W.condKT; exact rfl; (focus (first | exact dec_true e0 | exact dec_true e1 | exact dec_true e2 | exact dec_false e3; done)))
      | (apply W.condKF; exact rfl; (focus (first | exact dec_true e0 | exact dec_true e1 | exact dec_true e2 | exact dec_false e3; done)))
      | ((show WL _ _ _ (⟨_, .call ⟨.value (.func 86), _, _⟩, _, _, _, _⟩ :: _) _ _ _); apply WL.callS; exact rfl; exact rfl; exact rfl; exact rfl; exact eq_I _ _ _ _ _ _ _ (hCa.ins.row.ext (by (exact extA))) (hCb.ins.row.ext (by (exact extA))))
      | ((show WL _ _ _ (⟨_, .call ⟨.value (.func 87), _, _⟩, _, _, _, _⟩ :: _) _ _ _); apply WL.callS; exact rfl; exact rfl; exact rfl; exact rfl; exact eq_L _ _ _ _ _ _ _ (hCa.lat.row.ext (by (exact extA))) (hCb.lat.row.ext (by (exact extA))))
      | (show WL _ _ _ _ _ _ _; first | apply WL.nil | (refine WL.au (k := ?_)) | (apply WL.index tOk; exact rfl; exact rfl; exact rfl; exact rfl; exact rfl; exact rfl; exact rfl; exact rfl; assumption; (exact extA); exact rfl; omega; assumption; intro b off h; have hcc := h; first | (obtain ⟨h1, h2, h3, h4, h5, h6, _⟩ := h) | (obtain ⟨h1, h2, h3, _⟩ := h) | (obtain ⟨h1, h2, _⟩ := h) | (obtain ⟨h1, _⟩ := h)) | (apply WL.guardF; exact rfl; exact rfl) | (apply WL.gD; exact rfl; exact rfl; all_goals intro _) | (apply WL.gN; exact rfl; exact rfl; all_goals intro _) | (apply WL.gB; exact rfl; exact rfl; all_goals intro _))
      | (show Z _ _ _ _ _; first | apply Z.tail | apply Z.then_normal | apply Z.block_normal | apply Z.then_exit | apply Z.block_exit | apply Z.then_ret | apply Z.block_ret | (apply Z.block_other; exact rfl))
      | (show W _ _ _ _ _ _; first | apply W.seq | apply W.region | apply W.block | apply W.skip | apply W.ret | apply W.exit | (apply W.condT; exact rfl) | (apply W.condF; exact rfl) | (apply W.condD; exact rfl; all_goals intro _) | (apply W.condN; exact rfl; all_goals intro _) | (apply W.condB; exact rfl; all_goals intro _)))
    exact Z.body1 Try.results38 rfl fun m => ⟨congrArg Value.bool (by rw [dec_false (show ¬ a.t = b.t from fun h => e3 (congrArg CirT.lat h))] <;> exact dec_false e3), Ext.at (by (exact extA)) m⟩
  by_cases e4 : a.outs.2.2 = b.outs.2.2
  rotate_left
  · skip
    refine Spec.of _ Try.func38 rfl Try.ntmps38 (by kernel_rfl) rfl ?_
    repeat' (first
      | (apply WL.box; exact rfl; exact rfl; exact rfl; intro gb w' hb hge hc hx; have hcc := hc; (first | (obtain ⟨h1, h2, h3, _⟩ := hc) | (obtain ⟨h1, h2, _⟩ := hc)); (first | (have h_0 := xA0; clear h_0; have hB := hcc; obtain ⟨xB0, xB1, xB2, xB3, xB4, xB5, xB6, xB7, xB8, _⟩ := hcc; (obtain ⟨gB, rfl⟩ : ∃ x, x = gb := ⟨_, rfl⟩; obtain ⟨wB, rfl⟩ : ∃ x, x = w' := ⟨_, rfl⟩; obtain ⟨hxB, rfl⟩ : ∃ x, x = hx := ⟨_, rfl⟩)) | (have hA := hcc; obtain ⟨xA0, xA1, xA2, xA3, xA4, xA5, xA6, xA7, xA8, _⟩ := hcc; (obtain ⟨gA, rfl⟩ : ∃ x, x = gb := ⟨_, rfl⟩; obtain ⟨wA, rfl⟩ : ∃ x, x = w' := ⟨_, rfl⟩; obtain ⟨hxA, rfl⟩ : ∃ x, x = hx := ⟨_, rfl⟩))))
      | (apply WL.eqStr tOk; exact rfl; exact rfl; exact rfl; exact rfl; exact rfl; exact rfl)
      | (apply WL.neStr tOk; exact rfl; exact rfl; exact rfl; exact rfl; exact rfl; exact rfl)
      | (apply WL.gT; exact rfl; exact rfl; (focus (first | exact dec_true e0 | exact dec_true e1 | exact dec_true e2 | exact dec_true e3 | exact dec_false e4; done)))
      | (apply WL.gF; exact rfl; exact rfl; (focus (first | exact dec_true e0 | exact dec_true e1 | exact dec_true e2 | exact dec_true e3 | exact dec_false e4; done)))
      | (apply W.condKT; exact rfl; (focus (first | exact dec_true e0 | exact dec_true e1 | exact dec_true e2 | exact dec_true e3 | exact dec_false e4; done)))
      | (apply W.condKF; exact rfl; (focus (first | exact dec_true e0 | exact dec_true e1 | exact dec_true e2 | exact dec_true e3 | exact dec_false e4; done)))
      | ((show WL _ _ _ (⟨_, .call ⟨.value (.func 86), _, _⟩, _, _, _, _⟩ :: _) _ _ _); apply WL.callS; exact rfl; exact rfl; exact rfl; exact rfl; exact eq_I _ _ _ _ _ _ _ (hCa.ins.row.ext (by (exact extA))) (hCb.ins.row.ext (by (exact extA))))
      | ((show WL _ _ _ (⟨_, .call ⟨.value (.func 87), _, _⟩, _, _, _, _⟩ :: _) _ _ _); apply WL.callS; exact rfl; exact rfl; exact rfl; exact rfl; exact eq_L _ _ _ _ _ _ _ (hCa.lat.row.ext (by (exact extA))) (hCb.lat.row.ext (by (exact extA))))
      | ((show WL _ _ _ (⟨_, .call ⟨.value (.func 86), _, _⟩, _, _, _, _⟩ :: _) _ _ _); apply WL.callS; exact rfl; exact rfl; exact rfl; exact rfl; exact eq_I _ _ _ _ _ _ _ (hCa.outs.row.ext (by (exact extA))) (hCb.outs.row.ext (by (exact extA))))
      | (show WL _ _ _ _ _ _ _; first | apply WL.nil | (refine WL.au (k := ?_)) | (apply WL.index tOk; exact rfl; exact rfl; exact rfl; exact rfl; exact rfl; exact rfl; exact rfl; exact rfl; assumption; (exact extA); exact rfl; omega; assumption; intro b off h; have hcc := h; first | (obtain ⟨h1, h2, h3, h4, h5, h6, _⟩ := h) | (obtain ⟨h1, h2, h3, _⟩ := h) | (obtain ⟨h1, h2, _⟩ := h) | (obtain ⟨h1, _⟩ := h)) | (apply WL.guardF; exact rfl; exact rfl) | (apply WL.gD; exact rfl; exact rfl; all_goals intro _) | (apply WL.gN; exact rfl; exact rfl; all_goals intro _) | (apply WL.gB; exact rfl; exact rfl; all_goals intro _))
      | (show Z _ _ _ _ _; first | apply Z.tail | apply Z.then_normal | apply Z.block_normal | apply Z.then_exit | apply Z.block_exit | apply Z.then_ret | apply Z.block_ret | (apply Z.block_other; exact rfl))
      | (show W _ _ _ _ _ _; first | apply W.seq | apply W.region | apply W.block | apply W.skip | apply W.ret | apply W.exit | (apply W.condT; exact rfl) | (apply W.condF; exact rfl) | (apply W.condD; exact rfl; all_goals intro _) | (apply W.condN; exact rfl; all_goals intro _) | (apply W.condB; exact rfl; all_goals intro _)))
    exact Z.body1 Try.results38 rfl fun m => ⟨congrArg Value.bool (by rw [dec_false (show ¬ a.t = b.t from fun h => e4 (congrArg CirT.outs h))] <;> exact dec_false e4), Ext.at (by (exact extA)) m⟩
  by_cases e5 : a.bads.2.2 = b.bads.2.2
  rotate_left
  · skip
    refine Spec.of _ Try.func38 rfl Try.ntmps38 (by kernel_rfl) rfl ?_
    repeat' (first
      | (apply WL.box; exact rfl; exact rfl; exact rfl; intro gb w' hb hge hc hx; have hcc := hc; (first | (obtain ⟨h1, h2, h3, _⟩ := hc) | (obtain ⟨h1, h2, _⟩ := hc)); (first | (have h_0 := xA0; clear h_0; have hB := hcc; obtain ⟨xB0, xB1, xB2, xB3, xB4, xB5, xB6, xB7, xB8, _⟩ := hcc; (obtain ⟨gB, rfl⟩ : ∃ x, x = gb := ⟨_, rfl⟩; obtain ⟨wB, rfl⟩ : ∃ x, x = w' := ⟨_, rfl⟩; obtain ⟨hxB, rfl⟩ : ∃ x, x = hx := ⟨_, rfl⟩)) | (have hA := hcc; obtain ⟨xA0, xA1, xA2, xA3, xA4, xA5, xA6, xA7, xA8, _⟩ := hcc; (obtain ⟨gA, rfl⟩ : ∃ x, x = gb := ⟨_, rfl⟩; obtain ⟨wA, rfl⟩ : ∃ x, x = w' := ⟨_, rfl⟩; obtain ⟨hxA, rfl⟩ : ∃ x, x = hx := ⟨_, rfl⟩))))
      | (apply WL.eqStr tOk; exact rfl; exact rfl; exact rfl; exact rfl; exact rfl; exact rfl)
      | (apply WL.neStr tOk; exact rfl; exact rfl; exact rfl; exact rfl; exact rfl; exact rfl)
      | (apply WL.gT; exact rfl; exact rfl; (focus (first | exact dec_true e0 | exact dec_true e1 | exact dec_true e2 | exact dec_true e3 | exact dec_true e4 | exact dec_false e5; done)))
      | (apply WL.gF; exact rfl; exact rfl; (focus (first | exact dec_true e0 | exact dec_true e1 | exact dec_true e2 | exact dec_true e3 | exact dec_true e4 | exact dec_false e5; done)))
      | (apply W.condKT; exact rfl; (focus (first | exact dec_true e0 | exact dec_true e1 | exact dec_true e2 | exact dec_true e3 | exact dec_true e4 | exact dec_false e5; done)))
      | (apply W.condKF; exact rfl; (focus (first | exact dec_true e0 | exact dec_true e1 | exact dec_true e2 | exact dec_true e3 | exact dec_true e4 | exact dec_false e5; done)))
      | ((show WL _ _ _ (⟨_, .call ⟨.value (.func 86), _, _⟩, _, _, _, _⟩ :: _) _ _ _); apply WL.callS; exact rfl; exact rfl; exact rfl; exact rfl; exact eq_I _ _ _ _ _ _ _ (hCa.ins.row.ext (by (exact extA))) (hCb.ins.row.ext (by (exact extA))))
      | ((show WL _ _ _ (⟨_, .call ⟨.value (.func 87), _, _⟩, _, _, _, _⟩ :: _) _ _ _); apply WL.callS; exact rfl; exact rfl; exact rfl; exact rfl; exact eq_L _ _ _ _ _ _ _ (hCa.lat.row.ext (by (exact extA))) (hCb.lat.row.ext (by (exact extA))))
      | ((show WL _ _ _ (⟨_, .call ⟨.value (.func 86), _, _⟩, _, _, _, _⟩ :: _) _ _ _); apply WL.callS; exact rfl; exact rfl; exact rfl; exact rfl; exact eq_I _ _ _ _ _ _ _ (hCa.outs.row.ext (by (exact extA))) (hCb.outs.row.ext (by (exact extA))))
      | ((show WL _ _ _ (⟨_, .call ⟨.value (.func 86), _, _⟩, _, _, _, _⟩ :: _) _ _ _); apply WL.callS; exact rfl; exact rfl; exact rfl; exact rfl; exact eq_I _ _ _ _ _ _ _ (hCa.bads.row.ext (by (exact extA))) (hCb.bads.row.ext (by (exact extA))))
      | (show WL _ _ _ _ _ _ _; first | apply WL.nil | (refine WL.au (k := ?_)) | (apply WL.index tOk; exact rfl; exact rfl; exact rfl; exact rfl; exact rfl; exact rfl; exact rfl; exact rfl; assumption; (exact extA); exact rfl; omega; assumption; intro b off h; have hcc := h; first | (obtain ⟨h1, h2, h3, h4, h5, h6, _⟩ := h) | (obtain ⟨h1, h2, h3, _⟩ := h) | (obtain ⟨h1, h2, _⟩ := h) | (obtain ⟨h1, _⟩ := h)) | (apply WL.guardF; exact rfl; exact rfl) | (apply WL.gD; exact rfl; exact rfl; all_goals intro _) | (apply WL.gN; exact rfl; exact rfl; all_goals intro _) | (apply WL.gB; exact rfl; exact rfl; all_goals intro _))
      | (show Z _ _ _ _ _; first | apply Z.tail | apply Z.then_normal | apply Z.block_normal | apply Z.then_exit | apply Z.block_exit | apply Z.then_ret | apply Z.block_ret | (apply Z.block_other; exact rfl))
      | (show W _ _ _ _ _ _; first | apply W.seq | apply W.region | apply W.block | apply W.skip | apply W.ret | apply W.exit | (apply W.condT; exact rfl) | (apply W.condF; exact rfl) | (apply W.condD; exact rfl; all_goals intro _) | (apply W.condN; exact rfl; all_goals intro _) | (apply W.condB; exact rfl; all_goals intro _)))
    exact Z.body1 Try.results38 rfl fun m => ⟨congrArg Value.bool (by rw [dec_false (show ¬ a.t = b.t from fun h => e5 (congrArg CirT.bads h))] <;> exact dec_false e5), Ext.at (by (exact extA)) m⟩
  by_cases e6 : a.cons.2.2 = b.cons.2.2
  rotate_left
  · skip
    refine Spec.of _ Try.func38 rfl Try.ntmps38 (by kernel_rfl) rfl ?_
    repeat' (first
      | (apply WL.box; exact rfl; exact rfl; exact rfl; intro gb w' hb hge hc hx; have hcc := hc; (first | (obtain ⟨h1, h2, h3, _⟩ := hc) | (obtain ⟨h1, h2, _⟩ := hc)); (first | (have h_0 := xA0; clear h_0; have hB := hcc; obtain ⟨xB0, xB1, xB2, xB3, xB4, xB5, xB6, xB7, xB8, _⟩ := hcc; (obtain ⟨gB, rfl⟩ : ∃ x, x = gb := ⟨_, rfl⟩; obtain ⟨wB, rfl⟩ : ∃ x, x = w' := ⟨_, rfl⟩; obtain ⟨hxB, rfl⟩ : ∃ x, x = hx := ⟨_, rfl⟩)) | (have hA := hcc; obtain ⟨xA0, xA1, xA2, xA3, xA4, xA5, xA6, xA7, xA8, _⟩ := hcc; (obtain ⟨gA, rfl⟩ : ∃ x, x = gb := ⟨_, rfl⟩; obtain ⟨wA, rfl⟩ : ∃ x, x = w' := ⟨_, rfl⟩; obtain ⟨hxA, rfl⟩ : ∃ x, x = hx := ⟨_, rfl⟩))))
      | (apply WL.eqStr tOk; exact rfl; exact rfl; exact rfl; exact rfl; exact rfl; exact rfl)
      | (apply WL.neStr tOk; exact rfl; exact rfl; exact rfl; exact rfl; exact rfl; exact rfl)
      | (apply WL.gT; exact rfl; exact rfl; (focus (first | exact dec_true e0 | exact dec_true e1 | exact dec_true e2 | exact dec_true e3 | exact dec_true e4 | exact dec_true e5 | exact dec_false e6; done)))
      | (apply WL.gF; exact rfl; exact rfl; (focus (first | exact dec_true e0 | exact dec_true e1 | exact dec_true e2 | exact dec_true e3 | exact dec_true e4 | exact dec_true e5 | exact dec_false e6; done)))
      | (apply W.condKT; exact rfl; (focus (first | exact dec_true e0 | exact dec_true e1 | exact dec_true e2 | exact dec_true e3 | exact dec_true e4 | exact dec_true e5 | exact dec_false e6; done)))
      | (apply W.condKF; exact rfl; (focus (first | exact dec_true e0 | exact dec_true e1 | exact dec_true e2 | exact dec_true e3 | exact dec_true e4 | exact dec_true e5 | exact dec_false e6; done)))
      | ((show WL _ _ _ (⟨_, .call ⟨.value (.func 86), _, _⟩, _, _, _, _⟩ :: _) _ _ _); apply WL.callS; exact rfl; exact rfl; exact rfl; exact rfl; exact eq_I _ _ _ _ _ _ _ (hCa.ins.row.ext (by (exact extA))) (hCb.ins.row.ext (by (exact extA))))
      | ((show WL _ _ _ (⟨_, .call ⟨.value (.func 87), _, _⟩, _, _, _, _⟩ :: _) _ _ _); apply WL.callS; exact rfl; exact rfl; exact rfl; exact rfl; exact eq_L _ _ _ _ _ _ _ (hCa.lat.row.ext (by (exact extA))) (hCb.lat.row.ext (by (exact extA))))
      | ((show WL _ _ _ (⟨_, .call ⟨.value (.func 86), _, _⟩, _, _, _, _⟩ :: _) _ _ _); apply WL.callS; exact rfl; exact rfl; exact rfl; exact rfl; exact eq_I _ _ _ _ _ _ _ (hCa.outs.row.ext (by (exact extA))) (hCb.outs.row.ext (by (exact extA))))
      | ((show WL _ _ _ (⟨_, .call ⟨.value (.func 86), _, _⟩, _, _, _, _⟩ :: _) _ _ _); apply WL.callS; exact rfl; exact rfl; exact rfl; exact rfl; exact eq_I _ _ _ _ _ _ _ (hCa.bads.row.ext (by (exact extA))) (hCb.bads.row.ext (by (exact extA))))
      | ((show WL _ _ _ (⟨_, .call ⟨.value (.func 86), _, _⟩, _, _, _, _⟩ :: _) _ _ _); apply WL.callS; exact rfl; exact rfl; exact rfl; exact rfl; exact eq_I _ _ _ _ _ _ _ (hCa.cons.row.ext (by (exact extA))) (hCb.cons.row.ext (by (exact extA))))
      | (show WL _ _ _ _ _ _ _; first | apply WL.nil | (refine WL.au (k := ?_)) | (apply WL.index tOk; exact rfl; exact rfl; exact rfl; exact rfl; exact rfl; exact rfl; exact rfl; exact rfl; assumption; (exact extA); exact rfl; omega; assumption; intro b off h; have hcc := h; first | (obtain ⟨h1, h2, h3, h4, h5, h6, _⟩ := h) | (obtain ⟨h1, h2, h3, _⟩ := h) | (obtain ⟨h1, h2, _⟩ := h) | (obtain ⟨h1, _⟩ := h)) | (apply WL.guardF; exact rfl; exact rfl) | (apply WL.gD; exact rfl; exact rfl; all_goals intro _) | (apply WL.gN; exact rfl; exact rfl; all_goals intro _) | (apply WL.gB; exact rfl; exact rfl; all_goals intro _))
      | (show Z _ _ _ _ _; first | apply Z.tail | apply Z.then_normal | apply Z.block_normal | apply Z.then_exit | apply Z.block_exit | apply Z.then_ret | apply Z.block_ret | (apply Z.block_other; exact rfl))
      | (show W _ _ _ _ _ _; first | apply W.seq | apply W.region | apply W.block | apply W.skip | apply W.ret | apply W.exit | (apply W.condT; exact rfl) | (apply W.condF; exact rfl) | (apply W.condD; exact rfl; all_goals intro _) | (apply W.condN; exact rfl; all_goals intro _) | (apply W.condB; exact rfl; all_goals intro _)))
    exact Z.body1 Try.results38 rfl fun m => ⟨congrArg Value.bool (by rw [dec_false (show ¬ a.t = b.t from fun h => e6 (congrArg CirT.cons h))] <;> exact dec_false e6), Ext.at (by (exact extA)) m⟩
  by_cases e7 : a.gates.2.2 = b.gates.2.2
  rotate_left
  · skip
    refine Spec.of _ Try.func38 rfl Try.ntmps38 (by kernel_rfl) rfl ?_
    repeat' (first
      | (apply WL.box; exact rfl; exact rfl; exact rfl; intro gb w' hb hge hc hx; have hcc := hc; (first | (obtain ⟨h1, h2, h3, _⟩ := hc) | (obtain ⟨h1, h2, _⟩ := hc)); (first | (have h_0 := xA0; clear h_0; have hB := hcc; obtain ⟨xB0, xB1, xB2, xB3, xB4, xB5, xB6, xB7, xB8, _⟩ := hcc; (obtain ⟨gB, rfl⟩ : ∃ x, x = gb := ⟨_, rfl⟩; obtain ⟨wB, rfl⟩ : ∃ x, x = w' := ⟨_, rfl⟩; obtain ⟨hxB, rfl⟩ : ∃ x, x = hx := ⟨_, rfl⟩)) | (have hA := hcc; obtain ⟨xA0, xA1, xA2, xA3, xA4, xA5, xA6, xA7, xA8, _⟩ := hcc; (obtain ⟨gA, rfl⟩ : ∃ x, x = gb := ⟨_, rfl⟩; obtain ⟨wA, rfl⟩ : ∃ x, x = w' := ⟨_, rfl⟩; obtain ⟨hxA, rfl⟩ : ∃ x, x = hx := ⟨_, rfl⟩))))
      | (apply WL.eqStr tOk; exact rfl; exact rfl; exact rfl; exact rfl; exact rfl; exact rfl)
      | (apply WL.neStr tOk; exact rfl; exact rfl; exact rfl; exact rfl; exact rfl; exact rfl)
      | (apply WL.gT; exact rfl; exact rfl; (focus (first | exact dec_true e0 | exact dec_true e1 | exact dec_true e2 | exact dec_true e3 | exact dec_true e4 | exact dec_true e5 | exact dec_true e6 | exact dec_false e7; done)))
      | (apply WL.gF; exact rfl; exact rfl; (focus (first | exact dec_true e0 | exact dec_true e1 | exact dec_true e2 | exact dec_true e3 | exact dec_true e4 | exact dec_true e5 | exact dec_true e6 | exact dec_false e7; done)))
      | (apply W.condKT; exact rfl; (focus (first | exact dec_true e0 | exact dec_true e1 | exact dec_true e2 | exact dec_true e3 | exact dec_true e4 | exact dec_true e5 | exact dec_true e6 | exact dec_false e7; done)))
      | (apply W.condKF; exact rfl; (focus (first | exact dec_true e0 | exact dec_true e1 | exact dec_true e2 | exact dec_true e3 | exact dec_true e4 | exact dec_true e5 | exact dec_true e6 | exact dec_false e7; done)))
      | ((show WL _ _ _ (⟨_, .call ⟨.value (.func 86), _, _⟩, _, _, _, _⟩ :: _) _ _ _); apply WL.callS; exact rfl; exact rfl; exact rfl; exact rfl; exact eq_I _ _ _ _ _ _ _ (hCa.ins.row.ext (by (exact extA))) (hCb.ins.row.ext (by (exact extA))))
      | ((show WL _ _ _ (⟨_, .call ⟨.value (.func 87), _, _⟩, _, _, _, _⟩ :: _) _ _ _); apply WL.callS; exact rfl; exact rfl; exact rfl; exact rfl; exact eq_L _ _ _ _ _ _ _ (hCa.lat.row.ext (by (exact extA))) (hCb.lat.row.ext (by (exact extA))))
      | ((show WL _ _ _ (⟨_, .call ⟨.value (.func 86), _, _⟩, _, _, _, _⟩ :: _) _ _ _); apply WL.callS; exact rfl; exact rfl; exact rfl; exact rfl; exact eq_I _ _ _ _ _ _ _ (hCa.outs.row.ext (by (exact extA))) (hCb.outs.row.ext (by (exact extA))))
      | ((show WL _ _ _ (⟨_, .call ⟨.value (.func 86), _, _⟩, _, _, _, _⟩ :: _) _ _ _); apply WL.callS; exact rfl; exact rfl; exact rfl; exact rfl; exact eq_I _ _ _ _ _ _ _ (hCa.bads.row.ext (by (exact extA))) (hCb.bads.row.ext (by (exact extA))))
      | ((show WL _ _ _ (⟨_, .call ⟨.value (.func 86), _, _⟩, _, _, _, _⟩ :: _) _ _ _); apply WL.callS; exact rfl; exact rfl; exact rfl; exact rfl; exact eq_I _ _ _ _ _ _ _ (hCa.cons.row.ext (by (exact extA))) (hCb.cons.row.ext (by (exact extA))))
      | ((show WL _ _ _ (⟨_, .call ⟨.value (.func 88), _, _⟩, _, _, _, _⟩ :: _) _ _ _); apply WL.callS; exact rfl; exact rfl; exact rfl; exact rfl; exact eq_G _ _ _ _ _ _ _ (hCa.gates.row.ext (by (exact extA))) (hCb.gates.row.ext (by (exact extA))))
      | (show WL _ _ _ _ _ _ _; first | apply WL.nil | (refine WL.au (k := ?_)) | (apply WL.index tOk; exact rfl; exact rfl; exact rfl; exact rfl; exact rfl; exact rfl; exact rfl; exact rfl; assumption; (exact extA); exact rfl; omega; assumption; intro b off h; have hcc := h; first | (obtain ⟨h1, h2, h3, h4, h5, h6, _⟩ := h) | (obtain ⟨h1, h2, h3, _⟩ := h) | (obtain ⟨h1, h2, _⟩ := h) | (obtain ⟨h1, _⟩ := h)) | (apply WL.guardF; exact rfl; exact rfl) | (apply WL.gD; exact rfl; exact rfl; all_goals intro _) | (apply WL.gN; exact rfl; exact rfl; all_goals intro _) | (apply WL.gB; exact rfl; exact rfl; all_goals intro _))
      | (show Z _ _ _ _ _; first | apply Z.tail | apply Z.then_normal | apply Z.block_normal | apply Z.then_exit | apply Z.block_exit | apply Z.then_ret | apply Z.block_ret | (apply Z.block_other; exact rfl))
      | (show W _ _ _ _ _ _; first | apply W.seq | apply W.region | apply W.block | apply W.skip | apply W.ret | apply W.exit | (apply W.condT; exact rfl) | (apply W.condF; exact rfl) | (apply W.condD; exact rfl; all_goals intro _) | (apply W.condN; exact rfl; all_goals intro _) | (apply W.condB; exact rfl; all_goals intro _)))
    exact Z.body1 Try.results38 rfl fun m => ⟨congrArg Value.bool (by rw [dec_false (show ¬ a.t = b.t from fun h => e7 (congrArg CirT.gates h))] <;> exact dec_false e7), Ext.at (by (exact extA)) m⟩
  by_cases e8 : a.syms.2.2 = b.syms.2.2
  rotate_left
  · skip
    refine Spec.of _ Try.func38 rfl Try.ntmps38 (by kernel_rfl) rfl ?_
    repeat' (first
      | (apply WL.box; exact rfl; exact rfl; exact rfl; intro gb w' hb hge hc hx; have hcc := hc; (first | (obtain ⟨h1, h2, h3, _⟩ := hc) | (obtain ⟨h1, h2, _⟩ := hc)); (first | (have h_0 := xA0; clear h_0; have hB := hcc; obtain ⟨xB0, xB1, xB2, xB3, xB4, xB5, xB6, xB7, xB8, _⟩ := hcc; (obtain ⟨gB, rfl⟩ : ∃ x, x = gb := ⟨_, rfl⟩; obtain ⟨wB, rfl⟩ : ∃ x, x = w' := ⟨_, rfl⟩; obtain ⟨hxB, rfl⟩ : ∃ x, x = hx := ⟨_, rfl⟩)) | (have hA := hcc; obtain ⟨xA0, xA1, xA2, xA3, xA4, xA5, xA6, xA7, xA8, _⟩ := hcc; (obtain ⟨gA, rfl⟩ : ∃ x, x = gb := ⟨_, rfl⟩; obtain ⟨wA, rfl⟩ : ∃ x, x = w' := ⟨_, rfl⟩; obtain ⟨hxA, rfl⟩ : ∃ x, x = hx := ⟨_, rfl⟩))))
      | (apply WL.eqStr tOk; exact rfl; exact rfl; exact rfl; exact rfl; exact rfl; exact rfl)
      | (apply WL.neStr tOk; exact rfl; exact rfl; exact rfl; exact rfl; exact rfl; exact rfl)
      | (apply WL.gT; exact rfl; exact rfl; (focus (first | exact dec_true e0 | exact dec_true e1 | exact dec_true e2 | exact dec_true e3 | exact dec_true e4 | exact dec_true e5 | exact dec_true e6 | exact dec_true e7 | exact dec_false e8; done)))
      | (apply WL.gF; exact rfl; exact rfl; (focus (first | exact dec_true e0 | exact dec_true e1 | exact dec_true e2 | exact dec_true e3 | exact dec_true e4 | exact dec_true e5 | exact dec_true e6 | exact dec_true e7 | exact dec_false e8; done)))
      | (apply W.condKT; exact rfl; (focus (first | exact dec_true e0 | exact dec_true e1 | exact dec_true e2 | exact dec_true e3 | exact dec_true e4 | exact dec_true e5 | exact dec_true e6 | exact dec_true e7 | exact dec_false e8; done)))
      | (apply W.condKF; exact rfl; (focus (first | exact dec_true e0 | exact dec_true e1 | exact dec_true e2 | exact dec_true e3 | exact dec_true e4 | exact dec_true e5 | exact dec_true e6 | exact dec_true e7 | exact dec_false e8; done)))
      | ((show WL _ _ _ (⟨_, .call ⟨.value (.func 86), _, _⟩, _, _, _, _⟩ :: _) _ _ _); apply WL.callS; exact rfl; exact rfl; exact rfl; exact rfl; exact eq_I _ _ _ _ _ _ _ (hCa.ins.row.ext (by (exact extA))) (hCb.ins.row.ext (by (exact extA))))
      | ((show WL _ _ _ (⟨_, .call ⟨.value (.func 87), _, _⟩, _, _, _, _⟩ :: _) _ _ _); apply WL.callS; exact rfl; exact rfl; exact rfl; exact rfl; exact eq_L _ _ _ _ _ _ _ (hCa.lat.row.ext (by (exact extA))) (hCb.lat.row.ext (by (exact extA))))
      | ((show WL _ _ _ (⟨_, .call ⟨.value (.func 86), _, _⟩, _, _, _, _⟩ :: _) _ _ _); apply WL.callS; exact rfl; exact rfl; exact rfl; exact rfl; exact eq_I _ _ _ _ _ _ _ (hCa.outs.row.ext (by (exact extA))) (hCb.outs.row.ext (by (exact extA))))
      | ((show WL _ _ _ (⟨_, .call ⟨.value (.func 86), _, _⟩, _, _, _, _⟩ :: _) _ _ _); apply WL.callS; exact rfl; exact rfl; exact rfl; exact rfl; exact eq_I _ _ _ _ _ _ _ (hCa.bads.row.ext (by (exact extA))) (hCb.bads.row.ext (by (exact extA))))
      | ((show WL _ _ _ (⟨_, .call ⟨.value (.func 86), _, _⟩, _, _, _, _⟩ :: _) _ _ _); apply WL.callS; exact rfl; exact rfl; exact rfl; exact rfl; exact eq_I _ _ _ _ _ _ _ (hCa.cons.row.ext (by (exact extA))) (hCb.cons.row.ext (by (exact extA))))
      | ((show WL _ _ _ (⟨_, .call ⟨.value (.func 88), _, _⟩, _, _, _, _⟩ :: _) _ _ _); apply WL.callS; exact rfl; exact rfl; exact rfl; exact rfl; exact eq_G _ _ _ _ _ _ _ (hCa.gates.row.ext (by (exact extA))) (hCb.gates.row.ext (by (exact extA))))
      | ((show WL _ _ _ (⟨_, .call ⟨.value (.func 89), _, _⟩, _, _, _, _⟩ :: _) _ _ _); apply WL.callS; exact rfl; exact rfl; exact rfl; exact rfl; exact eq_Y _ _ _ _ _ _ _ (hCa.syms.row.ext (by (exact extA))) (hCb.syms.row.ext (by (exact extA))))
      | (show WL _ _ _ _ _ _ _; first | apply WL.nil | (refine WL.au (k := ?_)) | (apply WL.index tOk; exact rfl; exact rfl; exact rfl; exact rfl; exact rfl; exact rfl; exact rfl; exact rfl; assumption; (exact extA); exact rfl; omega; assumption; intro b off h; have hcc := h; first | (obtain ⟨h1, h2, h3, h4, h5, h6, _⟩ := h) | (obtain ⟨h1, h2, h3, _⟩ := h) | (obtain ⟨h1, h2, _⟩ := h) | (obtain ⟨h1, _⟩ := h)) | (apply WL.guardF; exact rfl; exact rfl) | (apply WL.gD; exact rfl; exact rfl; all_goals intro _) | (apply WL.gN; exact rfl; exact rfl; all_goals intro _) | (apply WL.gB; exact rfl; exact rfl; all_goals intro _))
      | (show Z _ _ _ _ _; first | apply Z.tail | apply Z.then_normal | apply Z.block_normal | apply Z.then_exit | apply Z.block_exit | apply Z.then_ret | apply Z.block_ret | (apply Z.block_other; exact rfl))
      | (show W _ _ _ _ _ _; first | apply W.seq | apply W.region | apply W.block | apply W.skip | apply W.ret | apply W.exit | (apply W.condT; exact rfl) | (apply W.condF; exact rfl) | (apply W.condD; exact rfl; all_goals intro _) | (apply W.condN; exact rfl; all_goals intro _) | (apply W.condB; exact rfl; all_goals intro _)))
    exact Z.body1 Try.results38 rfl fun m => ⟨congrArg Value.bool (by rw [dec_false (show ¬ a.t = b.t from fun h => e8 (congrArg CirT.syms h))] <;> exact dec_false e8), Ext.at (by (exact extA)) m⟩
  refine Spec.of _ Try.func38 rfl Try.ntmps38 (by kernel_rfl) rfl ?_
  repeat' (first
    | (apply WL.box; exact rfl; exact rfl; exact rfl; intro gb w' hb hge hc hx; have hcc := hc; (first | (obtain ⟨h1, h2, h3, _⟩ := hc) | (obtain ⟨h1, h2, _⟩ := hc)); (first | (have h_0 := xA0; clear h_0; have hB := hcc; obtain ⟨xB0, xB1, xB2, xB3, xB4, xB5, xB6, xB7, xB8, _⟩ := hcc; (obtain ⟨gB, rfl⟩ : ∃ x, x = gb := ⟨_, rfl⟩; obtain ⟨wB, rfl⟩ : ∃ x, x = w' := ⟨_, rfl⟩; obtain ⟨hxB, rfl⟩ : ∃ x, x = hx := ⟨_, rfl⟩)) | (have hA := hcc; obtain ⟨xA0, xA1, xA2, xA3, xA4, xA5, xA6, xA7, xA8, _⟩ := hcc; (obtain ⟨gA, rfl⟩ : ∃ x, x = gb := ⟨_, rfl⟩; obtain ⟨wA, rfl⟩ : ∃ x, x = w' := ⟨_, rfl⟩; obtain ⟨hxA, rfl⟩ : ∃ x, x = hx := ⟨_, rfl⟩))))
    | (apply WL.eqStr tOk; exact rfl; exact rfl; exact rfl; exact rfl; exact rfl; exact rfl)
    | (apply WL.neStr tOk; exact rfl; exact rfl; exact rfl; exact rfl; exact rfl; exact rfl)
    | (apply WL.gT; exact rfl; exact rfl; (focus (first | exact dec_true e0 | exact dec_true e1 | exact dec_true e2 | exact dec_true e3 | exact dec_true e4 | exact dec_true e5 | exact dec_true e6 | exact dec_true e7 | exact dec_true e8; done)))
    | (apply WL.gF; exact rfl; exact rfl; (focus (first | exact dec_true e0 | exact dec_true e1 | exact dec_true e2 | exact dec_true e3 | exact dec_true e4 | exact dec_true e5 | exact dec_true e6 | exact dec_true e7 | exact dec_true e8; done)))
    | (apply W.condKT; exact rfl; (focus (first | exact dec_true e0 | exact dec_true e1 | exact dec_true e2 | exact dec_true e3 | exact dec_true e4 | exact dec_true e5 | exact dec_true e6 | exact dec_true e7 | exact dec_true e8; done)))
    | (apply W.condKF; exact rfl; (focus (first | exact dec_true e0 | exact dec_true e1 | exact dec_true e2 | exact dec_true e3 | exact dec_true e4 | exact dec_true e5 | exact dec_true e6 | exact dec_true e7 | exact dec_true e8; done)))
    | ((show WL _ _ _ (⟨_, .call ⟨.value (.func 86), _, _⟩, _, _, _, _⟩ :: _) _ _ _); apply WL.callS; exact rfl; exact rfl; exact rfl; exact rfl; exact eq_I _ _ _ _ _ _ _ (hCa.ins.row.ext (by (exact extA))) (hCb.ins.row.ext (by (exact extA))))
    | ((show WL _ _ _ (⟨_, .call ⟨.value (.func 87), _, _⟩, _, _, _, _⟩ :: _) _ _ _); apply WL.callS; exact rfl; exact rfl; exact rfl; exact rfl; exact eq_L _ _ _ _ _ _ _ (hCa.lat.row.ext (by (exact extA))) (hCb.lat.row.ext (by (exact extA))))
    | ((show WL _ _ _ (⟨_, .call ⟨.value (.func 86), _, _⟩, _, _, _, _⟩ :: _) _ _ _); apply WL.callS; exact rfl; exact rfl; exact rfl; exact rfl; exact eq_I _ _ _ _ _ _ _ (hCa.outs.row.ext (by (exact extA))) (hCb.outs.row.ext (by (exact extA))))
    | ((show WL _ _ _ (⟨_, .call ⟨.value (.func 86), _, _⟩, _, _, _, _⟩ :: _) _ _ _); apply WL.callS; exact rfl; exact rfl; exact rfl; exact rfl; exact eq_I _ _ _ _ _ _ _ (hCa.bads.row.ext (by (exact extA))) (hCb.bads.row.ext (by (exact extA))))
    | ((show WL _ _ _ (⟨_, .call ⟨.value (.func 86), _, _⟩, _, _, _, _⟩ :: _) _ _ _); apply WL.callS; exact rfl; exact rfl; exact rfl; exact rfl; exact eq_I _ _ _ _ _ _ _ (hCa.cons.row.ext (by (exact extA))) (hCb.cons.row.ext (by (exact extA))))
    | ((show WL _ _ _ (⟨_, .call ⟨.value (.func 88), _, _⟩, _, _, _, _⟩ :: _) _ _ _); apply WL.callS; exact rfl; exact rfl; exact rfl; exact rfl; exact eq_G _ _ _ _ _ _ _ (hCa.gates.row.ext (by (exact extA))) (hCb.gates.row.ext (by (exact extA))))
    | ((show WL _ _ _ (⟨_, .call ⟨.value (.func 89), _, _⟩, _, _, _, _⟩ :: _) _ _ _); apply WL.callS; exact rfl; exact rfl; exact rfl; exact rfl; exact eq_Y _ _ _ _ _ _ _ (hCa.syms.row.ext (by (exact extA))) (hCb.syms.row.ext (by (exact extA))))
    | (show WL _ _ _ _ _ _ _; first | apply WL.nil | (refine WL.au (k := ?_)) | (apply WL.index tOk; exact rfl; exact rfl; exact rfl; exact rfl; exact rfl; exact rfl; exact rfl; exact rfl; assumption; (exact extA); exact rfl; omega; assumption; intro b off h; have hcc := h; first | (obtain ⟨h1, h2, h3, h4, h5, h6, _⟩ := h) | (obtain ⟨h1, h2, h3, _⟩ := h) | (obtain ⟨h1, h2, _⟩ := h) | (obtain ⟨h1, _⟩ := h)) | (apply WL.guardF; exact rfl; exact rfl) | (apply WL.gD; exact rfl; exact rfl; all_goals intro _) | (apply WL.gN; exact rfl; exact rfl; all_goals intro _) | (apply WL.gB; exact rfl; exact rfl; all_goals intro _))
    | (show Z _ _ _ _ _; first | apply Z.tail | apply Z.then_normal | apply Z.block_normal | apply Z.then_exit | apply Z.block_exit | apply Z.then_ret | apply Z.block_ret | (apply Z.block_other; exact rfl))
    | (show W _ _ _ _ _ _; first | apply W.seq | apply W.region | apply W.block | apply W.skip | apply W.ret | apply W.exit | (apply W.condT; exact rfl) | (apply W.condF; exact rfl) | (apply W.condD; exact rfl; all_goals intro _) | (apply W.condN; exact rfl; all_goals intro _) | (apply W.condB; exact rfl; all_goals intro _)))
  exact Z.body1 Try.results38 rfl fun m => ⟨congrArg Value.bool (by rw [dec_true (show a.t = b.t by unfold Circ.t; rw [e0, e1, e2, e3, e4, e5, e6, e7, e8])] <;> exact dec_true e8), Ext.at (by (exact extA)) m⟩
end Go.Proofs.Ytmaekaflpbenmaa
namespace Go.Proofs.Ytmaekaflpbenmaa
open Go Go.Lt Go.RowKit
set_option linter.unusedVariables false
set_option linter.unusedSimpArgs false
set_option maxRecDepth 20000

set_option maxHeartbeats 32000000 in
theorem ref11_Same (a b : Circ) (w : World) (hCa : CAt w a) (hCb : CAt w b) : Pure Try.prog 37 [a.val, b.val] w (.bool (dec (a.t = b.t))) := by
  by_cases e0 : a.max = b.max
  rotate_left
  · skip
    refine Spec.of _ Try.func37 rfl Try.ntmps37 (by kernel_rfl) rfl ?_
    repeat' (first
      | (apply WL.box; exact rfl; exact rfl; exact rfl; intro gb w' hb hge hc hx; have hcc := hc; (first | (obtain ⟨h1, h2, h3, _⟩ := hc) | (obtain ⟨h1, h2, _⟩ := hc)); (first | (have h_0 := xA0; clear h_0; have hB := hcc; obtain ⟨xB0, xB1, xB2, xB3, xB4, xB5, xB6, xB7, xB8, _⟩ := hcc; (obtain ⟨gB, rfl⟩ : ∃ x, x = gb := ⟨_, rfl⟩; obtain ⟨wB, rfl⟩ : ∃ x, x = w' := ⟨_, rfl⟩; obtain ⟨hxB, rfl⟩ : ∃ x, x = hx := ⟨_, rfl⟩)) | (have hA := hcc; obtain ⟨xA0, xA1, xA2, xA3, xA4, xA5, xA6, xA7, xA8, _⟩ := hcc; (obtain ⟨gA, rfl⟩ : ∃ x, x = gb := ⟨_, rfl⟩; obtain ⟨wA, rfl⟩ : ∃ x, x = w' := ⟨_, rfl⟩; obtain ⟨hxA, rfl⟩ : ∃ x, x = hx := ⟨_, rfl⟩))))
      | (apply WL.eqStr tOk; exact rfl; exact rfl; exact rfl; exact rfl; exact rfl; exact rfl)
      | (apply WL.neStr tOk; exact rfl; exact rfl; exact rfl; exact rfl; exact rfl; exact rfl)
      | (apply WL.gT; exact rfl; exact rfl; (focus (first | exact dec_true e0; done)))
      | (apply WL.gF; exact rfl; exact rfl; (focus (first | exact dec_true e0; done)))
      | (apply W.condKT; exact rfl; (focus (first | exact dec_true e0; done)))
      | (apply W.condKF; exact rfl; (focus (first | exact dec_true e0; done)))
      | ((show WL _ _ _ (⟨_, .call ⟨.value (.func 22), _, _⟩, _, _, _, _⟩ :: _) _ _ _); apply WL.callS; exact rfl; exact rfl; exact rfl; exact rfl; exact ref_Ints _ _ _ _ _ _ _ (hCa.ins.row.ext (by (exact extA))) (hCb.ins.row.ext (by (exact extA))))
      | ((show WL _ _ _ (⟨_, .call ⟨.value (.func 22), _, _⟩, _, _, _, _⟩ :: _) _ _ _); apply WL.callS; exact rfl; exact rfl; exact rfl; exact rfl; exact ref_Ints _ _ _ _ _ _ _ (hCa.outs.row.ext (by (exact extA))) (hCb.outs.row.ext (by (exact extA))))
      | ((show WL _ _ _ (⟨_, .call ⟨.value (.func 22), _, _⟩, _, _, _, _⟩ :: _) _ _ _); apply WL.callS; exact rfl; exact rfl; exact rfl; exact rfl; exact ref_Ints _ _ _ _ _ _ _ (hCa.bads.row.ext (by (exact extA))) (hCb.bads.row.ext (by (exact extA))))
      | ((show WL _ _ _ (⟨_, .call ⟨.value (.func 22), _, _⟩, _, _, _, _⟩ :: _) _ _ _); apply WL.callS; exact rfl; exact rfl; exact rfl; exact rfl; exact ref_Ints _ _ _ _ _ _ _ (hCa.cons.row.ext (by (exact extA))) (hCb.cons.row.ext (by (exact extA))))
      | (show WL _ _ _ _ _ _ _; first | apply WL.nil | (refine WL.au (k := ?_)) | (apply WL.index tOk; exact rfl; exact rfl; exact rfl; exact rfl; exact rfl; exact rfl; exact rfl; exact rfl; assumption; (exact extA); exact rfl; omega; assumption; intro b off h; have hcc := h; first | (obtain ⟨h1, h2, h3, h4, h5, h6, _⟩ := h) | (obtain ⟨h1, h2, h3, _⟩ := h) | (obtain ⟨h1, h2, _⟩ := h) | (obtain ⟨h1, _⟩ := h)) | (apply WL.guardF; exact rfl; exact rfl) | (apply WL.gD; exact rfl; exact rfl; all_goals intro _) | (apply WL.gN; exact rfl; exact rfl; all_goals intro _) | (apply WL.gB; exact rfl; exact rfl; all_goals intro _))
      | (show Z _ _ _ _ _; first | apply Z.tail | apply Z.then_normal | apply Z.block_normal | apply Z.then_exit | apply Z.block_exit | apply Z.then_ret | apply Z.block_ret | (apply Z.block_other; exact rfl))
      | (show W _ _ _ _ _ _; first | apply W.seq | apply W.region | apply W.block | apply W.skip | apply W.ret | apply W.exit | (apply W.condT; exact rfl) | (apply W.condF; exact rfl) | (apply W.condD; exact rfl; all_goals intro _) | (apply W.condN; exact rfl; all_goals intro _) | (apply W.condB; exact rfl; all_goals intro _)))
    exact Z.body1 Try.results37 rfl fun m => ⟨congrArg Value.bool (dec_false (show ¬ a.t = b.t from fun h => e0 (congrArg CirT.max h))).symm, Ext.at (by (exact extA)) m⟩
  by_cases e1 : a.com = b.com
  rotate_left
  · skip
    refine Spec.of _ Try.func37 rfl Try.ntmps37 (by kernel_rfl) rfl ?_
    repeat' (first
      | (apply WL.box; exact rfl; exact rfl; exact rfl; intro gb w' hb hge hc hx; have hcc := hc; (first | (obtain ⟨h1, h2, h3, _⟩ := hc) | (obtain ⟨h1, h2, _⟩ := hc)); (first | (have h_0 := xA0; clear h_0; have hB := hcc; obtain ⟨xB0, xB1, xB2, xB3, xB4, xB5, xB6, xB7, xB8, _⟩ := hcc; (obtain ⟨gB, rfl⟩ : ∃ x, x = gb := ⟨_, rfl⟩; obtain ⟨wB, rfl⟩ : ∃ x, x = w' := ⟨_, rfl⟩; obtain ⟨hxB, rfl⟩ : ∃ x, x = hx := ⟨_, rfl⟩)) | (have hA := hcc; obtain ⟨xA0, xA1, xA2, xA3, xA4, xA5, xA6, xA7, xA8, _⟩ := hcc; (obtain ⟨gA, rfl⟩ : ∃ x, x = gb := ⟨_, rfl⟩; obtain ⟨wA, rfl⟩ : ∃ x, x = w' := ⟨_, rfl⟩; obtain ⟨hxA, rfl⟩ : ∃ x, x = hx := ⟨_, rfl⟩))))
      | (apply WL.eqStr tOk; exact rfl; exact rfl; exact rfl; exact rfl; exact rfl; exact rfl)
      | (apply WL.neStr tOk; exact rfl; exact rfl; exact rfl; exact rfl; exact rfl; exact rfl)
      | (apply WL.gT; exact rfl; exact rfl; (focus (first | exact dec_false (fun h => h e0) | exact dec_true e1; done)))
      | (apply WL.gF; exact rfl; exact rfl; (focus (first | exact dec_false (fun h => h e0) | exact dec_true e1; done)))
      | (apply W.condKT; exact rfl; (focus (first | exact dec_false (fun h => h e0) | exact dec_true e1; done)))
      | (apply W.condKF; exact rfl; (focus (first | exact dec_false (fun h => h e0) | exact dec_true e1; done)))
      | ((show WL _ _ _ (⟨_, .call ⟨.value (.func 22), _, _⟩, _, _, _, _⟩ :: _) _ _ _); apply WL.callS; exact rfl; exact rfl; exact rfl; exact rfl; exact ref_Ints _ _ _ _ _ _ _ (hCa.ins.row.ext (by (exact extA))) (hCb.ins.row.ext (by (exact extA))))
      | ((show WL _ _ _ (⟨_, .call ⟨.value (.func 22), _, _⟩, _, _, _, _⟩ :: _) _ _ _); apply WL.callS; exact rfl; exact rfl; exact rfl; exact rfl; exact ref_Ints _ _ _ _ _ _ _ (hCa.outs.row.ext (by (exact extA))) (hCb.outs.row.ext (by (exact extA))))
      | ((show WL _ _ _ (⟨_, .call ⟨.value (.func 22), _, _⟩, _, _, _, _⟩ :: _) _ _ _); apply WL.callS; exact rfl; exact rfl; exact rfl; exact rfl; exact ref_Ints _ _ _ _ _ _ _ (hCa.bads.row.ext (by (exact extA))) (hCb.bads.row.ext (by (exact extA))))
      | ((show WL _ _ _ (⟨_, .call ⟨.value (.func 22), _, _⟩, _, _, _, _⟩ :: _) _ _ _); apply WL.callS; exact rfl; exact rfl; exact rfl; exact rfl; exact ref_Ints _ _ _ _ _ _ _ (hCa.cons.row.ext (by (exact extA))) (hCb.cons.row.ext (by (exact extA))))
      | (show WL _ _ _ _ _ _ _; first | apply WL.nil | (refine WL.au (k := ?_)) | (apply WL.index tOk; exact rfl; exact rfl; exact rfl; exact rfl; exact rfl; exact rfl; exact rfl; exact rfl; assumption; (exact extA); exact rfl; omega; assumption; intro b off h; have hcc := h; first | (obtain ⟨h1, h2, h3, h4, h5, h6, _⟩ := h) | (obtain ⟨h1, h2, h3, _⟩ := h) | (obtain ⟨h1, h2, _⟩ := h) | (obtain ⟨h1, _⟩ := h)) | (apply WL.guardF; exact rfl; exact rfl) | (apply WL.gD; exact rfl; exact rfl; all_goals intro _) | (apply WL.gN; exact rfl; exact rfl; all_goals intro _) | (apply WL.gB; exact rfl; exact rfl; all_goals intro _))
      | (show Z _ _ _ _ _; first | apply Z.tail | apply Z.then_normal | apply Z.block_normal | apply Z.then_exit | apply Z.block_exit | apply Z.then_ret | apply Z.block_ret | (apply Z.block_other; exact rfl))
      | (show W _ _ _ _ _ _; first | apply W.seq | apply W.region | apply W.block | apply W.skip | apply W.ret | apply W.exit | (apply W.condT; exact rfl) | (apply W.condF; exact rfl) | (apply W.condD; exact rfl; all_goals intro _) | (apply W.condN; exact rfl; all_goals intro _) | (apply W.condB; exact rfl; all_goals intro _)))
    exact Z.body1 Try.results37 rfl fun m => ⟨congrArg Value.bool (dec_false (show ¬ a.t = b.t from fun h => e1 (congrArg CirT.com h))).symm, Ext.at (by (exact extA)) m⟩
  by_cases e2 : a.ins.2.2 = b.ins.2.2
  rotate_left
  · skip
    refine Spec.of _ Try.func37 rfl Try.ntmps37 (by kernel_rfl) rfl ?_
    repeat' (first
      | (apply WL.box; exact rfl; exact rfl; exact rfl; intro gb w' hb hge hc hx; have hcc := hc; (first | (obtain ⟨h1, h2, h3, _⟩ := hc) | (obtain ⟨h1, h2, _⟩ := hc)); (first | (have h_0 := xA0; clear h_0; have hB := hcc; obtain ⟨xB0, xB1, xB2, xB3, xB4, xB5, xB6, xB7, xB8, _⟩ := hcc; (obtain ⟨gB, rfl⟩ : ∃ x, x = gb := ⟨_, rfl⟩; obtain ⟨wB, rfl⟩ : ∃ x, x = w' := ⟨_, rfl⟩; obtain ⟨hxB, rfl⟩ : ∃ x, x = hx := ⟨_, rfl⟩)) | (have hA := hcc; obtain ⟨xA0, xA1, xA2, xA3, xA4, xA5, xA6, xA7, xA8, _⟩ := hcc; (obtain ⟨gA, rfl⟩ : ∃ x, x = gb := ⟨_, rfl⟩; obtain ⟨wA, rfl⟩ : ∃ x, x = w' := ⟨_, rfl⟩; obtain ⟨hxA, rfl⟩ : ∃ x, x = hx := ⟨_, rfl⟩))))
      | (apply WL.eqStr tOk; exact rfl; exact rfl; exact rfl; exact rfl; exact rfl; exact rfl)
      | (apply WL.neStr tOk; exact rfl; exact rfl; exact rfl; exact rfl; exact rfl; exact rfl)
      | (apply WL.gT; exact rfl; exact rfl; (focus (first | exact dec_false (fun h => h e0) | exact dec_false (fun h => h e1) | (rw [dec_false e2]; rfl); done)))
      | (apply WL.gF; exact rfl; exact rfl; (focus (first | exact dec_false (fun h => h e0) | exact dec_false (fun h => h e1) | (rw [dec_false e2]; rfl); done)))
      | (apply W.condKT; exact rfl; (focus (first | exact dec_false (fun h => h e0) | exact dec_false (fun h => h e1) | (rw [dec_false e2]; rfl); done)))
      | (apply W.condKF; exact rfl; (focus (first | exact dec_false (fun h => h e0) | exact dec_false (fun h => h e1) | (rw [dec_false e2]; rfl); done)))
      | ((show WL _ _ _ (⟨_, .call ⟨.value (.func 22), _, _⟩, _, _, _, _⟩ :: _) _ _ _); apply WL.callS; exact rfl; exact rfl; exact rfl; exact rfl; exact ref_Ints _ _ _ _ _ _ _ (hCa.ins.row.ext (by (exact extA))) (hCb.ins.row.ext (by (exact extA))))
      | ((show WL _ _ _ (⟨_, .call ⟨.value (.func 22), _, _⟩, _, _, _, _⟩ :: _) _ _ _); apply WL.callS; exact rfl; exact rfl; exact rfl; exact rfl; exact ref_Ints _ _ _ _ _ _ _ (hCa.outs.row.ext (by (exact extA))) (hCb.outs.row.ext (by (exact extA))))
      | ((show WL _ _ _ (⟨_, .call ⟨.value (.func 22), _, _⟩, _, _, _, _⟩ :: _) _ _ _); apply WL.callS; exact rfl; exact rfl; exact rfl; exact rfl; exact ref_Ints _ _ _ _ _ _ _ (hCa.bads.row.ext (by (exact extA))) (hCb.bads.row.ext (by (exact extA))))
      | ((show WL _ _ _ (⟨_, .call ⟨.value (.func 22), _, _⟩, _, _, _, _⟩ :: _) _ _ _); apply WL.callS; exact rfl; exact rfl; exact rfl; exact rfl; exact ref_Ints _ _ _ _ _ _ _ (hCa.cons.row.ext (by (exact extA))) (hCb.cons.row.ext (by (exact extA))))
      | (show WL _ _ _ _ _ _ _; first | apply WL.nil | (refine WL.au (k := ?_)) | (apply WL.index tOk; exact rfl; exact rfl; exact rfl; exact rfl; exact rfl; exact rfl; exact rfl; exact rfl; assumption; (exact extA); exact rfl; omega; assumption; intro b off h; have hcc := h; first | (obtain ⟨h1, h2, h3, h4, h5, h6, _⟩ := h) | (obtain ⟨h1, h2, h3, _⟩ := h) | (obtain ⟨h1, h2, _⟩ := h) | (obtain ⟨h1, _⟩ := h)) | (apply WL.guardF; exact rfl; exact rfl) | (apply WL.gD; exact rfl; exact rfl; all_goals intro _) | (apply WL.gN; exact rfl; exact rfl; all_goals intro _) | (apply WL.gB; exact rfl; exact rfl; all_goals intro _))
      | (show Z _ _ _ _ _; first | apply Z.tail | apply Z.then_normal | apply Z.block_normal | apply Z.then_exit | apply Z.block_exit | apply Z.then_ret | apply Z.block_ret | (apply Z.block_other; exact rfl))
      | (show W _ _ _ _ _ _; first | apply W.seq | apply W.region | apply W.block | apply W.skip | apply W.ret | apply W.exit | (apply W.condT; exact rfl) | (apply W.condF; exact rfl) | (apply W.condD; exact rfl; all_goals intro _) | (apply W.condN; exact rfl; all_goals intro _) | (apply W.condB; exact rfl; all_goals intro _)))
    exact Z.body1 Try.results37 rfl fun m => ⟨congrArg Value.bool (dec_false (show ¬ a.t = b.t from fun h => e2 (congrArg CirT.ins h))).symm, Ext.at (by (exact extA)) m⟩
  by_cases e3 : a.outs.2.2 = b.outs.2.2
  rotate_left
  · skip
    refine Spec.of _ Try.func37 rfl Try.ntmps37 (by kernel_rfl) rfl ?_
    repeat' (first
      | (apply WL.box; exact rfl; exact rfl; exact rfl; intro gb w' hb hge hc hx; have hcc := hc; (first | (obtain ⟨h1, h2, h3, _⟩ := hc) | (obtain ⟨h1, h2, _⟩ := hc)); (first | (have h_0 := xA0; clear h_0; have hB := hcc; obtain ⟨xB0, xB1, xB2, xB3, xB4, xB5, xB6, xB7, xB8, _⟩ := hcc; (obtain ⟨gB, rfl⟩ : ∃ x, x = gb := ⟨_, rfl⟩; obtain ⟨wB, rfl⟩ : ∃ x, x = w' := ⟨_, rfl⟩; obtain ⟨hxB, rfl⟩ : ∃ x, x = hx := ⟨_, rfl⟩)) | (have hA := hcc; obtain ⟨xA0, xA1, xA2, xA3, xA4, xA5, xA6, xA7, xA8, _⟩ := hcc; (obtain ⟨gA, rfl⟩ : ∃ x, x = gb := ⟨_, rfl⟩; obtain ⟨wA, rfl⟩ : ∃ x, x = w' := ⟨_, rfl⟩; obtain ⟨hxA, rfl⟩ : ∃ x, x = hx := ⟨_, rfl⟩))))
      | (apply WL.eqStr tOk; exact rfl; exact rfl; exact rfl; exact rfl; exact rfl; exact rfl)
      | (apply WL.neStr tOk; exact rfl; exact rfl; exact rfl; exact rfl; exact rfl; exact rfl)
      | (apply WL.gT; exact rfl; exact rfl; (focus (first | exact dec_false (fun h => h e0) | exact dec_false (fun h => h e1) | (rw [dec_true e2]; rfl) | (rw [dec_false e3]; rfl); done)))
      | (apply WL.gF; exact rfl; exact rfl; (focus (first | exact dec_false (fun h => h e0) | exact dec_false (fun h => h e1) | (rw [dec_true e2]; rfl) | (rw [dec_false e3]; rfl); done)))
      | (apply W.condKT; exact rfl; (focus (first | exact dec_false (fun h => h e0) | exact dec_false (fun h => h e1) | (rw [dec_true e2]; rfl) | (rw [dec_false e3]; rfl); done)))
      | (apply W.condKF; exact rfl; (focus (first | exact dec_false (fun h => h e0) | exact dec_false (fun h => h e1) | (rw [dec_true e2]; rfl) | (rw [dec_false e3]; rfl); done)))
      | ((show WL _ _ _ (⟨_, .call ⟨.value (.func 22), _, _⟩, _, _, _, _⟩ :: _) _ _ _); apply WL.callS; exact rfl; exact rfl; exact rfl; exact rfl; exact ref_Ints _ _ _ _ _ _ _ (hCa.ins.row.ext (by (exact extA))) (hCb.ins.row.ext (by (exact extA))))
      | ((show WL _ _ _ (⟨_, .call ⟨.value (.func 22), _, _⟩, _, _, _, _⟩ :: _) _ _ _); apply WL.callS; exact rfl; exact rfl; exact rfl; exact rfl; exact ref_Ints _ _ _ _ _ _ _ (hCa.outs.row.ext (by (exact extA))) (hCb.outs.row.ext (by (exact extA))))
      | ((show WL _ _ _ (⟨_, .call ⟨.value (.func 22), _, _⟩, _, _, _, _⟩ :: _) _ _ _); apply WL.callS; exact rfl; exact rfl; exact rfl; exact rfl; exact ref_Ints _ _ _ _ _ _ _ (hCa.bads.row.ext (by (exact extA))) (hCb.bads.row.ext (by (exact extA))))
      | ((show WL _ _ _ (⟨_, .call ⟨.value (.func 22), _, _⟩, _, _, _, _⟩ :: _) _ _ _); apply WL.callS; exact rfl; exact rfl; exact rfl; exact rfl; exact ref_Ints _ _ _ _ _ _ _ (hCa.cons.row.ext (by (exact extA))) (hCb.cons.row.ext (by (exact extA))))
      | (show WL _ _ _ _ _ _ _; first | apply WL.nil | (refine WL.au (k := ?_)) | (apply WL.index tOk; exact rfl; exact rfl; exact rfl; exact rfl; exact rfl; exact rfl; exact rfl; exact rfl; assumption; (exact extA); exact rfl; omega; assumption; intro b off h; have hcc := h; first | (obtain ⟨h1, h2, h3, h4, h5, h6, _⟩ := h) | (obtain ⟨h1, h2, h3, _⟩ := h) | (obtain ⟨h1, h2, _⟩ := h) | (obtain ⟨h1, _⟩ := h)) | (apply WL.guardF; exact rfl; exact rfl) | (apply WL.gD; exact rfl; exact rfl; all_goals intro _) | (apply WL.gN; exact rfl; exact rfl; all_goals intro _) | (apply WL.gB; exact rfl; exact rfl; all_goals intro _))
      | (show Z _ _ _ _ _; first | apply Z.tail | apply Z.then_normal | apply Z.block_normal | apply Z.then_exit | apply Z.block_exit | apply Z.then_ret | apply Z.block_ret | (apply Z.block_other; exact rfl))
      | (show W _ _ _ _ _ _; first | apply W.seq | apply W.region | apply W.block | apply W.skip | apply W.ret | apply W.exit | (apply W.condT; exact rfl) | (apply W.condF; exact rfl) | (apply W.condD; exact rfl; all_goals intro _) | (apply W.condN; exact rfl; all_goals intro _) | (apply W.condB; exact rfl; all_goals intro _)))
    exact Z.body1 Try.results37 rfl fun m => ⟨congrArg Value.bool (dec_false (show ¬ a.t = b.t from fun h => e3 (congrArg CirT.outs h))).symm, Ext.at (by (exact extA)) m⟩
  by_cases e4 : a.bads.2.2 = b.bads.2.2
  rotate_left
  · skip
    refine Spec.of _ Try.func37 rfl Try.ntmps37 (by kernel_rfl) rfl ?_
    repeat' (first
      | (apply WL.box; exact rfl; exact rfl; exact rfl; intro gb w' hb hge hc hx; have hcc := hc; (first | (obtain ⟨h1, h2, h3, _⟩ := hc) | (obtain ⟨h1, h2, _⟩ := hc)); (first | (have h_0 := xA0; clear h_0; have hB := hcc; obtain ⟨xB0, xB1, xB2, xB3, xB4, xB5, xB6, xB7, xB8, _⟩ := hcc; (obtain ⟨gB, rfl⟩ : ∃ x, x = gb := ⟨_, rfl⟩; obtain ⟨wB, rfl⟩ : ∃ x, x = w' := ⟨_, rfl⟩; obtain ⟨hxB, rfl⟩ : ∃ x, x = hx := ⟨_, rfl⟩)) | (have hA := hcc; obtain ⟨xA0, xA1, xA2, xA3, xA4, xA5, xA6, xA7, xA8, _⟩ := hcc; (obtain ⟨gA, rfl⟩ : ∃ x, x = gb := ⟨_, rfl⟩; obtain ⟨wA, rfl⟩ : ∃ x, x = w' := ⟨_, rfl⟩; obtain ⟨hxA, rfl⟩ : ∃ x, x = hx := ⟨_, rfl⟩))))
      | (apply WL.eqStr tOk; exact rfl; exact rfl; exact rfl; exact rfl; exact rfl; exact rfl)
      | (apply WL.neStr tOk; exact rfl; exact rfl; exact rfl; exact rfl; exact rfl; exact rfl)
      | (apply WL.gT; exact rfl; exact rfl; (focus (first | exact dec_false (fun h => h e0) | exact dec_false (fun h => h e1) | (rw [dec_true e2]; rfl) | (rw [dec_true e3]; rfl) | (rw [dec_false e4]; rfl); done)))
      | (apply WL.gF; exact rfl; exact rfl; (focus (first | exact dec_false (fun h => h e0) | exact dec_false (fun h => h e1) | (rw [dec_true e2]; rfl) | (rw [dec_true e3]; rfl) | (rw [dec_false e4]; rfl); done)))
      | (apply W.condKT; exact rfl; (focus (first | exact dec_false (fun h => h e0) | exact dec_false (fun h => h e1) | (rw [dec_true e2]; rfl) | (rw [dec_true e3]; rfl) | (rw [dec_false e4]; rfl); done)))
      | (apply W.condKF; exact rfl; (focus (first | exact dec_false (fun h => h e0) | exact dec_false (fun h => h e1) | (rw [dec_true e2]; rfl) | (rw [dec_true e3]; rfl) | (rw [dec_false e4]; rfl); done)))
      | ((show WL _ _ _ (⟨_, .call ⟨.value (.func 22), _, _⟩, _, _, _, _⟩ :: _) _ _ _); apply WL.callS; exact rfl; exact rfl; exact rfl; exact rfl; exact ref_Ints _ _ _ _ _ _ _ (hCa.ins.row.ext (by (exact extA))) (hCb.ins.row.ext (by (exact extA))))
      | ((show WL _ _ _ (⟨_, .call ⟨.value (.func 22), _, _⟩, _, _, _, _⟩ :: _) _ _ _); apply WL.callS; exact rfl; exact rfl; exact rfl; exact rfl; exact ref_Ints _ _ _ _ _ _ _ (hCa.outs.row.ext (by (exact extA))) (hCb.outs.row.ext (by (exact extA))))
      | ((show WL _ _ _ (⟨_, .call ⟨.value (.func 22), _, _⟩, _, _, _, _⟩ :: _) _ _ _); apply WL.callS; exact rfl; exact rfl; exact rfl; exact rfl; exact ref_Ints _ _ _ _ _ _ _ (hCa.bads.row.ext (by (exact extA))) (hCb.bads.row.ext (by (exact extA))))
      | ((show WL _ _ _ (⟨_, .call ⟨.value (.func 22), _, _⟩, _, _, _, _⟩ :: _) _ _ _); apply WL.callS; exact rfl; exact rfl; exact rfl; exact rfl; exact ref_Ints _ _ _ _ _ _ _ (hCa.cons.row.ext (by (exact extA))) (hCb.cons.row.ext (by (exact extA))))
      | (show WL _ _ _ _ _ _ _; first | apply WL.nil | (refine WL.au (k := ?_)) | (apply WL.index tOk; exact rfl; exact rfl; exact rfl; exact rfl; exact rfl; exact rfl; exact rfl; exact rfl; assumption; (exact extA); exact rfl; omega; assumption; intro b off h; have hcc := h; first | (obtain ⟨h1, h2, h3, h4, h5, h6, _⟩ := h) | (obtain ⟨h1, h2, h3, _⟩ := h) | (obtain ⟨h1, h2, _⟩ := h) | (obtain ⟨h1, _⟩ := h)) | (apply WL.guardF; exact rfl; exact rfl) | (apply WL.gD; exact rfl; exact rfl; all_goals intro _) | (apply WL.gN; exact rfl; exact rfl; all_goals intro _) | (apply WL.gB; exact rfl; exact rfl; all_goals intro _))
      | (show Z _ _ _ _ _; first | apply Z.tail | apply Z.then_normal | apply Z.block_normal | apply Z.then_exit | apply Z.block_exit | apply Z.then_ret | apply Z.block_ret | (apply Z.block_other; exact rfl))
      | (show W _ _ _ _ _ _; first | apply W.seq | apply W.region | apply W.block | apply W.skip | apply W.ret | apply W.exit | (apply W.condT; exact rfl) | (apply W.condF; exact rfl) | (apply W.condD; exact rfl; all_goals intro _) | (apply W.condN; exact rfl; all_goals intro _) | (apply W.condB; exact rfl; all_goals intro _)))
    exact Z.body1 Try.results37 rfl fun m => ⟨congrArg Value.bool (dec_false (show ¬ a.t = b.t from fun h => e4 (congrArg CirT.bads h))).symm, Ext.at (by (exact extA)) m⟩
  by_cases e5 : a.cons.2.2 = b.cons.2.2
  rotate_left
  · skip
    refine Spec.of _ Try.func37 rfl Try.ntmps37 (by kernel_rfl) rfl ?_
    repeat' (first
      | (apply WL.box; exact rfl; exact rfl; exact rfl; intro gb w' hb hge hc hx; have hcc := hc; (first | (obtain ⟨h1, h2, h3, _⟩ := hc) | (obtain ⟨h1, h2, _⟩ := hc)); (first | (have h_0 := xA0; clear h_0; have hB := hcc; obtain ⟨xB0, xB1, xB2, xB3, xB4, xB5, xB6, xB7, xB8, _⟩ := hcc; (obtain ⟨gB, rfl⟩ : ∃ x, x = gb := ⟨_, rfl⟩; obtain ⟨wB, rfl⟩ : ∃ x, x = w' := ⟨_, rfl⟩; obtain ⟨hxB, rfl⟩ : ∃ x, x = hx := ⟨_, rfl⟩)) | (have hA := hcc; obtain ⟨xA0, xA1, xA2, xA3, xA4, xA5, xA6, xA7, xA8, _⟩ := hcc; (obtain ⟨gA, rfl⟩ : ∃ x, x = gb := ⟨_, rfl⟩; obtain ⟨wA, rfl⟩ : ∃ x, x = w' := ⟨_, rfl⟩; obtain ⟨hxA, rfl⟩ : ∃ x, x = hx := ⟨_, rfl⟩))))
      | (apply WL.eqStr tOk; exact rfl; exact rfl; exact rfl; exact rfl; exact rfl; exact rfl)
      | (apply WL.neStr tOk; exact rfl; exact rfl; exact rfl; exact rfl; exact rfl; exact rfl)
      | (apply WL.gT; exact rfl; exact rfl; (focus (first | exact dec_false (fun h => h e0) | exact dec_false (fun h => h e1) | (rw [dec_true e2]; rfl) | (rw [dec_true e3]; rfl) | (rw [dec_true e4]; rfl) | (rw [dec_false e5]; rfl); done)))
      | (apply WL.gF; exact rfl; exact rfl; (focus (first | exact dec_false (fun h => h e0) | exact dec_false (fun h => h e1) | (rw [dec_true e2]; rfl) | (rw [dec_true e3]; rfl) | (rw [dec_true e4]; rfl) | (rw [dec_false e5]; rfl); done)))
      | (apply W.condKT; exact rfl; (focus (first | exact dec_false (fun h => h e0) | exact dec_false (fun h => h e1) | (rw [dec_true e2]; rfl) | (rw [dec_true e3]; rfl) | (rw [dec_true e4]; rfl) | (rw [dec_false e5]; rfl); done)))
      | (apply W.condKF; exact rfl; (focus (first | exact dec_false (fun h => h e0) | exact dec_false (fun h => h e1) | (rw [dec_true e2]; rfl) | (rw [dec_true e3]; rfl) | (rw [dec_true e4]; rfl) | (rw [dec_false e5]; rfl); done)))
      | ((show WL _ _ _ (⟨_, .call ⟨.value (.func 22), _, _⟩, _, _, _, _⟩ :: _) _ _ _); apply WL.callS; exact rfl; exact rfl; exact rfl; exact rfl; exact ref_Ints _ _ _ _ _ _ _ (hCa.ins.row.ext (by (exact extA))) (hCb.ins.row.ext (by (exact extA))))
      | ((show WL _ _ _ (⟨_, .call ⟨.value (.func 22), _, _⟩, _, _, _, _⟩ :: _) _ _ _); apply WL.callS; exact rfl; exact rfl; exact rfl; exact rfl; exact ref_Ints _ _ _ _ _ _ _ (hCa.outs.row.ext (by (exact extA))) (hCb.outs.row.ext (by (exact extA))))
      | ((show WL _ _ _ (⟨_, .call ⟨.value (.func 22), _, _⟩, _, _, _, _⟩ :: _) _ _ _); apply WL.callS; exact rfl; exact rfl; exact rfl; exact rfl; exact ref_Ints _ _ _ _ _ _ _ (hCa.bads.row.ext (by (exact extA))) (hCb.bads.row.ext (by (exact extA))))
      | ((show WL _ _ _ (⟨_, .call ⟨.value (.func 22), _, _⟩, _, _, _, _⟩ :: _) _ _ _); apply WL.callS; exact rfl; exact rfl; exact rfl; exact rfl; exact ref_Ints _ _ _ _ _ _ _ (hCa.cons.row.ext (by (exact extA))) (hCb.cons.row.ext (by (exact extA))))
      | (show WL _ _ _ _ _ _ _; first | apply WL.nil | (refine WL.au (k := ?_)) | (apply WL.index tOk; exact rfl; exact rfl; exact rfl; exact rfl; exact rfl; exact rfl; exact rfl; exact rfl; assumption; (exact extA); exact rfl; omega; assumption; intro b off h; have hcc := h; first | (obtain ⟨h1, h2, h3, h4, h5, h6, _⟩ := h) | (obtain ⟨h1, h2, h3, _⟩ := h) | (obtain ⟨h1, h2, _⟩ := h) | (obtain ⟨h1, _⟩ := h)) | (apply WL.guardF; exact rfl; exact rfl) | (apply WL.gD; exact rfl; exact rfl; all_goals intro _) | (apply WL.gN; exact rfl; exact rfl; all_goals intro _) | (apply WL.gB; exact rfl; exact rfl; all_goals intro _))
      | (show Z _ _ _ _ _; first | apply Z.tail | apply Z.then_normal | apply Z.block_normal | apply Z.then_exit | apply Z.block_exit | apply Z.then_ret | apply Z.block_ret | (apply Z.block_other; exact rfl))
      | (show W _ _ _ _ _ _; first | apply W.seq | apply W.region | apply W.block | apply W.skip | apply W.ret | apply W.exit | (apply W.condT; exact rfl) | (apply W.condF; exact rfl) | (apply W.condD; exact rfl; all_goals intro _) | (apply W.condN; exact rfl; all_goals intro _) | (apply W.condB; exact rfl; all_goals intro _)))
    exact Z.body1 Try.results37 rfl fun m => ⟨congrArg Value.bool (dec_false (show ¬ a.t = b.t from fun h => e5 (congrArg CirT.cons h))).symm, Ext.at (by (exact extA)) m⟩
  by_cases l0 : a.lat.2.2.length = b.lat.2.2.length
  rotate_left
  · skip
    refine Spec.of _ Try.func37 rfl Try.ntmps37 (by kernel_rfl) rfl ?_
    repeat' (first
      | (apply WL.box; exact rfl; exact rfl; exact rfl; intro gb w' hb hge hc hx; have hcc := hc; (first | (obtain ⟨h1, h2, h3, _⟩ := hc) | (obtain ⟨h1, h2, _⟩ := hc)); (first | (have h_0 := xA0; clear h_0; have hB := hcc; obtain ⟨xB0, xB1, xB2, xB3, xB4, xB5, xB6, xB7, xB8, _⟩ := hcc; (obtain ⟨gB, rfl⟩ : ∃ x, x = gb := ⟨_, rfl⟩; obtain ⟨wB, rfl⟩ : ∃ x, x = w' := ⟨_, rfl⟩; obtain ⟨hxB, rfl⟩ : ∃ x, x = hx := ⟨_, rfl⟩)) | (have hA := hcc; obtain ⟨xA0, xA1, xA2, xA3, xA4, xA5, xA6, xA7, xA8, _⟩ := hcc; (obtain ⟨gA, rfl⟩ : ∃ x, x = gb := ⟨_, rfl⟩; obtain ⟨wA, rfl⟩ : ∃ x, x = w' := ⟨_, rfl⟩; obtain ⟨hxA, rfl⟩ : ∃ x, x = hx := ⟨_, rfl⟩))))
      | (apply WL.eqStr tOk; exact rfl; exact rfl; exact rfl; exact rfl; exact rfl; exact rfl)
      | (apply WL.neStr tOk; exact rfl; exact rfl; exact rfl; exact rfl; exact rfl; exact rfl)
      | (apply WL.gT; exact rfl; exact rfl; (focus (first | exact dec_false (fun h => h e0) | exact dec_false (fun h => h e1) | (rw [dec_true e2]; rfl) | (rw [dec_true e3]; rfl) | (rw [dec_true e4]; rfl) | (rw [dec_true e5]; rfl) | exact dec_true (show ((a.lat.2.2.length : Nat) : Int) ≠ (b.lat.2.2.length : Nat) by omega); done)))
      | (apply WL.gF; exact rfl; exact rfl; (focus (first | exact dec_false (fun h => h e0) | exact dec_false (fun h => h e1) | (rw [dec_true e2]; rfl) | (rw [dec_true e3]; rfl) | (rw [dec_true e4]; rfl) | (rw [dec_true e5]; rfl) | exact dec_true (show ((a.lat.2.2.length : Nat) : Int) ≠ (b.lat.2.2.length : Nat) by omega); done)))
      | (apply W.condKT; exact rfl; (focus (first | exact dec_false (fun h => h e0) | exact dec_false (fun h => h e1) | (rw [dec_true e2]; rfl) | (rw [dec_true e3]; rfl) | (rw [dec_true e4]; rfl) | (rw [dec_true e5]; rfl) | exact dec_true (show ((a.lat.2.2.length : Nat) : Int) ≠ (b.lat.2.2.length : Nat) by omega); done)))
      | (apply W.condKF; exact rfl; (focus (first | exact dec_false (fun h => h e0) | exact dec_false (fun h => h e1) | (rw [dec_true e2]; rfl) | (rw [dec_true e3]; rfl) | (rw [dec_true e4]; rfl) | (rw [dec_true e5]; rfl) | exact dec_true (show ((a.lat.2.2.length : Nat) : Int) ≠ (b.lat.2.2.length : Nat) by omega); done)))
      | ((show WL _ _ _ (⟨_, .call ⟨.value (.func 22), _, _⟩, _, _, _, _⟩ :: _) _ _ _); apply WL.callS; exact rfl; exact rfl; exact rfl; exact rfl; exact ref_Ints _ _ _ _ _ _ _ (hCa.ins.row.ext (by (exact extA))) (hCb.ins.row.ext (by (exact extA))))
      | ((show WL _ _ _ (⟨_, .call ⟨.value (.func 22), _, _⟩, _, _, _, _⟩ :: _) _ _ _); apply WL.callS; exact rfl; exact rfl; exact rfl; exact rfl; exact ref_Ints _ _ _ _ _ _ _ (hCa.outs.row.ext (by (exact extA))) (hCb.outs.row.ext (by (exact extA))))
      | ((show WL _ _ _ (⟨_, .call ⟨.value (.func 22), _, _⟩, _, _, _, _⟩ :: _) _ _ _); apply WL.callS; exact rfl; exact rfl; exact rfl; exact rfl; exact ref_Ints _ _ _ _ _ _ _ (hCa.bads.row.ext (by (exact extA))) (hCb.bads.row.ext (by (exact extA))))
      | ((show WL _ _ _ (⟨_, .call ⟨.value (.func 22), _, _⟩, _, _, _, _⟩ :: _) _ _ _); apply WL.callS; exact rfl; exact rfl; exact rfl; exact rfl; exact ref_Ints _ _ _ _ _ _ _ (hCa.cons.row.ext (by (exact extA))) (hCb.cons.row.ext (by (exact extA))))
      | (show WL _ _ _ _ _ _ _; first | apply WL.nil | (refine WL.au (k := ?_)) | (apply WL.index tOk; exact rfl; exact rfl; exact rfl; exact rfl; exact rfl; exact rfl; exact rfl; exact rfl; assumption; (exact extA); exact rfl; omega; assumption; intro b off h; have hcc := h; first | (obtain ⟨h1, h2, h3, h4, h5, h6, _⟩ := h) | (obtain ⟨h1, h2, h3, _⟩ := h) | (obtain ⟨h1, h2, _⟩ := h) | (obtain ⟨h1, _⟩ := h)) | (apply WL.guardF; exact rfl; exact rfl) | (apply WL.gD; exact rfl; exact rfl; all_goals intro _) | (apply WL.gN; exact rfl; exact rfl; all_goals intro _) | (apply WL.gB; exact rfl; exact rfl; all_goals intro _))
      | (show Z _ _ _ _ _; first | apply Z.tail | apply Z.then_normal | apply Z.block_normal | apply Z.then_exit | apply Z.block_exit | apply Z.then_ret | apply Z.block_ret | (apply Z.block_other; exact rfl))
      | (show W _ _ _ _ _ _; first | apply W.seq | apply W.region | apply W.block | apply W.skip | apply W.ret | apply W.exit | (apply W.condT; exact rfl) | (apply W.condF; exact rfl) | (apply W.condD; exact rfl; all_goals intro _) | (apply W.condN; exact rfl; all_goals intro _) | (apply W.condB; exact rfl; all_goals intro _)))
    exact Z.body1 Try.results37 rfl fun m => ⟨congrArg Value.bool (dec_false (show ¬ a.t = b.t from fun h => l0 (congrArg (fun c : CirT => c.lat.length) h))).symm, Ext.at (by (exact extA)) m⟩
  by_cases l1 : a.gates.2.2.length = b.gates.2.2.length
  rotate_left
  · skip
    refine Spec.of _ Try.func37 rfl Try.ntmps37 (by kernel_rfl) rfl ?_
    repeat' (first
      | (apply WL.box; exact rfl; exact rfl; exact rfl; intro gb w' hb hge hc hx; have hcc := hc; (first | (obtain ⟨h1, h2, h3, _⟩ := hc) | (obtain ⟨h1, h2, _⟩ := hc)); (first | (have h_0 := xA0; clear h_0; have hB := hcc; obtain ⟨xB0, xB1, xB2, xB3, xB4, xB5, xB6, xB7, xB8, _⟩ := hcc; (obtain ⟨gB, rfl⟩ : ∃ x, x = gb := ⟨_, rfl⟩; obtain ⟨wB, rfl⟩ : ∃ x, x = w' := ⟨_, rfl⟩; obtain ⟨hxB, rfl⟩ : ∃ x, x = hx := ⟨_, rfl⟩)) | (have hA := hcc; obtain ⟨xA0, xA1, xA2, xA3, xA4, xA5, xA6, xA7, xA8, _⟩ := hcc; (obtain ⟨gA, rfl⟩ : ∃ x, x = gb := ⟨_, rfl⟩; obtain ⟨wA, rfl⟩ : ∃ x, x = w' := ⟨_, rfl⟩; obtain ⟨hxA, rfl⟩ : ∃ x, x = hx := ⟨_, rfl⟩))))
      | (apply WL.eqStr tOk; exact rfl; exact rfl; exact rfl; exact rfl; exact rfl; exact rfl)
      | (apply WL.neStr tOk; exact rfl; exact rfl; exact rfl; exact rfl; exact rfl; exact rfl)
      | (apply WL.gT; exact rfl; exact rfl; (focus (first | exact dec_false (fun h => h e0) | exact dec_false (fun h => h e1) | (rw [dec_true e2]; rfl) | (rw [dec_true e3]; rfl) | (rw [dec_true e4]; rfl) | (rw [dec_true e5]; rfl) | exact dec_false (show ¬ ((a.lat.2.2.length : Nat) : Int) ≠ (b.lat.2.2.length : Nat) by omega) | exact dec_true (show ((a.gates.2.2.length : Nat) : Int) ≠ (b.gates.2.2.length : Nat) by omega); done)))
      | (apply WL.gF; exact rfl; exact rfl; (focus (first | exact dec_false (fun h => h e0) | exact dec_false (fun h => h e1) | (rw [dec_true e2]; rfl) | (rw [dec_true e3]; rfl) | (rw [dec_true e4]; rfl) | (rw [dec_true e5]; rfl) | exact dec_false (show ¬ ((a.lat.2.2.length : Nat) : Int) ≠ (b.lat.2.2.length : Nat) by omega) | exact dec_true (show ((a.gates.2.2.length : Nat) : Int) ≠ (b.gates.2.2.length : Nat) by omega); done)))
      | (apply W.condKT; exact rfl; (focus (first | exact dec_false (fun h => h e0) | exact dec_false (fun h => h e1) | (rw [dec_true e2]; rfl) | (rw [dec_true e3]; rfl) | (rw [dec_true e4]; rfl) | (rw [dec_true e5]; rfl) | exact dec_false (show ¬ ((a.lat.2.2.length : Nat) : Int) ≠ (b.lat.2.2.length : Nat) by omega) | exact dec_true (show ((a.gates.2.2.length : Nat) : Int) ≠ (b.gates.2.2.length : Nat) by omega); done)))
      | (apply W.condKF; exact rfl; (focus (first | exact dec_false (fun h => h e0) | exact dec_false (fun h => h e1) | (rw [dec_true e2]; rfl) | (rw [dec_true e3]; rfl) | (rw [dec_true e4]; rfl) | (rw [dec_true e5]; rfl) | exact dec_false (show ¬ ((a.lat.2.2.length : Nat) : Int) ≠ (b.lat.2.2.length : Nat) by omega) | exact dec_true (show ((a.gates.2.2.length : Nat) : Int) ≠ (b.gates.2.2.length : Nat) by omega); done)))
      | ((show WL _ _ _ (⟨_, .call ⟨.value (.func 22), _, _⟩, _, _, _, _⟩ :: _) _ _ _); apply WL.callS; exact rfl; exact rfl; exact rfl; exact rfl; exact ref_Ints _ _ _ _ _ _ _ (hCa.ins.row.ext (by (exact extA))) (hCb.ins.row.ext (by (exact extA))))
      | ((show WL _ _ _ (⟨_, .call ⟨.value (.func 22), _, _⟩, _, _, _, _⟩ :: _) _ _ _); apply WL.callS; exact rfl; exact rfl; exact rfl; exact rfl; exact ref_Ints _ _ _ _ _ _ _ (hCa.outs.row.ext (by (exact extA))) (hCb.outs.row.ext (by (exact extA))))
      | ((show WL _ _ _ (⟨_, .call ⟨.value (.func 22), _, _⟩, _, _, _, _⟩ :: _) _ _ _); apply WL.callS; exact rfl; exact rfl; exact rfl; exact rfl; exact ref_Ints _ _ _ _ _ _ _ (hCa.bads.row.ext (by (exact extA))) (hCb.bads.row.ext (by (exact extA))))
      | ((show WL _ _ _ (⟨_, .call ⟨.value (.func 22), _, _⟩, _, _, _, _⟩ :: _) _ _ _); apply WL.callS; exact rfl; exact rfl; exact rfl; exact rfl; exact ref_Ints _ _ _ _ _ _ _ (hCa.cons.row.ext (by (exact extA))) (hCb.cons.row.ext (by (exact extA))))
      | (show WL _ _ _ _ _ _ _; first | apply WL.nil | (refine WL.au (k := ?_)) | (apply WL.index tOk; exact rfl; exact rfl; exact rfl; exact rfl; exact rfl; exact rfl; exact rfl; exact rfl; assumption; (exact extA); exact rfl; omega; assumption; intro b off h; have hcc := h; first | (obtain ⟨h1, h2, h3, h4, h5, h6, _⟩ := h) | (obtain ⟨h1, h2, h3, _⟩ := h) | (obtain ⟨h1, h2, _⟩ := h) | (obtain ⟨h1, _⟩ := h)) | (apply WL.guardF; exact rfl; exact rfl) | (apply WL.gD; exact rfl; exact rfl; all_goals intro _) | (apply WL.gN; exact rfl; exact rfl; all_goals intro _) | (apply WL.gB; exact rfl; exact rfl; all_goals intro _))
      | (show Z _ _ _ _ _; first | apply Z.tail | apply Z.then_normal | apply Z.block_normal | apply Z.then_exit | apply Z.block_exit | apply Z.then_ret | apply Z.block_ret | (apply Z.block_other; exact rfl))
      | (show W _ _ _ _ _ _; first | apply W.seq | apply W.region | apply W.block | apply W.skip | apply W.ret | apply W.exit | (apply W.condT; exact rfl) | (apply W.condF; exact rfl) | (apply W.condD; exact rfl; all_goals intro _) | (apply W.condN; exact rfl; all_goals intro _) | (apply W.condB; exact rfl; all_goals intro _)))
    exact Z.body1 Try.results37 rfl fun m => ⟨congrArg Value.bool (dec_false (show ¬ a.t = b.t from fun h => l1 (congrArg (fun c : CirT => c.gates.length) h))).symm, Ext.at (by (exact extA)) m⟩
  by_cases l2 : a.syms.2.2.length = b.syms.2.2.length
  rotate_left
  · skip
    refine Spec.of _ Try.func37 rfl Try.ntmps37 (by kernel_rfl) rfl ?_
    repeat' (first
      | (apply WL.box; exact rfl; exact rfl; exact rfl; intro gb w' hb hge hc hx; have hcc := hc; (first | (obtain ⟨h1, h2, h3, _⟩ := hc) | (obtain ⟨h1, h2, _⟩ := hc)); (first | (have h_0 := xA0; clear h_0; have hB := hcc; obtain ⟨xB0, xB1, xB2, xB3, xB4, xB5, xB6, xB7, xB8, _⟩ := hcc; (obtain ⟨gB, rfl⟩ : ∃ x, x = gb := ⟨_, rfl⟩; obtain ⟨wB, rfl⟩ : ∃ x, x = w' := ⟨_, rfl⟩; obtain ⟨hxB, rfl⟩ : ∃ x, x = hx := ⟨_, rfl⟩)) | (have hA := hcc; obtain ⟨xA0, xA1, xA2, xA3, xA4, xA5, xA6, xA7, xA8, _⟩ := hcc; (obtain ⟨gA, rfl⟩ : ∃ x, x = gb := ⟨_, rfl⟩; obtain ⟨wA, rfl⟩ : ∃ x, x = w' := ⟨_, rfl⟩; obtain ⟨hxA, rfl⟩ : ∃ x, x = hx := ⟨_, rfl⟩))))
      | (apply WL.eqStr tOk; exact rfl; exact rfl; exact rfl; exact rfl; exact rfl; exact rfl)
      | (apply WL.neStr tOk; exact rfl; exact rfl; exact rfl; exact rfl; exact rfl; exact rfl)
      | (apply WL.gT; exact rfl; exact rfl; (focus (first | exact dec_false (fun h => h e0) | exact dec_false (fun h => h e1) | (rw [dec_true e2]; rfl) | (rw [dec_true e3]; rfl) | (rw [dec_true e4]; rfl) | (rw [dec_true e5]; rfl) | exact dec_false (show ¬ ((a.lat.2.2.length : Nat) : Int) ≠ (b.lat.2.2.length : Nat) by omega) | exact dec_false (show ¬ ((a.gates.2.2.length : Nat) : Int) ≠ (b.gates.2.2.length : Nat) by omega) | exact dec_true (show ((a.syms.2.2.length : Nat) : Int) ≠ (b.syms.2.2.length : Nat) by omega); done)))
      | (apply WL.gF; exact rfl; exact rfl; (focus (first | exact dec_false (fun h => h e0) | exact dec_false (fun h => h e1) | (rw [dec_true e2]; rfl) | (rw [dec_true e3]; rfl) | (rw [dec_true e4]; rfl) | (rw [dec_true e5]; rfl) | exact dec_false (show ¬ ((a.lat.2.2.length : Nat) : Int) ≠ (b.lat.2.2.length : Nat) by omega) | exact dec_false (show ¬ ((a.gates.2.2.length : Nat) : Int) ≠ (b.gates.2.2.length : Nat) by omega) | exact dec_true (show ((a.syms.2.2.length : Nat) : Int) ≠ (b.syms.2.2.length : Nat) by omega); done)))
      | (apply W.condKT; exact rfl; (focus (first | exact dec_false (fun h => h e0) | exact dec_false (fun h => h e1) | (rw [dec_true e2]; rfl) | (rw [dec_true e3]; rfl) | (rw [dec_true e4]; rfl) | (rw [dec_true e5]; rfl) | exact dec_false (show ¬ ((a.lat.2.2.length : Nat) : Int) ≠ (b.lat.2.2.length : Nat) by omega) | exact dec_false (show ¬ ((a.gates.2.2.length : Nat) : Int) ≠ (b.gates.2.2.length : Nat) by omega) | exact dec_true (show ((a.syms.2.2.length : Nat) : Int) ≠ (b.syms.2.2.length : Nat) by omega); done)))
      | (apply W.condKF; exact rfl; (focus (first | exact dec_false (fun h => h e0) | exact dec_false (fun h => h e1) | (rw [dec_true e2]; rfl) | (rw [dec_true e3]; rfl) | (rw [dec_true e4]; rfl) | (rw [dec_true e5]; rfl) | exact dec_false (show ¬ ((a.lat.2.2.length : Nat) : Int) ≠ (b.lat.2.2.length : Nat) by omega) | exact dec_false (show ¬ ((a.gates.2.2.length : Nat) : Int) ≠ (b.gates.2.2.length : Nat) by omega) | exact dec_true (show ((a.syms.2.2.length : Nat) : Int) ≠ (b.syms.2.2.length : Nat) by omega); done)))
      | ((show WL _ _ _ (⟨_, .call ⟨.value (.func 22), _, _⟩, _, _, _, _⟩ :: _) _ _ _); apply WL.callS; exact rfl; exact rfl; exact rfl; exact rfl; exact ref_Ints _ _ _ _ _ _ _ (hCa.ins.row.ext (by (exact extA))) (hCb.ins.row.ext (by (exact extA))))
      | ((show WL _ _ _ (⟨_, .call ⟨.value (.func 22), _, _⟩, _, _, _, _⟩ :: _) _ _ _); apply WL.callS; exact rfl; exact rfl; exact rfl; exact rfl; exact ref_Ints _ _ _ _ _ _ _ (hCa.outs.row.ext (by (exact extA))) (hCb.outs.row.ext (by (exact extA))))
      | ((show WL _ _ _ (⟨_, .call ⟨.value (.func 22), _, _⟩, _, _, _, _⟩ :: _) _ _ _); apply WL.callS; exact rfl; exact rfl; exact rfl; exact rfl; exact ref_Ints _ _ _ _ _ _ _ (hCa.bads.row.ext (by (exact extA))) (hCb.bads.row.ext (by (exact extA))))
      | ((show WL _ _ _ (⟨_, .call ⟨.value (.func 22), _, _⟩, _, _, _, _⟩ :: _) _ _ _); apply WL.callS; exact rfl; exact rfl; exact rfl; exact rfl; exact ref_Ints _ _ _ _ _ _ _ (hCa.cons.row.ext (by (exact extA))) (hCb.cons.row.ext (by (exact extA))))
      | (show WL _ _ _ _ _ _ _; first | apply WL.nil | (refine WL.au (k := ?_)) | (apply WL.index tOk; exact rfl; exact rfl; exact rfl; exact rfl; exact rfl; exact rfl; exact rfl; exact rfl; assumption; (exact extA); exact rfl; omega; assumption; intro b off h; have hcc := h; first | (obtain ⟨h1, h2, h3, h4, h5, h6, _⟩ := h) | (obtain ⟨h1, h2, h3, _⟩ := h) | (obtain ⟨h1, h2, _⟩ := h) | (obtain ⟨h1, _⟩ := h)) | (apply WL.guardF; exact rfl; exact rfl) | (apply WL.gD; exact rfl; exact rfl; all_goals intro _) | (apply WL.gN; exact rfl; exact rfl; all_goals intro _) | (apply WL.gB; exact rfl; exact rfl; all_goals intro _))
      | (show Z _ _ _ _ _; first | apply Z.tail | apply Z.then_normal | apply Z.block_normal | apply Z.then_exit | apply Z.block_exit | apply Z.then_ret | apply Z.block_ret | (apply Z.block_other; exact rfl))
      | (show W _ _ _ _ _ _; first | apply W.seq | apply W.region | apply W.block | apply W.skip | apply W.ret | apply W.exit | (apply W.condT; exact rfl) | (apply W.condF; exact rfl) | (apply W.condD; exact rfl; all_goals intro _) | (apply W.condN; exact rfl; all_goals intro _) | (apply W.condB; exact rfl; all_goals intro _)))
    exact Z.body1 Try.results37 rfl fun m => ⟨congrArg Value.bool (dec_false (show ¬ a.t = b.t from fun h => l2 (congrArg (fun c : CirT => c.syms.length) h))).symm, Ext.at (by (exact extA)) m⟩
  refine Spec.of _ Try.func37 rfl Try.ntmps37 (by kernel_rfl) rfl ?_
  repeat' (first
    | (apply WL.box; exact rfl; exact rfl; exact rfl; intro gb w' hb hge hc hx; have hcc := hc; (first | (obtain ⟨h1, h2, h3, _⟩ := hc) | (obtain ⟨h1, h2, _⟩ := hc)); (first | (have h_0 := xA0; clear h_0; have hB := hcc; obtain ⟨xB0, xB1, xB2, xB3, xB4, xB5, xB6, xB7, xB8, _⟩ := hcc; (obtain ⟨gB, rfl⟩ : ∃ x, x = gb := ⟨_, rfl⟩; obtain ⟨wB, rfl⟩ : ∃ x, x = w' := ⟨_, rfl⟩; obtain ⟨hxB, rfl⟩ : ∃ x, x = hx := ⟨_, rfl⟩)) | (have hA := hcc; obtain ⟨xA0, xA1, xA2, xA3, xA4, xA5, xA6, xA7, xA8, _⟩ := hcc; (obtain ⟨gA, rfl⟩ : ∃ x, x = gb := ⟨_, rfl⟩; obtain ⟨wA, rfl⟩ : ∃ x, x = w' := ⟨_, rfl⟩; obtain ⟨hxA, rfl⟩ : ∃ x, x = hx := ⟨_, rfl⟩))))
    | (apply WL.eqStr tOk; exact rfl; exact rfl; exact rfl; exact rfl; exact rfl; exact rfl)
    | (apply WL.neStr tOk; exact rfl; exact rfl; exact rfl; exact rfl; exact rfl; exact rfl)
    | (apply WL.gT; exact rfl; exact rfl; (focus (first | exact dec_false (fun h => h e0) | exact dec_false (fun h => h e1) | (rw [dec_true e2]; rfl) | (rw [dec_true e3]; rfl) | (rw [dec_true e4]; rfl) | (rw [dec_true e5]; rfl) | exact dec_false (show ¬ ((a.lat.2.2.length : Nat) : Int) ≠ (b.lat.2.2.length : Nat) by omega) | exact dec_false (show ¬ ((a.gates.2.2.length : Nat) : Int) ≠ (b.gates.2.2.length : Nat) by omega) | exact dec_false (show ¬ ((a.syms.2.2.length : Nat) : Int) ≠ (b.syms.2.2.length : Nat) by omega); done)))
    | (apply WL.gF; exact rfl; exact rfl; (focus (first | exact dec_false (fun h => h e0) | exact dec_false (fun h => h e1) | (rw [dec_true e2]; rfl) | (rw [dec_true e3]; rfl) | (rw [dec_true e4]; rfl) | (rw [dec_true e5]; rfl) | exact dec_false (show ¬ ((a.lat.2.2.length : Nat) : Int) ≠ (b.lat.2.2.length : Nat) by omega) | exact dec_false (show ¬ ((a.gates.2.2.length : Nat) : Int) ≠ (b.gates.2.2.length : Nat) by omega) | exact dec_false (show ¬ ((a.syms.2.2.length : Nat) : Int) ≠ (b.syms.2.2.length : Nat) by omega); done)))
    | (apply W.condKT; exact rfl; (focus (first | exact dec_false (fun h => h e0) | exact dec_false (fun h => h e1) | (rw [dec_true e2]; rfl) | (rw [dec_true e3]; rfl) | (rw [dec_true e4]; rfl) | (rw [dec_true e5]; rfl) | exact dec_false (show ¬ ((a.lat.2.2.length : Nat) : Int) ≠ (b.lat.2.2.length : Nat) by omega) | exact dec_false (show ¬ ((a.gates.2.2.length : Nat) : Int) ≠ (b.gates.2.2.length : Nat) by omega) | exact dec_false (show ¬ ((a.syms.2.2.length : Nat) : Int) ≠ (b.syms.2.2.length : Nat) by omega); done)))
    | (apply W.condKF; exact rfl; (focus (first | exact dec_false (fun h => h e0) | exact dec_false (fun h => h e1) | (rw [dec_true e2]; rfl) | (rw [dec_true e3]; rfl) | (rw [dec_true e4]; rfl) | (rw [dec_true e5]; rfl) | exact dec_false (show ¬ ((a.lat.2.2.length : Nat) : Int) ≠ (b.lat.2.2.length : Nat) by omega) | exact dec_false (show ¬ ((a.gates.2.2.length : Nat) : Int) ≠ (b.gates.2.2.length : Nat) by omega) | exact dec_false (show ¬ ((a.syms.2.2.length : Nat) : Int) ≠ (b.syms.2.2.length : Nat) by omega); done)))
    | ((show WL _ _ _ (⟨_, .call ⟨.value (.func 22), _, _⟩, _, _, _, _⟩ :: _) _ _ _); apply WL.callS; exact rfl; exact rfl; exact rfl; exact rfl; exact ref_Ints _ _ _ _ _ _ _ (hCa.ins.row.ext (by (exact extA))) (hCb.ins.row.ext (by (exact extA))))
    | ((show WL _ _ _ (⟨_, .call ⟨.value (.func 22), _, _⟩, _, _, _, _⟩ :: _) _ _ _); apply WL.callS; exact rfl; exact rfl; exact rfl; exact rfl; exact ref_Ints _ _ _ _ _ _ _ (hCa.outs.row.ext (by (exact extA))) (hCb.outs.row.ext (by (exact extA))))
    | ((show WL _ _ _ (⟨_, .call ⟨.value (.func 22), _, _⟩, _, _, _, _⟩ :: _) _ _ _); apply WL.callS; exact rfl; exact rfl; exact rfl; exact rfl; exact ref_Ints _ _ _ _ _ _ _ (hCa.bads.row.ext (by (exact extA))) (hCb.bads.row.ext (by (exact extA))))
    | ((show WL _ _ _ (⟨_, .call ⟨.value (.func 22), _, _⟩, _, _, _, _⟩ :: _) _ _ _); apply WL.callS; exact rfl; exact rfl; exact rfl; exact rfl; exact ref_Ints _ _ _ _ _ _ _ (hCa.cons.row.ext (by (exact extA))) (hCb.cons.row.ext (by (exact extA))))
    | (show WL _ _ _ _ _ _ _; first | apply WL.nil | (refine WL.au (k := ?_)) | (apply WL.index tOk; exact rfl; exact rfl; exact rfl; exact rfl; exact rfl; exact rfl; exact rfl; exact rfl; assumption; (exact extA); exact rfl; omega; assumption; intro b off h; have hcc := h; first | (obtain ⟨h1, h2, h3, h4, h5, h6, _⟩ := h) | (obtain ⟨h1, h2, h3, _⟩ := h) | (obtain ⟨h1, h2, _⟩ := h) | (obtain ⟨h1, _⟩ := h)) | (apply WL.guardF; exact rfl; exact rfl) | (apply WL.gD; exact rfl; exact rfl; all_goals intro _) | (apply WL.gN; exact rfl; exact rfl; all_goals intro _) | (apply WL.gB; exact rfl; exact rfl; all_goals intro _))
    | (show Z _ _ _ _ _; first | apply Z.tail | apply Z.then_normal | apply Z.block_normal | apply Z.then_exit | apply Z.block_exit | apply Z.then_ret | apply Z.block_ret | (apply Z.block_other; exact rfl))
    | (show W _ _ _ _ _ _; first | apply W.seq | apply W.region | apply W.block | apply W.skip | apply W.ret | apply W.exit | (apply W.condT; exact rfl) | (apply W.condF; exact rfl) | (apply W.condD; exact rfl; all_goals intro _) | (apply W.condN; exact rfl; all_goals intro _) | (apply W.condB; exact rfl; all_goals intro _)))
  have hX : Ext w wB := (by (exact extA))
  have hA' := hA.ext hxB
  have ka2 : wB.cell? ⟨gA, 0 + 1 + 1, none⟩ = some (rowVal a.lat) := hA'.2.2.1
  have ka6 : wB.cell? ⟨gA, 0 + 1 + 1 + 1 + 1 + 1 + 1, none⟩ = some (rowVal a.gates) := hA'.2.2.2.2.2.2.1
  have ka7 : wB.cell? ⟨gA, 0 + 1 + 1 + 1 + 1 + 1 + 1 + 1, none⟩ = some (rowVal a.syms) := hA'.2.2.2.2.2.2.2.1
  have Ra0 := hCa.lat.row.ext hX
  have Rb0 := hCb.lat.row.ext hX
  have hln0 := Ra0.len
  refine W.loop1 a.lat.2.2.length (fun k => k ≤ a.lat.2.2.length ∧ ∀ i, i < k → a.lat.2.2[i]? = b.lat.2.2[i]?) (fun k => [(2, .pointer (some ⟨gA, 0, none⟩)), (3, .pointer (some ⟨gB, 0, none⟩)), (5, .int .i64 k)]) ⟨by omega, fun i hi => by omega⟩ (fun k h => h.1) ⟨rfl, rfl, rfl, trivial⟩ ?_
  rintro k ⟨hk, heq⟩
  by_cases hlt : k < a.lat.2.2.length
  · obtain ⟨x, hx⟩ := getI a.lat.2.2 hlt
    obtain ⟨y, hy⟩ := getI b.lat.2.2 (show k < b.lat.2.2.length by omega)
    by_cases hxy : x = y
    · subst hxy
      repeat' (first
        | (apply WL.gT; exact rfl; exact rfl; (focus (first | exact dec_true (show ((k : Nat) : Int) < (a.lat.2.2.length : Int) by omega) | exact dec_false (fun h => h rfl); done)))
        | (apply WL.gF; exact rfl; exact rfl; (focus (first | exact dec_true (show ((k : Nat) : Int) < (a.lat.2.2.length : Int) by omega) | exact dec_false (fun h => h rfl); done)))
        | (apply QL.gT; exact rfl; exact rfl; (focus (first | exact dec_true (show ((k : Nat) : Int) < (a.lat.2.2.length : Int) by omega) | exact dec_false (fun h => h rfl); done)))
        | (apply QL.gF; exact rfl; exact rfl; (focus (first | exact dec_true (show ((k : Nat) : Int) < (a.lat.2.2.length : Int) by omega) | exact dec_false (fun h => h rfl); done)))
        | (apply W.condKT; exact rfl; (focus (first | exact dec_true (show ((k : Nat) : Int) < (a.lat.2.2.length : Int) by omega) | exact dec_false (fun h => h rfl); done)))
        | (apply W.condKF; exact rfl; (focus (first | exact dec_true (show ((k : Nat) : Int) < (a.lat.2.2.length : Int) by omega) | exact dec_false (fun h => h rfl); done)))
        | (apply WL.neqS tOk; exact rfl; exact rfl; exact rfl; exact rfl; exact rfl; exact rfl; exact rfl; exact factLt)
        | (apply QL.neqS tOk; exact rfl; exact rfl; exact rfl; exact rfl; exact rfl; exact rfl; exact rfl; exact factLt)
        | (show WL _ _ _ _ _ _ _; first | apply WL.nil | (refine WL.au (k := ?_)) | (apply WL.index tOk; exact rfl; exact rfl; exact rfl; exact rfl; exact rfl; exact rfl; exact rfl; exact rfl; assumption; (exact extA); exact rfl; omega; assumption; intro b off h; have hcc := h; first | (obtain ⟨h1, h2, h3, h4, h5, h6, _⟩ := h) | (obtain ⟨h1, h2, h3, _⟩ := h) | (obtain ⟨h1, h2, _⟩ := h) | (obtain ⟨h1, _⟩ := h)) | (apply WL.guardF; exact rfl; exact rfl) | (apply WL.gD; exact rfl; exact rfl; all_goals intro _) | (apply WL.gN; exact rfl; exact rfl; all_goals intro _) | (apply WL.gB; exact rfl; exact rfl; all_goals intro _))
        | (show QL _ _ _ _ _ _ _; first | apply QL.nil | (refine QL.au (k := ?_)) | (apply QL.index tOk; exact rfl; exact rfl; exact rfl; exact rfl; exact rfl; exact rfl; exact rfl; exact rfl; assumption; (exact extA); exact rfl; omega; assumption; intro b off h; have hcc := h; first | (obtain ⟨h1, h2, h3, h4, h5, h6, _⟩ := h) | (obtain ⟨h1, h2, h3, _⟩ := h) | (obtain ⟨h1, h2, _⟩ := h) | (obtain ⟨h1, _⟩ := h)) | (apply QL.guardF; exact rfl; exact rfl) | (apply QL.gD; exact rfl; exact rfl; all_goals intro _) | (apply QL.gN; exact rfl; exact rfl; all_goals intro _) | (apply QL.gB; exact rfl; exact rfl; all_goals intro _))
        | (show Z _ _ _ _ _; first | apply Z.tail | apply Z.then_normal | apply Z.block_normal | apply Z.then_exit | apply Z.block_exit | apply Z.then_ret | apply Z.block_ret | (apply Z.block_other; exact rfl))
        | (show W _ _ _ _ _ _; first | apply W.seq | apply W.region | apply W.block | apply W.skip | apply W.ret | apply W.exit | (apply W.condT; exact rfl) | (apply W.condF; exact rfl) | (apply W.condD; exact rfl; all_goals intro _) | (apply W.condN; exact rfl; all_goals intro _) | (apply W.condB; exact rfl; all_goals intro _) | (apply W.regionD tMix; kernel_rfl)))
      exact Z.again1 ⟨by omega, eq_snoc heq hx hy rfl⟩ ⟨rfl, rfl, rfl, trivial⟩
    · repeat' (first
        | (apply WL.gT; exact rfl; exact rfl; (focus (first | exact dec_true (show ((k : Nat) : Int) < (a.lat.2.2.length : Int) by omega) | exact dec_true (ne_iff enc3_inj hxy); done)))
        | (apply WL.gF; exact rfl; exact rfl; (focus (first | exact dec_true (show ((k : Nat) : Int) < (a.lat.2.2.length : Int) by omega) | exact dec_true (ne_iff enc3_inj hxy); done)))
        | (apply QL.gT; exact rfl; exact rfl; (focus (first | exact dec_true (show ((k : Nat) : Int) < (a.lat.2.2.length : Int) by omega) | exact dec_true (ne_iff enc3_inj hxy); done)))
        | (apply QL.gF; exact rfl; exact rfl; (focus (first | exact dec_true (show ((k : Nat) : Int) < (a.lat.2.2.length : Int) by omega) | exact dec_true (ne_iff enc3_inj hxy); done)))
        | (apply W.condKT; exact rfl; (focus (first | exact dec_true (show ((k : Nat) : Int) < (a.lat.2.2.length : Int) by omega) | exact dec_true (ne_iff enc3_inj hxy); done)))
        | (apply W.condKF; exact rfl; (focus (first | exact dec_true (show ((k : Nat) : Int) < (a.lat.2.2.length : Int) by omega) | exact dec_true (ne_iff enc3_inj hxy); done)))
        | (apply WL.neqS tOk; exact rfl; exact rfl; exact rfl; exact rfl; exact rfl; exact rfl; exact rfl; exact factLt)
        | (apply QL.neqS tOk; exact rfl; exact rfl; exact rfl; exact rfl; exact rfl; exact rfl; exact rfl; exact factLt)
        | (show WL _ _ _ _ _ _ _; first | apply WL.nil | (refine WL.au (k := ?_)) | (apply WL.index tOk; exact rfl; exact rfl; exact rfl; exact rfl; exact rfl; exact rfl; exact rfl; exact rfl; assumption; (exact extA); exact rfl; omega; assumption; intro b off h; have hcc := h; first | (obtain ⟨h1, h2, h3, h4, h5, h6, _⟩ := h) | (obtain ⟨h1, h2, h3, _⟩ := h) | (obtain ⟨h1, h2, _⟩ := h) | (obtain ⟨h1, _⟩ := h)) | (apply WL.guardF; exact rfl; exact rfl) | (apply WL.gD; exact rfl; exact rfl; all_goals intro _) | (apply WL.gN; exact rfl; exact rfl; all_goals intro _) | (apply WL.gB; exact rfl; exact rfl; all_goals intro _))
        | (show QL _ _ _ _ _ _ _; first | apply QL.nil | (refine QL.au (k := ?_)) | (apply QL.index tOk; exact rfl; exact rfl; exact rfl; exact rfl; exact rfl; exact rfl; exact rfl; exact rfl; assumption; (exact extA); exact rfl; omega; assumption; intro b off h; have hcc := h; first | (obtain ⟨h1, h2, h3, h4, h5, h6, _⟩ := h) | (obtain ⟨h1, h2, h3, _⟩ := h) | (obtain ⟨h1, h2, _⟩ := h) | (obtain ⟨h1, _⟩ := h)) | (apply QL.guardF; exact rfl; exact rfl) | (apply QL.gD; exact rfl; exact rfl; all_goals intro _) | (apply QL.gN; exact rfl; exact rfl; all_goals intro _) | (apply QL.gB; exact rfl; exact rfl; all_goals intro _))
        | (show Z _ _ _ _ _; first | apply Z.tail | apply Z.then_normal | apply Z.block_normal | apply Z.then_exit | apply Z.block_exit | apply Z.then_ret | apply Z.block_ret | (apply Z.block_other; exact rfl))
        | (show W _ _ _ _ _ _; first | apply W.seq | apply W.region | apply W.block | apply W.skip | apply W.ret | apply W.exit | (apply W.condT; exact rfl) | (apply W.condF; exact rfl) | (apply W.condD; exact rfl; all_goals intro _) | (apply W.condN; exact rfl; all_goals intro _) | (apply W.condB; exact rfl; all_goals intro _) | (apply W.regionD tMix; kernel_rfl)))
      exact Z.body1 Try.results37 rfl fun m => ⟨congrArg Value.bool (dec_false (fun h => ne_at hx hy hxy (congrArg CirT.lat h))).symm, Ext.at (by (exact extA)) m⟩
  have e6 := eq_all heq l0 (by omega)
  repeat' (first
    | (apply WL.gT; exact rfl; exact rfl; (focus (exact dec_false (show ¬ ((k : Nat) : Int) < (a.lat.2.2.length : Int) by omega); done)))
    | (apply WL.gF; exact rfl; exact rfl; (focus (exact dec_false (show ¬ ((k : Nat) : Int) < (a.lat.2.2.length : Int) by omega); done)))
    | (apply W.condKT; exact rfl; (focus (exact dec_false (show ¬ ((k : Nat) : Int) < (a.lat.2.2.length : Int) by omega); done)))
    | (apply W.condKF; exact rfl; (focus (exact dec_false (show ¬ ((k : Nat) : Int) < (a.lat.2.2.length : Int) by omega); done)))
    | (show WL _ _ _ _ _ _ _; first | apply WL.nil | (refine WL.au (k := ?_)) | (apply WL.index tOk; exact rfl; exact rfl; exact rfl; exact rfl; exact rfl; exact rfl; exact rfl; exact rfl; assumption; (exact extA); exact rfl; omega; assumption; intro b off h; have hcc := h; first | (obtain ⟨h1, h2, h3, h4, h5, h6, _⟩ := h) | (obtain ⟨h1, h2, h3, _⟩ := h) | (obtain ⟨h1, h2, _⟩ := h) | (obtain ⟨h1, _⟩ := h)) | (apply WL.guardF; exact rfl; exact rfl) | (apply WL.gD; exact rfl; exact rfl; all_goals intro _) | (apply WL.gN; exact rfl; exact rfl; all_goals intro _) | (apply WL.gB; exact rfl; exact rfl; all_goals intro _))
    | (show Z _ _ _ _ _; first | apply Z.tail | apply Z.then_normal | apply Z.block_normal | apply Z.then_exit | apply Z.block_exit | apply Z.then_ret | apply Z.block_ret | (apply Z.block_other; exact rfl))
    | (show W _ _ _ _ _ _; first | apply W.seq | apply W.region | apply W.block | apply W.skip | apply W.ret | apply W.exit | (apply W.condT; exact rfl) | (apply W.condF; exact rfl) | (apply W.condD; exact rfl; all_goals intro _) | (apply W.condN; exact rfl; all_goals intro _) | (apply W.condB; exact rfl; all_goals intro _)))
  clear heq hlt hk
  have Ra1 := hCa.gates.row.ext hX
  have Rb1 := hCb.gates.row.ext hX
  have hln1 := Ra1.len
  refine W.loop1 a.gates.2.2.length (fun k => k ≤ a.gates.2.2.length ∧ ∀ i, i < k → a.gates.2.2[i]? = b.gates.2.2[i]?) (fun k => [(2, .pointer (some ⟨gA, 0, none⟩)), (3, .pointer (some ⟨gB, 0, none⟩)), (6, .int .i64 k)]) ⟨by omega, fun i hi => by omega⟩ (fun k h => h.1) ⟨rfl, rfl, rfl, trivial⟩ ?_
  rintro k ⟨hk, heq⟩
  by_cases hlt : k < a.gates.2.2.length
  · obtain ⟨x, hx⟩ := getI a.gates.2.2 hlt
    obtain ⟨y, hy⟩ := getI b.gates.2.2 (show k < b.gates.2.2.length by omega)
    by_cases hxy : x = y
    · subst hxy
      repeat' (first
        | (apply WL.gT; exact rfl; exact rfl; (focus (first | exact dec_true (show ((k : Nat) : Int) < (a.gates.2.2.length : Int) by omega) | exact dec_false (fun h => h rfl); done)))
        | (apply WL.gF; exact rfl; exact rfl; (focus (first | exact dec_true (show ((k : Nat) : Int) < (a.gates.2.2.length : Int) by omega) | exact dec_false (fun h => h rfl); done)))
        | (apply QL.gT; exact rfl; exact rfl; (focus (first | exact dec_true (show ((k : Nat) : Int) < (a.gates.2.2.length : Int) by omega) | exact dec_false (fun h => h rfl); done)))
        | (apply QL.gF; exact rfl; exact rfl; (focus (first | exact dec_true (show ((k : Nat) : Int) < (a.gates.2.2.length : Int) by omega) | exact dec_false (fun h => h rfl); done)))
        | (apply W.condKT; exact rfl; (focus (first | exact dec_true (show ((k : Nat) : Int) < (a.gates.2.2.length : Int) by omega) | exact dec_false (fun h => h rfl); done)))
        | (apply W.condKF; exact rfl; (focus (first | exact dec_true (show ((k : Nat) : Int) < (a.gates.2.2.length : Int) by omega) | exact dec_false (fun h => h rfl); done)))
        | (apply WL.neqS tOk; exact rfl; exact rfl; exact rfl; exact rfl; exact rfl; exact rfl; exact rfl; exact factGt)
        | (apply QL.neqS tOk; exact rfl; exact rfl; exact rfl; exact rfl; exact rfl; exact rfl; exact rfl; exact factGt)
        | (show WL _ _ _ _ _ _ _; first | apply WL.nil | (refine WL.au (k := ?_)) | (apply WL.index tOk; exact rfl; exact rfl; exact rfl; exact rfl; exact rfl; exact rfl; exact rfl; exact rfl; assumption; (exact extA); exact rfl; omega; assumption; intro b off h; have hcc := h; first | (obtain ⟨h1, h2, h3, h4, h5, h6, _⟩ := h) | (obtain ⟨h1, h2, h3, _⟩ := h) | (obtain ⟨h1, h2, _⟩ := h) | (obtain ⟨h1, _⟩ := h)) | (apply WL.guardF; exact rfl; exact rfl) | (apply WL.gD; exact rfl; exact rfl; all_goals intro _) | (apply WL.gN; exact rfl; exact rfl; all_goals intro _) | (apply WL.gB; exact rfl; exact rfl; all_goals intro _))
        | (show QL _ _ _ _ _ _ _; first | apply QL.nil | (refine QL.au (k := ?_)) | (apply QL.index tOk; exact rfl; exact rfl; exact rfl; exact rfl; exact rfl; exact rfl; exact rfl; exact rfl; assumption; (exact extA); exact rfl; omega; assumption; intro b off h; have hcc := h; first | (obtain ⟨h1, h2, h3, h4, h5, h6, _⟩ := h) | (obtain ⟨h1, h2, h3, _⟩ := h) | (obtain ⟨h1, h2, _⟩ := h) | (obtain ⟨h1, _⟩ := h)) | (apply QL.guardF; exact rfl; exact rfl) | (apply QL.gD; exact rfl; exact rfl; all_goals intro _) | (apply QL.gN; exact rfl; exact rfl; all_goals intro _) | (apply QL.gB; exact rfl; exact rfl; all_goals intro _))
        | (show Z _ _ _ _ _; first | apply Z.tail | apply Z.then_normal | apply Z.block_normal | apply Z.then_exit | apply Z.block_exit | apply Z.then_ret | apply Z.block_ret | (apply Z.block_other; exact rfl))
        | (show W _ _ _ _ _ _; first | apply W.seq | apply W.region | apply W.block | apply W.skip | apply W.ret | apply W.exit | (apply W.condT; exact rfl) | (apply W.condF; exact rfl) | (apply W.condD; exact rfl; all_goals intro _) | (apply W.condN; exact rfl; all_goals intro _) | (apply W.condB; exact rfl; all_goals intro _) | (apply W.regionD tMix; kernel_rfl)))
      exact Z.again1 ⟨by omega, eq_snoc heq hx hy rfl⟩ ⟨rfl, rfl, rfl, trivial⟩
    · repeat' (first
        | (apply WL.gT; exact rfl; exact rfl; (focus (first | exact dec_true (show ((k : Nat) : Int) < (a.gates.2.2.length : Int) by omega) | exact dec_true (ne_iff enc3_inj hxy); done)))
        | (apply WL.gF; exact rfl; exact rfl; (focus (first | exact dec_true (show ((k : Nat) : Int) < (a.gates.2.2.length : Int) by omega) | exact dec_true (ne_iff enc3_inj hxy); done)))
        | (apply QL.gT; exact rfl; exact rfl; (focus (first | exact dec_true (show ((k : Nat) : Int) < (a.gates.2.2.length : Int) by omega) | exact dec_true (ne_iff enc3_inj hxy); done)))
        | (apply QL.gF; exact rfl; exact rfl; (focus (first | exact dec_true (show ((k : Nat) : Int) < (a.gates.2.2.length : Int) by omega) | exact dec_true (ne_iff enc3_inj hxy); done)))
        | (apply W.condKT; exact rfl; (focus (first | exact dec_true (show ((k : Nat) : Int) < (a.gates.2.2.length : Int) by omega) | exact dec_true (ne_iff enc3_inj hxy); done)))
        | (apply W.condKF; exact rfl; (focus (first | exact dec_true (show ((k : Nat) : Int) < (a.gates.2.2.length : Int) by omega) | exact dec_true (ne_iff enc3_inj hxy); done)))
        | (apply WL.neqS tOk; exact rfl; exact rfl; exact rfl; exact rfl; exact rfl; exact rfl; exact rfl; exact factGt)
        | (apply QL.neqS tOk; exact rfl; exact rfl; exact rfl; exact rfl; exact rfl; exact rfl; exact rfl; exact factGt)
        | (show WL _ _ _ _ _ _ _; first | apply WL.nil | (refine WL.au (k := ?_)) | (apply WL.index tOk; exact rfl; exact rfl; exact rfl; exact rfl; exact rfl; exact rfl; exact rfl; exact rfl; assumption; (exact extA); exact rfl; omega; assumption; intro b off h; have hcc := h; first | (obtain ⟨h1, h2, h3, h4, h5, h6, _⟩ := h) | (obtain ⟨h1, h2, h3, _⟩ := h) | (obtain ⟨h1, h2, _⟩ := h) | (obtain ⟨h1, _⟩ := h)) | (apply WL.guardF; exact rfl; exact rfl) | (apply WL.gD; exact rfl; exact rfl; all_goals intro _) | (apply WL.gN; exact rfl; exact rfl; all_goals intro _) | (apply WL.gB; exact rfl; exact rfl; all_goals intro _))
        | (show QL _ _ _ _ _ _ _; first | apply QL.nil | (refine QL.au (k := ?_)) | (apply QL.index tOk; exact rfl; exact rfl; exact rfl; exact rfl; exact rfl; exact rfl; exact rfl; exact rfl; assumption; (exact extA); exact rfl; omega; assumption; intro b off h; have hcc := h; first | (obtain ⟨h1, h2, h3, h4, h5, h6, _⟩ := h) | (obtain ⟨h1, h2, h3, _⟩ := h) | (obtain ⟨h1, h2, _⟩ := h) | (obtain ⟨h1, _⟩ := h)) | (apply QL.guardF; exact rfl; exact rfl) | (apply QL.gD; exact rfl; exact rfl; all_goals intro _) | (apply QL.gN; exact rfl; exact rfl; all_goals intro _) | (apply QL.gB; exact rfl; exact rfl; all_goals intro _))
        | (show Z _ _ _ _ _; first | apply Z.tail | apply Z.then_normal | apply Z.block_normal | apply Z.then_exit | apply Z.block_exit | apply Z.then_ret | apply Z.block_ret | (apply Z.block_other; exact rfl))
        | (show W _ _ _ _ _ _; first | apply W.seq | apply W.region | apply W.block | apply W.skip | apply W.ret | apply W.exit | (apply W.condT; exact rfl) | (apply W.condF; exact rfl) | (apply W.condD; exact rfl; all_goals intro _) | (apply W.condN; exact rfl; all_goals intro _) | (apply W.condB; exact rfl; all_goals intro _) | (apply W.regionD tMix; kernel_rfl)))
      exact Z.body1 Try.results37 rfl fun m => ⟨congrArg Value.bool (dec_false (fun h => ne_at hx hy hxy (congrArg CirT.gates h))).symm, Ext.at (by (exact extA)) m⟩
  have e7 := eq_all heq l1 (by omega)
  repeat' (first
    | (apply WL.gT; exact rfl; exact rfl; (focus (exact dec_false (show ¬ ((k : Nat) : Int) < (a.gates.2.2.length : Int) by omega); done)))
    | (apply WL.gF; exact rfl; exact rfl; (focus (exact dec_false (show ¬ ((k : Nat) : Int) < (a.gates.2.2.length : Int) by omega); done)))
    | (apply W.condKT; exact rfl; (focus (exact dec_false (show ¬ ((k : Nat) : Int) < (a.gates.2.2.length : Int) by omega); done)))
    | (apply W.condKF; exact rfl; (focus (exact dec_false (show ¬ ((k : Nat) : Int) < (a.gates.2.2.length : Int) by omega); done)))
    | (show WL _ _ _ _ _ _ _; first | apply WL.nil | (refine WL.au (k := ?_)) | (apply WL.index tOk; exact rfl; exact rfl; exact rfl; exact rfl; exact rfl; exact rfl; exact rfl; exact rfl; assumption; (exact extA); exact rfl; omega; assumption; intro b off h; have hcc := h; first | (obtain ⟨h1, h2, h3, h4, h5, h6, _⟩ := h) | (obtain ⟨h1, h2, h3, _⟩ := h) | (obtain ⟨h1, h2, _⟩ := h) | (obtain ⟨h1, _⟩ := h)) | (apply WL.guardF; exact rfl; exact rfl) | (apply WL.gD; exact rfl; exact rfl; all_goals intro _) | (apply WL.gN; exact rfl; exact rfl; all_goals intro _) | (apply WL.gB; exact rfl; exact rfl; all_goals intro _))
    | (show Z _ _ _ _ _; first | apply Z.tail | apply Z.then_normal | apply Z.block_normal | apply Z.then_exit | apply Z.block_exit | apply Z.then_ret | apply Z.block_ret | (apply Z.block_other; exact rfl))
    | (show W _ _ _ _ _ _; first | apply W.seq | apply W.region | apply W.block | apply W.skip | apply W.ret | apply W.exit | (apply W.condT; exact rfl) | (apply W.condF; exact rfl) | (apply W.condD; exact rfl; all_goals intro _) | (apply W.condN; exact rfl; all_goals intro _) | (apply W.condB; exact rfl; all_goals intro _)))
  clear heq hlt hk
  have Ra2 := hCa.syms.row.ext hX
  have Rb2 := hCb.syms.row.ext hX
  have hln2 := Ra2.len
  refine W.loop1 a.syms.2.2.length (fun k => k ≤ a.syms.2.2.length ∧ ∀ i, i < k → a.syms.2.2[i]? = b.syms.2.2[i]?) (fun k => [(2, .pointer (some ⟨gA, 0, none⟩)), (3, .pointer (some ⟨gB, 0, none⟩)), (7, .int .i64 k)]) ⟨by omega, fun i hi => by omega⟩ (fun k h => h.1) ⟨rfl, rfl, rfl, trivial⟩ ?_
  rintro k ⟨hk, heq⟩
  by_cases hlt : k < a.syms.2.2.length
  · obtain ⟨x, hx⟩ := getI a.syms.2.2 hlt
    obtain ⟨y, hy⟩ := getI b.syms.2.2 (show k < b.syms.2.2.length by omega)
    by_cases hxy : x = y
    · subst hxy
      repeat' (first
        | (apply WL.gT; exact rfl; exact rfl; (focus (first | exact dec_true (show ((k : Nat) : Int) < (a.syms.2.2.length : Int) by omega) | exact dec_false (fun h => h rfl); done)))
        | (apply WL.gF; exact rfl; exact rfl; (focus (first | exact dec_true (show ((k : Nat) : Int) < (a.syms.2.2.length : Int) by omega) | exact dec_false (fun h => h rfl); done)))
        | (apply QL.gT; exact rfl; exact rfl; (focus (first | exact dec_true (show ((k : Nat) : Int) < (a.syms.2.2.length : Int) by omega) | exact dec_false (fun h => h rfl); done)))
        | (apply QL.gF; exact rfl; exact rfl; (focus (first | exact dec_true (show ((k : Nat) : Int) < (a.syms.2.2.length : Int) by omega) | exact dec_false (fun h => h rfl); done)))
        | (apply W.condKT; exact rfl; (focus (first | exact dec_true (show ((k : Nat) : Int) < (a.syms.2.2.length : Int) by omega) | exact dec_false (fun h => h rfl); done)))
        | (apply W.condKF; exact rfl; (focus (first | exact dec_true (show ((k : Nat) : Int) < (a.syms.2.2.length : Int) by omega) | exact dec_false (fun h => h rfl); done)))
        | (apply WL.neqS tOk; exact rfl; exact rfl; exact rfl; exact rfl; exact rfl; exact rfl; exact rfl; exact factSy)
        | (apply QL.neqS tOk; exact rfl; exact rfl; exact rfl; exact rfl; exact rfl; exact rfl; exact rfl; exact factSy)
        | (show WL _ _ _ _ _ _ _; first | apply WL.nil | (refine WL.au (k := ?_)) | (apply WL.index tOk; exact rfl; exact rfl; exact rfl; exact rfl; exact rfl; exact rfl; exact rfl; exact rfl; assumption; (exact extA); exact rfl; omega; assumption; intro b off h; have hcc := h; first | (obtain ⟨h1, h2, h3, h4, h5, h6, _⟩ := h) | (obtain ⟨h1, h2, h3, _⟩ := h) | (obtain ⟨h1, h2, _⟩ := h) | (obtain ⟨h1, _⟩ := h)) | (apply WL.guardF; exact rfl; exact rfl) | (apply WL.gD; exact rfl; exact rfl; all_goals intro _) | (apply WL.gN; exact rfl; exact rfl; all_goals intro _) | (apply WL.gB; exact rfl; exact rfl; all_goals intro _))
        | (show QL _ _ _ _ _ _ _; first | apply QL.nil | (refine QL.au (k := ?_)) | (apply QL.index tOk; exact rfl; exact rfl; exact rfl; exact rfl; exact rfl; exact rfl; exact rfl; exact rfl; assumption; (exact extA); exact rfl; omega; assumption; intro b off h; have hcc := h; first | (obtain ⟨h1, h2, h3, h4, h5, h6, _⟩ := h) | (obtain ⟨h1, h2, h3, _⟩ := h) | (obtain ⟨h1, h2, _⟩ := h) | (obtain ⟨h1, _⟩ := h)) | (apply QL.guardF; exact rfl; exact rfl) | (apply QL.gD; exact rfl; exact rfl; all_goals intro _) | (apply QL.gN; exact rfl; exact rfl; all_goals intro _) | (apply QL.gB; exact rfl; exact rfl; all_goals intro _))
        | (show Z _ _ _ _ _; first | apply Z.tail | apply Z.then_normal | apply Z.block_normal | apply Z.then_exit | apply Z.block_exit | apply Z.then_ret | apply Z.block_ret | (apply Z.block_other; exact rfl))
        | (show W _ _ _ _ _ _; first | apply W.seq | apply W.region | apply W.block | apply W.skip | apply W.ret | apply W.exit | (apply W.condT; exact rfl) | (apply W.condF; exact rfl) | (apply W.condD; exact rfl; all_goals intro _) | (apply W.condN; exact rfl; all_goals intro _) | (apply W.condB; exact rfl; all_goals intro _) | (apply W.regionD tMix; kernel_rfl)))
      exact Z.again1 ⟨by omega, eq_snoc heq hx hy rfl⟩ ⟨rfl, rfl, rfl, trivial⟩
    · repeat' (first
        | (apply WL.gT; exact rfl; exact rfl; (focus (first | exact dec_true (show ((k : Nat) : Int) < (a.syms.2.2.length : Int) by omega) | exact dec_true (ne_iff encY_inj hxy); done)))
        | (apply WL.gF; exact rfl; exact rfl; (focus (first | exact dec_true (show ((k : Nat) : Int) < (a.syms.2.2.length : Int) by omega) | exact dec_true (ne_iff encY_inj hxy); done)))
        | (apply QL.gT; exact rfl; exact rfl; (focus (first | exact dec_true (show ((k : Nat) : Int) < (a.syms.2.2.length : Int) by omega) | exact dec_true (ne_iff encY_inj hxy); done)))
        | (apply QL.gF; exact rfl; exact rfl; (focus (first | exact dec_true (show ((k : Nat) : Int) < (a.syms.2.2.length : Int) by omega) | exact dec_true (ne_iff encY_inj hxy); done)))
        | (apply W.condKT; exact rfl; (focus (first | exact dec_true (show ((k : Nat) : Int) < (a.syms.2.2.length : Int) by omega) | exact dec_true (ne_iff encY_inj hxy); done)))
        | (apply W.condKF; exact rfl; (focus (first | exact dec_true (show ((k : Nat) : Int) < (a.syms.2.2.length : Int) by omega) | exact dec_true (ne_iff encY_inj hxy); done)))
        | (apply WL.neqS tOk; exact rfl; exact rfl; exact rfl; exact rfl; exact rfl; exact rfl; exact rfl; exact factSy)
        | (apply QL.neqS tOk; exact rfl; exact rfl; exact rfl; exact rfl; exact rfl; exact rfl; exact rfl; exact factSy)
        | (show WL _ _ _ _ _ _ _; first | apply WL.nil | (refine WL.au (k := ?_)) | (apply WL.index tOk; exact rfl; exact rfl; exact rfl; exact rfl; exact rfl; exact rfl; exact rfl; exact rfl; assumption; (exact extA); exact rfl; omega; assumption; intro b off h; have hcc := h; first | (obtain ⟨h1, h2, h3, h4, h5, h6, _⟩ := h) | (obtain ⟨h1, h2, h3, _⟩ := h) | (obtain ⟨h1, h2, _⟩ := h) | (obtain ⟨h1, _⟩ := h)) | (apply WL.guardF; exact rfl; exact rfl) | (apply WL.gD; exact rfl; exact rfl; all_goals intro _) | (apply WL.gN; exact rfl; exact rfl; all_goals intro _) | (apply WL.gB; exact rfl; exact rfl; all_goals intro _))
        | (show QL _ _ _ _ _ _ _; first | apply QL.nil | (refine QL.au (k := ?_)) | (apply QL.index tOk; exact rfl; exact rfl; exact rfl; exact rfl; exact rfl; exact rfl; exact rfl; exact rfl; assumption; (exact extA); exact rfl; omega; assumption; intro b off h; have hcc := h; first | (obtain ⟨h1, h2, h3, h4, h5, h6, _⟩ := h) | (obtain ⟨h1, h2, h3, _⟩ := h) | (obtain ⟨h1, h2, _⟩ := h) | (obtain ⟨h1, _⟩ := h)) | (apply QL.guardF; exact rfl; exact rfl) | (apply QL.gD; exact rfl; exact rfl; all_goals intro _) | (apply QL.gN; exact rfl; exact rfl; all_goals intro _) | (apply QL.gB; exact rfl; exact rfl; all_goals intro _))
        | (show Z _ _ _ _ _; first | apply Z.tail | apply Z.then_normal | apply Z.block_normal | apply Z.then_exit | apply Z.block_exit | apply Z.then_ret | apply Z.block_ret | (apply Z.block_other; exact rfl))
        | (show W _ _ _ _ _ _; first | apply W.seq | apply W.region | apply W.block | apply W.skip | apply W.ret | apply W.exit | (apply W.condT; exact rfl) | (apply W.condF; exact rfl) | (apply W.condD; exact rfl; all_goals intro _) | (apply W.condN; exact rfl; all_goals intro _) | (apply W.condB; exact rfl; all_goals intro _) | (apply W.regionD tMix; kernel_rfl)))
      exact Z.body1 Try.results37 rfl fun m => ⟨congrArg Value.bool (dec_false (fun h => ne_at hx hy hxy (congrArg CirT.syms h))).symm, Ext.at (by (exact extA)) m⟩
  have e8 := eq_all heq l2 (by omega)
  repeat' (first
    | (apply WL.gT; exact rfl; exact rfl; (focus (exact dec_false (show ¬ ((k : Nat) : Int) < (a.syms.2.2.length : Int) by omega); done)))
    | (apply WL.gF; exact rfl; exact rfl; (focus (exact dec_false (show ¬ ((k : Nat) : Int) < (a.syms.2.2.length : Int) by omega); done)))
    | (apply W.condKT; exact rfl; (focus (exact dec_false (show ¬ ((k : Nat) : Int) < (a.syms.2.2.length : Int) by omega); done)))
    | (apply W.condKF; exact rfl; (focus (exact dec_false (show ¬ ((k : Nat) : Int) < (a.syms.2.2.length : Int) by omega); done)))
    | (show WL _ _ _ _ _ _ _; first | apply WL.nil | (refine WL.au (k := ?_)) | (apply WL.index tOk; exact rfl; exact rfl; exact rfl; exact rfl; exact rfl; exact rfl; exact rfl; exact rfl; assumption; (exact extA); exact rfl; omega; assumption; intro b off h; have hcc := h; first | (obtain ⟨h1, h2, h3, h4, h5, h6, _⟩ := h) | (obtain ⟨h1, h2, h3, _⟩ := h) | (obtain ⟨h1, h2, _⟩ := h) | (obtain ⟨h1, _⟩ := h)) | (apply WL.guardF; exact rfl; exact rfl) | (apply WL.gD; exact rfl; exact rfl; all_goals intro _) | (apply WL.gN; exact rfl; exact rfl; all_goals intro _) | (apply WL.gB; exact rfl; exact rfl; all_goals intro _))
    | (show Z _ _ _ _ _; first | apply Z.tail | apply Z.then_normal | apply Z.block_normal | apply Z.then_exit | apply Z.block_exit | apply Z.then_ret | apply Z.block_ret | (apply Z.block_other; exact rfl))
    | (show W _ _ _ _ _ _; first | apply W.seq | apply W.region | apply W.block | apply W.skip | apply W.ret | apply W.exit | (apply W.condT; exact rfl) | (apply W.condF; exact rfl) | (apply W.condD; exact rfl; all_goals intro _) | (apply W.condN; exact rfl; all_goals intro _) | (apply W.condB; exact rfl; all_goals intro _)))
  clear heq hlt hk
  exact Z.body1 Try.results37 rfl fun m => ⟨congrArg Value.bool (dec_true (show a.t = b.t by unfold Circ.t; rw [e0, e1, e2, e3, e4, e5, e6, e7, e8])).symm, Ext.at (by (exact extA)) m⟩
end Go.Proofs.Ytmaekaflpbenmaa
namespace Go.Lt
open Go.RowKit
set_option linter.unusedVariables false
theorem Z.invFresh {N : Nat} {α : Type} {s : Nat} {enc : α → List Value} {d el B cap : Nat} {l : List α} {a : Option Addr} {w w' : World} {E : Env} (hx : Ext w w') (hB : B ≤ w.heap.size) (hO : Own s enc el w.heap.size w' a cap l) :
    Z N (postI N d (prRow s enc el B l) w E) .normal ((d, .slice a l.length cap) :: E) w' :=
  Z.invRow hx (hO.base hB) (.inr fun k hk => (hO.blk_lt k hk).1)
end Go.Lt
namespace Go.Proofs.Ytmaekaflpbenmaa
open Go Go.Lt Go.RowKit
set_option linter.unusedVariables false
set_option linter.unusedSimpArgs false
set_option maxRecDepth 20000

theorem Sep.perm7 {B : Nat} {w : World} {a b c d e f g : Piece} {rest : List Piece} (hS : Lt.Sep B w (a :: b :: c :: d :: e :: f :: g :: rest)) : Lt.Sep B w [d, e, f, a, b, c, g] := by
  refine hS.pick (fun i => if i < 3 then i + 3 else if i < 6 then i - 3 else i) (fun i x h => ?_) (fun i j hi hj hne => ?_)
  · match i, h with
    | 0, h => exact h
    | 1, h => exact h
    | 2, h => exact h
    | 3, h => exact h
    | 4, h => exact h
    | 5, h => exact h
    | 6, h => exact h
  · show (if i < 3 then i + 3 else if i < 6 then i - 3 else i) ≠ (if j < 3 then j + 3 else if j < 6 then j - 3 else j)
    have hi' : i < 7 := hi
    have hj' : j < 7 := hj
    repeat' split
    all_goals omega
set_option maxHeartbeats 16000000 in
theorem circ_Clone (c : Circ) (w : World) (hC : CAt w c) (hz : SzC c.t 100000) (hz2 : c.t.syms.length ≤ 100000) :
    Lt.Spec Try.prog 39 [c.val] w (fun v w' => Ext w w' ∧ ∃ d : Circ, v = d.val ∧ d.t = c.t ∧ OwnC w.heap.size w' d) := by
  have z1 : c.ins.2.2.length ≤ 100000 := hz.1
  have z2 : c.lat.2.2.length ≤ 100000 := hz.2.1
  have z3 : c.outs.2.2.length ≤ 100000 := hz.2.2.1
  have z4 : c.bads.2.2.length ≤ 100000 := hz.2.2.2.1
  have z5 : c.cons.2.2.length ≤ 100000 := hz.2.2.2.2.1
  have z6 : c.gates.2.2.length ≤ 100000 := hz.2.2.2.2.2
  have z7 : c.syms.2.2.length ≤ 100000 := hz2
  have Ri := hC.ins.row
  have Ro := hC.outs.row
  have Rb := hC.bads.row
  have Rn := hC.cons.row
  have Rl := hC.lat.row
  have Rg := hC.gates.row
  have Ry := hC.syms.row
  have ni := hC.ins.none
  have no := hC.outs.none
  have nb := hC.bads.none
  have nn := hC.cons.none
  have nl := hC.lat.none
  have ng := hC.gates.none
  have ny := hC.syms.none
  refine Spec.of _ Try.func39 rfl Try.ntmps39 (by kernel_rfl) rfl ?_
  repeat' (first
    | (apply WL.box; exact rfl; exact rfl; exact rfl; intro gb w' hb hge hc hx; have hcc := hc; (first | (obtain ⟨h1, h2, h3, _⟩ := hc) | (obtain ⟨h1, h2, _⟩ := hc)); (obtain ⟨gc, rfl⟩ : ∃ x, x = gb := ⟨_, rfl⟩; obtain ⟨wc, rfl⟩ : ∃ x, x = w' := ⟨_, rfl⟩; obtain ⟨hxc, rfl⟩ : ∃ x, x = hx := ⟨_, rfl⟩; have hS : Lt.Sep w.heap.size wc [pcell gc c.vals.toArray 45] := Sep.newCell Sep.none' hxc hb hge (Nat.le_refl _)))
    | (apply WL.alloc tOk; exact rfl; exact rfl; exact rfl; intro gb w' hb hge hx; replace hS := Sep.newCell (Sep.ext hS (by (exact extA))) hx hb hge (by (first | exact Nat.le_refl _ | exact Below.size (by (exact extA)))); (try simp only [List.set_cons_zero, List.set_cons_succ] at hS); (try have hR0 := hS.row (i := 0) rfl); (try have hR1 := hS.row (i := 1) rfl); (try have hR2 := hS.row (i := 2) rfl); (try have hR3 := hS.row (i := 3) rfl); (try have hR4 := hS.row (i := 4) rfl); (try have hC0 := hS.cell (i := 0) rfl); (try have hD0 := (cells_heap hC0).1); (try have hE0 := (cells_heap hC0).2.1); (try have hF0 := (cells_heap hC0).2.2.1); (try have hG0 := (cells_heap hC0).2.2.2.1); (try have hC1 := hS.cell (i := 1) rfl); (try have hD1 := (cells_heap hC1).1); (try have hE1 := (cells_heap hC1).2.1); (try have hF1 := (cells_heap hC1).2.2.1); (try have hG1 := (cells_heap hC1).2.2.2.1); (try have hC2 := hS.cell (i := 2) rfl); (try have hD2 := (cells_heap hC2).1); (try have hE2 := (cells_heap hC2).2.1); (try have hF2 := (cells_heap hC2).2.2.1); (try have hG2 := (cells_heap hC2).2.2.2.1); (try have hC3 := hS.cell (i := 3) rfl); (try have hD3 := (cells_heap hC3).1); (try have hE3 := (cells_heap hC3).2.1); (try have hF3 := (cells_heap hC3).2.2.1); (try have hG3 := (cells_heap hC3).2.2.2.1); (try have hC4 := hS.cell (i := 4) rfl); (try have hD4 := (cells_heap hC4).1); (try have hE4 := (cells_heap hC4).2.1); (try have hF4 := (cells_heap hC4).2.2.1); (try have hG4 := (cells_heap hC4).2.2.2.1); (try have hM0 := hS.map (i := 0) rfl); (try have hM1 := hS.map (i := 1) rfl); (try have hM2 := hS.map (i := 2) rfl); (try have hM3 := hS.map (i := 3) rfl); (try have hM4 := hS.map (i := 4) rfl))
    | (show WL _ _ _ _ _ _ _; first | apply WL.nil | (refine WL.au (k := ?_)) | (apply WL.index tOk; exact rfl; exact rfl; exact rfl; exact rfl; exact rfl; exact rfl; exact rfl; exact rfl; assumption; (exact extA); exact rfl; omega; assumption; intro b off h; have hcc := h; first | (obtain ⟨h1, h2, h3, h4, h5, h6, _⟩ := h) | (obtain ⟨h1, h2, h3, _⟩ := h) | (obtain ⟨h1, h2, _⟩ := h) | (obtain ⟨h1, _⟩ := h)) | (apply WL.guardF; exact rfl; exact rfl) | (apply WL.gD; exact rfl; exact rfl; all_goals intro _) | (apply WL.gN; exact rfl; exact rfl; all_goals intro _) | (apply WL.gB; exact rfl; exact rfl; all_goals intro _))
    | (show Z _ _ _ _ _; first | apply Z.tail | apply Z.then_normal | apply Z.block_normal | apply Z.then_exit | apply Z.block_exit | apply Z.then_ret | apply Z.block_ret | (apply Z.block_other; exact rfl))
    | (show W _ _ _ _ _ _; first | apply W.seq | apply W.region | apply W.block | apply W.skip | apply W.ret | apply W.exit))
  obtain ⟨w1, rfl⟩ : ∃ x, x = w' := ⟨_, rfl⟩; obtain ⟨g2, rfl⟩ : ∃ x, x = gb := ⟨_, rfl⟩
  have hX2 : Ext w w1 := (by (exact extA))
  have hw1 : w.heap.size ≤ w1.heap.size := Below.size hX2
  have hgc : w.heap.size ≤ gc := (hS.lt (i := 1) rfl rfl).1
  have hcl := cells_heap (hS.cell (i := 1) rfl)
  obtain ⟨y0, y1, y2, y3, y4, y5, y6, y7, y8, _⟩ := hcl
  repeat' (first
    | (show W _ _ (.region 1 _ _) _ _ _; apply W.regionI 13 [.is (.pointer (some ⟨gc, 0 + 1, none⟩)), .is (rowVal c.ins), prRow 1 encI 3 w1.heap.size c.ins.2.2, .is (.pointer (some ⟨gc, 0 + 1 + 1, none⟩)), .is (rowVal c.lat), prRow 3 enc3 58 w1.heap.size c.lat.2.2, .is (.pointer (some ⟨gc, 0 + 1 + 1 + 1 + 1 + 1 + 1, none⟩)), .is (rowVal c.gates), prRow 3 enc3 60 w1.heap.size c.gates.2.2, .is (.pointer (some ⟨gc, 0 + 1 + 1 + 1 + 1 + 1 + 1 + 1, none⟩)), .is (rowVal c.syms), prRow 3 encY 109 w1.heap.size c.syms.2.2, .is (.pointer (some ⟨gc, 0 + 1, none⟩))] tMix; kernel_rfl; exact rfl; kernel_rfl; kernel_rfl; exact rfl; exact rfl)
    | (show OBL _ _ _ _ _ _ _ _; apply OBL.nil)
    | (show OBL _ _ _ _ _ _ 0 _; apply OBL.cons (ds := []); exact rfl; exact rfl; exact rfl; kernel_rfl; intro w8 hw8 rest8)
    | (show OBL _ _ _ _ _ _ 1 _; apply OBL.cons (ds := [0]); exact rfl; exact rfl; exact rfl; kernel_rfl; intro w8 hw8 rest8)
    | (show OBL _ _ _ _ _ _ 2 _; apply OBL.cons (ds := [1]); exact rfl; exact rfl; exact rfl; kernel_rfl; intro w8 hw8 rest8)
    | (show OBL _ _ _ _ _ _ 3 _; apply OBL.cons (ds := []); exact rfl; exact rfl; exact rfl; kernel_rfl; intro w8 hw8 rest8)
    | (show OBL _ _ _ _ _ _ 4 _; apply OBL.cons (ds := [3]); exact rfl; exact rfl; exact rfl; kernel_rfl; intro w8 hw8 rest8)
    | (show OBL _ _ _ _ _ _ 5 _; apply OBL.cons (ds := [4, 2]); exact rfl; exact rfl; exact rfl; kernel_rfl; intro w8 hw8 rest8)
    | (show OBL _ _ _ _ _ _ 6 _; apply OBL.cons (ds := []); exact rfl; exact rfl; exact rfl; kernel_rfl; intro w8 hw8 rest8)
    | (show OBL _ _ _ _ _ _ 7 _; apply OBL.cons (ds := [6]); exact rfl; exact rfl; exact rfl; kernel_rfl; intro w8 hw8 rest8)
    | (show OBL _ _ _ _ _ _ 8 _; apply OBL.cons (ds := [7, 5]); exact rfl; exact rfl; exact rfl; kernel_rfl; intro w8 hw8 rest8)
    | (show OBL _ _ _ _ _ _ 9 _; apply OBL.cons (ds := []); exact rfl; exact rfl; exact rfl; kernel_rfl; intro w8 hw8 rest8)
    | (show OBL _ _ _ _ _ _ 10 _; apply OBL.cons (ds := [9]); exact rfl; exact rfl; exact rfl; kernel_rfl; intro w8 hw8 rest8)
    | (show OBL _ _ _ _ _ _ 11 _; apply OBL.cons (ds := [10, 8]); exact rfl; exact rfl; exact rfl; kernel_rfl; intro w8 hw8 rest8)
    | (show OBL _ _ _ _ _ _ 12 _; apply OBL.cons (ds := [0, 1, 2, 3, 4, 6, 7, 9, 10]); exact rfl; exact rfl; exact rfl; kernel_rfl; intro w8 hw8 rest8)
    | (show NO _ _ _ _ _ _ _ _ _ _; first | apply NO.nil | (apply NO.is; exact rfl; exact rfl) | (apply NO.ex; exact rfl; exact rfl; (first | (rintro _ ⟨gl, rfl, hlb, hlge⟩) | (rintro _ ⟨ar, cr, rfl, hOr⟩))) | (apply NO.any; exact rfl))
    | (intro w8 hw8; show NF _ _ _ _ _ _ _ _ _)
    | (show NF _ _ _ _ _ _ _ _ _; first | (apply NF.nilT; intro hap; replace hS := Sep.news [prowZ 3 encY 109 w.heap.size ar1_11 cr1_11 c.syms.2.2, prowZ 3 enc3 60 w.heap.size ar1_8 cr1_8 c.gates.2.2, prowZ 3 enc3 58 w.heap.size ar1_5 cr1_5 c.lat.2.2, prowZ 1 encI 3 w.heap.size ar1_2 cr1_2 c.ins.2.2] hS hw8 (by rintro q hq; simp only [List.mem_cons, List.not_mem_nil, or_false] at hq; rcases hq with rfl | rfl | rfl | rfl <;> exact prowZ_new (by assumption) hw1) (apartS hap) hw1; simp only [List.cons_append, List.nil_append] at hS; (try simp only [List.set_cons_zero, List.set_cons_succ] at hS); (try have hR0 := hS.row (i := 0) rfl); (try have hR1 := hS.row (i := 1) rfl); (try have hR2 := hS.row (i := 2) rfl); (try have hR3 := hS.row (i := 3) rfl); (try have hR4 := hS.row (i := 4) rfl); (try have hC0 := hS.cell (i := 0) rfl); (try have hD0 := (cells_heap hC0).1); (try have hE0 := (cells_heap hC0).2.1); (try have hF0 := (cells_heap hC0).2.2.1); (try have hG0 := (cells_heap hC0).2.2.2.1); (try have hC1 := hS.cell (i := 1) rfl); (try have hD1 := (cells_heap hC1).1); (try have hE1 := (cells_heap hC1).2.1); (try have hF1 := (cells_heap hC1).2.2.1); (try have hG1 := (cells_heap hC1).2.2.2.1); (try have hC2 := hS.cell (i := 2) rfl); (try have hD2 := (cells_heap hC2).1); (try have hE2 := (cells_heap hC2).2.1); (try have hF2 := (cells_heap hC2).2.2.1); (try have hG2 := (cells_heap hC2).2.2.2.1); (try have hC3 := hS.cell (i := 3) rfl); (try have hD3 := (cells_heap hC3).1); (try have hE3 := (cells_heap hC3).2.1); (try have hF3 := (cells_heap hC3).2.2.1); (try have hG3 := (cells_heap hC3).2.2.2.1); (try have hC4 := hS.cell (i := 4) rfl); (try have hD4 := (cells_heap hC4).1); (try have hE4 := (cells_heap hC4).2.1); (try have hF4 := (cells_heap hC4).2.2.1); (try have hG4 := (cells_heap hC4).2.2.2.1); (try have hM0 := hS.map (i := 0) rfl); (try have hM1 := hS.map (i := 1) rfl); (try have hM2 := hS.map (i := 2) rfl); (try have hM3 := hS.map (i := 3) rfl); (try have hM4 := hS.map (i := 4) rfl) ; have hC5 := hS.cell (i := 5) rfl) | (apply NF.nilZ; intro hap; replace hS := Sep.news [prowZ 3 encY 109 w.heap.size ar1_11 cr1_11 c.syms.2.2, prowZ 3 enc3 60 w.heap.size ar1_8 cr1_8 c.gates.2.2, prowZ 3 enc3 58 w.heap.size ar1_5 cr1_5 c.lat.2.2, prowZ 1 encI 3 w.heap.size ar1_2 cr1_2 c.ins.2.2] hS hw8 (by rintro q hq; simp only [List.mem_cons, List.not_mem_nil, or_false] at hq; rcases hq with rfl | rfl | rfl | rfl <;> exact prowZ_new (by assumption) hw1) (apartS hap) hw1; simp only [List.cons_append, List.nil_append] at hS; (try simp only [List.set_cons_zero, List.set_cons_succ] at hS); (try have hR0 := hS.row (i := 0) rfl); (try have hR1 := hS.row (i := 1) rfl); (try have hR2 := hS.row (i := 2) rfl); (try have hR3 := hS.row (i := 3) rfl); (try have hR4 := hS.row (i := 4) rfl); (try have hC0 := hS.cell (i := 0) rfl); (try have hD0 := (cells_heap hC0).1); (try have hE0 := (cells_heap hC0).2.1); (try have hF0 := (cells_heap hC0).2.2.1); (try have hG0 := (cells_heap hC0).2.2.2.1); (try have hC1 := hS.cell (i := 1) rfl); (try have hD1 := (cells_heap hC1).1); (try have hE1 := (cells_heap hC1).2.1); (try have hF1 := (cells_heap hC1).2.2.1); (try have hG1 := (cells_heap hC1).2.2.2.1); (try have hC2 := hS.cell (i := 2) rfl); (try have hD2 := (cells_heap hC2).1); (try have hE2 := (cells_heap hC2).2.1); (try have hF2 := (cells_heap hC2).2.2.1); (try have hG2 := (cells_heap hC2).2.2.2.1); (try have hC3 := hS.cell (i := 3) rfl); (try have hD3 := (cells_heap hC3).1); (try have hE3 := (cells_heap hC3).2.1); (try have hF3 := (cells_heap hC3).2.2.1); (try have hG3 := (cells_heap hC3).2.2.2.1); (try have hC4 := hS.cell (i := 4) rfl); (try have hD4 := (cells_heap hC4).1); (try have hE4 := (cells_heap hC4).2.1); (try have hF4 := (cells_heap hC4).2.2.1); (try have hG4 := (cells_heap hC4).2.2.2.1); (try have hM0 := hS.map (i := 0) rfl); (try have hM1 := hS.map (i := 1) rfl); (try have hM2 := hS.map (i := 2) rfl); (try have hM3 := hS.map (i := 3) rfl); (try have hM4 := hS.map (i := 4) rfl) ; have hC5 := hS.cell (i := 5) rfl) | (apply NF.is; exact rfl; exact rfl) | (apply NF.any; exact rfl))
    | (show NF _ _ _ _ _ _ (2 :: _) _ _; apply NF.ex; exact rfl; exact rfl; rintro _ ⟨ar1_2, cr1_2, rfl, hOr1_2⟩)
    | (show NF _ _ _ _ _ _ (5 :: _) _ _; apply NF.ex; exact rfl; exact rfl; rintro _ ⟨ar1_5, cr1_5, rfl, hOr1_5⟩)
    | (show NF _ _ _ _ _ _ (8 :: _) _ _; apply NF.ex; exact rfl; exact rfl; rintro _ ⟨ar1_8, cr1_8, rfl, hOr1_8⟩)
    | (show NF _ _ _ _ _ _ (11 :: _) _ _; apply NF.ex; exact rfl; exact rfl; rintro _ ⟨ar1_11, cr1_11, rfl, hOr1_11⟩)
    | (show Z _ _ _ _ _; first | (apply Z.invIs; (exact extA)) | (apply Z.invLit; (exact extA); assumption; first | omega | (refine Nat.le_trans ?_ (by assumption); exact Below.size (by (exact extA)))) | (apply Z.invRow; (exact extA); assumption; assumption) | (apply Z.invFresh; (exact extA); (first | omega | exact Below.size (by (exact extA))); assumption))
    | ((show WL _ _ _ (⟨_, .call ⟨.value (.func 90), _, _⟩, _, _, _, _⟩ :: _) _ _ _); apply WL.call; exact rfl; exact rfl; exact rfl; exact rfl; exact slices_CloneI _ _ c.ins.2.2 _ (Ri.ext (by (exact extA))) ni (by omega); rintro v' w' ⟨hx, a', cap', rfl, hO⟩)
    | ((show WL _ _ _ (⟨_, .call ⟨.value (.func 91), _, _⟩, _, _, _, _⟩ :: _) _ _ _); apply WL.call; exact rfl; exact rfl; exact rfl; exact rfl; exact clone_L _ _ c.lat.2.2 _ (Rl.ext (by (exact extA))) nl (by omega); rintro v' w' ⟨hx, a', cap', rfl, hO⟩)
    | ((show WL _ _ _ (⟨_, .call ⟨.value (.func 92), _, _⟩, _, _, _, _⟩ :: _) _ _ _); apply WL.call; exact rfl; exact rfl; exact rfl; exact rfl; exact clone_G _ _ c.gates.2.2 _ (Rg.ext (by (exact extA))) ng (by omega); rintro v' w' ⟨hx, a', cap', rfl, hO⟩)
    | ((show WL _ _ _ (⟨_, .call ⟨.value (.func 93), _, _⟩, _, _, _, _⟩ :: _) _ _ _); apply WL.call; exact rfl; exact rfl; exact rfl; exact rfl; exact clone_Y _ _ c.syms.2.2 _ (Ry.ext (by (exact extA))) ny (by omega); rintro v' w' ⟨hx, a', cap', rfl, hO⟩)
    | (apply WL.storeF (w0 := w) tOk; exact rfl; exact rfl; exact rfl; exact rfl; assumption; (exact extA); exact rfl; exact rfl; exact rfl; exact rfl; (exact extA); (first | assumption | omega | (focus (apply Nat.le_trans; rotate_left; assumption; exact Below.size (by (exact extA))))); intro w' hb hX' hU; replace hS := Sep.updCell (i := 5) rfl hU hb hS (by (exact extA)) (by (first | exact Nat.le_refl _ | exact Below.size (by (exact extA)))); (try simp only [List.set_cons_zero, List.set_cons_succ] at hS); (try have hR0 := hS.row (i := 0) rfl); (try have hR1 := hS.row (i := 1) rfl); (try have hR2 := hS.row (i := 2) rfl); (try have hR3 := hS.row (i := 3) rfl); (try have hR4 := hS.row (i := 4) rfl); (try have hC0 := hS.cell (i := 0) rfl); (try have hD0 := (cells_heap hC0).1); (try have hE0 := (cells_heap hC0).2.1); (try have hF0 := (cells_heap hC0).2.2.1); (try have hG0 := (cells_heap hC0).2.2.2.1); (try have hC1 := hS.cell (i := 1) rfl); (try have hD1 := (cells_heap hC1).1); (try have hE1 := (cells_heap hC1).2.1); (try have hF1 := (cells_heap hC1).2.2.1); (try have hG1 := (cells_heap hC1).2.2.2.1); (try have hC2 := hS.cell (i := 2) rfl); (try have hD2 := (cells_heap hC2).1); (try have hE2 := (cells_heap hC2).2.1); (try have hF2 := (cells_heap hC2).2.2.1); (try have hG2 := (cells_heap hC2).2.2.2.1); (try have hC3 := hS.cell (i := 3) rfl); (try have hD3 := (cells_heap hC3).1); (try have hE3 := (cells_heap hC3).2.1); (try have hF3 := (cells_heap hC3).2.2.1); (try have hG3 := (cells_heap hC3).2.2.2.1); (try have hC4 := hS.cell (i := 4) rfl); (try have hD4 := (cells_heap hC4).1); (try have hE4 := (cells_heap hC4).2.1); (try have hF4 := (cells_heap hC4).2.2.1); (try have hG4 := (cells_heap hC4).2.2.2.1); (try have hM0 := hS.map (i := 0) rfl); (try have hM1 := hS.map (i := 1) rfl); (try have hM2 := hS.map (i := 2) rfl); (try have hM3 := hS.map (i := 3) rfl); (try have hM4 := hS.map (i := 4) rfl))
    | (show WL _ _ _ _ _ _ _; first | apply WL.nil | (refine WL.au (k := ?_)) | (apply WL.index tOk; exact rfl; exact rfl; exact rfl; exact rfl; exact rfl; exact rfl; exact rfl; exact rfl; assumption; (exact extA); exact rfl; omega; assumption; intro b off h; have hcc := h; first | (obtain ⟨h1, h2, h3, h4, h5, h6, _⟩ := h) | (obtain ⟨h1, h2, h3, _⟩ := h) | (obtain ⟨h1, h2, _⟩ := h) | (obtain ⟨h1, _⟩ := h)) | (apply WL.guardF; exact rfl; exact rfl) | (apply WL.gD; exact rfl; exact rfl; all_goals intro _) | (apply WL.gN; exact rfl; exact rfl; all_goals intro _) | (apply WL.gB; exact rfl; exact rfl; all_goals intro _))
    | (show Z _ _ _ _ _; first | apply Z.tail | apply Z.then_normal | apply Z.block_normal | apply Z.then_exit | apply Z.block_exit | apply Z.then_ret | apply Z.block_ret | (apply Z.block_other; exact rfl))
    | (show W _ _ _ _ _ _; first | apply W.seq | apply W.region | apply W.block | apply W.skip | apply W.ret | apply W.exit))
  obtain ⟨w2, rfl⟩ : ∃ x, x = w' := ⟨_, rfl⟩
  have hX3 : Ext w w2 := (by (exact extA))
  have hw2 : w.heap.size ≤ w2.heap.size := Below.size hX3
  replace hS : Lt.Sep w.heap.size w2 [prowZ 3 encY 109 w.heap.size ar1_11 cr1_11 c.syms.2.2, prowZ 3 enc3 60 w.heap.size ar1_8 cr1_8 c.gates.2.2, prowZ 3 enc3 58 w.heap.size ar1_5 cr1_5 c.lat.2.2, prowZ 1 encI 3 w.heap.size ar1_2 cr1_2 c.ins.2.2, pcell g2 (Value.cells (.agg #[.int .i64 0, .slice none 0 0, .slice none 0 0, .slice none 0 0, .slice none 0 0, .slice none 0 0, .slice none 0 0, .slice none 0 0, .string ⟨#[]⟩])) 45, pcell gc ([.int .i64 c.max, .slice ar1_2 c.ins.2.2.length cr1_2, .slice ar1_5 c.lat.2.2.length cr1_5, rowVal c.outs, rowVal c.bads, rowVal c.cons, .slice ar1_8 c.gates.2.2.length cr1_8, .slice ar1_11 c.syms.2.2.length cr1_11, .string c.com] : List Value).toArray 45] := hS
  have hcl := cells_heap (hS.cell (i := 5) rfl)
  clear y0 y1 y2 y3 y4 y5 y6 y7 y8
  obtain ⟨y0, y1, y2, y3, y4, y5, y6, y7, y8, _⟩ := hcl
  repeat' (first
    | (show W _ _ (.region 2 _ _) _ _ _; apply W.regionI 10 [.is (.pointer (some ⟨gc, 0 + 1 + 1 + 1, none⟩)), .is (rowVal c.outs), prRow 1 encI 3 w2.heap.size c.outs.2.2, .is (.pointer (some ⟨gc, 0 + 1 + 1 + 1 + 1, none⟩)), .is (rowVal c.bads), prRow 1 encI 3 w2.heap.size c.bads.2.2, .is (.pointer (some ⟨gc, 0 + 1 + 1 + 1 + 1 + 1, none⟩)), .is (rowVal c.cons), prRow 1 encI 3 w2.heap.size c.cons.2.2, .is (.pointer (some ⟨gc, 0 + 1 + 1 + 1, none⟩))] tMix; kernel_rfl; exact rfl; kernel_rfl; kernel_rfl; exact rfl; exact rfl)
    | (show OBL _ _ _ _ _ _ _ _; apply OBL.nil)
    | (show OBL _ _ _ _ _ _ 0 _; apply OBL.cons (ds := []); exact rfl; exact rfl; exact rfl; kernel_rfl; intro w8 hw8 rest8)
    | (show OBL _ _ _ _ _ _ 1 _; apply OBL.cons (ds := [0]); exact rfl; exact rfl; exact rfl; kernel_rfl; intro w8 hw8 rest8)
    | (show OBL _ _ _ _ _ _ 2 _; apply OBL.cons (ds := [1]); exact rfl; exact rfl; exact rfl; kernel_rfl; intro w8 hw8 rest8)
    | (show OBL _ _ _ _ _ _ 3 _; apply OBL.cons (ds := []); exact rfl; exact rfl; exact rfl; kernel_rfl; intro w8 hw8 rest8)
    | (show OBL _ _ _ _ _ _ 4 _; apply OBL.cons (ds := [3]); exact rfl; exact rfl; exact rfl; kernel_rfl; intro w8 hw8 rest8)
    | (show OBL _ _ _ _ _ _ 5 _; apply OBL.cons (ds := [4, 2]); exact rfl; exact rfl; exact rfl; kernel_rfl; intro w8 hw8 rest8)
    | (show OBL _ _ _ _ _ _ 6 _; apply OBL.cons (ds := []); exact rfl; exact rfl; exact rfl; kernel_rfl; intro w8 hw8 rest8)
    | (show OBL _ _ _ _ _ _ 7 _; apply OBL.cons (ds := [6]); exact rfl; exact rfl; exact rfl; kernel_rfl; intro w8 hw8 rest8)
    | (show OBL _ _ _ _ _ _ 8 _; apply OBL.cons (ds := [7, 5]); exact rfl; exact rfl; exact rfl; kernel_rfl; intro w8 hw8 rest8)
    | (show OBL _ _ _ _ _ _ 9 _; apply OBL.cons (ds := [0, 1, 2, 3, 4, 6, 7]); exact rfl; exact rfl; exact rfl; kernel_rfl; intro w8 hw8 rest8)
    | (show NO _ _ _ _ _ _ _ _ _ _; first | apply NO.nil | (apply NO.is; exact rfl; exact rfl) | (apply NO.ex; exact rfl; exact rfl; (first | (rintro _ ⟨gl, rfl, hlb, hlge⟩) | (rintro _ ⟨ar, cr, rfl, hOr⟩))) | (apply NO.any; exact rfl))
    | (intro w8 hw8; show NF _ _ _ _ _ _ _ _ _)
    | (show NF _ _ _ _ _ _ _ _ _; first | (apply NF.nilT; intro hap; replace hS := Sep.news [prowZ 1 encI 3 w.heap.size ar2_8 cr2_8 c.cons.2.2, prowZ 1 encI 3 w.heap.size ar2_5 cr2_5 c.bads.2.2, prowZ 1 encI 3 w.heap.size ar2_2 cr2_2 c.outs.2.2] hS hw8 (by rintro q hq; simp only [List.mem_cons, List.not_mem_nil, or_false] at hq; rcases hq with rfl | rfl | rfl <;> exact prowZ_new (by assumption) hw2) (apartS hap) hw2; simp only [List.cons_append, List.nil_append] at hS; have hC8 := hS.cell (i := 8) rfl) | (apply NF.nilZ; intro hap; replace hS := Sep.news [prowZ 1 encI 3 w.heap.size ar2_8 cr2_8 c.cons.2.2, prowZ 1 encI 3 w.heap.size ar2_5 cr2_5 c.bads.2.2, prowZ 1 encI 3 w.heap.size ar2_2 cr2_2 c.outs.2.2] hS hw8 (by rintro q hq; simp only [List.mem_cons, List.not_mem_nil, or_false] at hq; rcases hq with rfl | rfl | rfl <;> exact prowZ_new (by assumption) hw2) (apartS hap) hw2; simp only [List.cons_append, List.nil_append] at hS; have hC8 := hS.cell (i := 8) rfl) | (apply NF.is; exact rfl; exact rfl) | (apply NF.any; exact rfl))
    | (show NF _ _ _ _ _ _ (2 :: _) _ _; apply NF.ex; exact rfl; exact rfl; rintro _ ⟨ar2_2, cr2_2, rfl, hOr2_2⟩)
    | (show NF _ _ _ _ _ _ (5 :: _) _ _; apply NF.ex; exact rfl; exact rfl; rintro _ ⟨ar2_5, cr2_5, rfl, hOr2_5⟩)
    | (show NF _ _ _ _ _ _ (8 :: _) _ _; apply NF.ex; exact rfl; exact rfl; rintro _ ⟨ar2_8, cr2_8, rfl, hOr2_8⟩)
    | (show Z _ _ _ _ _; first | (apply Z.invIs; (exact extA)) | (apply Z.invLit; (exact extA); assumption; first | omega | (refine Nat.le_trans ?_ (by assumption); exact Below.size (by (exact extA)))) | (apply Z.invRow; (exact extA); assumption; assumption) | (apply Z.invFresh; (exact extA); (first | omega | exact Below.size (by (exact extA))); assumption))
    | ((show WL _ _ _ (⟨_, .call ⟨.value (.func 90), _, _⟩, _, _, _, _⟩ :: _) _ _ _); apply WL.call; exact rfl; exact rfl; exact rfl; exact rfl; exact slices_CloneI _ _ c.outs.2.2 _ (Ro.ext (by (exact extA))) no (by omega); rintro v' w' ⟨hx, a', cap', rfl, hO⟩)
    | ((show WL _ _ _ (⟨_, .call ⟨.value (.func 90), _, _⟩, _, _, _, _⟩ :: _) _ _ _); apply WL.call; exact rfl; exact rfl; exact rfl; exact rfl; exact slices_CloneI _ _ c.bads.2.2 _ (Rb.ext (by (exact extA))) nb (by omega); rintro v' w' ⟨hx, a', cap', rfl, hO⟩)
    | ((show WL _ _ _ (⟨_, .call ⟨.value (.func 90), _, _⟩, _, _, _, _⟩ :: _) _ _ _); apply WL.call; exact rfl; exact rfl; exact rfl; exact rfl; exact slices_CloneI _ _ c.cons.2.2 _ (Rn.ext (by (exact extA))) nn (by omega); rintro v' w' ⟨hx, a', cap', rfl, hO⟩)
    | (apply WL.storeF (w0 := w) tOk; exact rfl; exact rfl; exact rfl; exact rfl; assumption; (exact extA); exact rfl; exact rfl; exact rfl; exact rfl; (exact extA); (first | assumption | omega | (focus (apply Nat.le_trans; rotate_left; assumption; exact Below.size (by (exact extA))))); intro w' hb hX' hU; replace hS := Sep.updCell (i := 8) rfl hU hb hS (by (exact extA)) (by (first | exact Nat.le_refl _ | exact Below.size (by (exact extA)))); (try simp only [List.set_cons_zero, List.set_cons_succ] at hS); (try have hR0 := hS.row (i := 0) rfl); (try have hR1 := hS.row (i := 1) rfl); (try have hR2 := hS.row (i := 2) rfl); (try have hR3 := hS.row (i := 3) rfl); (try have hR4 := hS.row (i := 4) rfl); (try have hC0 := hS.cell (i := 0) rfl); (try have hD0 := (cells_heap hC0).1); (try have hE0 := (cells_heap hC0).2.1); (try have hF0 := (cells_heap hC0).2.2.1); (try have hG0 := (cells_heap hC0).2.2.2.1); (try have hC1 := hS.cell (i := 1) rfl); (try have hD1 := (cells_heap hC1).1); (try have hE1 := (cells_heap hC1).2.1); (try have hF1 := (cells_heap hC1).2.2.1); (try have hG1 := (cells_heap hC1).2.2.2.1); (try have hC2 := hS.cell (i := 2) rfl); (try have hD2 := (cells_heap hC2).1); (try have hE2 := (cells_heap hC2).2.1); (try have hF2 := (cells_heap hC2).2.2.1); (try have hG2 := (cells_heap hC2).2.2.2.1); (try have hC3 := hS.cell (i := 3) rfl); (try have hD3 := (cells_heap hC3).1); (try have hE3 := (cells_heap hC3).2.1); (try have hF3 := (cells_heap hC3).2.2.1); (try have hG3 := (cells_heap hC3).2.2.2.1); (try have hC4 := hS.cell (i := 4) rfl); (try have hD4 := (cells_heap hC4).1); (try have hE4 := (cells_heap hC4).2.1); (try have hF4 := (cells_heap hC4).2.2.1); (try have hG4 := (cells_heap hC4).2.2.2.1); (try have hM0 := hS.map (i := 0) rfl); (try have hM1 := hS.map (i := 1) rfl); (try have hM2 := hS.map (i := 2) rfl); (try have hM3 := hS.map (i := 3) rfl); (try have hM4 := hS.map (i := 4) rfl))
    | (show WL _ _ _ _ _ _ _; first | apply WL.nil | (refine WL.au (k := ?_)) | (apply WL.index tOk; exact rfl; exact rfl; exact rfl; exact rfl; exact rfl; exact rfl; exact rfl; exact rfl; assumption; (exact extA); exact rfl; omega; assumption; intro b off h; have hcc := h; first | (obtain ⟨h1, h2, h3, h4, h5, h6, _⟩ := h) | (obtain ⟨h1, h2, h3, _⟩ := h) | (obtain ⟨h1, h2, _⟩ := h) | (obtain ⟨h1, _⟩ := h)) | (apply WL.guardF; exact rfl; exact rfl) | (apply WL.gD; exact rfl; exact rfl; all_goals intro _) | (apply WL.gN; exact rfl; exact rfl; all_goals intro _) | (apply WL.gB; exact rfl; exact rfl; all_goals intro _))
    | (show Z _ _ _ _ _; first | apply Z.tail | apply Z.then_normal | apply Z.block_normal | apply Z.then_exit | apply Z.block_exit | apply Z.then_ret | apply Z.block_ret | (apply Z.block_other; exact rfl))
    | (show W _ _ _ _ _ _; first | apply W.seq | apply W.region | apply W.block | apply W.skip | apply W.ret | apply W.exit))
  obtain ⟨w3, rfl⟩ : ∃ x, x = w' := ⟨_, rfl⟩
  obtain ⟨d, hd⟩ : ∃ d : Circ, d = ⟨c.max, (ar1_2, cr1_2, c.ins.2.2), (ar1_5, cr1_5, c.lat.2.2), (ar2_2, cr2_2, c.outs.2.2), (ar2_5, cr2_5, c.bads.2.2), (ar2_8, cr2_8, c.cons.2.2), (ar1_8, cr1_8, c.gates.2.2), (ar1_11, cr1_11, c.syms.2.2), c.com⟩ := ⟨_, rfl⟩
  have hS' : Lt.Sep w.heap.size w3 ([prowZ 1 encI 3 w.heap.size ar2_8 cr2_8 c.cons.2.2, prowZ 1 encI 3 w.heap.size ar2_5 cr2_5 c.bads.2.2, prowZ 1 encI 3 w.heap.size ar2_2 cr2_2 c.outs.2.2, prowZ 3 encY 109 w.heap.size ar1_11 cr1_11 c.syms.2.2, prowZ 3 enc3 60 w.heap.size ar1_8 cr1_8 c.gates.2.2, prowZ 3 enc3 58 w.heap.size ar1_5 cr1_5 c.lat.2.2, prowZ 1 encI 3 w.heap.size ar1_2 cr1_2 c.ins.2.2, pcell g2 (Value.cells (.agg #[.int .i64 0, .slice none 0 0, .slice none 0 0, .slice none 0 0, .slice none 0 0, .slice none 0 0, .slice none 0 0, .slice none 0 0, .string ⟨#[]⟩])) 45, pcell gc d.vals.toArray 45]) := by rw [hd]; exact hS
  have hps : d.ps w.heap.size = [prowZ 3 encY 109 w.heap.size ar1_11 cr1_11 c.syms.2.2, prowZ 3 enc3 60 w.heap.size ar1_8 cr1_8 c.gates.2.2, prowZ 3 enc3 58 w.heap.size ar1_5 cr1_5 c.lat.2.2, prowZ 1 encI 3 w.heap.size ar2_8 cr2_8 c.cons.2.2, prowZ 1 encI 3 w.heap.size ar2_5 cr2_5 c.bads.2.2, prowZ 1 encI 3 w.heap.size ar2_2 cr2_2 c.outs.2.2, prowZ 1 encI 3 w.heap.size ar1_2 cr1_2 c.ins.2.2] := by rw [hd]; rfl
  have hcap : CapC d := by
    rw [hd]
    exact ⟨⟨hOr1_2.capLe, hOr1_2.noneCap⟩, ⟨hOr1_5.capLe, hOr1_5.noneCap⟩, ⟨hOr2_2.capLe, hOr2_2.noneCap⟩, ⟨hOr2_5.capLe, hOr2_5.noneCap⟩, ⟨hOr2_8.capLe, hOr2_8.noneCap⟩, ⟨hOr1_8.capLe, hOr1_8.noneCap⟩, ⟨hOr1_11.capLe, hOr1_11.noneCap⟩⟩
  have hdt : d.t = c.t := by rw [hd]
  have hcd : Cells w3 gc 0 d.vals := cells_heap (hS'.cell (i := 8) rfl)
  have hc7 := hS'.cell (i := 7) rfl
  have hg2 : w.heap.size ≤ g2 := (hS'.lt (i := 7) rfl rfl).1
  have hX4 : Ext w w3 := (by (exact extA))
  clear hd
  repeat' (first
    | (apply WL.storeB (w0 := w) tOk; exact rfl; exact rfl; exact rfl; exact rfl; assumption; (exact extA); exact rfl; exact rfl; exact rfl; (exact extA); (first | assumption | omega | (focus (apply Nat.le_trans; rotate_left; assumption; exact Below.size (by (exact extA)); done))); intro w' hb hc hX' hU; have hcc := hc; obtain ⟨h1, h2, _⟩ := hc)
    | (show WL _ _ _ _ _ _ _; first | apply WL.nil | (refine WL.au (k := ?_)) | (apply WL.index tOk; exact rfl; exact rfl; exact rfl; exact rfl; exact rfl; exact rfl; exact rfl; exact rfl; assumption; (exact extA); exact rfl; omega; assumption; intro b off h; have hcc := h; first | (obtain ⟨h1, h2, h3, h4, h5, h6, _⟩ := h) | (obtain ⟨h1, h2, h3, _⟩ := h) | (obtain ⟨h1, h2, _⟩ := h) | (obtain ⟨h1, _⟩ := h)) | (apply WL.guardF; exact rfl; exact rfl) | (apply WL.gD; exact rfl; exact rfl; all_goals intro _) | (apply WL.gN; exact rfl; exact rfl; all_goals intro _) | (apply WL.gB; exact rfl; exact rfl; all_goals intro _))
    | (show Z _ _ _ _ _; first | apply Z.tail | apply Z.then_normal | apply Z.block_normal | apply Z.then_exit | apply Z.block_exit | apply Z.then_ret | apply Z.block_ret | (apply Z.block_other; exact rfl))
    | (show W _ _ _ _ _ _; first | apply W.seq | apply W.region | apply W.block | apply W.skip | apply W.ret | apply W.exit))
  refine Z.bodyC tOk Try.results39 rfl rfl rfl rfl (cells_heap hb) fun m => ⟨Ext.at (by (exact extA)) m, d, rfl, hdt, ⟨?_, hcap⟩⟩
  have hS5 := hS'.updCell (i := 7) rfl hU hb (Ext.refl _) (Below.size hX4)
  rw [hps]
  exact (Sep.perm7 hS5).ext ((Ext.refl _).at m)
end Go.Proofs.Ytmaekaflpbenmaa
namespace Go.Lt
open Go.RowKit
set_option linter.unusedVariables false
set_option linter.unusedSimpArgs false
section
variable {P : Program} {T : Tab} {N : Nat} {e : Env} {w : World} {Q : Exit → Act → World → Prop} {ops : List Oper} {l : List Oper}
  {tt t el : TypeId} {ps : String} {af : Array Edge} {g : Option (Nat × Bool)} {α : Type} {s : Nat} {enc : α → List Value} {B : Nat} {ei : TI}
theorem take_set_le {β : Type} (L : List β) (k M : Nat) (v : β) (h : k < M) : (L.set k v).take M = (L.take M).set k v := by
  apply List.ext_getElem?
  intro i
  simp only [List.getElem?_take, List.getElem?_set, List.length_take]
  split <;> split <;> (try split) <;> (try rfl) <;> (try omega) <;> simp_all <;> omega
theorem WL.storeOF {x y : Operand} {gb q i cap : Nat} {v u : Value} {xs : List α} {z z' : α} {wo w0 : World} (p r : List Value) (hT : OkTab P T) (hg : gate ops e g = some true)
    (hx : ev e x = some (.pointer (some ⟨gb, q, none⟩))) (hy : ev e y = some v) (ht : tget T t = some ei)
    (ho : Own s enc el B wo (some ⟨gb, 0, none⟩) cap xs) (hwo : Ext wo w) (hq : q = i * s + p.length) (hzo : enc z = p ++ u :: r) (hzn : enc z' = p ++ v :: r) (hv : v.cells.toList = [v]) (hs : ei.size = 1) (hE : Enc s enc) (hz : xs[i]? = some z) (hB : w0.heap.size = B) (hX : Ext w0 w)
    (k : ∀ w', Own s enc el B w' (some ⟨gb, 0, none⟩) cap (xs.set i z') → Ext w0 w' → Upd B (some ⟨gb, 0, none⟩) w w' → WL P N ops.toArray l e w' Q) :
    WL P N ops.toArray (⟨none, .store t x y, tt, ps, af, g⟩ :: l) e w Q := by
  subst hq
  have hi : i < xs.length := (List.getElem?_eq_some_iff.1 hz).1
  have ho' := ho.ext hwo
  have hO := ho'
  rcases ho'.2 with ⟨h1, _⟩ | ⟨g', c', cur, h1, h2, h3, h4, h5, h6, h7⟩
  · simp at h1
  simp only [Value.slice.injEq, Option.some.injEq, Addr.mk.injEq, and_true, true_and] at h1
  obtain ⟨rfl, rfl⟩ := h1
  have hps : p.length < s := by have := hE.len z; rw [hzo] at this; simp at this; omega
  have hvs : v.cells.size = 1 := by have := congrArg List.length hv; simpa using this
  have hle : i * s + s ≤ xs.length * s := by rw [← Nat.succ_mul]; exact Nat.mul_le_mul_right s hi
  have hle2 : xs.length * s ≤ cap * s := Nat.mul_le_mul_right s h4
  have hone : ∀ u ∈ v.cells.toList, u.oneCell' = true := fun u hu => hE.one z' u (by rw [hv] at hu; rw [hzn]; simp at hu; subst hu; simp)
  refine WL.effN (w' := fun m => (at' w m).setRow gb (cur.toList.take (i * s + p.length) ++ v.cells.toList ++ cur.toList.drop (i * s + p.length + v.cells.size)).toArray) hg ?_ (fun m => ?_)
  · intro ρ hρ m
    have hr := run_storeVar' (hT.at ht) gb (i * s + p.length) el cur (at' w m) v h3 (hvs.trans hs.symm) (by rw [hvs, h6]; omega) hone
    simp [execOp, hρ _ _ hx, hρ _ _ hy, Instr.storeAt, Instr.sureAddr, hr]
  · have hU : Upd B (some ⟨gb, 0, none⟩) w ((at' w m).setRow gb (cur.toList.take (i * s + p.length) ++ v.cells.toList ++ cur.toList.drop (i * s + p.length + v.cells.size)).toArray) :=
      ⟨⟨rfl, rfl, rfl, by simp [World.setRow], fun k hk hne => setRow_other (at' w m) gb k _ (fun hh => hne (by rw [hh]; rfl))⟩, fun k hk => (hO.blk_lt k hk).1⟩
    refine k _ ?_ (hU.ext hX (Nat.le_of_eq hB)) hU
    have h8 : cur.toList.length = cap * s := by simpa using h6
    have hcl : i * s + p.length < cur.toList.length := by omega
    have hset : cur.toList.take (i * s + p.length) ++ v.cells.toList ++ cur.toList.drop (i * s + p.length + v.cells.size) = cur.toList.set (i * s + p.length) v := by
      rw [hv, hvs, List.set_eq_take_append_cons_drop, if_pos hcl]; simp
    refine ⟨by rw [length_flatMap' hE.len], .inr ⟨gb, cap, _, rfl, h2, setRow_heap (at' w m) gb cur _ el _ h3, by simpa using h4, h5, ?_, ?_⟩⟩
    · rw [hset]; simp [h6]
    · simp only [List.length_set]
      rw [hset, take_set_le _ _ _ _ (by omega), h7]
      exact set_flatMap' hE.len xs i z z' hz p r u v hzo hzn
end
end Go.Lt
