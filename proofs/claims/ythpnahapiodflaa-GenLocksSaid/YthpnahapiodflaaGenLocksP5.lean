/- GenLocks: a lock of any code opens just by it, and stays open. No conditions. -/
import Derived.Test.YthpnahapiodflaaRows
import Derived.Lib.SmallJoins
import Derived.KernelRfl
import Derived.WalkKit
import Derived.ProofKit
import Derived.Deep.Quiet
import Derived.Deep.LoopGhost
import Derived.StillTail
import Derived.Test.YthpnahapiodflaaProg
import Derived.OpenShut
import Derived.ShutString
import Derived.ChangeOld
import Derived.Deep.Slices
import Derived.SizedLaws
import Derived.Laws.StructEq
import Derived.Laws.Externs
import Derived.MapKept
import Derived.Test.YthpnahapiodflaaGenLocksP4
namespace Go.Proofs.Ythpnahapiodflaa
open Go Go.Lt Go.RowKit
set_option linter.unusedVariables false
set_option linter.unusedSimpArgs false
set_option maxRecDepth 20000

theorem cnt_bad {bits a : Nat} (hb : bits ≤ 20) (ha : a < 2 ^ bits) {S : List Bool} (i1 : S.length = bits) (v : Bool) : BadP (cntC bits a) S [v] 0 ↔ numB S = a := by
  have hi := cnt_inv bits a bits (Nat.le_refl _)
  have hok := cntC_ok (a := a) hb
  have hbh : hasL (cntN bits a).2 (cntN bits a).1 := hok.bads _ (by simp)
  have h0 : BadP (cntC bits a) S [v] 0 ↔ litV (cntC bits a) S [v] (cntN bits a).1 = true := by
    constructor
    · rintro ⟨_, l, hl, hv⟩
      have hl' : ([(cntN bits a).1] : List Int)[0]? = some l := hl
      simp at hl'; subst hl'; exact hv
    · intro hv
      exact ⟨by decide, (cntN bits a).1, rfl, hv⟩
  rw [h0]
  unfold cntC
  rw [genC_lit hok _ _ hbh, hi.nlen]
  have hT := hi.grow.grow.tidy (tidy_ins (1 + bits))
  have hO := hi.grow.only (OnlyG.start (1 + bits))
  unfold cntN
  rw [allV_of hT hi.isHas, numB_is S a (by rw [i1]; exact ha), brV_one, show brV S bits = S by rw [← i1]; exact brV_self S, List.all_eq_true]
  have key : ∀ j, j < bits → (ofL (values (cntTo bits a bits).N ([v] ++ S)) (litQ (2 * (((1 + j : Nat) : Int) + 1)) (a.testBit j)) = true ↔ S.getD j false = a.testBit j) := by
    intro j hj
    rw [litQ_of, only_lit hO _ (show 1 + j < 1 + bits by omega), show ([v] ++ S).getD (1 + j) false = S.getD j false by rw [Nat.add_comm]; rfl]
    exact beq_iff_eq
  constructor
  · intro hh j hj
    rw [i1] at hj
    exact (key j hj).1 (hh _ (List.mem_of_getElem? (hi.isv j hj)))
  · intro hh z hz
    obtain ⟨j, hj⟩ := List.mem_iff_getElem?.1 hz
    have hjl := lt_of_get hj
    rw [hi.ilen] at hjl
    have := hi.isv j hjl
    rw [hj] at this; cases this
    exact (key j hjl).2 (hh j (by omega))
theorem cnt_starts {bits a : Nat} {S : List Bool} (hS : S.length = bits) : StartsP (cntC bits a) S ↔ ∀ b ∈ S, b = false := by
  have hi := cnt_inv bits a bits (Nat.le_refl _)
  have hl : (cntC bits a).lat.length = bits := by show (latsG _ _ _).length = _; rw [latsG_len, hi.nlen]
  have hx : ∀ (k : Nat) x, (cntC bits a).lat[k]? = some x → x.2.2 = 0 := fun k x h => by
    have h' : (latsG 1 (cntTo bits a bits).next (List.replicate bits 0))[k]? = some x := h
    have hk := lt_of_get h'
    rw [latsG_len] at hk
    rw [latsG_get hk] at h'
    cases h'
    rw [hi.nlen] at hk
    show (List.replicate bits (0 : Int)).getD k 0 = 0
    exact getD_of (by rw [List.getElem?_replicate, if_pos hk])
  constructor
  · rintro ⟨_, h⟩ b hb
    obtain ⟨k, hk⟩ := List.mem_iff_getElem?.1 hb
    obtain ⟨x, hxx⟩ := getI (cntC bits a).lat (show k < _ by have := lt_of_get hk; omega)
    have := (h k x b hxx hk).1
    cases hbb : b
    · rfl
    · exact absurd ⟨hx k x hxx, hbb⟩ this
  · intro h
    refine ⟨by omega, fun k x b h1 h2 => ?_⟩
    have h3 := hx k x h1
    have h4 := h b (List.mem_of_getElem? h2)
    rw [h3, h4]; simp
theorem gen_sz {nin : Nat} {next reset : List Int} {b : Int} {N : List (Int × Int)} (h1 : nin ≤ 1000) (h2 : next.length ≤ 1000) (h3 : N.length ≤ 100000) : SzC (genC nin next reset (badR b) N) 100000 := by
  have e1 := evenL_len 0 nin
  have e2 := latsG_len nin next reset
  have e3 := gatesG_len N (nin + next.length) (N.length - (nin + next.length))
  unfold SzC genC
  dsimp only
  simp only [List.length_nil, List.length_singleton]
  omega
theorem cnt5_start : tab 8 (fS (cntC 3 5)) = [true, false, false, false, false, false, false, false] := by
  have hl : (cntC 3 5).lat.length = 3 := by show (latsG _ _ _).length = _; rw [latsG_len, (cnt_inv 3 5 3 (Nat.le_refl _)).nlen]
  have key : ∀ s, fS (cntC 3 5) s = (bitsL s 3).all (fun b => !b) := fun s => by
    unfold fS
    rw [hl]
    cases h : (bitsL s 3).all (fun b => !b)
    · refine dec_false fun hh => ?_
      have := (cnt_starts (a := 5) (bitsL_len s 3)).1 hh
      have h2 : (bitsL s 3).all (fun b => !b) = true := List.all_eq_true.2 fun b hb => by rw [this b hb]; rfl
      rw [h] at h2; cases h2
    · exact dec_true ((cnt_starts (a := 5) (bitsL_len s 3)).2 fun b hb => by
        have := List.all_eq_true.1 h b hb
        cases b
        · rfl
        · cases this)
  rw [tab_congr fun u _ => key u]
  decide
theorem cnt5_bad : tab 8 (fun s => anyTo (bI (cntC 3 5) s) 2) = [false, false, false, false, false, true, false, false] := by
  have hl : (cntC 3 5).lat.length = 3 := by show (latsG _ _ _).length = _; rw [latsG_len, (cnt_inv 3 5 3 (Nat.le_refl _)).nlen]
  have hil : (cntC 3 5).ins.length = 1 := evenL_len _ _
  have key : ∀ s i, bI (cntC 3 5) s i = decide (numB (bitsL s 3) = 5) := fun s i => by
    unfold bI
    rw [hl, hil]
    have h := cnt_bad (bits := 3) (a := 5) (by decide) (by decide) (bitsL_len s 3) (decide (i / 2 ^ 0 % 2 = 1))
    rw [← dec_decide]
    exact dec_congr h
  have key2 : ∀ s, anyTo (bI (cntC 3 5) s) 2 = decide (numB (bitsL s 3) = 5) := fun s => by
    show ((false || bI (cntC 3 5) s 0) || bI (cntC 3 5) s 1) = _
    rw [key, key]; simp
  rw [tab_congr fun u _ => key2 u]
  decide
theorem cnt5_next : tab 8 (fun s => tab 2 (nI (cntC 3 5) s)) = [[0, 1], [1, 2], [2, 3], [3, 4], [4, 5], [5, 6], [6, 7], [7, 0]] := by
  have hl : (cntC 3 5).lat.length = 3 := by show (latsG _ _ _).length = _; rw [latsG_len, (cnt_inv 3 5 3 (Nat.le_refl _)).nlen]
  have hil : (cntC 3 5).ins.length = 1 := evenL_len _ _
  have key : ∀ s i, nI (cntC 3 5) s i = (numB (incB (bitsL s 3) (decide (i / 2 ^ 0 % 2 = 1))) : Nat) := fun s i => by
    unfold nI
    rw [hl, hil, show bitsL i 1 = [decide (i / 2 ^ 0 % 2 = 1)] from rfl, cnt_next (by decide) (bitsL_len s 3)]
  rw [tab_congr fun u _ => tab_congr fun v _ => key u v]
  decide
theorem cnt5_steps : stepsV [false, false, false, false, false, true, false, false] [[0, 1], [1, 2], [2, 3], [3, 4], [4, 5], [5, 6], [6, 7], [7, 0]] 8 10 0 [true, false, false, false, false, false, false, false] = 5 := by decide
theorem law49_lives (w : World) : Pure Try.prog 19 [] w (.bool true) := by
  have hcl : (cntC 3 5).lat.length = 3 := by show (latsG _ _ _).length = _; rw [latsG_len, (cnt_inv 3 5 3 (Nat.le_refl _)).nlen]
  have hil : (cntC 3 5).ins.length = 1 := evenL_len _ _
  have hok := cntC_ok (bits := 3) (a := 5) (by decide)
  have hcnt := gen_Counter w 3 5 (by decide) (by decide) (by decide)
  refine Spec.of _ Try.func19 rfl Try.ntmps19 (by kernel_rfl) rfl ?_
  repeat' (first
    | (((show WL _ _ _ (⟨_, .call ⟨.value (.func 17), _, _⟩, _, _, _, _⟩ :: _) _ _ _); apply WL.call; exact rfl; exact rfl; exact rfl; exact rfl; exact hcnt; rintro v' w2 ⟨hx2, d, rfl, hdt, hCd⟩))
    | (show WL _ _ _ _ _ _ _; first | apply WL.nil | (refine WL.au (k := ?_)))
    | (show Z _ _ _ _ _; apply Z.then_normal)
    | (show W _ _ _ _ _ _; first | apply W.seq | apply W.region))
  have hgd : GoodC' d.t := by rw [hdt]; exact genC_good hok
  have hzd : SzC d.t 100000 := by
    rw [hdt]
    exact gen_sz (by decide) (by rw [(cnt_inv 3 5 3 (Nat.le_refl _)).nlen]; decide) (by have := cntN_len 3 5; omega)
  have hck := fun (w9 : World) (h9 : Ext w2 w9) => ref11_Check d w9 (hCd.ext h9) hzd
  rw [chkC_good.2 hgd] at hck
  have hl3 : d.lat.2.2.length = 3 := by rw [← hcl, ← hdt]
  have hi1 : d.ins.2.2.length = 1 := by rw [← hil, ← hdt]
  have hcons : d.cons.2.2 = [] := by have : d.t.cons = [] := by rw [hdt]; rfl
                                     exact this
  repeat' (first
    | (apply WL.alloc tOk; exact rfl; exact rfl; exact rfl; intro gb w' hb hge hx; (obtain ⟨g1, rfl⟩ : ∃ x, x = gb := ⟨_, rfl⟩; obtain ⟨hge1, rfl⟩ : ∃ x, x = hge := ⟨_, rfl⟩))
    | (apply WL.storeB (w0 := w2) tOk; exact rfl; exact rfl; exact rfl; exact rfl; assumption; (exact extA); exact rfl; exact rfl; exact rfl; (exact extA); (first | assumption | omega | (focus (apply Nat.le_trans; rotate_left; assumption; exact Below.size (by (exact extA)); done))); intro w' hb hc hX' hU; have hcc := hc; obtain ⟨h1, h2, _⟩ := hc; (obtain ⟨w3, rfl⟩ : ∃ x, x = w' := ⟨_, rfl⟩; obtain ⟨hb3, rfl⟩ : ∃ x, x = hb := ⟨_, rfl⟩; obtain ⟨hX3, rfl⟩ : ∃ x, x = hX' := ⟨_, rfl⟩; have hcd := cells_heap hb3; obtain ⟨y0, y1, y2, y3, y4, y5, y6, y7, y8, _⟩ := id hcd))
    | (((show WL _ _ _ (⟨_, .call ⟨.value (.func 53), _, _⟩, _, _, _, _⟩ :: _) _ _ _); apply WL.callP; exact rfl; exact rfl; exact rfl; exact rfl; exact hck _ (by (exact extA)); intro w4 hx4))
    | (apply WL.gF; exact rfl; exact rfl; (focus (first | exact dec_false (by omega); done)))
    | (show WL _ _ _ _ _ _ _; first | apply WL.nil | (refine WL.au (k := ?_)))
    | (show Z _ _ _ _ _; apply Z.then_normal)
    | (show W _ _ _ _ _ _; first | apply W.seq | apply W.region))
  refine W.condKF rfl (dec_false (by omega)) ?_
  have hX23 : Ext w2 w4 := (by (exact extA))
  repeat' (first
    | (((show WL _ _ _ (⟨_, .call ⟨.value (.func 61), _, _⟩, _, _, _, _⟩ :: _) _ _ _); apply WL.call; exact rfl; exact rfl; exact rfl; exact rfl; exact ref17_New d _ (hCd.ext (by (exact extA))) hgd hzd; rintro v' w5 ⟨hx5, gm, rn, ra, rfl, hM, _⟩; have hW := ref17_Whole gm d rn ra w5 hM (by omega) (by omega) hcons; simp only [hl3, hi1, hdt, Nat.reducePow, cnt5_start, cnt5_bad, cnt5_next] at hW))
    | (((show WL _ _ _ (⟨_, .call ⟨.value (.func 84), _, _⟩, _, _, _, _⟩ :: _) _ _ _); apply WL.call; exact rfl; exact rfl; exact rfl; exact rfl; exact hW; rintro v' w6 ⟨hx6, sa, sc, ba, bc, na, nc, rs, rfl, R1, R2, R3, hrr, hrs⟩))
    | (apply WL.alloc tOk; exact rfl; exact rfl; exact rfl; intro gb w' hb hge hx; (obtain ⟨g7, rfl⟩ : ∃ x, x = gb := ⟨_, rfl⟩; obtain ⟨hge7, rfl⟩ : ∃ x, x = hge := ⟨_, rfl⟩))
    | (apply WL.storeB (w0 := w6) tOk; exact rfl; exact rfl; exact rfl; exact rfl; assumption; (exact extA); exact rfl; exact rfl; exact rfl; (exact extA); (first | assumption | omega | (focus (apply Nat.le_trans; rotate_left; assumption; exact Below.size (by (exact extA)); done))); intro w' hb hc hX' hU; have hcc := hc; obtain ⟨h1, h2, _⟩ := hc; (obtain ⟨w7, rfl⟩ : ∃ x, x = w' := ⟨_, rfl⟩; obtain ⟨hb7, rfl⟩ : ∃ x, x = hb := ⟨_, rfl⟩; obtain ⟨hX7, rfl⟩ : ∃ x, x = hX' := ⟨_, rfl⟩; have hc7 := cells_heap hb7; obtain ⟨z0, z1, z2, _⟩ := id hc7))
    | (show WL _ _ _ _ _ _ _; first | apply WL.nil | (refine WL.au (k := ?_)))
    | (show Z _ _ _ _ _; apply Z.then_normal)
    | (show W _ _ _ _ _ _; first | apply W.seq | apply W.region | apply W.skip))
  have hX67 : Ext w6 w7 := hX7
  have hrl : rs.length = 8 := by have := congrArg List.length hrs; rw [List.length_map] at this; exact this
  have hval : ∀ l ∈ ([[0, 1], [1, 2], [2, 3], [3, 4], [4, 5], [5, 6], [6, 7], [7, 0]] : List (List Int)), l.length ≤ 1000 ∧ ∀ t ∈ l, 0 ≤ t ∧ t < ((8 : Nat) : Int) := by decide
  have hsa : sa = none → sc = 0 := fun h => by
    obtain ⟨b9, off9, h9, _⟩ := R1.elem 0 true rfl
    rw [h] at h9; cases h9
  have hSt := fun (w9 : World) (h9 : Ext w6 w9) => ref17_Steps w9 sa ba na sa sc bc nc sc 8 9 [false, false, false, false, false, true, false, false] [true, false, false, false, false, false, false, false] rs (R2.ext h9) (R3.ext h9) (fun r hr => (hrr r hr).ext h9) (R1.ext h9) rfl hrl rfl (fun r hr => hval _ (by rw [← hrs]; exact List.mem_map_of_mem hr)) (by decide) (by decide) hsa
  rw [hrs, show 9 + 1 = 10 from rfl, cnt5_steps] at hSt
  repeat' (first
    | (((show WL _ _ _ (⟨_, .call ⟨.value (.func 85), _, _⟩, _, _, _, _⟩ :: _) _ _ _); apply WL.call; exact rfl; exact rfl; exact rfl; exact rfl; exact hSt _ (by (exact extA)); rintro v' w8 ⟨hx8, rfl⟩))
    | (show WL _ _ _ _ _ _ _; first | apply WL.nil | (refine WL.au (k := ?_)))
    | (show Z _ _ _ _ _; apply Z.then_normal)
    | (show W _ _ _ _ _ _; apply W.ret))
  have hXf : Ext w w2 := hx2
  have hXg : Ext w2 w6 := hX23.trans (hx5.trans hx6)
  exact Z.body1 Try.results19 rfl fun m => ⟨congrArg Value.bool (dec_true rfl), Ext.at (hXf.trans (hXg.trans (hX67.trans (by (exact extA))))) m⟩
end Go.Proofs.Ythpnahapiodflaa
namespace Go.Proofs.Ythpnahapiodflaa
open Go Go.Lt Go.RowKit
set_option linter.unusedVariables false
set_option linter.unusedSimpArgs false
set_option maxRecDepth 20000

structure LokS where
  here : List Int
  right : Int
  N : List (Int × Int)
/-- The input is it, and behind the one ahead. -/
noncomputable def lokA (N : List (Int × Int)) (k : Nat) (b : Bool) : Int × List (Int × Int) := if k = 0 then (litQ 2 b, N) else andV N (litQ 2 b) (2 * ((k : Int) + 1))
noncomputable def lokB (N : List (Int × Int)) (k : Nat) (b : Bool) : Int × List (Int × Int) := andV (lokA N k b).2 (lokA N k b).1 (2 * (((1 + k : Nat) : Int) + 1) + 1)
noncomputable def lokR (N : List (Int × Int)) (r : Int) (k : Nat) (b : Bool) : Int × List (Int × Int) := orV (lokB N k b).2 r (lokB N k b).1
noncomputable def lokTo (code : List Bool) : Nat → LokS
  | 0 => ⟨[], 0, List.replicate (1 + code.length) (-1, 0)⟩
  | k + 1 => ⟨(lokTo code k).here ++ [(lokB (lokTo code k).N k (code.getD k false)).1], (lokR (lokTo code k).N (lokTo code k).right k (code.getD k false)).1, (lokR (lokTo code k).N (lokTo code k).right k (code.getD k false)).2⟩
def hereV (code E : List Bool) (j : Nat) : Bool := ((E.getD 0 false == code.getD j false) && (decide (j = 0) || E.getD j false)) && !E.getD (1 + j) false
def rightV (code E : List Bool) : Nat → Bool
  | 0 => false
  | k + 1 => rightV code E k || hereV code E k
structure LokInv (code : List Bool) (k : Nat) (s : LokS) : Prop where
  hlen : s.here.length = k
  has : ∀ z ∈ s.here, hasL s.N z
  rHas : hasL s.N s.right
  grow : GrowG (List.replicate (1 + code.length) (-1, 0)) s.N
  len : s.N.length ≤ 1 + code.length + 3 * k
  val : ∀ (E : List Bool) (j : Nat) (z : Int), s.here[j]? = some z → ofL (values s.N E) z = hereV code E j
  rv : ∀ E : List Bool, ofL (values s.N E) s.right = rightV code E k
theorem litQ_has {N : List (Int × Int)} {k : Nat} (b : Bool) (h : k < N.length) : hasL N (litQ (2 * ((k : Int) + 1)) b) := by
  unfold hasL litQ; split <;> omega
theorem lokA_len (N : List (Int × Int)) (k : Nat) (b : Bool) : N.length ≤ (lokA N k b).2.length ∧ (lokA N k b).2.length ≤ N.length + 1 := by
  unfold lokA; split
  · exact ⟨Nat.le_refl _, Nat.le_succ _⟩
  · exact andV_len _ _ _
theorem lokA_growG (N : List (Int × Int)) (k : Nat) (b : Bool) : GrowG N (lokA N k b).2 := by
  unfold lokA; split
  · exact .refl _
  · exact .gate _ _ (.refl _)
theorem lokA_has {N : List (Int × Int)} {k : Nat} {b : Bool} (h : k < N.length) : hasL (lokA N k b).2 (lokA N k b).1 := by
  have h2 := litQ_has (k := 0) b (show 0 < N.length by omega)
  unfold lokA; split
  · exact h2
  · exact andV_has h2 (by unfold hasL; omega)
theorem lokA_of {m : Nat} {N : List (Int × Int)} (hO : OnlyG m N) (hT : Tidy N) (E : List Bool) {k : Nat} (b : Bool) (h : k < m) : ofL (values (lokA N k b).2 E) (lokA N k b).1 = ((E.getD 0 false == b) && (decide (k = 0) || E.getD k false)) := by
  have hm := hO.le
  have h0 : ofL (values N E) (litQ 2 b) = (E.getD 0 false == b) := (litQ_of E (k := 0) b).trans (by rw [only_lit hO E (k := 0) (by omega)])
  unfold lokA
  by_cases hk : k = 0
  · rw [if_pos hk, decide_eq_true hk]
    show ofL (values N E) (litQ 2 b) = _
    rw [h0]; simp
  · have h2 : hasL N (litQ 2 b) := litQ_has (k := 0) b (by omega)
    have h3 : hasL N (2 * ((k : Int) + 1)) := by unfold hasL; omega
    rw [if_neg hk, decide_eq_false hk, andV_of hT E h2 h3, h0, only_lit hO E h]; simp
theorem lok_inv (code : List Bool) : ∀ k, k ≤ code.length → LokInv code k (lokTo code k)
  | 0, _ => by
    refine ⟨rfl, (fun z hz => absurd hz (by simp [lokTo])), ?_, .refl _, ?_, (fun E j z h => ?_), fun E => ?_⟩
    · show hasL (List.replicate (1 + code.length) (-1, 0)) 0
      unfold hasL; omega
    · show (List.replicate (1 + code.length) ((-1, 0) : Int × Int)).length ≤ _
      simp
    · have : ([] : List Int)[j]? = some z := h
      simp at this
    · exact ofL_zero E
  | k + 1, hk => by
    obtain ⟨i1, i2, i3, i4, i5, i6, i7⟩ := lok_inv code k (by omega)
    have hl0 := i4.grow.len
    rw [List.length_replicate] at hl0
    have hO := i4.only (OnlyG.start (1 + code.length))
    have hT := i4.grow.tidy (tidy_ins (1 + code.length))
    show LokInv code (k + 1) ⟨_, _, _⟩
    unfold lokR lokB
    generalize lokTo code k = s at *
    have la := lokA_len s.N k (code.getD k false)
    have ha := lokA_has (N := s.N) (k := k) (b := code.getD k false) (by omega)
    have va := fun E => lokA_of hO hT E (k := k) (code.getD k false) (by omega)
    have ga := lokA_growG s.N k (code.getD k false)
    generalize lokA s.N k (code.getD k false) = A at *
    have hTA := ga.grow.tidy hT
    have hOA := ga.only hO
    have hlk : hasL A.2 (2 * (((1 + k : Nat) : Int) + 1) + 1) := by unfold hasL; omega
    have lb := andV_len A.2 A.1 (2 * (((1 + k : Nat) : Int) + 1) + 1)
    have hb := andV_has ha hlk
    have vb := fun E => andV_of hTA E ha hlk
    have gb : GrowG A.2 (andV A.2 A.1 (2 * (((1 + k : Nat) : Int) + 1) + 1)).2 := .gate _ _ (.refl _)
    have vn : ∀ E, ofL (values A.2 E) (2 * (((1 + k : Nat) : Int) + 1) + 1) = !E.getD (1 + k) false := fun E => by
      have : 2 * (((1 + k : Nat) : Int) + 1) + 1 = Lt.xor1 (2 * (((1 + k : Nat) : Int) + 1)) := by unfold Lt.xor1; rw [if_pos (by omega)]
      rw [this, ofL_xor1 _ (by omega), only_lit hOA E (k := 1 + k) (by omega)]
    generalize andV A.2 A.1 (2 * (((1 + k : Nat) : Int) + 1) + 1) = B at *
    have gsB := ga.trans gb
    have hTB := gsB.grow.tidy hT
    have hrB := hasL_mono i3 (show s.N.length ≤ B.2.length by omega)
    have lr := orV_len B.2 s.right B.1
    have hr := orV_has hrB hb
    have vr := fun E => orV_of hTB E hrB hb
    have gr := orV_growG B.2 s.right B.1
    generalize orV B.2 s.right B.1 = R at *
    have gsR := gsB.trans gr
    have vB : ∀ E, ofL (values B.2 E) B.1 = hereV code E k := fun E => by rw [vb E, va E, vn E]; rfl
    refine ⟨by rw [List.length_append, i1]; rfl, fun z hz => ?_, hr, i4.trans gsR, by dsimp only; omega, fun E j z hz => ?_, fun E => ?_⟩
    · rcases List.mem_append.1 hz with hz | hz
      · exact hasL_mono (i2 z hz) (show s.N.length ≤ R.2.length by omega)
      · rw [List.mem_singleton.1 hz]; exact hasL_mono hb lr.1
    · show ofL (values R.2 E) z = _
      rcases get_snoc hz with hz | ⟨rfl, rfl⟩
      · rw [gsR.grow.of E (i2 z (List.mem_of_getElem? hz))]; exact i6 E j z hz
      · rw [gr.grow.of E hb, vB E, i1]
    · show ofL (values R.2 E) R.1 = _
      rw [vr E, gsB.grow.of E i3, i7 E, vB E]; rfl
/-- It goes on. -/
noncomputable def lokG (code : List Bool) : Int × List (Int × Int) := orV (lokTo code code.length).N (lokTo code code.length).right (2 * ((code.length : Int) + 1))
noncomputable def nxtTo (code : List Bool) : Nat → List Int × List (Int × Int)
  | 0 => ([], (lokG code).2)
  | k + 1 => ((nxtTo code k).1 ++ [(andV (orV (nxtTo code k).2 (2 * (((1 + k : Nat) : Int) + 1)) ((lokTo code code.length).here.getD k 0)).2 (lokG code).1 (orV (nxtTo code k).2 (2 * (((1 + k : Nat) : Int) + 1)) ((lokTo code code.length).here.getD k 0)).1).1], (andV (orV (nxtTo code k).2 (2 * (((1 + k : Nat) : Int) + 1)) ((lokTo code code.length).here.getD k 0)).2 (lokG code).1 (orV (nxtTo code k).2 (2 * (((1 + k : Nat) : Int) + 1)) ((lokTo code code.length).here.getD k 0)).1).2)
def goesV (code E : List Bool) : Bool := rightV code E code.length || E.getD code.length false
theorem lokG_inv {code : List Bool} (h1 : 1 ≤ code.length) : GrowG (lokTo code code.length).N (lokG code).2 ∧ (lokTo code code.length).N.length ≤ (lokG code).2.length ∧ (lokG code).2.length ≤ 2 + 4 * code.length ∧ hasL (lokG code).2 (lokG code).1 ∧ ∀ E, ofL (values (lokG code).2 E) (lokG code).1 = goesV code E := by
  obtain ⟨i1, i2, i3, i4, i5, i6, i7⟩ := lok_inv code code.length (Nat.le_refl _)
  have hl0 := i4.grow.len
  rw [List.length_replicate] at hl0
  have hO := i4.only (OnlyG.start (1 + code.length))
  have hT := i4.grow.tidy (tidy_ins (1 + code.length))
  unfold lokG goesV
  generalize lokTo code code.length = s at *
  have hlk : hasL s.N (2 * ((code.length : Int) + 1)) := by unfold hasL; omega
  have lr := orV_len s.N s.right (2 * ((code.length : Int) + 1))
  refine ⟨orV_growG _ _ _, lr.1, by omega, orV_has i3 hlk, fun E => ?_⟩
  rw [orV_of hT E i3 hlk, i7 E, only_lit hO E (by omega)]
structure NxtInv (code : List Bool) (k : Nat) (s : List Int × List (Int × Int)) : Prop where
  nlen : s.1.length = k
  has : ∀ z ∈ s.1, hasL s.2 z
  grow : GrowG (lokG code).2 s.2
  len : s.2.length ≤ (lokG code).2.length + 2 * k
  val : ∀ (E : List Bool) (j : Nat) (z : Int), s.1[j]? = some z → ofL (values s.2 E) z = (goesV code E && (E.getD (1 + j) false || hereV code E j))
theorem nxt_inv {code : List Bool} (h1 : 1 ≤ code.length) : ∀ k, k ≤ code.length → NxtInv code k (nxtTo code k)
  | 0, _ => by
    refine ⟨rfl, (fun z hz => absurd hz (by simp [nxtTo])), .refl _, Nat.le_refl _, (fun E j z h => ?_)⟩
    have : ([] : List Int)[j]? = some z := h
    simp at this
  | k + 1, hk => by
    obtain ⟨n1, n2, n3, n4, n5⟩ := nxt_inv h1 k (by omega)
    obtain ⟨g1, g2, g3, g4, g5⟩ := lokG_inv h1
    obtain ⟨i1, i2, i3, i4, i5, i6, i7⟩ := lok_inv code code.length (Nat.le_refl _)
    obtain ⟨h, hh⟩ := getI (lokTo code code.length).here (show k < _ by omega)
    have hhs := i2 h (List.mem_of_getElem? hh)
    have hl0 := i4.grow.len
    rw [List.length_replicate] at hl0
    have ln := n3.grow.len
    have hOn := n3.only (g1.only (i4.only (OnlyG.start (1 + code.length))))
    have hTn := n3.grow.tidy (g1.grow.tidy (i4.grow.tidy (tidy_ins (1 + code.length))))
    show NxtInv code (k + 1) (_, _)
    rw [getD_of hh]
    have vh : ∀ E, ofL (values (nxtTo code k).2 E) h = hereV code E k := fun E => by
      rw [n3.grow.of E (hasL_mono hhs g2), g1.grow.of E hhs]; exact i6 E k h hh
    have hhn : hasL (nxtTo code k).2 h := hasL_mono hhs (by omega)
    have hgn := hasL_mono g4 ln
    have vg : ∀ E, ofL (values (nxtTo code k).2 E) (lokG code).1 = goesV code E := fun E => by rw [n3.grow.of E g4]; exact g5 E
    generalize nxtTo code k = s at *
    generalize (lokG code).1 = G at *
    have hlk : hasL s.2 (2 * (((1 + k : Nat) : Int) + 1)) := by unfold hasL; omega
    have lo := orV_len s.2 (2 * (((1 + k : Nat) : Int) + 1)) h
    have ho := orV_has hlk hhn
    have vo := fun E => orV_of hTn E hlk hhn
    have go := orV_growG s.2 (2 * (((1 + k : Nat) : Int) + 1)) h
    generalize orV s.2 (2 * (((1 + k : Nat) : Int) + 1)) h = O at *
    have hTO := go.grow.tidy hTn
    have hgO := hasL_mono hgn lo.1
    have lx := andV_len O.2 G O.1
    have hx := andV_has hgO ho
    have vx := fun E => andV_of hTO E hgO ho
    have gx : GrowG O.2 (andV O.2 G O.1).2 := .gate _ _ (.refl _)
    generalize andV O.2 G O.1 = X at *
    have gs := go.trans gx
    refine ⟨by rw [List.length_append, n1]; rfl, fun z hz => ?_, n3.trans gs, by dsimp only; omega, fun E j z hz => ?_⟩
    · rcases List.mem_append.1 hz with hz | hz
      · exact hasL_mono (n2 z hz) (show s.2.length ≤ X.2.length by omega)
      · rw [List.mem_singleton.1 hz]; exact hx
    · show ofL (values X.2 E) z = _
      rcases get_snoc hz with hz | ⟨rfl, rfl⟩
      · rw [gs.grow.of E (n2 z (List.mem_of_getElem? hz))]; exact n5 E j z hz
      · rw [vx E, go.grow.of E hgn, vg E, vo E, only_lit hOn E (by omega), vh E, n1]
noncomputable def lokC (code : List Bool) : CirT := genC 1 (nxtTo code code.length).1 (List.replicate code.length 0) (badR (2 * ((code.length : Int) + 1))) (nxtTo code code.length).2
theorem lok_len {code : List Bool} (h1 : 1 ≤ code.length) : 1 + code.length ≤ (nxtTo code code.length).2.length ∧ (nxtTo code code.length).2.length ≤ 2 + 6 * code.length := by
  obtain ⟨n1, n2, n3, n4, n5⟩ := nxt_inv h1 code.length (Nat.le_refl _)
  obtain ⟨g1, g2, g3, g4, g5⟩ := lokG_inv h1
  have h3 := (lok_inv code code.length (Nat.le_refl _)).grow.grow.len
  rw [List.length_replicate] at h3
  have := n3.grow.len
  omega
theorem lok_only {code : List Bool} (h1 : 1 ≤ code.length) : GrowG (List.replicate (1 + code.length) (-1, 0)) (nxtTo code code.length).2 :=
  ((lok_inv code code.length (Nat.le_refl _)).grow.trans (lokG_inv h1).1).trans (nxt_inv h1 code.length (Nat.le_refl _)).grow
theorem lok_ok {code : List Bool} (h1 : 1 ≤ code.length) (hn : code.length ≤ 60) : GenOk 1 (nxtTo code code.length).1 (List.replicate code.length 0) (badR (2 * ((code.length : Int) + 1))) (nxtTo code code.length).2 := by
  have hi := nxt_inv h1 code.length (Nat.le_refl _)
  have hg := lok_only h1
  have hl := lok_len h1
  refine ⟨(hg.grow.tidy (tidy_ins _)).good, by rw [hi.nlen]; exact hg.only (OnlyG.start _), by omega, hi.has, fun i hii => .inl ?_, (fun z hz => by cases hz), (fun z hz => ?_), (fun z hz => by cases hz)⟩
  · rw [hi.nlen] at hii
    have : (List.replicate code.length (0 : Int))[i]? = some 0 := by rw [List.getElem?_replicate, if_pos hii]
    exact getD_of this
  · rw [List.mem_singleton.1 hz]; unfold hasL; omega
/-- The first p of n. -/
def preL (n p : Nat) : List Bool := (List.range n).map fun i => decide (i < p)
theorem preL_len (n p : Nat) : (preL n p).length = n := by simp [preL]
theorem preL_get {n p j : Nat} (h : j < n) : (preL n p).getD j false = decide (j < p) := range_getD _ h
theorem right_none {code E : List Bool} : ∀ k, (∀ j, j < k → hereV code E j = false) → rightV code E k = false
  | 0, _ => rfl
  | k + 1, h => by
    show (rightV code E k || hereV code E k) = false
    rw [right_none k (fun j hj => h j (by omega)), h k (by omega)]; rfl
/-- How far a lock is open. -/
def lokP (code ins : List Bool) : Nat := ins.foldl (fun p v => if p < code.length then if v = code.getD p false then p + 1 else 0 else p) 0
theorem lokP_snoc (code l : List Bool) (v : Bool) : lokP code (l ++ [v]) = if lokP code l < code.length then if v = code.getD (lokP code l) false then lokP code l + 1 else 0 else lokP code l := by unfold lokP; rw [List.foldl_append]; rfl
theorem lokP_le (code : List Bool) : ∀ l : List Bool, lokP code l ≤ code.length := by
  intro l
  have key : ∀ (l : List Bool) (p : Nat), p ≤ code.length → l.foldl (fun p v => if p < code.length then if v = code.getD p false then p + 1 else 0 else p) p ≤ code.length := by
    intro l
    induction l with
    | nil => exact fun p h => h
    | cons v r ih =>
      intro p h
      refine ih _ ?_
      dsimp only
      split
      · split <;> omega
      · exact h
  exact key l 0 (by omega)
theorem here_pre {code : List Bool} {p : Nat} (v : Bool) {j : Nat} (hj : j < code.length) : hereV code ([v] ++ preL code.length p) j = ((v == code.getD j false) && decide (j = p)) := by
  have e1 : ([v] ++ preL code.length p).getD (1 + j) false = decide (j < p) := by rw [show ([v] ++ preL code.length p).getD (1 + j) false = (preL code.length p).getD j false by rw [Nat.add_comm]; rfl, preL_get hj]
  unfold hereV
  rw [e1, show ([v] ++ preL code.length p).getD 0 false = v from rfl]
  cases (v == code.getD j false)
  · simp
  · cases j with
    | zero =>
      by_cases h : p = 0
      · subst h; simp
      · rw [decide_eq_true (show 0 < p by omega), decide_eq_false (show ¬ 0 = p by omega)]; simp
    | succ j =>
      have e2 : ([v] ++ preL code.length p).getD (j + 1) false = decide (j < p) := by
        show (preL code.length p).getD j false = _
        rw [preL_get (by omega)]
      rw [e2, decide_eq_false (show ¬ j + 1 = 0 by omega)]
      by_cases h1 : j < p
      · by_cases h2 : j + 1 < p
        · rw [decide_eq_true h1, decide_eq_true h2, decide_eq_false (show ¬ j + 1 = p by omega)]; rfl
        · rw [decide_eq_true h1, decide_eq_false h2, decide_eq_true (show j + 1 = p by omega)]; rfl
      · rw [decide_eq_false h1, decide_eq_false (show ¬ j + 1 = p by omega)]; rfl
theorem lok_next {code : List Bool} (h1 : 1 ≤ code.length) (hn : code.length ≤ 60) {p : Nat} (hp : p ≤ code.length) (v : Bool) : nextV (lokC code) (preL code.length p) [v] = preL code.length (if p < code.length then if v = code.getD p false then p + 1 else 0 else p) := by
  have hi := nxt_inv h1 code.length (Nat.le_refl _)
  unfold lokC
  rw [gen_next (lok_ok h1 hn), hi.nlen, brV_one, show brV (preL code.length p) code.length = preL code.length p by have := brV_self (preL code.length p); rwa [preL_len] at this]
  have hlast : ([v] ++ preL code.length p).getD code.length false = decide (p = code.length) := by
    obtain ⟨m, hm⟩ : ∃ m, code.length = m + 1 := ⟨code.length - 1, by omega⟩
    rw [hm]
    show (preL (m + 1) p).getD m false = _
    rw [preL_get (by omega)]
    exact decide_eq_decide.2 (by omega)
  have hgo : goesV code ([v] ++ preL code.length p) = (decide (p = code.length) || (decide (p < code.length) && (v == code.getD p false))) := by
    unfold goesV
    rw [hlast, Bool.or_comm]
    congr 1
    by_cases hlt : p < code.length
    · have key : ∀ k, k ≤ code.length → rightV code ([v] ++ preL code.length p) k = (decide (p < k) && (v == code.getD p false)) := by
        intro k
        induction k with
        | zero => intro _; simp [rightV]
        | succ k ih =>
          intro hk
          show (rightV code _ k || hereV code _ k) = _
          rw [ih (by omega), here_pre v (by omega)]
          by_cases h2 : p < k
          · rw [decide_eq_true h2, decide_eq_false (show ¬ k = p by omega), decide_eq_true (show p < k + 1 by omega)]; simp
          · by_cases h3 : k = p
            · subst h3; rw [decide_eq_false h2, decide_eq_true rfl, decide_eq_true (show k < k + 1 by omega)]; simp
            · rw [decide_eq_false h2, decide_eq_false h3, decide_eq_false (show ¬ p < k + 1 by omega)]; simp
      exact key _ (Nat.le_refl _)
    · rw [decide_eq_false hlt, right_none _ (fun j hj => by rw [here_pre v hj, decide_eq_false (show ¬ j = p by omega), Bool.and_false]), Bool.false_and]
  apply List.ext_getElem?
  intro j
  by_cases hj : j < code.length
  · obtain ⟨z, hz⟩ := getI (nxtTo code code.length).1 (show j < _ by rw [hi.nlen]; exact hj)
    rw [List.getElem?_map, hz]
    show some (ofL _ z) = _
    rw [hi.val _ j z hz, hgo, here_pre v hj, show ([v] ++ preL code.length p).getD (1 + j) false = (preL code.length p).getD j false by rw [Nat.add_comm]; rfl, preL_get hj]
    unfold preL
    rw [range_get _ hj]
    congr 1
    by_cases hlt : p < code.length
    · rw [if_pos hlt, decide_eq_true hlt, decide_eq_false (show ¬ p = code.length by omega), Bool.false_or, Bool.true_and]
      by_cases hv : v = code.getD p false
      · rw [if_pos hv, beq_iff_eq.2 hv, Bool.true_and]
        by_cases h2 : j < p
        · rw [decide_eq_true h2, decide_eq_true (show j < p + 1 by omega)]; rfl
        · by_cases h3 : j = p
          · subst h3; rw [decide_eq_false h2, beq_iff_eq.2 hv, decide_eq_true rfl, decide_eq_true (show j < j + 1 by omega)]; rfl
          · rw [decide_eq_false h2, decide_eq_false h3, decide_eq_false (show ¬ j < p + 1 by omega), Bool.and_false]; rfl
      · rw [if_neg hv, beq_eq_false_iff_ne.2 hv, Bool.false_and, decide_eq_false (show ¬ j < 0 by omega)]
    · rw [if_neg hlt, decide_eq_true (show p = code.length by omega), decide_eq_false (show ¬ j = p by omega), Bool.and_false, Bool.or_false]; rfl
  · rw [List.getElem?_eq_none (by rw [List.length_map, hi.nlen]; omega), List.getElem?_eq_none (by rw [preL_len]; omega)]
theorem preL_zero (n : Nat) : preL n 0 = List.replicate n false := by
  apply List.ext_getElem?
  intro j
  by_cases hj : j < n
  · unfold preL; rw [range_get _ hj, List.getElem?_replicate, if_pos hj, decide_eq_false (by omega)]
  · rw [List.getElem?_eq_none (by rw [preL_len]; omega), List.getElem?_eq_none (by rw [List.length_replicate]; omega)]
theorem lok_state {code : List Bool} (h1 : 1 ≤ code.length) (hn : code.length ≤ 60) (ins : List Bool) : ∀ k, k ≤ ins.length → stateV (lokC code) (List.replicate code.length false) (runL 1 ins) k = preL code.length (lokP code (ins.take k))
  | 0, _ => by
    have hl : (lokC code).lat.length = code.length := by show (latsG _ _ _).length = _; rw [latsG_len, (nxt_inv h1 code.length (Nat.le_refl _)).nlen]
    show brV _ (lokC code).lat.length = _
    rw [hl]
    have := brV_self (List.replicate code.length false)
    rw [List.length_replicate] at this
    rw [this, List.take_zero, show lokP code [] = 0 from rfl, preL_zero]
  | k + 1, hk => by
    obtain ⟨v, hv⟩ := getI ins (show k < ins.length by omega)
    show nextV _ (stateV _ _ _ k) ((runL 1 ins).getD k []) = _
    rw [lok_state h1 hn ins k (by omega), runL_get 1 ins (by omega), if_neg (by decide), getD_of hv, lok_next h1 hn (lokP_le _ _), take_succ' hv, lokP_snoc]
theorem lok_breaks {code : List Bool} (h1 : 1 ≤ code.length) (hn : code.length ≤ 60) (ins : List Bool) : BreaksP (lokC code) (List.replicate code.length false) (runL 1 ins) 0 ↔ lokP code ins = code.length := by
  have hi := nxt_inv h1 code.length (Nat.le_refl _)
  have hb := gen_breaks (lok_ok h1 hn) (by rw [hi.nlen, List.length_replicate]) (fun z hz => .inl (List.eq_of_mem_replicate hz)) (Nat.le_refl _) ins
  rw [rep_start] at hb
  refine Iff.trans hb ?_
  have hs := lok_state h1 hn ins ins.length (Nat.le_refl _)
  rw [List.take_length] at hs
  have hO := (lok_only h1).only (OnlyG.start (1 + code.length))
  have hle := lokP_le code ins
  show ofL (values (nxtTo code code.length).2 (_ ++ brV (stateV (lokC code) _ _ _) _)) (2 * ((code.length : Int) + 1)) = true ↔ _
  rw [hs, hi.nlen, brV_one, show brV (preL code.length (lokP code ins)) code.length = preL code.length (lokP code ins) by have := brV_self (preL code.length (lokP code ins)); rwa [preL_len] at this, only_lit hO _ (by omega)]
  generalize lokP code ins = p at *
  obtain ⟨m, hm⟩ : ∃ m, code.length = m + 1 := ⟨code.length - 1, by omega⟩
  rw [hm] at hle ⊢
  show (preL (m + 1) p).getD m false = true ↔ _
  rw [preL_get (by omega), decide_eq_true_iff]
  omega
end Go.Proofs.Ythpnahapiodflaa
namespace Go.Proofs.Ythpnahapiodflaa
open Go Go.Lt Go.RowKit
set_option linter.unusedVariables false
set_option linter.unusedSimpArgs false
set_option maxRecDepth 20000

theorem lokP_stay {code : List Bool} {l : List Bool} (h : ¬ lokP code l < code.length) : ∀ m : List Bool, lokP code (l ++ m) = lokP code l := by
  intro m
  unfold lokP at h ⊢
  rw [List.foldl_append]
  generalize List.foldl (fun p v => if p < code.length then if v = code.getD p false then p + 1 else 0 else p) 0 l = p at h
  induction m with
  | nil => rfl
  | cons v r ih => rw [List.foldl_cons, if_neg h]; exact ih
theorem ref49_Lock (co bo : Option Addr) (cc bc : Nat) (code ins : List Bool) (w : World) (RC : Row 1 encB w co code) (RB : Row 1 encB w bo ins) (hn : code.length ≤ 1000) (hil : ins.length ≤ 1000) : Still Try.prog 36 [.slice co code.length cc, .slice bo ins.length bc] w (.bool (dec (lokP code ins = code.length))) := by
  refine Spec.of _ Try.func36 rfl Try.ntmps36 (by kernel_rfl) rfl ?_
  repeat' (first
    | (show WL _ _ _ _ _ _ _; first | apply WL.nil | (refine WL.au (k := ?_)))
    | (show Z _ _ _ _ _; apply Z.then_normal)
    | (show W _ _ _ _ _ _; first | apply W.seq | apply W.region | apply W.block))
  refine W.loop1 ins.length (fun k => k ≤ ins.length) (fun k => [(0, .slice co code.length cc), (1, .slice bo ins.length bc), (5, .int .i64 (lokP code (ins.take k) : Nat)), (6, .int .i64 k)]) (Nat.zero_le _) (fun k h => h) ⟨rfl, rfl, rfl, rfl, trivial⟩ ?_
  rintro k hk
  have hle := lokP_le code (ins.take k)
  by_cases hlt : k < ins.length
  · obtain ⟨v, hv⟩ := getI ins hlt
    by_cases hp : lokP code (ins.take k) < code.length
    · obtain ⟨c, hc⟩ := getI code hp
      have hs : lokP code (ins.take (k + 1)) = if v = c then lokP code (ins.take k) + 1 else 0 := by rw [take_succ' hv, lokP_snoc, if_pos hp, getD_of hc]
      generalize lokP code (ins.take k) = p at *
      by_cases he : v = c
      · rw [if_pos he] at hs
        have e2 : dec (v = c) = true := dec_true he
        repeat' (first
          | (apply WL.gT; exact rfl; exact rfl; (focus (first | exact dec_true (by omega) | exact e2; done)))
          | (apply W.condKT; exact rfl; (focus (first | exact dec_true (by omega) | exact e2; done)))
          | (show WL _ _ _ _ _ _ _; first | apply WL.nil | (refine WL.au (k := ?_)))
          | (show QL _ _ _ _ _ _ _; first | apply QL.nil | (refine QL.au (k := ?_)) | (apply QL.index tOk; exact rfl; exact rfl; exact rfl; exact rfl; exact rfl; exact rfl; exact rfl; exact rfl; assumption; (exact extA); exact rfl; omega; assumption; intro b off h; have hcc := h; first | (obtain ⟨h1, h2, h3, h4, h5, h6, _⟩ := h) | (obtain ⟨h1, h2, h3, _⟩ := h) | (obtain ⟨h1, h2, _⟩ := h) | (obtain ⟨h1, _⟩ := h)))
          | (show Z _ _ _ _ _; first | apply Z.then_normal | apply Z.block_normal)
          | (show W _ _ _ _ _ _; first | apply W.seq | apply W.region | apply W.block | apply W.skip | (apply W.regionD tMix; kernel_rfl)))
        exact Z.again1 (by omega) (by rw [hs]; exact ⟨rfl, rfl, rfl, rfl, trivial⟩)
      · rw [if_neg he] at hs
        have e2 : dec (v = c) = false := dec_false he
        repeat' (first
          | (apply WL.gT; exact rfl; exact rfl; (focus (first | exact dec_true (by omega) | exact e2; done)))
          | (apply W.condKT; exact rfl; (focus (first | exact dec_true (by omega) | exact e2; done)))
          | (apply W.condKF; exact rfl; (focus (first | exact dec_true (by omega) | exact e2; done)))
          | (show WL _ _ _ _ _ _ _; first | apply WL.nil | (refine WL.au (k := ?_)))
          | (show QL _ _ _ _ _ _ _; first | apply QL.nil | (refine QL.au (k := ?_)) | (apply QL.index tOk; exact rfl; exact rfl; exact rfl; exact rfl; exact rfl; exact rfl; exact rfl; exact rfl; assumption; (exact extA); exact rfl; omega; assumption; intro b off h; have hcc := h; first | (obtain ⟨h1, h2, h3, h4, h5, h6, _⟩ := h) | (obtain ⟨h1, h2, h3, _⟩ := h) | (obtain ⟨h1, h2, _⟩ := h) | (obtain ⟨h1, _⟩ := h)))
          | (show Z _ _ _ _ _; first | apply Z.then_normal | apply Z.block_normal)
          | (show W _ _ _ _ _ _; first | apply W.seq | apply W.region | apply W.block | apply W.skip | (apply W.regionD tMix; kernel_rfl)))
        exact Z.again1 (by omega) (by rw [hs]; exact ⟨rfl, rfl, rfl, rfl, trivial⟩)
    · have hst := lokP_stay hp (ins.drop k)
      rw [List.take_append_drop] at hst
      have e : dec (((lokP code (ins.take k) : Nat) : Int) = (code.length : Int)) = dec (lokP code ins = code.length) := dec_congr (by rw [hst]; omega)
      generalize lokP code (ins.take k) = p at *
      repeat' (first
        | (apply WL.gT; exact rfl; exact rfl; (focus (first | exact dec_true (by omega) | exact dec_false (by omega); done)))
        | (apply W.condKF; exact rfl; (focus (first | exact dec_true (by omega) | exact dec_false (by omega); done)))
        | (show WL _ _ _ _ _ _ _; first | apply WL.nil | (refine WL.au (k := ?_)))
        | (show Z _ _ _ _ _; first | apply Z.then_normal | apply Z.then_exit | apply Z.block_exit)
        | (show W _ _ _ _ _ _; first | apply W.seq | apply W.region | apply W.ret | apply W.exit))
      exact Z.body1 Try.results36 rfl fun q => ⟨by rw [e], q, rfl⟩
  · obtain rfl : k = ins.length := by omega
    rw [List.take_length] at hle ⊢
    have e : dec (((lokP code ins : Nat) : Int) = (code.length : Int)) = dec (lokP code ins = code.length) := dec_congr (by omega)
    repeat' (first
      | (apply WL.gF; exact rfl; exact rfl; (focus (first | exact dec_true (by omega) | exact dec_false (by omega); done)))
      | (show WL _ _ _ _ _ _ _; first | apply WL.nil | (refine WL.au (k := ?_)) | (apply WL.guardF; exact rfl; exact rfl))
      | (show Z _ _ _ _ _; first | apply Z.then_normal | apply Z.then_exit | apply Z.block_exit)
      | (show W _ _ _ _ _ _; first | apply W.seq | apply W.region | apply W.ret | apply W.exit | (apply W.condF; exact rfl)))
    exact Z.body1 Try.results36 rfl fun q => ⟨by rw [e], q, rfl⟩
theorem gen_LockNo (bo : Option Addr) (bc : Nat) (code : List Bool) (w : World) (hl : code.length ≤ 9223372036854775807) (h : ¬ (1 ≤ code.length ∧ code.length ≤ 60)) : Lt.Spec Try.prog 35 [.slice bo code.length bc] w (fun v w' => Ext w w' ∧ v = .tuple #[zCirc.val, .int .i64 1]) := by
  refine Spec.of _ Try.func35 rfl Try.ntmps35 (by kernel_rfl) rfl ?_
  repeat' (first
    | (apply WL.alloc tOk; exact rfl; exact rfl; exact rfl; intro gb w' hb hge hx; (obtain ⟨g2, rfl⟩ : ∃ x, x = gb := ⟨_, rfl⟩; obtain ⟨w2, rfl⟩ : ∃ x, x = w' := ⟨_, rfl⟩; obtain ⟨hx2, rfl⟩ : ∃ x, x = hx := ⟨_, rfl⟩; obtain ⟨hb2, rfl⟩ : ∃ x, x = hb := ⟨_, rfl⟩; obtain ⟨hge2, rfl⟩ : ∃ x, x = hge := ⟨_, rfl⟩))
    | (apply W.condKT; exact rfl; (focus (first | exact dec_true (by omega) | exact dec_false (by omega); done)))
    | (((show WL _ _ _ (⟨_, .call ⟨.value (.func 78), _, _⟩, _, _, _, _⟩ :: _) _ _ _); apply WL.call; exact rfl; exact rfl; exact rfl; exact rfl; exact gen_refused _; rintro v' w3 ⟨hx3, rfl⟩))
    | (apply WL.storeB (w0 := w) tOk; exact rfl; exact rfl; exact rfl; exact rfl; assumption; (exact extA); exact rfl; exact rfl; exact rfl; (exact extA); (first | assumption | omega | (focus (apply Nat.le_trans; rotate_left; assumption; exact Below.size (by (exact extA)); done))); intro w' hb hc hX' hU; have hcc := hc; obtain ⟨h1, h2, _⟩ := hc; (obtain ⟨w4, rfl⟩ : ∃ x, x = w' := ⟨_, rfl⟩; obtain ⟨hb4, rfl⟩ : ∃ x, x = hb := ⟨_, rfl⟩; obtain ⟨hX4, rfl⟩ : ∃ x, x = hX' := ⟨_, rfl⟩))
    | (show WL _ _ _ _ _ _ _; first | apply WL.nil | (refine WL.au (k := ?_)) | (apply WL.guardF; exact rfl; exact rfl) | (apply WL.gD; exact rfl; exact rfl; all_goals intro _))
    | (show Z _ _ _ _ _; first | apply Z.then_normal | apply Z.then_ret)
    | (show W _ _ _ _ _ _; first | apply W.seq | apply W.region | apply W.ret | (apply W.condT; exact rfl)))
  all_goals exact Z.bodyCT tOk Try.results35 rfl rfl rfl rfl rfl (cells_heap hb4) fun m => ⟨hX4.at m, rfl⟩
set_option maxHeartbeats 16000000 in
theorem gen_Lock (bo : Option Addr) (bc : Nat) (code : List Bool) (w : World) (RB : Row 1 encB w bo code) (h1n : 1 ≤ code.length) (hn : code.length ≤ 60) : Lt.Spec Try.prog 35 [.slice bo code.length bc] w (fun v w' => Ext w w' ∧ ∃ d : Circ, v = .tuple #[d.val, .int .i64 0] ∧ d.t = lokC code ∧ CAt w' d) := by
  refine Spec.of _ Try.func35 rfl Try.ntmps35 (by kernel_rfl) rfl ?_
  repeat' (first
    | (apply WL.alloc tOk; exact rfl; exact rfl; exact rfl; intro gb w' hb hge hx; (obtain ⟨g2, rfl⟩ : ∃ x, x = gb := ⟨_, rfl⟩; obtain ⟨w2, rfl⟩ : ∃ x, x = w' := ⟨_, rfl⟩; obtain ⟨hx2, rfl⟩ : ∃ x, x = hx := ⟨_, rfl⟩; obtain ⟨hb2, rfl⟩ : ∃ x, x = hb := ⟨_, rfl⟩; obtain ⟨hge2, rfl⟩ : ∃ x, x = hge := ⟨_, rfl⟩))
    | (apply WL.gF; exact rfl; exact rfl; (focus (first | exact dec_false (by omega); done)))
    | (show WL _ _ _ _ _ _ _; first | apply WL.nil | (refine WL.au (k := ?_)))
    | (show Z _ _ _ _ _; apply Z.then_normal)
    | (show W _ _ _ _ _ _; first | apply W.seq | apply W.region))
  refine W.condKF rfl (dec_false (by omega)) ?_
  repeat' (first
    | (((show WL _ _ _ (⟨_, .call ⟨.value (.func 79), _, _⟩, _, _, _, _⟩ :: _) _ _ _); apply WL.call; exact rfl; exact rfl; exact rfl; exact rfl; exact gen_begin w2 1 code.length (by omega) (by omega); rintro v' w3 ⟨hx3, gb9, gs, a, cap, r, ai, ci, al, cl, rfl, hS⟩))
    | (show WL _ _ _ _ _ _ _; first | apply WL.nil | (refine WL.au (k := ?_)))
    | (show Z _ _ _ _ _; apply Z.then_normal)
    | (show W _ _ _ _ _ _; first | apply W.seq | apply W.region | apply W.skip))
  have hRi := (hS.row (i := 4) rfl).row encI_ok
  have hRl := (hS.row (i := 5) rfl).row encI_ok
  obtain ⟨n0, n1, n2, _⟩ := cells_heap (hS.cell (i := 3) rfl)
  have hLl : (evenL 1 code.length).length = code.length := evenL_len 1 code.length
  have hLast : (evenL 1 code.length)[((code.length : Int) - 1).toNat]? = some (2 * ((code.length : Int) + 1)) := by
    rw [evenL_get 1 code.length (show ((code.length : Int) - 1).toNat < code.length by omega)]
    congr 2; omega
  repeat' (first
    | (apply WL.nilc; exact rfl; exact rfl; exact rfl)
    | (show WL _ _ _ _ _ _ _; first | apply WL.nil | (refine WL.au (k := ?_)) | (apply WL.index tOk; exact rfl; exact rfl; exact rfl; exact rfl; exact rfl; exact rfl; exact rfl; exact rfl; assumption; (exact extA); exact rfl; omega; assumption; intro b off h; have hcc := h; first | (obtain ⟨h1, h2, h3, h4, h5, h6, _⟩ := h) | (obtain ⟨h1, h2, h3, _⟩ := h) | (obtain ⟨h1, h2, _⟩ := h) | (obtain ⟨h1, _⟩ := h)))
    | (show Z _ _ _ _ _; apply Z.then_normal)
    | (show W _ _ _ _ _ _; first | apply W.seq | apply W.region | apply W.block))
  have hS0 : Lt.Sep w2.heap.size w3 (stN w2.heap.size gs a cap r (lokTo code 0).N ++ (bdP w2.heap.size gb9 gs ai ci (evenL 0 1) al cl (evenL 1 code.length) ++ [prow 1 encI 3 w2.heap.size none 0 (lokTo code 0).here])) := by
    have := Sep.rot (Sep.newRow (s := 1) (enc := encI) (el := 3) (a := none) (cap := 0) (l := []) hS (Ext.refl _) Own.nil (fun k hk => by cases hk) (Below.size hx3))
    exact this
  refine W.loop (σ := ((Option Addr × Nat) × Nat) × World) (fun s => s.1.2 ≤ code.length ∧ Ext w2 s.2 ∧ ∃ a cap, Lt.Sep w2.heap.size s.2 (stN w2.heap.size gs a cap r (lokTo code s.1.2).N ++ (bdP w2.heap.size gb9 gs ai ci (evenL 0 1) al cl (evenL 1 code.length) ++ [prow 1 encI 3 w2.heap.size s.1.1.1 s.1.1.2 (lokTo code s.1.2).here]))) (fun s => [(2, .pointer (some ⟨g2, 0, none⟩)), (4, .int .i64 code.length), (5, .pointer (some ⟨gb9, 0, none⟩)), (6, .int .i64 (2 * ((code.length : Int) + 1))), (7, .int .i64 (lokTo code s.1.2).right), (8, .slice s.1.1.1 (lokTo code s.1.2).here.length s.1.1.2), (38, .slice bo code.length bc), (39, .int .i64 code.length), (40, .int .i64 s.1.2)]) (fun s => s.2) (fun s => code.length - s.1.2) (((none, 0), 0), w3) ⟨Nat.zero_le _, hx3, a, cap, hS0⟩ ⟨rfl, rfl, rfl, rfl, rfl, rfl, rfl, rfl, rfl, trivial⟩ rfl ?_
  clear hS0 hS n0 n1 n2 hRi hRl
  rintro ⟨⟨⟨ah, ch⟩, k⟩, w4⟩ ⟨hk, hX4, a, cap, hS⟩
  dsimp only at hk hX4 hS ⊢
  have hi := lok_inv code k hk
  have hnl := hi.len
  have hhl := hi.hlen
  have hRl := (hS.row (i := 5) rfl).row encI_ok
  have hRi := (hS.row (i := 4) rfl).row encI_ok
  have hXw4 : Ext w w4 := hx2.trans hX4
  have RB4 : Row 1 encB w4 bo code := RB.ext hXw4
  obtain ⟨n0, n1, n2, _⟩ := cells_heap (hS.cell (i := 3) rfl)
  by_cases hlt : k < code.length
  · obtain ⟨bv, hbv⟩ := getI code (show k < code.length by omega)
    have hI0 : (evenL 0 1)[((0 : Int)).toNat]? = some 2 := rfl
    have hI1 : (evenL 0 1).length = 1 := evenL_len 0 1
    have hrb := hi.rHas
    repeat' (first
      | (show WL _ _ _ _ _ _ _; first | apply WL.nil | (refine WL.au (k := ?_)))
      | (show Z _ _ _ _ _; apply Z.then_normal)
      | (show W _ _ _ _ _ _; first | apply W.seq | apply W.region))
    refine W.condKT rfl (dec_true (by omega)) ?_
    repeat' (first
      | (apply WL.nilc; exact rfl; exact rfl; exact rfl)
      | (show WL _ _ _ _ _ _ _; first | apply WL.nil | (refine WL.au (k := ?_)) | (apply WL.index tOk; exact rfl; exact rfl; exact rfl; exact rfl; exact rfl; exact rfl; exact rfl; exact rfl; assumption; (exact extA); exact rfl; omega; assumption; intro b off h; have hcc := h; first | (obtain ⟨h1, h2, h3, h4, h5, h6, _⟩ := h) | (obtain ⟨h1, h2, h3, _⟩ := h) | (obtain ⟨h1, h2, _⟩ := h) | (obtain ⟨h1, _⟩ := h)))
      | (show Z _ _ _ _ _; apply Z.then_normal)
      | (show W _ _ _ _ _ _; first | apply W.seq | apply W.region | apply W.block | apply W.skip))
    have hN0 : 1 + code.length ≤ (lokTo code k).N.length := by have := hi.grow.grow.len; rw [List.length_replicate] at this; omega
    have hge2 : 2 ≤ litQ 2 bv ∧ litQ 2 bv ≤ 3 := by cases bv <;> exact ⟨by decide, by decide⟩
    refine W.cutT (σ := World) (fun w' => w' = w4) (fun _ => [(2, .pointer (some ⟨g2, 0, none⟩)), (4, .int .i64 code.length), (5, .pointer (some ⟨gb9, 0, none⟩)), (6, .int .i64 (2 * ((code.length : Int) + 1))), (7, .int .i64 (lokTo code k).right), (8, .slice ah (lokTo code k).here.length ch), (9, .int .i64 k), (11, .int .i64 (litQ 2 bv)), (38, .slice bo code.length bc), (39, .int .i64 code.length), (40, .int .i64 k)]) (fun w' => w') ?_ ?_
    · cases bv
      · have e3 : litQ 2 false = Lt.xor1 2 := by decide
        refine W.condKT rfl rfl ?_
        repeat' (first
          | ((apply WL.xor1; exact rfl; exact rfl; exact rfl; exact rfl; omega))
          | (show WL _ _ _ _ _ _ _; first | apply WL.nil | (refine WL.au (k := ?_)))
          | (show W _ _ _ _ _ _; apply W.region))
        rw [e3]
        exact Z.cut _ rfl ⟨rfl, rfl, rfl, rfl, rfl, rfl, rfl, rfl, rfl, rfl, rfl, trivial⟩ rfl
      · refine W.condKF rfl rfl ?_
        repeat' (first
          | (show W _ _ _ _ _ _; apply W.skip))
        exact Z.cut _ rfl ⟨rfl, rfl, rfl, rfl, rfl, rfl, rfl, rfl, rfl, rfl, rfl, trivial⟩ rfl
    rintro w' rfl
    have hlA := lokA_len (lokTo code k).N k bv
    have hhA := lokA_has (N := (lokTo code k).N) (k := k) (b := bv) (by omega)
    have hstep : lokTo code (k + 1) = ⟨(lokTo code k).here ++ [(lokB (lokTo code k).N k bv).1], (lokR (lokTo code k).N (lokTo code k).right k bv).1, (lokR (lokTo code k).N (lokTo code k).right k bv).2⟩ := by rw [lokTo, getD_of hbv]
    have hB9 : lokB (lokTo code k).N k bv = andV (lokA (lokTo code k).N k bv).2 (lokA (lokTo code k).N k bv).1 (2 * (((1 + k : Nat) : Int) + 1) + 1) := rfl
    have hR9 : lokR (lokTo code k).N (lokTo code k).right k bv = orV (lokB (lokTo code k).N k bv).2 (lokTo code k).right (lokB (lokTo code k).N k bv).1 := rfl
    have hA0 : k = 0 → lokA (lokTo code k).N k bv = (litQ 2 bv, (lokTo code k).N) := fun h => if_pos h
    have hA1 : ¬ k = 0 → lokA (lokTo code k).N k bv = andV (lokTo code k).N (litQ 2 bv) (2 * ((k : Int) + 1)) := fun h => if_neg h
    obtain ⟨A, hA⟩ : ∃ A, lokA (lokTo code k).N k bv = A := ⟨_, rfl⟩
    obtain ⟨B, hB⟩ : ∃ B, lokB (lokTo code k).N k bv = B := ⟨_, rfl⟩
    rw [hA] at hlA hhA hB9 hA0 hA1
    rw [hB] at hstep hB9 hR9
    obtain ⟨R, hR⟩ : ∃ R, lokR (lokTo code k).N (lokTo code k).right k bv = R := ⟨_, rfl⟩
    rw [hR] at hstep hR9
    generalize lokTo code k = s at *
    repeat' (first
      | (show WL _ _ _ _ _ _ _; first | apply WL.nil | (refine WL.au (k := ?_)))
      | (show Z _ _ _ _ _; apply Z.then_normal)
      | (show W _ _ _ _ _ _; first | apply W.seq | apply W.region))
    refine W.cutT (σ := (Option Addr × Nat) × World) (fun s9 => Ext w2 s9.2 ∧ Lt.Sep w2.heap.size s9.2 (stN w2.heap.size gs s9.1.1 s9.1.2 r A.2 ++ (bdP w2.heap.size gb9 gs ai ci (evenL 0 1) al cl (evenL 1 code.length) ++ [prow 1 encI 3 w2.heap.size ah ch s.here]))) (fun _ => [(2, .pointer (some ⟨g2, 0, none⟩)), (4, .int .i64 code.length), (5, .pointer (some ⟨gb9, 0, none⟩)), (6, .int .i64 (2 * ((code.length : Int) + 1))), (7, .int .i64 s.right), (8, .slice ah s.here.length ch), (9, .int .i64 k), (12, .int .i64 A.1), (38, .slice bo code.length bc), (39, .int .i64 code.length), (40, .int .i64 k)]) (fun s9 => s9.2) ?_ ?_
    · by_cases h0 : k = 0
      · have hA' := hA0 h0
        refine W.condKF rfl (dec_false (by omega)) ?_
        repeat' (first
          | (show W _ _ _ _ _ _; apply W.skip))
        rw [hA']
        exact Z.cut ((a, cap), _) ⟨hX4, hS⟩ ⟨rfl, rfl, rfl, rfl, rfl, rfl, rfl, rfl, rfl, rfl, rfl, trivial⟩ rfl
      · have hA' := hA1 h0
        have hPr : (evenL 1 code.length)[((k : Int) - 1).toNat]? = some (2 * ((k : Int) + 1)) := by
          rw [evenL_get 1 code.length (show ((k : Int) - 1).toNat < code.length by omega)]
          congr 2; omega
        have hCn : CellC gb9 #[.pointer (some ⟨gs, 0, none⟩), .slice ai (evenL 0 1).length ci, .slice al (evenL 1 code.length).length cl] 92 _ := hS.cell (i := 3) rfl
        refine W.condKT rfl (dec_true (by omega)) ?_
        repeat' (first
          | (apply FL.nilc; exact rfl; exact rfl; exact rfl)
          | (show W _ _ (.region 16 _ _) _ _ _; apply W.regionG (.fl true 0 (.fl true 1 (.fl true 2 (.fl true 4 (.fl true 5 (.fl true 6 (.fl true 7 (.fl true 9 (.fl true 10 (.fl false 3 (.fl false 8 (.fl true 11 (.br 12 (.br 13 (.fl true 14 .done) .stop) .stop))))))))))))) [8, 11, 12, 13] (CellC gb9 #[.pointer (some ⟨gs, 0, none⟩), .slice ai (evenL 0 1).length ci, .slice al (evenL 1 code.length).length cl] 92) tMix; kernel_rfl)
          | (((show WL _ _ _ (⟨_, .call ⟨.value (.func 81), _, _⟩, _, _, _, _⟩ :: _) _ _ _); apply WL.call; exact rfl; exact rfl; exact rfl; exact rfl; exact aig_And gs r cap a s.N (litQ 2 bv) (2 * ((k : Int) + 1)) (bdP w2.heap.size gb9 gs ai ci (evenL 0 1) al cl (evenL 1 code.length) ++ [prow 1 encI 3 w2.heap.size ah ch s.here]) _ w2 hX4 hS (by omega); rw [← hA']; rintro v' w5 ⟨hX5, a5, c5, rfl, hS5⟩; have hC5 : CellC gb9 #[.pointer (some ⟨gs, 0, none⟩), .slice ai (evenL 0 1).length ci, .slice al (evenL 1 code.length).length cl] 92 w5 := hS5.cell (i := 3) rfl))
          | (show WL _ _ _ _ _ _ _; first | apply WL.nil | (refine WL.au (k := ?_)))
          | (show SG _ _ _ _ _ _ _ _ _; first | apply SG.done | (apply SG.fl0; exact rfl) | (apply SG.fl1; exact rfl; (focus ((intro m; first | assumption | (apply Ext.at; (exact extA)) | apply But.of_at; first | exact But.upd (by assumption) | exact But.ext (by (exact extA)) | (refine But.trans ?_ (But.upd (by assumption)); exact But.ext (by (exact extA))) | exact But.at _ _ _); done))) | (apply SG.br1; exact rfl))
          | (show FL _ _ _ _ _ _ _ _; (apply FL.loadC tOk; exact rfl; exact rfl; exact rfl; exact rfl; exact rfl; exact rfl))
          | (show FL _ _ _ _ _ _ _ _; first | apply FL.nilS | (refine FL.au (k := ?_)) | (apply FL.index tOk; exact rfl; exact rfl; exact rfl; exact rfl; exact rfl; exact rfl; exact rfl; exact rfl; assumption; (exact extA); exact rfl; omega; assumption; exact List.cons_ne_nil _ _; intro b off h hbl; have hcc := h; first | (obtain ⟨h1, h2, h3, h4, h5, h6, _⟩ := h) | (obtain ⟨h1, h2, h3, _⟩ := h) | (obtain ⟨h1, h2, _⟩ := h) | (obtain ⟨h1, _⟩ := h)))
          | (show Z _ _ _ _ _; (apply Z.sgE; (focus ((intro m; first | assumption | (apply Ext.at; (exact extA)) | apply But.of_at; first | exact But.upd (by assumption) | exact But.ext (by (exact extA)) | (refine But.trans ?_ (But.upd (by assumption)); exact But.ext (by (exact extA))) | exact But.at _ _ _); done)))))
        all_goals
          exact Z.cut ((a5, c5), _) ⟨hX5, hS5⟩ ⟨rfl, rfl, rfl, rfl, rfl, rfl, rfl, rfl, rfl, rfl, rfl, trivial⟩ rfl
    clear hS hX4 hRl hRi n0 n1 n2 RB4 hXw4
    rintro ⟨⟨a, cap⟩, w4⟩ ⟨hX4, hS⟩
    dsimp only at hX4 hS ⊢
    have hRl := (hS.row (i := 5) rfl).row encI_ok
    obtain ⟨n0, n1, n2, _⟩ := cells_heap (hS.cell (i := 3) rfl)
    have hCn : CellC gb9 #[.pointer (some ⟨gs, 0, none⟩), .slice ai (evenL 0 1).length ci, .slice al (evenL 1 code.length).length cl] 92 w4 := hS.cell (i := 3) rfl
    have hPr : (evenL 1 code.length)[((k : Nat) : Int).toNat]? = some (2 * (((1 + k : Nat) : Int) + 1)) := by rw [Int.toNat_natCast]; exact evenL_get 1 code.length hlt
    have hx9 : Lt.xor1 (2 * (((1 + k : Nat) : Int) + 1)) = 2 * (((1 + k : Nat) : Int) + 1) + 1 := by unfold Lt.xor1; rw [if_pos (by omega)]
    have hlB := andV_len A.2 A.1 (2 * (((1 + k : Nat) : Int) + 1) + 1)
    rw [← hB9] at hlB
    have hlR := orV_len B.2 s.right B.1
    rw [← hR9] at hlR
    have hbB : hasL B.2 B.1 := by
      rw [hB9]
      exact andV_has hhA (by unfold hasL; omega)
    unfold hasL at hrb hbB
    repeat' (first
      | (apply WL.nilc; exact rfl; exact rfl; exact rfl)
      | (apply FL.nilc; exact rfl; exact rfl; exact rfl)
      | (show W _ _ (.region 17 _ _) _ _ _; apply W.regionG (.fl true 0 (.fl true 1 (.fl true 2 (.fl true 4 (.fl true 5 (.fl true 6 (.fl true 7 (.fl true 9 (.fl false 3 (.fl false 8 (.fl true 10 (.br 11 (.br 12 (.br 13 (.fl true 14 .done) .stop) .stop) .stop)))))))))))) [8, 10, 11, 12, 13] (CellC gb9 #[.pointer (some ⟨gs, 0, none⟩), .slice ai (evenL 0 1).length ci, .slice al (evenL 1 code.length).length cl] 92) tMix; kernel_rfl)
      | ((apply WL.xor1; exact rfl; exact rfl; exact rfl; exact rfl; omega; rw [hx9]))
      | (((show WL _ _ _ (⟨_, .call ⟨.value (.func 81), _, _⟩, _, _, _, _⟩ :: _) _ _ _); apply WL.call; exact rfl; exact rfl; exact rfl; exact rfl; exact aig_And gs r cap a A.2 A.1 (2 * (((1 + k : Nat) : Int) + 1) + 1) (bdP w2.heap.size gb9 gs ai ci (evenL 0 1) al cl (evenL 1 code.length) ++ [prow 1 encI 3 w2.heap.size ah ch s.here]) _ w2 hX4 hS (by omega); rw [← hB9]; rintro v' w5 ⟨hX5, a5, c5, rfl, hS5⟩; have hRs := hS5.row (i := 6) rfl; have hC5 : CellC gb9 #[.pointer (some ⟨gs, 0, none⟩), .slice ai (evenL 0 1).length ci, .slice al (evenL 1 code.length).length cl] 92 w5 := hS5.cell (i := 3) rfl; obtain ⟨m0, m1, m2, _⟩ := cells_heap hC5))
      | (apply WL.lit tOk; exact rfl; exact rfl; exact rfl; exact rfl; exact rfl; exact rfl; (first | exact rfl | kernel_rfl | (simp [Instr.fill, catCells]; done)); exact rfl; intro gb w' hb hge hc hx)
      | (apply WL.append1 (z := (B.1)) tOk encI_ok; exact rfl; exact rfl; exact rfl; exact rfl; exact rfl; exact rfl; exact rfl; exact rfl; exact rfl; exact rfl; assumption; (exact extA); (first | exact rfl | (focus (simp only [List.length_set]; done)) | (focus (simp; done)) | (focus (simp [*]; done)) | omega | (focus (simp only [List.length_set]; omega))); (first | assumption | (refine Cells.ext ?_ (by assumption); exact extA)); exact rfl; exact rfl; (exact extA); (first | omega | (simp; omega) | (simp at *; omega)); intro a' cap' w' hO hX' hU hF; (obtain ⟨ah2, rfl⟩ : ∃ x, x = a' := ⟨_, rfl⟩; obtain ⟨ch2, rfl⟩ : ∃ x, x = cap' := ⟨_, rfl⟩; obtain ⟨w6, rfl⟩ : ∃ x, x = w' := ⟨_, rfl⟩; have hS6 := Sep.updRow (i := 6) rfl hU hO hF (Sep.ext hS5 hx) (Ext.refl _) (Below.size (show Ext w2 _ from (by (exact extA)))); obtain ⟨k0, k1, k2, _⟩ := cells_heap (hS6.cell (i := 3) rfl)))
      | (((show WL _ _ _ (⟨_, .call ⟨.value (.func 94), _, _⟩, _, _, _, _⟩ :: _) _ _ _); apply WL.call; exact rfl; exact rfl; exact rfl; exact rfl; exact aig_OrV gs r c5 a5 B.2 s.right B.1 (bdP w2.heap.size gb9 gs ai ci (evenL 0 1) al cl (evenL 1 code.length) ++ [prow 1 encI 3 w2.heap.size ah2 ch2 (s.here ++ [B.1])]) _ w2 (show Ext w2 _ from (by (exact extA))) hS6 (by omega) (by omega) (by omega); rw [← hR9]; rintro v' w7 ⟨hX7, a7, c7, rfl, hS7⟩))
      | (show WL _ _ _ _ _ _ _; first | apply WL.nil | (refine WL.au (k := ?_)))
      | (show SG _ _ _ _ _ _ _ _ _; first | apply SG.done | (apply SG.fl0; exact rfl) | (apply SG.fl1; exact rfl; (focus ((intro m; first | assumption | (apply Ext.at; (exact extA)) | apply But.of_at; first | exact But.upd (by assumption) | exact But.ext (by (exact extA)) | (refine But.trans ?_ (But.upd (by assumption)); exact But.ext (by (exact extA))) | exact But.at _ _ _); done))) | (apply SG.br1; exact rfl))
      | (show FL _ _ _ _ _ _ _ _; (apply FL.loadC tOk; exact rfl; exact rfl; exact rfl; exact rfl; exact rfl; exact rfl))
      | (show FL _ _ _ _ _ _ _ _; first | apply FL.nilS | (refine FL.au (k := ?_)) | (apply FL.index tOk; exact rfl; exact rfl; exact rfl; exact rfl; exact rfl; exact rfl; exact rfl; exact rfl; assumption; (exact extA); exact rfl; omega; assumption; exact List.cons_ne_nil _ _; intro b off h hbl; have hcc := h; first | (obtain ⟨h1, h2, h3, h4, h5, h6, _⟩ := h) | (obtain ⟨h1, h2, h3, _⟩ := h) | (obtain ⟨h1, h2, _⟩ := h) | (obtain ⟨h1, _⟩ := h)))
      | (show Z _ _ _ _ _; (apply Z.sgE; (focus ((intro m; first | assumption | (apply Ext.at; (exact extA)) | apply But.of_at; first | exact But.upd (by assumption) | exact But.ext (by (exact extA)) | (refine But.trans ?_ (But.upd (by assumption)); exact But.ext (by (exact extA))) | exact But.at _ _ _); done))))
      | (show Z _ _ _ _ _; first | apply Z.then_normal | apply Z.block_normal)
      | (show W _ _ _ _ _ _; first | apply W.seq | apply W.region))
    all_goals
      exact Z.again (((ah2, ch2), k + 1), w7) ⟨by dsimp only; omega, hX7, a7, c7, by dsimp only; rw [hstep]; exact hS7⟩ (by dsimp only; omega) (by dsimp only; rw [hstep]; exact ⟨rfl, rfl, rfl, rfl, rfl, rfl, rfl, rfl, rfl, trivial⟩) rfl
  have hkn : k = code.length := by omega
  subst hkn
  have hrb := hi.rHas
  have hG9 : lokG code = orV (lokTo code code.length).N (lokTo code code.length).right (2 * ((code.length : Int) + 1)) := rfl
  obtain ⟨gG1, gG2, gG3, gG4, gG5⟩ := lokG_inv h1n
  unfold hasL at hrb
  repeat' (first
    | (show WL _ _ _ _ _ _ _; first | apply WL.nil | (refine WL.au (k := ?_)))
    | (show Z _ _ _ _ _; apply Z.then_normal)
    | (show W _ _ _ _ _ _; first | apply W.seq | apply W.region))
  refine W.condKF rfl (dec_false (by omega)) ?_
  repeat' (first
    | (apply WL.nilc; exact rfl; exact rfl; exact rfl)
    | (((show WL _ _ _ (⟨_, .call ⟨.value (.func 94), _, _⟩, _, _, _, _⟩ :: _) _ _ _); apply WL.call; exact rfl; exact rfl; exact rfl; exact rfl; exact aig_OrV gs r cap a (lokTo code code.length).N (lokTo code code.length).right (2 * ((code.length : Int) + 1)) (bdP w2.heap.size gb9 gs ai ci (evenL 0 1) al cl (evenL 1 code.length) ++ [prow 1 encI 3 w2.heap.size ah ch (lokTo code code.length).here]) _ w2 hX4 hS (by omega) (by omega) (by omega); rw [← hG9]; rintro v' w7 ⟨hX7, a7, c7, rfl, hS7⟩; obtain ⟨k0, k1, k2, _⟩ := cells_heap (hS7.cell (i := 3) rfl)))
    | (show WL _ _ _ _ _ _ _; first | apply WL.nil | (refine WL.au (k := ?_)))
    | (show Z _ _ _ _ _; first | apply Z.then_normal | apply Z.then_exit | apply Z.block_exit)
    | (show W _ _ _ _ _ _; first | apply W.seq | apply W.region | apply W.block | apply W.exit))
  have hS70 : Lt.Sep w2.heap.size w7 (stN w2.heap.size gs a7 c7 r (nxtTo code 0).2 ++ (bdP w2.heap.size gb9 gs ai ci (evenL 0 1) al cl (evenL 1 code.length) ++ [prow 1 encI 3 w2.heap.size ah ch (lokTo code code.length).here, prow 1 encI 3 w2.heap.size none 0 (nxtTo code 0).1])) := Sep.rot (Sep.newRow hS7 (Ext.refl _) Own.nil (fun k hk => by cases hk) (Below.size hX7))
  have hGe : (lokG code).1 ≤ 1000000 := by unfold hasL at gG4; omega
  have hHas := hi.has
  refine W.loop (σ := ((Option Addr × Nat) × Nat) × World) (fun s => s.1.2 ≤ code.length ∧ Ext w2 s.2 ∧ ∃ a cap, Lt.Sep w2.heap.size s.2 (stN w2.heap.size gs a cap r (nxtTo code s.1.2).2 ++ (bdP w2.heap.size gb9 gs ai ci (evenL 0 1) al cl (evenL 1 code.length) ++ [prow 1 encI 3 w2.heap.size ah ch (lokTo code code.length).here, prow 1 encI 3 w2.heap.size s.1.1.1 s.1.1.2 (nxtTo code s.1.2).1]))) (fun s => [(2, .pointer (some ⟨g2, 0, none⟩)), (4, .int .i64 code.length), (5, .pointer (some ⟨gb9, 0, none⟩)), (6, .int .i64 (2 * ((code.length : Int) + 1))), (8, .slice ah (lokTo code code.length).here.length ch), (13, .int .i64 (lokG code).1), (14, .slice s.1.1.1 (nxtTo code s.1.2).1.length s.1.1.2), (108, .slice al (evenL 1 code.length).length cl), (109, .int .i64 (evenL 1 code.length).length), (110, .int .i64 s.1.2)]) (fun s => s.2) (fun s => code.length - s.1.2) (((none, 0), 0), w7) ⟨Nat.zero_le _, hX7, a7, c7, hS70⟩ ⟨rfl, rfl, rfl, rfl, rfl, rfl, rfl, rfl, rfl, rfl, trivial⟩ rfl ?_
  clear hS70 hS7 k0 k1 k2 hRl hRi n0 n1 n2 hS hX4 hX7 RB4 hXw4
  rintro ⟨⟨⟨an, cn⟩, k⟩, w4⟩ ⟨hk, hX4, a, cap, hS⟩
  dsimp only at hk hX4 hS ⊢
  have hni := nxt_inv h1n k hk
  have hnl := hni.len
  have hnn := hni.nlen
  have hgl := hni.grow.grow.len
  have hRl := (hS.row (i := 5) rfl).row encI_ok
  have hRh := (hS.row (i := 6) rfl).row encI_ok
  have hRs := hS.row (i := 7) rfl
  obtain ⟨n0, n1, n2, _⟩ := cells_heap (hS.cell (i := 3) rfl)
  have hCn : CellC gb9 #[.pointer (some ⟨gs, 0, none⟩), .slice ai (evenL 0 1).length ci, .slice al (evenL 1 code.length).length cl] 92 w4 := hS.cell (i := 3) rfl
  by_cases hlt : k < code.length
  · obtain ⟨hv9, hh9⟩ := getI (lokTo code code.length).here (show k < _ by omega)
    have hhv := hHas hv9 (List.mem_of_getElem? hh9)
    have hPr : (evenL 1 code.length)[((k : Nat) : Int).toNat]? = some (2 * (((1 + k : Nat) : Int) + 1)) := by rw [Int.toNat_natCast]; exact evenL_get 1 code.length hlt
    obtain ⟨lk, hlk⟩ : ∃ lk, 2 * (((1 + k : Nat) : Int) + 1) = lk := ⟨_, rfl⟩
    have hstep : nxtTo code (k + 1) = ((nxtTo code k).1 ++ [(andV (orV (nxtTo code k).2 lk hv9).2 (lokG code).1 (orV (nxtTo code k).2 lk hv9).1).1], (andV (orV (nxtTo code k).2 lk hv9).2 (lokG code).1 (orV (nxtTo code k).2 lk hv9).1).2) := by rw [nxtTo, getD_of hh9, hlk]
    rw [hlk] at hPr
    have hlk9 : 0 ≤ lk ∧ lk ≤ 100000 := by omega
    have hlO := orV_len (nxtTo code k).2 lk hv9
    obtain ⟨O, hO9⟩ : ∃ O, O = orV (nxtTo code k).2 lk hv9 := ⟨_, rfl⟩
    rw [← hO9] at hstep hlO
    have hlX := andV_len O.2 (lokG code).1 O.1
    obtain ⟨X, hX9⟩ : ∃ X, X = andV O.2 (lokG code).1 O.1 := ⟨_, rfl⟩
    rw [← hX9] at hstep hlX
    unfold hasL at hhv
    repeat' (first
      | (show WL _ _ _ _ _ _ _; first | apply WL.nil | (refine WL.au (k := ?_)))
      | (show Z _ _ _ _ _; apply Z.then_normal)
      | (show W _ _ _ _ _ _; first | apply W.seq | apply W.region))
    refine W.condKT rfl (dec_true (by omega)) ?_
    repeat' (first
      | (apply FL.nilc; exact rfl; exact rfl; exact rfl)
      | (show W _ _ (.region 26 _ _) _ _ _; apply W.regionG (.fl true 0 (.fl true 1 (.fl true 2 (.fl true 3 (.fl true 5 (.fl true 6 (.fl true 7 (.fl true 8 (.fl true 10 (.fl true 11 (.fl true 12 (.fl false 4 (.fl false 9 (.br 13 (.br 14 (.br 15 (.br 16 (.br 17 (.br 18 (.fl true 19 .done) .stop) .stop) .stop) .stop) .stop) .stop)))))))))))))) [9, 13, 14, 15, 16, 17, 18] (CellC gb9 #[.pointer (some ⟨gs, 0, none⟩), .slice ai (evenL 0 1).length ci, .slice al (evenL 1 code.length).length cl] 92) tMix; kernel_rfl)
      | (((show WL _ _ _ (⟨_, .call ⟨.value (.func 94), _, _⟩, _, _, _, _⟩ :: _) _ _ _); apply WL.call; exact rfl; exact rfl; exact rfl; exact rfl; exact aig_OrV gs r cap a (nxtTo code k).2 lk hv9 (bdP w2.heap.size gb9 gs ai ci (evenL 0 1) al cl (evenL 1 code.length) ++ [prow 1 encI 3 w2.heap.size ah ch (lokTo code code.length).here, prow 1 encI 3 w2.heap.size an cn (nxtTo code k).1]) _ w2 hX4 hS (by omega) (by omega) (by omega); rw [← hO9]; rintro v' w5 ⟨hX5, a5, c5, rfl, hS5⟩; have hC5 : CellC gb9 #[.pointer (some ⟨gs, 0, none⟩), .slice ai (evenL 0 1).length ci, .slice al (evenL 1 code.length).length cl] 92 w5 := hS5.cell (i := 3) rfl))
      | (((show WL _ _ _ (⟨_, .call ⟨.value (.func 81), _, _⟩, _, _, _, _⟩ :: _) _ _ _); apply WL.call; exact rfl; exact rfl; exact rfl; exact rfl; exact aig_And gs r c5 a5 O.2 (lokG code).1 O.1 (bdP w2.heap.size gb9 gs ai ci (evenL 0 1) al cl (evenL 1 code.length) ++ [prow 1 encI 3 w2.heap.size ah ch (lokTo code code.length).here, prow 1 encI 3 w2.heap.size an cn (nxtTo code k).1]) _ w2 hX5 hS5 (by omega); rw [← hX9]; rintro v' w6 ⟨hX6, a6, c6, rfl, hS6⟩; have hRs6 := hS6.row (i := 7) rfl; have hC6 : CellC gb9 #[.pointer (some ⟨gs, 0, none⟩), .slice ai (evenL 0 1).length ci, .slice al (evenL 1 code.length).length cl] 92 w6 := hS6.cell (i := 3) rfl))
      | (apply WL.lit tOk; exact rfl; exact rfl; exact rfl; exact rfl; exact rfl; exact rfl; (first | exact rfl | kernel_rfl | (simp [Instr.fill, catCells]; done)); exact rfl; intro gb w' hb hge hc hx; (obtain ⟨w7, rfl⟩ : ∃ x, x = w' := ⟨_, rfl⟩; have hC7 : CellC gb9 #[.pointer (some ⟨gs, 0, none⟩), .slice ai (evenL 0 1).length ci, .slice al (evenL 1 code.length).length cl] 92 w7 := Ext.heap (by (exact extA)) hC6))
      | (apply WL.append1 (z := (X.1)) tOk encI_ok; exact rfl; exact rfl; exact rfl; exact rfl; exact rfl; exact rfl; exact rfl; exact rfl; exact rfl; exact rfl; assumption; (exact extA); (first | exact rfl | (focus (simp only [List.length_set]; done)) | (focus (simp; done)) | (focus (simp [*]; done)) | omega | (focus (simp only [List.length_set]; omega))); (first | assumption | (refine Cells.ext ?_ (by assumption); exact extA)); exact rfl; exact rfl; (exact extA); (first | omega | (simp; omega) | (simp at *; omega)); intro a' cap' w' hO hX' hU hF; (obtain ⟨an2, rfl⟩ : ∃ x, x = a' := ⟨_, rfl⟩; obtain ⟨cn2, rfl⟩ : ∃ x, x = cap' := ⟨_, rfl⟩; obtain ⟨w8, rfl⟩ : ∃ x, x = w' := ⟨_, rfl⟩; have hS8 := Sep.updRow (i := 7) rfl hU hO hF (Sep.ext hS6 (show Ext w6 w7 from (by (exact extA)))) (Ext.refl _) (Below.size (show Ext w2 _ from (by (exact extA)))); have hC8 : CellC gb9 #[.pointer (some ⟨gs, 0, none⟩), .slice ai (evenL 0 1).length ci, .slice al (evenL 1 code.length).length cl] 92 w8 := hS8.cell (i := 3) rfl))
      | (show WL _ _ _ _ _ _ _; first | apply WL.nil | (refine WL.au (k := ?_)) | (apply WL.index tOk; exact rfl; exact rfl; exact rfl; exact rfl; exact rfl; exact rfl; exact rfl; exact rfl; assumption; (exact extA); exact rfl; omega; assumption; intro b off h; have hcc := h; first | (obtain ⟨h1, h2, h3, h4, h5, h6, _⟩ := h) | (obtain ⟨h1, h2, h3, _⟩ := h) | (obtain ⟨h1, h2, _⟩ := h) | (obtain ⟨h1, _⟩ := h)))
      | (show SG _ _ _ _ _ _ _ _ _; first | apply SG.done | (apply SG.fl0; exact rfl) | (apply SG.fl1; exact rfl; (focus ((intro m; first | assumption | (apply Ext.at; (exact extA)) | apply But.of_at; first | exact But.upd (by assumption) | exact But.ext (by (exact extA)) | (refine But.trans ?_ (But.upd (by assumption)); exact But.ext (by (exact extA))) | exact But.at _ _ _); done))) | (apply SG.br1; exact rfl))
      | (show FL _ _ _ _ _ _ _ _; (apply FL.loadC tOk; exact rfl; exact rfl; exact rfl; exact rfl; exact rfl; exact rfl))
      | (show FL _ _ _ _ _ _ _ _; first | apply FL.nilS | (refine FL.au (k := ?_)))
      | (show Z _ _ _ _ _; (apply Z.sgE; (focus ((intro m; first | assumption | (apply Ext.at; (exact extA)) | apply But.of_at; first | exact But.upd (by assumption) | exact But.ext (by (exact extA)) | (refine But.trans ?_ (But.upd (by assumption)); exact But.ext (by (exact extA))) | exact But.at _ _ _); done))))
      | (show Z _ _ _ _ _; first | apply Z.then_normal | apply Z.block_normal)
      | (show W _ _ _ _ _ _; first | apply W.seq | apply W.region | apply W.block | apply W.skip))
    all_goals
      exact Z.again (((an2, cn2), k + 1), w8) ⟨by dsimp only; omega, (show Ext w2 w8 from (by (exact extA))), a6, c6, by dsimp only; rw [hstep]; exact hS8⟩ (by dsimp only; omega) (by dsimp only; rw [hstep]; exact ⟨rfl, rfl, rfl, rfl, rfl, rfl, rfl, rfl, rfl, rfl, trivial⟩) rfl
  have hkn : k = code.length := by omega
  subst hkn
  have hll := lok_len h1n
  repeat' (first
    | (show WL _ _ _ _ _ _ _; first | apply WL.nil | (refine WL.au (k := ?_)))
    | (show Z _ _ _ _ _; apply Z.then_normal)
    | (show W _ _ _ _ _ _; first | apply W.seq | apply W.region))
  refine W.condKF rfl (dec_false (by omega)) ?_
  repeat' (first
    | (apply WL.make (w0 := w2) (z := (0:Int)) tOk; exact rfl; exact rfl; exact rfl; exact rfl; exact rfl; exact rfl; exact rfl; exact rfl; exact rfl; exact encI_ok; exact rfl; exact rfl; (exact extA); (first | omega | (simp; omega) | (simp at *; omega)); intro gb w' hO hge hx; (obtain ⟨gz, rfl⟩ : ∃ x, x = gb := ⟨_, rfl⟩; obtain ⟨hOz, rfl⟩ : ∃ x, x = hO := ⟨_, rfl⟩; obtain ⟨hgez, rfl⟩ : ∃ x, x = hge := ⟨_, rfl⟩; obtain ⟨hxz, rfl⟩ : ∃ x, x = hx := ⟨_, rfl⟩; obtain ⟨wz, rfl⟩ : ∃ x, x = w' := ⟨_, rfl⟩; have hSf : Lt.Sep w2.heap.size wz (stN w2.heap.size gs a cap r (nxtTo code code.length).2 ++ (bdP w2.heap.size gb9 gs ai ci (evenL 0 1) al cl (evenL 1 code.length) ++ [prow 1 encI 3 w2.heap.size ah ch (lokTo code code.length).here, prow 1 encI 3 w2.heap.size an cn (nxtTo code code.length).1, prow 1 encI 3 w2.heap.size (some ⟨gz, 0, none⟩) code.length (List.replicate code.length 0)])) := Sep.rot (Sep.newRow hS hxz hOz (fun k hk => by cases hk; exact hgez) (Below.size hX4))))
    | (((show WL _ _ _ (⟨_, .call ⟨.value (.func 82), _, _⟩, _, _, _, _⟩ :: _) _ _ _); apply WL.call; exact rfl; exact rfl; exact rfl; exact rfl; exact done_gen _ w2 1 code.length gb9 gs r _ ci cl cn code.length _ ai al an (some ⟨gz, 0, none⟩) (nxtTo code code.length).2 (nxtTo code code.length).1 (List.replicate code.length 0) (2 * ((code.length : Int) + 1)) [prow 1 encI 3 w2.heap.size ah ch (lokTo code code.length).here, prow 1 encI 3 w2.heap.size an cn (nxtTo code code.length).1, prow 1 encI 3 w2.heap.size (some ⟨gz, 0, none⟩) code.length (List.replicate code.length 0)] (Sep.ext hSf (by (exact extA))) (lok_ok h1n hn) (by omega) (Row.ext (Own.row encI_ok (hSf.row (i := 7) rfl)) (by (exact extA))) (Row.ext (Own.row encI_ok (hSf.row (i := 8) rfl)) (by (exact extA))) hni.nlen List.length_replicate (by omega); rintro v' w7 ⟨hx7, d, rfl, hdt, hCd, hst⟩))
    | (apply WL.storeB (w0 := w) tOk; exact rfl; exact rfl; exact rfl; exact rfl; assumption; (exact extA); exact rfl; exact rfl; exact rfl; (exact extA); (first | assumption | omega | (focus (apply Nat.le_trans; rotate_left; assumption; exact Below.size (by (exact extA)); done))); intro w' hb hc hX' hU; have hcc := hc; obtain ⟨h1, h2, _⟩ := hc; (obtain ⟨w8, rfl⟩ : ∃ x, x = w' := ⟨_, rfl⟩; obtain ⟨hb8, rfl⟩ : ∃ x, x = hb := ⟨_, rfl⟩; obtain ⟨hX8, rfl⟩ : ∃ x, x = hX' := ⟨_, rfl⟩))
    | (show WL _ _ _ _ _ _ _; first | apply WL.nil | (refine WL.au (k := ?_)))
    | (show Z _ _ _ _ _; first | apply Z.then_normal | apply Z.then_exit | apply Z.block_exit)
    | (show W _ _ _ _ _ _; first | apply W.seq | apply W.region | apply W.ret | apply W.exit))
  all_goals
    exact Z.bodyCT tOk Try.results35 rfl rfl rfl rfl rfl (cells_heap hb8) fun m => ⟨hX8.at m, d, rfl, hdt, (done_old hSf (by (exact extA)) hst hU (heap_lt hb2) (by (exact extA)) hx7).ext ((Ext.refl _).at m)⟩
end Go.Proofs.Ythpnahapiodflaa
namespace Go.Proofs.Ythpnahapiodflaa
open Go Go.Lt Go.RowKit
set_option linter.unusedVariables false
set_option linter.unusedSimpArgs false
set_option maxRecDepth 20000

theorem gen_startL {nin : Nat} {next reset : List Int} {b : Rest} {N : List (Int × Int)} (h : reset.length = next.length) : startL (genC nin next reset b N) = reset.map fun z => dec (z = 1) := by
  unfold startL genC latsG
  dsimp only
  rw [List.map_map]
  apply List.ext_getElem?
  intro i
  by_cases hi : i < next.length
  · obtain ⟨z, hz⟩ := getI reset (show i < reset.length by omega)
    rw [List.getElem?_map, List.getElem?_range hi, List.getElem?_map, hz]
    show some (dec (reset.getD i 0 = 1)) = _
    rw [getD_of hz]; rfl
  · rw [List.getElem?_eq_none (by simp; omega), List.getElem?_eq_none (by simp; omega)]
theorem rep_startL {nin n : Nat} {next : List Int} {b : Rest} {N : List (Int × Int)} (h : next.length = n) : startL (genC nin next (List.replicate n 0) b N) = List.replicate n false := by
  rw [gen_startL (by rw [List.length_replicate, h]), rep_start]
/-- A circuit that was told, and what is asked of it. -/
structure GenD (d : Circ) (nin : Nat) (next reset : List Int) (b : Int) (N : List (Int × Int)) : Prop where
  t : d.t = genC nin next reset (badR b) N
  ok : GenOk nin next reset (badR b) N
  small : N.length ≤ 2000
  few : nin ≤ 1
  lats : next.length ≤ 1000
theorem GenD.good {d : Circ} {nin : Nat} {next reset : List Int} {b : Int} {N : List (Int × Int)} (h : GenD d nin next reset b N) : GoodC' d.t := by rw [h.t]; exact genC_good h.ok
theorem GenD.sz {d : Circ} {nin : Nat} {next reset : List Int} {b : Int} {N : List (Int × Int)} (h : GenD d nin next reset b N) : SzC d.t 100000 := by
  rw [h.t]
  have := h.few
  have := h.small
  exact gen_sz (by omega) h.lats (by omega)
theorem GenD.ins {d : Circ} {nin : Nat} {next reset : List Int} {b : Int} {N : List (Int × Int)} (h : GenD d nin next reset b N) : d.ins.2.2.length = nin := by
  have : d.t.ins.length = nin := by rw [h.t]; exact evenL_len _ _
  exact this
theorem GenD.lat {d : Circ} {nin : Nat} {next reset : List Int} {b : Int} {N : List (Int × Int)} (h : GenD d nin next reset b N) : d.lat.2.2.length = next.length := by
  have : d.t.lat.length = next.length := by rw [h.t]; exact latsG_len _ _ _
  exact this
theorem GenD.plain {d : Circ} {nin : Nat} {next reset : List Int} {b : Int} {N : List (Int × Int)} (h : GenD d nin next reset b N) (w : World) (hC : CAt w d) : Pure Try.prog 20 [d.val, .int .i64 0, .int .i64 nin, .int .i64 next.length] w (.bool true) := by
  have hm : d.max = (N.length : Int) := by have : d.t.max = (N.length : Int) := by rw [h.t]; rfl
                                           exact this
  have h3 : d.bads.2.2 = [b] := by have : d.t.bads = [b] := by rw [h.t]; rfl
                                   exact this
  have h4 : d.outs.2.2 = [] := by have : d.t.outs = [] := by rw [h.t]; rfl
                                  exact this
  have h5 : d.cons.2.2 = [] := by have : d.t.cons = [] := by rw [h.t]; rfl
                                  exact this
  have h6 : d.syms.2.2 = [] := by have : d.t.syms = [] := by rw [h.t]; rfl
                                  exact this
  have h7 : d.com = ⟨#[]⟩ := by have : d.t.com = ⟨#[]⟩ := by rw [h.t]; rfl
                                exact this
  exact law49_plain d nin next.length w hC h.good h.sz (by have := h.small; omega) (by rw [h.ins]) (by rw [h.lat]) (by rw [h3]; rfl) (by rw [h4]; rfl) (by rw [h5]; rfl) (by rw [h6]; rfl) (by rw [h7]; rfl)
theorem GenD.run {d : Circ} {nin : Nat} {next reset : List Int} {b : Int} {N : List (Int × Int)} (h : GenD d nin next reset b N) (w : World) (hC : CAt w d) (bo : Option Addr) (bc : Nat) (ins : List Bool) (RB : Row 1 encB w bo ins) (hil : ins.length ≤ 1000) {S : List Bool} (hS : startL (genC nin next reset (badR b) N) = S) {p : Prop} (hp : BreaksP (genC nin next reset (badR b) N) S (runL nin ins) 0 ↔ p) : Pure Try.prog 21 [d.val, .slice bo ins.length bc] w (.bool (dec p)) := by
  have h1 := law49_run d bo bc ins w hC h.good h.sz (by have := h.few; rw [h.ins]; exact this) RB hil
  rw [h.ins, h.t, hS, dec_congr hp] at h1
  exact h1
end Go.Proofs.Ythpnahapiodflaa
namespace Go.Proofs.Ythpnahapiodflaa
open Go Go.Lt Go.RowKit
set_option linter.unusedVariables false
set_option linter.unusedSimpArgs false
set_option maxRecDepth 20000

set_option maxHeartbeats 8000000 in
theorem law_GenLocks (co bo : Option Addr) (cc bc : Nat) (code ins : List Bool) (w : World) (RC : Row 1 encB w co code) (RB : Row 1 encB w bo ins) (hnc : co = none → cc = 0) (hl : ins.length ≤ bc) (hl2c : code.length * 1 ≤ 140737488351232) :
    Pure Try.prog 7 [.slice co code.length cc, .slice bo ins.length bc] w (.bool true) := by
  have hil := RB.len
  refine Spec.of _ Try.func7 rfl Try.ntmps7 (by kernel_rfl) rfl ?_
  repeat' (first
    | (show WL _ _ _ _ _ _ _; first | apply WL.nil | (refine WL.au (k := ?_)))
    | (show Z _ _ _ _ _; apply Z.then_normal)
    | (show W _ _ _ _ _ _; first | apply W.seq | apply W.region))
  refine W.cutT (σ := World) (fun w' => w' = w) (fun _ => [(0, .slice co code.length cc), (1, .slice bo (ins.take 60).length bc)]) (fun w' => w') ?_ ?_
  · by_cases h60 : 60 < ins.length
    · refine W.condKT rfl (dec_true (by omega)) ?_
      repeat' (first
        | (apply WL.sliceH tOk; exact rfl; exact rfl; exact rfl; exact rfl; exact rfl; exact rfl; exact rfl; assumption; (first | exact rfl | (focus (simp only [List.length_set]; done)) | (focus (simp; done)) | (focus (simp [*]; done)) | omega | (focus (simp only [List.length_set]; omega))); (first | assumption | omega); (first | omega | (simp; omega) | (simp at *; omega)); intro hR hc)
        | (show WL _ _ _ _ _ _ _; first | apply WL.nil | (refine WL.au (k := ?_)))
        | (show W _ _ _ _ _ _; apply W.region))
      exact Z.cut _ rfl ⟨rfl, rfl, trivial⟩ rfl
    · refine W.condKF rfl (dec_false (by omega)) ?_
      repeat' (first
        | (show W _ _ _ _ _ _; apply W.skip))
      rw [List.take_of_length_le (show ins.length ≤ 60 by omega)]
      exact Z.cut _ rfl ⟨rfl, rfl, trivial⟩ rfl
  rintro w' rfl
  have R2 := RB.take 60
  have hl2 : (ins.take 60).length ≤ 60 := by rw [List.length_take]; omega
  generalize ins.take 60 = is at R2 hl2 ⊢
  clear RB hil hl
  have e0 : ([] : List Bool) ++ code = code := rfl
  repeat' (first
    | (apply WL.lit (len := 0) tOk; exact rfl; exact rfl; exact rfl; exact rfl; exact rfl; exact rfl; (first | exact rfl | kernel_rfl | (simp [Instr.fill, catCells]; done)); exact rfl; intro gb w' hb hge hc hx; have hO0 := Own.of_block0 (enc := encB) (s := 1) hb hge; (obtain ⟨g13, rfl⟩ : ∃ x, x = gb := ⟨_, rfl⟩; obtain ⟨w3, rfl⟩ : ∃ x, x = w' := ⟨_, rfl⟩; obtain ⟨hx3, rfl⟩ : ∃ x, x = hx := ⟨_, rfl⟩))
    | ((apply WL.appendSB (w0 := w') tOk encB_ok; exact rfl; exact rfl; exact rfl; exact rfl; exact rfl; exact rfl; exact rfl; exact rfl; exact rfl; exact rfl; exact hO0; exact (by (exact extA)); exact rfl; exact RC; exact (by (exact extA)); exact rfl; exact hnc; exact rfl; exact (by (exact extA)); exact ⟨(by show (0 + code.length) * 1 ≤ _; omega), (by show 0 + code.length ≤ _; omega)⟩; intro aN cN w4 hO4 hX4 hU4 hF4))
    | (show WL _ _ _ _ _ _ _; (refine WL.au (k := ?_)))
    | (show W _ _ _ _ _ _; first | apply W.seq | apply W.region))
  have RN : Row 1 encB w4 aN code := hO4.row encB_ok
  have RC4 := RC.ext hX4
  have RB4 := R2.ext hX4
  by_cases hb : 1 ≤ code.length ∧ code.length ≤ 60
  · obtain ⟨b1, b2⟩ := hb
    have hi := nxt_inv b1 code.length (Nat.le_refl _)
    repeat' (first
      | (((show WL _ _ _ (⟨_, .call ⟨.value (.func 35), _, _⟩, _, _, _, _⟩ :: _) _ _ _); apply WL.call; exact rfl; exact rfl; exact rfl; exact rfl; exact gen_Lock aN cN code w4 RN b1 b2; rintro v' w2 ⟨hx2, d, rfl, hdt, hCd⟩))
      | (apply WL.alloc tOk; exact rfl; exact rfl; exact rfl; intro gb w' hb hge hx; (obtain ⟨g1, rfl⟩ : ∃ x, x = gb := ⟨_, rfl⟩; obtain ⟨hge1, rfl⟩ : ∃ x, x = hge := ⟨_, rfl⟩))
      | (apply WL.storeB (w0 := w2) tOk; exact rfl; exact rfl; exact rfl; exact rfl; assumption; (exact extA); exact rfl; exact rfl; exact rfl; (exact extA); (first | assumption | omega | (focus (apply Nat.le_trans; rotate_left; assumption; exact Below.size (by (exact extA)); done))); intro w' hb hc hX' hU; have hcc := hc; obtain ⟨h1, h2, _⟩ := hc; (obtain ⟨w3, rfl⟩ : ∃ x, x = w' := ⟨_, rfl⟩; obtain ⟨hb3, rfl⟩ : ∃ x, x = hb := ⟨_, rfl⟩; obtain ⟨hX3, rfl⟩ : ∃ x, x = hX' := ⟨_, rfl⟩; have hcd := cells_heap hb3))
      | (apply WL.gF; exact rfl; exact rfl; (focus (first | exact dec_false (by omega); done)))
      | (show WL _ _ _ _ _ _ _; first | apply WL.nil | (refine WL.au (k := ?_)))
      | (show Z _ _ _ _ _; apply Z.then_normal)
      | (show W _ _ _ _ _ _; first | apply W.seq | apply W.region))
    refine W.condKF rfl (dec_false (by omega)) ?_
    have hG : GenD d 1 (nxtTo code code.length).1 (List.replicate code.length 0) (2 * ((code.length : Int) + 1)) (nxtTo code code.length).2 := ⟨hdt, lok_ok b1 b2, by have := lok_len b1; omega, by omega, by rw [hi.nlen]; omega⟩
    have hC3 := hCd.ext hX3
    have hX43 : Ext w4 w3 := hx2.trans hX3
    have hXw3 : Ext _ w3 := hX4.trans hX43
    have R3 := RB4.ext hX43
    have RC3 := RC4.ext hX43
    have hpl := fun (w9 : World) (h9 : Ext w3 w9) => hG.plain w9 (hC3.ext h9)
    rw [hi.nlen] at hpl
    have hrn := fun (w9 : World) (h9 : Ext w3 w9) => hG.run w9 (hC3.ext h9) bo bc is (R3.ext h9) (by omega) (rep_startL hi.nlen) (lok_breaks b1 b2 is)
    repeat' (first
      | (((show WL _ _ _ (⟨_, .call ⟨.value (.func 20), _, _⟩, _, _, _, _⟩ :: _) _ _ _); apply WL.callP; exact rfl; exact rfl; exact rfl; exact rfl; exact hpl _ (by (exact extA)); intro w4 hx4))
      | (((show WL _ _ _ (⟨_, .call ⟨.value (.func 21), _, _⟩, _, _, _, _⟩ :: _) _ _ _); apply WL.callP; exact rfl; exact rfl; exact rfl; exact rfl; exact hrn _ (by (exact extA)); intro w5 hx5))
      | ((show WL _ _ _ (⟨_, .call ⟨.value (.func 36), _, _⟩, _, _, _, _⟩ :: _) _ _ _); apply WL.callS; exact rfl; exact rfl; exact rfl; exact rfl; exact ref49_Lock co bo cc bc code is _ (RC3.ext (by (exact extA))) (R3.ext (by (exact extA))) (by omega) (by omega))
      | (apply WL.gT; exact rfl; exact rfl; (focus (exact dec_true rfl; done)))
      | ((show WL _ _ _ (⟨_, .call ⟨.value (.func 19), _, _⟩, _, _, _, _⟩ :: _) _ _ _); apply WL.callP; exact rfl; exact rfl; exact rfl; exact rfl; exact law49_lives _; intro w' hx)
      | (show WL _ _ _ _ _ _ _; first | apply WL.nil | (refine WL.au (k := ?_)))
      | (show Z _ _ _ _ _; apply Z.then_normal)
      | (show W _ _ _ _ _ _; first | apply W.seq | apply W.region | apply W.skip | apply W.ret))
    exact Z.body1 Try.results7 rfl fun m => ⟨rfl, Ext.at (hXw3.trans (by (exact extA))) m⟩
  · have hno := gen_LockNo aN cN code w4 (by omega) hb
    have hcs : code.length < 1 ∨ (1 ≤ code.length ∧ 60 < code.length) := by omega
    rcases hcs with hc | hc
    all_goals
      repeat' (first
        | (((show WL _ _ _ (⟨_, .call ⟨.value (.func 35), _, _⟩, _, _, _, _⟩ :: _) _ _ _); apply WL.call; exact rfl; exact rfl; exact rfl; exact rfl; exact hno; rintro v' w2 ⟨hx2, rfl⟩))
        | (apply WL.alloc tOk; exact rfl; exact rfl; exact rfl; intro gb w' hb hge hx; (obtain ⟨g1, rfl⟩ : ∃ x, x = gb := ⟨_, rfl⟩; obtain ⟨hge1, rfl⟩ : ∃ x, x = hge := ⟨_, rfl⟩))
        | (apply WL.storeB (w0 := w2) tOk; exact rfl; exact rfl; exact rfl; exact rfl; assumption; (exact extA); exact rfl; exact rfl; exact rfl; (exact extA); (first | assumption | omega | (focus (apply Nat.le_trans; rotate_left; assumption; exact Below.size (by (exact extA)); done))); intro w' hb hc hX' hU; have hcc := hc; obtain ⟨h1, h2, _⟩ := hc; (obtain ⟨w3, rfl⟩ : ∃ x, x = w' := ⟨_, rfl⟩; obtain ⟨hb3, rfl⟩ : ∃ x, x = hb := ⟨_, rfl⟩; obtain ⟨hX3, rfl⟩ : ∃ x, x = hX' := ⟨_, rfl⟩; have hcd : Cells w3 g1 0 zCirc.vals := cells_heap hb3))
        | (apply WL.gT; exact rfl; exact rfl; (focus (first | exact dec_true (by omega) | exact dec_false (by omega); done)))
        | (apply WL.gF; exact rfl; exact rfl; (focus (first | exact dec_true (by omega) | exact dec_false (by omega); done)))
        | (show WL _ _ _ _ _ _ _; first | apply WL.nil | (refine WL.au (k := ?_)) | (apply WL.guardF; exact rfl; exact rfl))
        | (show Z _ _ _ _ _; apply Z.then_normal)
        | (show W _ _ _ _ _ _; first | apply W.seq | apply W.region))
      refine W.condKT rfl (by first | exact rfl | exact dec_true (by omega)) ?_
      have hXw3 : Ext _ w3 := hX4.trans (hx2.trans hX3)
      repeat' (first
        | (((show WL _ _ _ (⟨_, .call ⟨.value (.func 18), _, _⟩, _, _, _, _⟩ :: _) _ _ _); apply WL.callP; exact rfl; exact rfl; exact rfl; exact rfl; exact law49_refused zCirc _ (zCirc_at _) rfl; intro w4 hx4))
        | ((show WL _ _ _ (⟨_, .call ⟨.value (.func 19), _, _⟩, _, _, _, _⟩ :: _) _ _ _); apply WL.callP; exact rfl; exact rfl; exact rfl; exact rfl; exact law49_lives _; intro w' hx)
        | (show WL _ _ _ _ _ _ _; first | apply WL.nil | (refine WL.au (k := ?_)))
        | (show Z _ _ _ _ _; first | apply Z.then_normal | apply Z.then_ret)
        | (show W _ _ _ _ _ _; first | apply W.seq | apply W.region | apply W.ret))
      exact Z.body1 Try.results7 rfl fun m => ⟨rfl, Ext.at (hXw3.trans (by (exact extA))) m⟩
end Go.Proofs.Ythpnahapiodflaa
namespace Go.Proofs.Ythpnahapiodflaa
open Go Go.Lt Go.ChangeShapes Go.WideShapes Go.ChangeAt Go.RowKit
set_option linter.unusedVariables false
set_option linter.unusedSimpArgs false
set_option maxRecDepth 20000
open Go.ChangeMaps (open_string shut_string)
namespace genLocks
theorem own : ownKnob Try.prog.godebug = none := by kernel_rfl
theorem laidOut : laidOutB Try.prog = true := factLaid
set_option maxRecDepth 100000 in
theorem lifted (os : Os) (started : os.Started) (H : Type) (enc : TypeId × Value → H) :
    ReturnsInHanded {} Try.checked os 7 .any (Rows.genLocksSpec.pre6 enc Try.prog Try.f7 Rows.genLocksRow.domain false) (Rows.genLocksSpec.post enc Try.prog Try.f7 false true false false) := by
  refine returnsInHanded_of_change_sized (C := Try.checked) own started (by kernel_rfl) Try.func7
    (ChangeSpec.witness6 (enc := enc) (C := Try.checked) false ⟨#[], #[.slice none 0 0, .slice none 0 0], []⟩ 8 (by kernel_rfl) (by kernel_rfl) (by kernel_rfl) (by kernel_rfl)) ?_
  intro W base args ds gs before hval0 hW hcnd hsz _
  have hval : ∀ (j : Nat) t v, Try.f7.params[j]? = some t → args[j]? = some v → Value.okWide Try.prog W .any base t v := hval0
  have hW' := hW
  obtain ⟨p, q, hA0, hV, rfl, hfz, hnd⟩ := hW
  have hA : DataW.TrodAll enc Try.prog W 0 (fun _ => true) true Try.f7.params.toList args.toList ds p := hA0
  rw [Try.params7] at hA hval
  obtain ⟨v0, vs0, d0, ds0, p0, q0, hargs, rfl, rfl, h0, r0⟩ := trodAll_cons hA
  obtain ⟨v1, vs1, d1, ds1, p1, q1, rfl, rfl, rfl, h1, r1⟩ := trodAll_cons r0
  obtain ⟨rfl, rfl, rfl⟩ := trodAll_nil r1
  obtain rfl : args = #[v0, v1] := by cases args; simp_all
  obtain ⟨rfl, rfl⟩ := trodVars_none hV
  have k0 := h0
  have lt0 : ∀ x ∈ p0, x.block < W.heap.size := by obtain ⟨m, hm⟩ := k0; exact DataW.trod_lt m _ _ _ hm
  have k1 := h1
  have lt1 : ∀ x ∈ p1, x.block < W.heap.size := by obtain ⟨m, hm⟩ := k1; exact DataW.trod_lt m _ _ _ hm
  obtain ⟨a0, l0, cap0, rfl, hl0, hm0, hna0, R0, w0⟩ := row_of (s := 1) (reads_bool Try.underlying4) (by kernel_rfl) Try.underlying22 (fun _ => rfl) (by decide) (hval 0 22 v0 rfl rfl) h0
  obtain ⟨a1, l1, cap1, rfl, hl1, hm1, hna1, R1, w1⟩ := row_of (s := 1) (reads_bool Try.underlying4) (by kernel_rfl) Try.underlying22 (fun _ => rfl) (by decide) (hval 1 22 v1 rfl rfl) h1
  have sz0 : l0.length * 1 ≤ 140737488351232 := size_of (i := 0) 1 hsz (by kernel_rfl) rfl Try.underlying22 (by kernel_rfl) k0
  have sz1 : l1.length * 1 ≤ 140737488351232 := size_of (i := 1) 1 hsz (by kernel_rfl) rfl Try.underlying22 (by kernel_rfl) k1
  clear hA0 hval0
  refine (Spec.law (law_GenLocks a0 a1 cap0 cap1 l0 l1 W R0 R1 hna0 hl1 (by omega))).mono fun e W' ⟨he, bel⟩ => ?_
  subst he
  exact ⟨_, rfl, _, _, _, [], _, [], hW', trodAll_mk1 (shut_bool Try.underlying4 _), (trodAll_cons_mk (Below.trod laidOut (by kernel_rfl) (of_decide_eq_true (by kernel_rfl)) k0 bel lt0) (trodAll_cons_mk (Below.trod laidOut (by kernel_rfl) (of_decide_eq_true (by kernel_rfl)) k1 bel lt1) trodAll_mk0)), rfl, bel.frame _, fun h => by cases h⟩
theorem j0 : (Rows.genLocksRow.wf (OpenSpec.ofChange Rows.genLocksSpec)) = true := by kernel_rfl
theorem j3 : (Try.f7.params.all (Try.prog.readableRec ·)) = true := by kernel_rfl
theorem j4 : (namedTie Try.prog Rows.genLocksRow.named Rows.genLocksSpec.vars) = true := by kernel_rfl
theorem j5 : ((Rows.genLocksRow.stops == [])) = true := by kernel_rfl
theorem j7 : ((Rows.genLocksRow.knobs == [])) = true := by kernel_rfl
theorem j9 : ((Rows.genLocksRow.inPlace == Try.prog.inPlace 7)) = true := by kernel_rfl
theorem j10 : ((Rows.genLocksRow.unfollowed == Try.prog.unfollowed 7)) = true := by kernel_rfl
theorem j11 : ((Rows.genLocksRow.recurses == Try.prog.recurses 7)) = true := by kernel_rfl
theorem j12 : ((Rows.genLocksRow.named == Try.prog.varsNamed 7)) = true := by kernel_rfl
theorem j13 : ((Rows.genLocksRow.maps == (Try.f7.params.toList ++ Rows.genLocksSpec.plain.varTypes Try.prog).any (Try.prog.mapsRec ·))) = true := by kernel_rfl
theorem j14 : ((Rows.genLocksRow.ifaces == (Try.f7.params.toList ++ Rows.genLocksSpec.plain.varTypes Try.prog).any (Try.prog.ifacesRec ·))) = true := by kernel_rfl
theorem j15 : ((Rows.genLocksRow.mapsOut == Try.prog.mapsAmong Try.f7.resultTypes.toList)) = true := by kernel_rfl
theorem j16 : ((Rows.genLocksRow.loops == (Try.f7.params.toList ++ Rows.genLocksSpec.plain.varTypes Try.prog).any (Try.prog.loopsFrom ·))) = true := by kernel_rfl
theorem j17 : ((Rows.genLocksRow.wideKeys == (Try.f7.params.toList ++ Rows.genLocksSpec.plain.varTypes Try.prog ++ Try.f7.resultTypes.toList).any (Try.prog.wideKeysFrom ·))) = true := by kernel_rfl
theorem j18 : (Rows.genLocksSpec.vars.all (Try.prog.varReadable ·)) = true := by kernel_rfl
theorem j19 : (Try.f7.resultTypes.all (fun t => Try.prog.readableRec t && decide (t < Try.prog.types.size))) = true := by kernel_rfl
theorem j20 : ((Rows.genLocksRow.ifacesOut == Try.f7.resultTypes.toList.any (Try.prog.ifacesRec ·))) = true := by kernel_rfl
theorem j21 : ((Rows.genLocksRow.loopsOut == Try.f7.resultTypes.toList.any (Try.prog.loopsFrom ·))) = true := by kernel_rfl
theorem j22 : ((Rows.genLocksRow.plainKeys == Try.prog.plainKeys)) = true := by rw [show Rows.genLocksRow.plainKeys = Rows.genCountsRow.plainKeys by kernel_rfl]; exact factKeys
theorem j23 : (Rows.genLocksRow.shortTexts.isNone) = true := by kernel_rfl
theorem j26 : ((Rows.genLocksRow.lifted == Try.prog.liftsFinal)) = true := by rw [show Rows.genLocksRow.lifted = Rows.genCountsRow.lifted by kernel_rfl]; exact factLifts
theorem j27 : ((Try.prog.make == some Rows.genLocksRow.make)) = true := by rw [show Rows.genLocksRow.make = Rows.genCountsRow.make by kernel_rfl]; exact factMake
theorem j28 : ((Rows.genLocksRow.kinds == (if Rows.genLocksRow.domain.isEmpty then [] else Try.f7.params.toList.map fun t => match Try.prog.underlying t with | some (.int k) => some k | _ => none))) = true := by kernel_rfl
theorem j29 : ((Rows.genLocksRow.pinned == Rows.genLocksRow.pinnedBy)) = true := by kernel_rfl
theorem j30 : ((Rows.genLocksRow.veiled == (Try.f7.params.toList ++ Rows.genLocksSpec.plain.varTypes Try.prog ++ Try.f7.resultTypes.toList).any (Try.prog.veiledRec ·))) = true := by kernel_rfl
theorem j31 : (Rows.genLocksRow.veiledFits Try.prog Try.f7.params.toList (Try.f7.params.toList ++ Rows.genLocksSpec.plain.varTypes Try.prog ++ Try.f7.resultTypes.toList)) = true := by kernel_rfl
set_option maxRecDepth 100000 in
theorem closed : joinedFacts Try.checked.prog 7 Try.f7 Rows.genLocksSpec Rows.genLocksRow = true := by unfold joinedFacts; exact (band (band (band (band (band (band (band (band (band (band (band (band (band (band (band (band (band (band (band (band (band (band (band (band (band (band (band (band (band (band (band j0 factLaid) factMaps) j3) j4) j5) factStops) j7) factKnobs) j9) j10) j11) j12) j13) j14) j15) j16) j17) j18) j19) j20) j21) j22) j23) factHeard) factEnter) j26) j27) j28) j29) j30) j31)
theorem named : Try.checked.prog.funcNamed Rows.genLocksRow.func = some 7 := by kernel_rfl
theorem over : Rows.genLocksRow.holds Try.pinned (OpenSpec.ofChange Rows.genLocksSpec) :=
  OpenClaim.holds_of_wide 7 Try.f7 rfl rfl rfl rfl rfl rfl rfl ⟨rfl, rfl, rfl, rfl, rfl⟩ rfl rfl rfl rfl rfl named Try.func7 closed
    (of_decide_eq_true (by kernel_rfl)) (by unfold Func.isWrapper; first | (rw [if_pos (by decide +kernel)]; kernel_rfl) | (rw [if_neg (by decide +kernel)]; exact ⟨rfl, rfl⟩))
    (fun os started H enc _ => lifted os started H enc)
/-- The statement. -/
theorem proved : Rows.GenLocksSaid := over
end genLocks
end Go.Proofs.Ythpnahapiodflaa
