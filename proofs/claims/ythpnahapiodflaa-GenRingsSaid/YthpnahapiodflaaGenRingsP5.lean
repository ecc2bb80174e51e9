/- GenRings: a ring of any size breaks in each step that is its place, round by round. No conditions. -/
import Derived.Test.YthpnahapiodflaaRows
import Derived.Lib.SmallJoins
import Derived.KernelRfl
import Derived.WalkKit
import Derived.ProofKit
import Derived.Deep.Quiet
import Derived.Deep.LoopGhost
import Derived.StillTail
import Derived.Test.YthpnahapiodflaaProg
import Derived.OpenShut
import Derived.ShutString
import Derived.ChangeOld
import Derived.Deep.Slices
import Derived.SizedLaws
import Derived.Laws.StructEq
import Derived.Laws.Externs
import Derived.MapKept
import Derived.Test.YthpnahapiodflaaGenRingsP4
namespace Go.Proofs.Ythpnahapiodflaa
open Go Go.Lt Go.RowKit
set_option linter.unusedVariables false
set_option linter.unusedSimpArgs false
set_option maxRecDepth 20000

theorem cnt_bad {bits a : Nat} (hb : bits ≤ 20) (ha : a < 2 ^ bits) {S : List Bool} (i1 : S.length = bits) (v : Bool) : BadP (cntC bits a) S [v] 0 ↔ numB S = a := by
  have hi := cnt_inv bits a bits (Nat.le_refl _)
  have hok := cntC_ok (a := a) hb
  have hbh : hasL (cntN bits a).2 (cntN bits a).1 := hok.bads _ (by simp)
  have h0 : BadP (cntC bits a) S [v] 0 ↔ litV (cntC bits a) S [v] (cntN bits a).1 = true := by
    constructor
    · rintro ⟨_, l, hl, hv⟩
      have hl' : ([(cntN bits a).1] : List Int)[0]? = some l := hl
      simp at hl'; subst hl'; exact hv
    · intro hv
      exact ⟨by decide, (cntN bits a).1, rfl, hv⟩
  rw [h0]
  unfold cntC
  rw [genC_lit hok _ _ hbh, hi.nlen]
  have hT := hi.grow.grow.tidy (tidy_ins (1 + bits))
  have hO := hi.grow.only (OnlyG.start (1 + bits))
  unfold cntN
  rw [allV_of hT hi.isHas, numB_is S a (by rw [i1]; exact ha), brV_one, show brV S bits = S by rw [← i1]; exact brV_self S, List.all_eq_true]
  have key : ∀ j, j < bits → (ofL (values (cntTo bits a bits).N ([v] ++ S)) (litQ (2 * (((1 + j : Nat) : Int) + 1)) (a.testBit j)) = true ↔ S.getD j false = a.testBit j) := by
    intro j hj
    rw [litQ_of, only_lit hO _ (show 1 + j < 1 + bits by omega), show ([v] ++ S).getD (1 + j) false = S.getD j false by rw [Nat.add_comm]; rfl]
    exact beq_iff_eq
  constructor
  · intro hh j hj
    rw [i1] at hj
    exact (key j hj).1 (hh _ (List.mem_of_getElem? (hi.isv j hj)))
  · intro hh z hz
    obtain ⟨j, hj⟩ := List.mem_iff_getElem?.1 hz
    have hjl := lt_of_get hj
    rw [hi.ilen] at hjl
    have := hi.isv j hjl
    rw [hj] at this; cases this
    exact (key j hjl).2 (hh j (by omega))
theorem cnt_starts {bits a : Nat} {S : List Bool} (hS : S.length = bits) : StartsP (cntC bits a) S ↔ ∀ b ∈ S, b = false := by
  have hi := cnt_inv bits a bits (Nat.le_refl _)
  have hl : (cntC bits a).lat.length = bits := by show (latsG _ _ _).length = _; rw [latsG_len, hi.nlen]
  have hx : ∀ (k : Nat) x, (cntC bits a).lat[k]? = some x → x.2.2 = 0 := fun k x h => by
    have h' : (latsG 1 (cntTo bits a bits).next (List.replicate bits 0))[k]? = some x := h
    have hk := lt_of_get h'
    rw [latsG_len] at hk
    rw [latsG_get hk] at h'
    cases h'
    rw [hi.nlen] at hk
    show (List.replicate bits (0 : Int)).getD k 0 = 0
    exact getD_of (by rw [List.getElem?_replicate, if_pos hk])
  constructor
  · rintro ⟨_, h⟩ b hb
    obtain ⟨k, hk⟩ := List.mem_iff_getElem?.1 hb
    obtain ⟨x, hxx⟩ := getI (cntC bits a).lat (show k < _ by have := lt_of_get hk; omega)
    have := (h k x b hxx hk).1
    cases hbb : b
    · rfl
    · exact absurd ⟨hx k x hxx, hbb⟩ this
  · intro h
    refine ⟨by omega, fun k x b h1 h2 => ?_⟩
    have h3 := hx k x h1
    have h4 := h b (List.mem_of_getElem? h2)
    rw [h3, h4]; simp
theorem gen_sz {nin : Nat} {next reset : List Int} {b : Int} {N : List (Int × Int)} (h1 : nin ≤ 1000) (h2 : next.length ≤ 1000) (h3 : N.length ≤ 100000) : SzC (genC nin next reset (badR b) N) 100000 := by
  have e1 := evenL_len 0 nin
  have e2 := latsG_len nin next reset
  have e3 := gatesG_len N (nin + next.length) (N.length - (nin + next.length))
  unfold SzC genC
  dsimp only
  simp only [List.length_nil, List.length_singleton]
  omega
theorem cnt5_start : tab 8 (fS (cntC 3 5)) = [true, false, false, false, false, false, false, false] := by
  have hl : (cntC 3 5).lat.length = 3 := by show (latsG _ _ _).length = _; rw [latsG_len, (cnt_inv 3 5 3 (Nat.le_refl _)).nlen]
  have key : ∀ s, fS (cntC 3 5) s = (bitsL s 3).all (fun b => !b) := fun s => by
    unfold fS
    rw [hl]
    cases h : (bitsL s 3).all (fun b => !b)
    · refine dec_false fun hh => ?_
      have := (cnt_starts (a := 5) (bitsL_len s 3)).1 hh
      have h2 : (bitsL s 3).all (fun b => !b) = true := List.all_eq_true.2 fun b hb => by rw [this b hb]; rfl
      rw [h] at h2; cases h2
    · exact dec_true ((cnt_starts (a := 5) (bitsL_len s 3)).2 fun b hb => by
        have := List.all_eq_true.1 h b hb
        cases b
        · rfl
        · cases this)
  rw [tab_congr fun u _ => key u]
  decide
theorem cnt5_bad : tab 8 (fun s => anyTo (bI (cntC 3 5) s) 2) = [false, false, false, false, false, true, false, false] := by
  have hl : (cntC 3 5).lat.length = 3 := by show (latsG _ _ _).length = _; rw [latsG_len, (cnt_inv 3 5 3 (Nat.le_refl _)).nlen]
  have hil : (cntC 3 5).ins.length = 1 := evenL_len _ _
  have key : ∀ s i, bI (cntC 3 5) s i = decide (numB (bitsL s 3) = 5) := fun s i => by
    unfold bI
    rw [hl, hil]
    have h := cnt_bad (bits := 3) (a := 5) (by decide) (by decide) (bitsL_len s 3) (decide (i / 2 ^ 0 % 2 = 1))
    rw [← dec_decide]
    exact dec_congr h
  have key2 : ∀ s, anyTo (bI (cntC 3 5) s) 2 = decide (numB (bitsL s 3) = 5) := fun s => by
    show ((false || bI (cntC 3 5) s 0) || bI (cntC 3 5) s 1) = _
    rw [key, key]; simp
  rw [tab_congr fun u _ => key2 u]
  decide
theorem cnt5_next : tab 8 (fun s => tab 2 (nI (cntC 3 5) s)) = [[0, 1], [1, 2], [2, 3], [3, 4], [4, 5], [5, 6], [6, 7], [7, 0]] := by
  have hl : (cntC 3 5).lat.length = 3 := by show (latsG _ _ _).length = _; rw [latsG_len, (cnt_inv 3 5 3 (Nat.le_refl _)).nlen]
  have hil : (cntC 3 5).ins.length = 1 := evenL_len _ _
  have key : ∀ s i, nI (cntC 3 5) s i = (numB (incB (bitsL s 3) (decide (i / 2 ^ 0 % 2 = 1))) : Nat) := fun s i => by
    unfold nI
    rw [hl, hil, show bitsL i 1 = [decide (i / 2 ^ 0 % 2 = 1)] from rfl, cnt_next (by decide) (bitsL_len s 3)]
  rw [tab_congr fun u _ => tab_congr fun v _ => key u v]
  decide
theorem cnt5_steps : stepsV [false, false, false, false, false, true, false, false] [[0, 1], [1, 2], [2, 3], [3, 4], [4, 5], [5, 6], [6, 7], [7, 0]] 8 10 0 [true, false, false, false, false, false, false, false] = 5 := by decide
theorem law49_lives (w : World) : Pure Try.prog 19 [] w (.bool true) := by
  have hcl : (cntC 3 5).lat.length = 3 := by show (latsG _ _ _).length = _; rw [latsG_len, (cnt_inv 3 5 3 (Nat.le_refl _)).nlen]
  have hil : (cntC 3 5).ins.length = 1 := evenL_len _ _
  have hok := cntC_ok (bits := 3) (a := 5) (by decide)
  have hcnt := gen_Counter w 3 5 (by decide) (by decide) (by decide)
  refine Spec.of _ Try.func19 rfl Try.ntmps19 (by kernel_rfl) rfl ?_
  repeat' (first
    | (((show WL _ _ _ (⟨_, .call ⟨.value (.func 17), _, _⟩, _, _, _, _⟩ :: _) _ _ _); apply WL.call; exact rfl; exact rfl; exact rfl; exact rfl; exact hcnt; rintro v' w2 ⟨hx2, d, rfl, hdt, hCd⟩))
    | (show WL _ _ _ _ _ _ _; first | apply WL.nil | (refine WL.au (k := ?_)))
    | (show Z _ _ _ _ _; apply Z.then_normal)
    | (show W _ _ _ _ _ _; first | apply W.seq | apply W.region))
  have hgd : GoodC' d.t := by rw [hdt]; exact genC_good hok
  have hzd : SzC d.t 100000 := by
    rw [hdt]
    exact gen_sz (by decide) (by rw [(cnt_inv 3 5 3 (Nat.le_refl _)).nlen]; decide) (by have := cntN_len 3 5; omega)
  have hck := fun (w9 : World) (h9 : Ext w2 w9) => ref11_Check d w9 (hCd.ext h9) hzd
  rw [chkC_good.2 hgd] at hck
  have hl3 : d.lat.2.2.length = 3 := by rw [← hcl, ← hdt]
  have hi1 : d.ins.2.2.length = 1 := by rw [← hil, ← hdt]
  have hcons : d.cons.2.2 = [] := by have : d.t.cons = [] := by rw [hdt]; rfl
                                     exact this
  repeat' (first
    | (apply WL.alloc tOk; exact rfl; exact rfl; exact rfl; intro gb w' hb hge hx; (obtain ⟨g1, rfl⟩ : ∃ x, x = gb := ⟨_, rfl⟩; obtain ⟨hge1, rfl⟩ : ∃ x, x = hge := ⟨_, rfl⟩))
    | (apply WL.storeB (w0 := w2) tOk; exact rfl; exact rfl; exact rfl; exact rfl; assumption; (exact extA); exact rfl; exact rfl; exact rfl; (exact extA); (first | assumption | omega | (focus (apply Nat.le_trans; rotate_left; assumption; exact Below.size (by (exact extA)); done))); intro w' hb hc hX' hU; have hcc := hc; obtain ⟨h1, h2, _⟩ := hc; (obtain ⟨w3, rfl⟩ : ∃ x, x = w' := ⟨_, rfl⟩; obtain ⟨hb3, rfl⟩ : ∃ x, x = hb := ⟨_, rfl⟩; obtain ⟨hX3, rfl⟩ : ∃ x, x = hX' := ⟨_, rfl⟩; have hcd := cells_heap hb3; obtain ⟨y0, y1, y2, y3, y4, y5, y6, y7, y8, _⟩ := id hcd))
    | (((show WL _ _ _ (⟨_, .call ⟨.value (.func 53), _, _⟩, _, _, _, _⟩ :: _) _ _ _); apply WL.callP; exact rfl; exact rfl; exact rfl; exact rfl; exact hck _ (by (exact extA)); intro w4 hx4))
    | (apply WL.gF; exact rfl; exact rfl; (focus (first | exact dec_false (by omega); done)))
    | (show WL _ _ _ _ _ _ _; first | apply WL.nil | (refine WL.au (k := ?_)))
    | (show Z _ _ _ _ _; apply Z.then_normal)
    | (show W _ _ _ _ _ _; first | apply W.seq | apply W.region))
  refine W.condKF rfl (dec_false (by omega)) ?_
  have hX23 : Ext w2 w4 := (by (exact extA))
  repeat' (first
    | (((show WL _ _ _ (⟨_, .call ⟨.value (.func 61), _, _⟩, _, _, _, _⟩ :: _) _ _ _); apply WL.call; exact rfl; exact rfl; exact rfl; exact rfl; exact ref17_New d _ (hCd.ext (by (exact extA))) hgd hzd; rintro v' w5 ⟨hx5, gm, rn, ra, rfl, hM, _⟩; have hW := ref17_Whole gm d rn ra w5 hM (by omega) (by omega) hcons; simp only [hl3, hi1, hdt, Nat.reducePow, cnt5_start, cnt5_bad, cnt5_next] at hW))
    | (((show WL _ _ _ (⟨_, .call ⟨.value (.func 84), _, _⟩, _, _, _, _⟩ :: _) _ _ _); apply WL.call; exact rfl; exact rfl; exact rfl; exact rfl; exact hW; rintro v' w6 ⟨hx6, sa, sc, ba, bc, na, nc, rs, rfl, R1, R2, R3, hrr, hrs⟩))
    | (apply WL.alloc tOk; exact rfl; exact rfl; exact rfl; intro gb w' hb hge hx; (obtain ⟨g7, rfl⟩ : ∃ x, x = gb := ⟨_, rfl⟩; obtain ⟨hge7, rfl⟩ : ∃ x, x = hge := ⟨_, rfl⟩))
    | (apply WL.storeB (w0 := w6) tOk; exact rfl; exact rfl; exact rfl; exact rfl; assumption; (exact extA); exact rfl; exact rfl; exact rfl; (exact extA); (first | assumption | omega | (focus (apply Nat.le_trans; rotate_left; assumption; exact Below.size (by (exact extA)); done))); intro w' hb hc hX' hU; have hcc := hc; obtain ⟨h1, h2, _⟩ := hc; (obtain ⟨w7, rfl⟩ : ∃ x, x = w' := ⟨_, rfl⟩; obtain ⟨hb7, rfl⟩ : ∃ x, x = hb := ⟨_, rfl⟩; obtain ⟨hX7, rfl⟩ : ∃ x, x = hX' := ⟨_, rfl⟩; have hc7 := cells_heap hb7; obtain ⟨z0, z1, z2, _⟩ := id hc7))
    | (show WL _ _ _ _ _ _ _; first | apply WL.nil | (refine WL.au (k := ?_)))
    | (show Z _ _ _ _ _; apply Z.then_normal)
    | (show W _ _ _ _ _ _; first | apply W.seq | apply W.region | apply W.skip))
  have hX67 : Ext w6 w7 := hX7
  have hrl : rs.length = 8 := by have := congrArg List.length hrs; rw [List.length_map] at this; exact this
  have hval : ∀ l ∈ ([[0, 1], [1, 2], [2, 3], [3, 4], [4, 5], [5, 6], [6, 7], [7, 0]] : List (List Int)), l.length ≤ 1000 ∧ ∀ t ∈ l, 0 ≤ t ∧ t < ((8 : Nat) : Int) := by decide
  have hsa : sa = none → sc = 0 := fun h => by
    obtain ⟨b9, off9, h9, _⟩ := R1.elem 0 true rfl
    rw [h] at h9; cases h9
  have hSt := fun (w9 : World) (h9 : Ext w6 w9) => ref17_Steps w9 sa ba na sa sc bc nc sc 8 9 [false, false, false, false, false, true, false, false] [true, false, false, false, false, false, false, false] rs (R2.ext h9) (R3.ext h9) (fun r hr => (hrr r hr).ext h9) (R1.ext h9) rfl hrl rfl (fun r hr => hval _ (by rw [← hrs]; exact List.mem_map_of_mem hr)) (by decide) (by decide) hsa
  rw [hrs, show 9 + 1 = 10 from rfl, cnt5_steps] at hSt
  repeat' (first
    | (((show WL _ _ _ (⟨_, .call ⟨.value (.func 85), _, _⟩, _, _, _, _⟩ :: _) _ _ _); apply WL.call; exact rfl; exact rfl; exact rfl; exact rfl; exact hSt _ (by (exact extA)); rintro v' w8 ⟨hx8, rfl⟩))
    | (show WL _ _ _ _ _ _ _; first | apply WL.nil | (refine WL.au (k := ?_)))
    | (show Z _ _ _ _ _; apply Z.then_normal)
    | (show W _ _ _ _ _ _; apply W.ret))
  have hXf : Ext w w2 := hx2
  have hXg : Ext w2 w6 := hX23.trans (hx5.trans hx6)
  exact Z.body1 Try.results19 rfl fun m => ⟨congrArg Value.bool (dec_true rfl), Ext.at (hXf.trans (hXg.trans (hX67.trans (by (exact extA))))) m⟩
end Go.Proofs.Ythpnahapiodflaa
namespace Go.Proofs.Ythpnahapiodflaa
open Go Go.Lt Go.RowKit
set_option linter.unusedVariables false
set_option linter.unusedSimpArgs false
set_option maxRecDepth 20000

theorem gen_startL {nin : Nat} {next reset : List Int} {b : Rest} {N : List (Int × Int)} (h : reset.length = next.length) : startL (genC nin next reset b N) = reset.map fun z => dec (z = 1) := by
  unfold startL genC latsG
  dsimp only
  rw [List.map_map]
  apply List.ext_getElem?
  intro i
  by_cases hi : i < next.length
  · obtain ⟨z, hz⟩ := getI reset (show i < reset.length by omega)
    rw [List.getElem?_map, List.getElem?_range hi, List.getElem?_map, hz]
    show some (dec (reset.getD i 0 = 1)) = _
    rw [getD_of hz]; rfl
  · rw [List.getElem?_eq_none (by simp; omega), List.getElem?_eq_none (by simp; omega)]
/-- A circuit that was told, and what is asked of it. -/
structure GenD (d : Circ) (nin : Nat) (next reset : List Int) (b : Int) (N : List (Int × Int)) : Prop where
  t : d.t = genC nin next reset (badR b) N
  ok : GenOk nin next reset (badR b) N
  small : N.length ≤ 2000
  few : nin ≤ 1
  lats : next.length ≤ 1000
theorem GenD.good {d : Circ} {nin : Nat} {next reset : List Int} {b : Int} {N : List (Int × Int)} (h : GenD d nin next reset b N) : GoodC' d.t := by rw [h.t]; exact genC_good h.ok
theorem GenD.sz {d : Circ} {nin : Nat} {next reset : List Int} {b : Int} {N : List (Int × Int)} (h : GenD d nin next reset b N) : SzC d.t 100000 := by
  rw [h.t]
  have := h.few
  have := h.small
  exact gen_sz (by omega) h.lats (by omega)
theorem GenD.ins {d : Circ} {nin : Nat} {next reset : List Int} {b : Int} {N : List (Int × Int)} (h : GenD d nin next reset b N) : d.ins.2.2.length = nin := by
  have : d.t.ins.length = nin := by rw [h.t]; exact evenL_len _ _
  exact this
theorem GenD.lat {d : Circ} {nin : Nat} {next reset : List Int} {b : Int} {N : List (Int × Int)} (h : GenD d nin next reset b N) : d.lat.2.2.length = next.length := by
  have : d.t.lat.length = next.length := by rw [h.t]; exact latsG_len _ _ _
  exact this
theorem GenD.plain {d : Circ} {nin : Nat} {next reset : List Int} {b : Int} {N : List (Int × Int)} (h : GenD d nin next reset b N) (w : World) (hC : CAt w d) : Pure Try.prog 20 [d.val, .int .i64 0, .int .i64 nin, .int .i64 next.length] w (.bool true) := by
  have hm : d.max = (N.length : Int) := by have : d.t.max = (N.length : Int) := by rw [h.t]; rfl
                                           exact this
  have h3 : d.bads.2.2 = [b] := by have : d.t.bads = [b] := by rw [h.t]; rfl
                                   exact this
  have h4 : d.outs.2.2 = [] := by have : d.t.outs = [] := by rw [h.t]; rfl
                                  exact this
  have h5 : d.cons.2.2 = [] := by have : d.t.cons = [] := by rw [h.t]; rfl
                                  exact this
  have h6 : d.syms.2.2 = [] := by have : d.t.syms = [] := by rw [h.t]; rfl
                                  exact this
  have h7 : d.com = ⟨#[]⟩ := by have : d.t.com = ⟨#[]⟩ := by rw [h.t]; rfl
                                exact this
  exact law49_plain d nin next.length w hC h.good h.sz (by have := h.small; omega) (by rw [h.ins]) (by rw [h.lat]) (by rw [h3]; rfl) (by rw [h4]; rfl) (by rw [h5]; rfl) (by rw [h6]; rfl) (by rw [h7]; rfl)
theorem GenD.run {d : Circ} {nin : Nat} {next reset : List Int} {b : Int} {N : List (Int × Int)} (h : GenD d nin next reset b N) (w : World) (hC : CAt w d) (bo : Option Addr) (bc : Nat) (ins : List Bool) (RB : Row 1 encB w bo ins) (hil : ins.length ≤ 1000) {S : List Bool} (hS : startL (genC nin next reset (badR b) N) = S) {p : Prop} (hp : BreaksP (genC nin next reset (badR b) N) S (runL nin ins) 0 ↔ p) : Pure Try.prog 21 [d.val, .slice bo ins.length bc] w (.bool (dec p)) := by
  have h1 := law49_run d bo bc ins w hC h.good h.sz (by have := h.few; rw [h.ins]; exact this) RB hil
  rw [h.ins, h.t, hS, dec_congr hp] at h1
  exact h1
end Go.Proofs.Ythpnahapiodflaa
namespace Go.Proofs.Ythpnahapiodflaa
open Go Go.Lt Go.RowKit
set_option linter.unusedVariables false
set_option linter.unusedSimpArgs false
set_option maxRecDepth 20000

set_option maxHeartbeats 8000000 in
theorem law_GenRings (n t : Int) (k8 : Int) (w : World) (hk8 : 0 ≤ k8 ∧ k8 ≤ 255) :
    Pure Try.prog 5 [.int .i64 n, .int .i64 t, .int .u8 k8] w (.bool true) := by
  refine Spec.of _ Try.func5 rfl Try.ntmps5 (by kernel_rfl) rfl ?_
  by_cases hb : 1 ≤ n ∧ n ≤ 200 ∧ 0 ≤ t ∧ t < n
  · obtain ⟨b1, b2, b3, b4⟩ := hb
    obtain ⟨m, rfl⟩ := Int.eq_ofNat_of_zero_le (show 0 ≤ n by omega)
    obtain ⟨a, rfl⟩ := Int.eq_ofNat_of_zero_le b3
    repeat' (first
      | (((show WL _ _ _ (⟨_, .call ⟨.value (.func 25), _, _⟩, _, _, _, _⟩ :: _) _ _ _); apply WL.call; exact rfl; exact rfl; exact rfl; exact rfl; exact gen_Ring _ m a (by omega) (by omega) (by omega); rintro v' w2 ⟨hx2, d, rfl, hdt, hCd⟩))
      | (apply WL.alloc tOk; exact rfl; exact rfl; exact rfl; intro gb w' hb hge hx; (obtain ⟨g1, rfl⟩ : ∃ x, x = gb := ⟨_, rfl⟩; obtain ⟨hge1, rfl⟩ : ∃ x, x = hge := ⟨_, rfl⟩))
      | (apply WL.storeB (w0 := w2) tOk; exact rfl; exact rfl; exact rfl; exact rfl; assumption; (exact extA); exact rfl; exact rfl; exact rfl; (exact extA); (first | assumption | omega | (focus (apply Nat.le_trans; rotate_left; assumption; exact Below.size (by (exact extA)); done))); intro w' hb hc hX' hU; have hcc := hc; obtain ⟨h1, h2, _⟩ := hc; (obtain ⟨w3, rfl⟩ : ∃ x, x = w' := ⟨_, rfl⟩; obtain ⟨hb3, rfl⟩ : ∃ x, x = hb := ⟨_, rfl⟩; obtain ⟨hX3, rfl⟩ : ∃ x, x = hX' := ⟨_, rfl⟩; have hcd := cells_heap hb3))
      | (apply WL.gF; exact rfl; exact rfl; (focus (first | exact dec_false (by omega); done)))
      | (show WL _ _ _ _ _ _ _; first | apply WL.nil | (refine WL.au (k := ?_)))
      | (show Z _ _ _ _ _; apply Z.then_normal)
      | (show W _ _ _ _ _ _; first | apply W.seq | apply W.region))
    refine W.condKF rfl (dec_false (by omega)) ?_
    have hn2 : m ≤ 200 := by omega
    have ha2 : a < m := by omega
    obtain ⟨k, hk⟩ : ∃ k : Nat, k8 % 100 = (k : Int) := ⟨(k8 % 100).toNat, by omega⟩
    have hk2 : k ≤ 99 := by omega
    have hG : GenD d 0 (ringNext m) (ringRes m) (2 * ((a : Int) + 1)) (List.replicate m (-1, 0)) := ⟨hdt, ring_ok hn2 ha2, by rw [List.length_replicate]; omega, by omega, by rw [ringNext_len]; omega⟩
    have hC3 := hCd.ext hX3
    have hXw3 : Ext _ w3 := hx2.trans hX3
    have hpl := fun (w9 : World) (h9 : Ext w3 w9) => hG.plain w9 (hC3.ext h9)
    rw [ringNext_len] at hpl
    have hbr := ring_breaks hn2 ha2 (List.replicate k false)
    rw [List.length_replicate] at hbr
    have hrn := fun (w9 : World) (h9 : Ext w3 w9) (g : Nat) (R : Row 1 encB w9 (some ⟨g, 0, none⟩) (List.replicate k false)) => hG.run w9 (hC3.ext h9) (some ⟨g, 0, none⟩) k (List.replicate k false) R (by rw [List.length_replicate]; omega) ((gen_startL (by rw [ringRes_len, ringNext_len])).trans ring_start) hbr
    repeat' (first
      | ((apply WL.remK; exact rfl; exact rfl; exact rfl; exact rfl; omega; rw [hk]))
      | (show WL _ _ _ _ _ _ _; first | apply WL.nil | (refine WL.au (k := ?_)))
      | (show Z _ _ _ _ _; apply Z.then_normal)
      | (show W _ _ _ _ _ _; first | apply W.seq | apply W.region | apply W.skip))
    have hwr : IntKind.i64.wrap (k : Int) = (k : Int) := IntWalk.i64_in _ (by omega)
    rw [hwr]
    repeat' (first
      | (show W _ _ (.region 5 _ _) _ _ _; apply W.regionGX (.fl true 1 (.fl true 2 (.fl false 0 (.br 3 (.fl true 4 (.fl true 6 (.fl true 9 (.fl true 10 (.fl true 11 (.fl false 5 (.br 7 (.br 8 (.br 12 (.fl true 13 (.fl true 14 (.fl true 15 (.br 16 (.fl true 17 (.fl true 18 .done)) .stop)))) .stop) .stop) .stop))))))) .stop)))) [4, 5, 6, 7, 8, 9, 10, 11, 12, 13, 14, 15, 16, 17] tMix; kernel_rfl)
      | (((show WL _ _ _ (⟨_, .call ⟨.value (.func 20), _, _⟩, _, _, _, _⟩ :: _) _ _ _); apply WL.callP; exact rfl; exact rfl; exact rfl; exact rfl; exact hpl _ (by (exact extA)); intro w' hx))
      | ((apply WL.make (w0 := w3) (z := false) tOk; exact rfl; exact rfl; exact rfl; exact rfl; exact rfl; exact rfl; exact rfl; exact rfl; exact rfl; exact encB_ok; exact rfl; exact rfl; exact (by (exact extA)); omega; intro gb w' hO hge hx; obtain ⟨gk, rfl⟩ : ∃ x, x = gb := ⟨_, rfl⟩; obtain ⟨hOk, rfl⟩ : ∃ x, x = hO := ⟨_, rfl⟩))
      | (((show WL _ _ _ (⟨_, .call ⟨.value (.func 21), _, _⟩, _, _, _, _⟩ :: _) _ _ _); apply WL.callP; exact rfl; exact rfl; exact rfl; exact rfl; exact hrn _ (by (exact extA)) gk ((hOk.row encB_ok).ext (by (exact extA))); intro w' hx))
      | ((show WL _ _ _ (⟨_, .call ⟨.value (.func 26), _, _⟩, _, _, _, _⟩ :: _) _ _ _); apply WL.callS; exact rfl; exact rfl; exact rfl; exact rfl; exact ref49_Ring m a k _ (by omega))
      | (apply WL.gT; exact rfl; exact rfl; (focus (exact dec_true rfl; done)))
      | ((show WL _ _ _ (⟨_, .call ⟨.value (.func 19), _, _⟩, _, _, _, _⟩ :: _) _ _ _); apply WL.callP; exact rfl; exact rfl; exact rfl; exact rfl; exact law49_lives _; intro w' hx)
      | (show SX _ _ _ _ _ _ _ _ _; first | (apply SX.done; intro w' hx) | (apply SX.fl0; exact rfl) | (apply SX.fl1; exact rfl; (exact extA)) | (apply SX.br1; exact rfl; intro w' hx))
      | (show FL _ _ _ _ _ _ _ _; first | apply FL.nilX | (apply FL.loadAE tOk; exact rfl; exact rfl; exact rfl; exact rfl; exact rfl; assumption; exact rfl))
      | (show FL _ _ _ _ _ _ _ _; (refine FL.au (k := ?_)))
      | (show Z _ _ _ _ _; first | (apply Z.sxL; exact rfl) | (apply Z.sxE; (exact extA)))
      | (show WL _ _ _ _ _ _ _; apply WL.nil)
      | (show Z _ _ _ _ _; apply Z.then_normal)
      | (show W _ _ _ _ _ _; apply W.ret))
    all_goals exact Z.body1 Try.results5 rfl fun m => ⟨rfl, Ext.at (hXw3.trans (by (exact extA))) m⟩
  · have hno := gen_RingNo w n t hb
    have hcs : n < 1 ∨ (1 ≤ n ∧ 200 < n) ∨ (1 ≤ n ∧ n ≤ 200 ∧ t < 0) ∨ (1 ≤ n ∧ n ≤ 200 ∧ 0 ≤ t ∧ n ≤ t) := by omega
    rcases hcs with hc | hc | hc | hc
    all_goals
      repeat' (first
        | (((show WL _ _ _ (⟨_, .call ⟨.value (.func 25), _, _⟩, _, _, _, _⟩ :: _) _ _ _); apply WL.call; exact rfl; exact rfl; exact rfl; exact rfl; exact hno; rintro v' w2 ⟨hx2, rfl⟩))
        | (apply WL.alloc tOk; exact rfl; exact rfl; exact rfl; intro gb w' hb hge hx; (obtain ⟨g1, rfl⟩ : ∃ x, x = gb := ⟨_, rfl⟩; obtain ⟨hge1, rfl⟩ : ∃ x, x = hge := ⟨_, rfl⟩))
        | (apply WL.storeB (w0 := w2) tOk; exact rfl; exact rfl; exact rfl; exact rfl; assumption; (exact extA); exact rfl; exact rfl; exact rfl; (exact extA); (first | assumption | omega | (focus (apply Nat.le_trans; rotate_left; assumption; exact Below.size (by (exact extA)); done))); intro w' hb hc hX' hU; have hcc := hc; obtain ⟨h1, h2, _⟩ := hc; (obtain ⟨w3, rfl⟩ : ∃ x, x = w' := ⟨_, rfl⟩; obtain ⟨hb3, rfl⟩ : ∃ x, x = hb := ⟨_, rfl⟩; obtain ⟨hX3, rfl⟩ : ∃ x, x = hX' := ⟨_, rfl⟩; have hcd : Cells w3 g1 0 zCirc.vals := cells_heap hb3))
        | (apply WL.gT; exact rfl; exact rfl; (focus (first | exact dec_true (by omega) | exact dec_false (by omega); done)))
        | (apply WL.gF; exact rfl; exact rfl; (focus (first | exact dec_true (by omega) | exact dec_false (by omega); done)))
        | (show WL _ _ _ _ _ _ _; first | apply WL.nil | (refine WL.au (k := ?_)) | (apply WL.guardF; exact rfl; exact rfl))
        | (show Z _ _ _ _ _; apply Z.then_normal)
        | (show W _ _ _ _ _ _; first | apply W.seq | apply W.region))
      refine W.condKT rfl (by first | exact rfl | exact dec_true (by omega)) ?_
      have hXw3 : Ext _ w3 := hx2.trans hX3
      repeat' (first
        | (((show WL _ _ _ (⟨_, .call ⟨.value (.func 18), _, _⟩, _, _, _, _⟩ :: _) _ _ _); apply WL.callP; exact rfl; exact rfl; exact rfl; exact rfl; exact law49_refused zCirc _ (zCirc_at _) rfl; intro w4 hx4))
        | ((show WL _ _ _ (⟨_, .call ⟨.value (.func 19), _, _⟩, _, _, _, _⟩ :: _) _ _ _); apply WL.callP; exact rfl; exact rfl; exact rfl; exact rfl; exact law49_lives _; intro w' hx)
        | (show WL _ _ _ _ _ _ _; first | apply WL.nil | (refine WL.au (k := ?_)))
        | (show Z _ _ _ _ _; first | apply Z.then_normal | apply Z.then_ret)
        | (show W _ _ _ _ _ _; first | apply W.seq | apply W.region | apply W.ret))
      exact Z.body1 Try.results5 rfl fun m => ⟨rfl, Ext.at (hXw3.trans (by (exact extA))) m⟩
end Go.Proofs.Ythpnahapiodflaa
namespace Go.Proofs.Ythpnahapiodflaa
open Go Go.Lt Go.ChangeShapes Go.WideShapes Go.ChangeAt Go.RowKit
set_option linter.unusedVariables false
set_option linter.unusedSimpArgs false
set_option maxRecDepth 20000
open Go.ChangeMaps (open_string shut_string)
namespace genRings
theorem own : ownKnob Try.prog.godebug = none := by kernel_rfl
theorem laidOut : laidOutB Try.prog = true := factLaid
set_option maxRecDepth 100000 in
theorem lifted (os : Os) (started : os.Started) (H : Type) (enc : TypeId × Value → H) :
    ReturnsInHanded {} Try.checked os 5 .any (Rows.genRingsSpec.pre6 enc Try.prog Try.f5 Rows.genRingsRow.domain false) (Rows.genRingsSpec.post enc Try.prog Try.f5 false true false false) := by
  refine returnsInHanded_of_change (C := Try.checked) own started (by kernel_rfl) Try.func5
    (ChangeSpec.witness6 (enc := enc) (C := Try.checked) false ⟨#[], #[.int .i64 0, .int .i64 0, .int .u8 0], []⟩ 8 (by kernel_rfl) (by kernel_rfl) (by kernel_rfl) (by kernel_rfl)) ?_
  intro W base args ds gs before hval0 hW hcnd _
  have hval : ∀ (j : Nat) t v, Try.f5.params[j]? = some t → args[j]? = some v → Value.okWide Try.prog W .any base t v := hval0
  have hW' := hW
  obtain ⟨p, q, hA0, hV, rfl, hfz, hnd⟩ := hW
  have hA : DataW.TrodAll enc Try.prog W 0 (fun _ => true) true Try.f5.params.toList args.toList ds p := hA0
  rw [Try.params5] at hA hval
  obtain ⟨v0, vs0, d0, ds0, p0, q0, hargs, rfl, rfl, h0, r0⟩ := trodAll_cons hA
  obtain ⟨v1, vs1, d1, ds1, p1, q1, rfl, rfl, rfl, h1, r1⟩ := trodAll_cons r0
  obtain ⟨v2, vs2, d2, ds2, p2, q2, rfl, rfl, rfl, h2, r2⟩ := trodAll_cons r1
  obtain ⟨rfl, rfl, rfl⟩ := trodAll_nil r2
  obtain rfl : args = #[v0, v1, v2] := by cases args; simp_all
  obtain ⟨rfl, rfl⟩ := trodVars_none hV
  have k0 := h0
  have lt0 : ∀ x ∈ p0, x.block < W.heap.size := by obtain ⟨m, hm⟩ := k0; exact DataW.trod_lt m _ _ _ hm
  have k1 := h1
  have lt1 : ∀ x ∈ p1, x.block < W.heap.size := by obtain ⟨m, hm⟩ := k1; exact DataW.trod_lt m _ _ _ hm
  have k2 := h2
  have lt2 : ∀ x ∈ p2, x.block < W.heap.size := by obtain ⟨m, hm⟩ := k2; exact DataW.trod_lt m _ _ _ hm
  obtain ⟨n0, rfl, rfl, rfl, w0⟩ := open_int Try.underlying3 (hval 0 3 v0 rfl rfl) h0
  obtain ⟨n1, rfl, rfl, rfl, w1⟩ := open_int Try.underlying3 (hval 1 3 v1 rfl rfl) h1
  obtain ⟨n2, rfl, rfl, rfl, w2⟩ := open_int Try.underlying5 (hval 2 5 v2 rfl rfl) h2
  clear hA0 hval0
  refine (Spec.law (law_GenRings n0 n1 n2 W (wf_u8 w2))).mono fun e W' ⟨he, bel⟩ => ?_
  subst he
  exact ⟨_, rfl, _, _, _, [], _, [], hW', trodAll_mk1 (shut_bool Try.underlying4 _), (trodAll_cons_mk (Below.trod laidOut (by kernel_rfl) (of_decide_eq_true (by kernel_rfl)) k0 bel lt0) (trodAll_cons_mk (Below.trod laidOut (by kernel_rfl) (of_decide_eq_true (by kernel_rfl)) k1 bel lt1) (trodAll_cons_mk (Below.trod laidOut (by kernel_rfl) (of_decide_eq_true (by kernel_rfl)) k2 bel lt2) trodAll_mk0))), rfl, bel.frame _, fun h => by cases h⟩
theorem j0 : (Rows.genRingsRow.wf (OpenSpec.ofChange Rows.genRingsSpec)) = true := by kernel_rfl
theorem j3 : (Try.f5.params.all (Try.prog.readableRec ·)) = true := by kernel_rfl
theorem j4 : (namedTie Try.prog Rows.genRingsRow.named Rows.genRingsSpec.vars) = true := by kernel_rfl
theorem j5 : ((Rows.genRingsRow.stops == [])) = true := by kernel_rfl
theorem j7 : ((Rows.genRingsRow.knobs == [])) = true := by kernel_rfl
theorem j9 : ((Rows.genRingsRow.inPlace == Try.prog.inPlace 5)) = true := by kernel_rfl
theorem j10 : ((Rows.genRingsRow.unfollowed == Try.prog.unfollowed 5)) = true := by kernel_rfl
theorem j11 : ((Rows.genRingsRow.recurses == Try.prog.recurses 5)) = true := by kernel_rfl
theorem j12 : ((Rows.genRingsRow.named == Try.prog.varsNamed 5)) = true := by kernel_rfl
theorem j13 : ((Rows.genRingsRow.maps == (Try.f5.params.toList ++ Rows.genRingsSpec.plain.varTypes Try.prog).any (Try.prog.mapsRec ·))) = true := by kernel_rfl
theorem j14 : ((Rows.genRingsRow.ifaces == (Try.f5.params.toList ++ Rows.genRingsSpec.plain.varTypes Try.prog).any (Try.prog.ifacesRec ·))) = true := by kernel_rfl
theorem j15 : ((Rows.genRingsRow.mapsOut == Try.prog.mapsAmong Try.f5.resultTypes.toList)) = true := by kernel_rfl
theorem j16 : ((Rows.genRingsRow.loops == (Try.f5.params.toList ++ Rows.genRingsSpec.plain.varTypes Try.prog).any (Try.prog.loopsFrom ·))) = true := by kernel_rfl
theorem j17 : ((Rows.genRingsRow.wideKeys == (Try.f5.params.toList ++ Rows.genRingsSpec.plain.varTypes Try.prog ++ Try.f5.resultTypes.toList).any (Try.prog.wideKeysFrom ·))) = true := by kernel_rfl
theorem j18 : (Rows.genRingsSpec.vars.all (Try.prog.varReadable ·)) = true := by kernel_rfl
theorem j19 : (Try.f5.resultTypes.all (fun t => Try.prog.readableRec t && decide (t < Try.prog.types.size))) = true := by kernel_rfl
theorem j20 : ((Rows.genRingsRow.ifacesOut == Try.f5.resultTypes.toList.any (Try.prog.ifacesRec ·))) = true := by kernel_rfl
theorem j21 : ((Rows.genRingsRow.loopsOut == Try.f5.resultTypes.toList.any (Try.prog.loopsFrom ·))) = true := by kernel_rfl
theorem j22 : ((Rows.genRingsRow.plainKeys == Try.prog.plainKeys)) = true := by rw [show Rows.genRingsRow.plainKeys = Rows.genCountsRow.plainKeys by kernel_rfl]; exact factKeys
theorem j23 : (Rows.genRingsRow.shortTexts.isNone) = true := by kernel_rfl
theorem j26 : ((Rows.genRingsRow.lifted == Try.prog.liftsFinal)) = true := by rw [show Rows.genRingsRow.lifted = Rows.genCountsRow.lifted by kernel_rfl]; exact factLifts
theorem j27 : ((Try.prog.make == some Rows.genRingsRow.make)) = true := by rw [show Rows.genRingsRow.make = Rows.genCountsRow.make by kernel_rfl]; exact factMake
theorem j28 : ((Rows.genRingsRow.kinds == (if Rows.genRingsRow.domain.isEmpty then [] else Try.f5.params.toList.map fun t => match Try.prog.underlying t with | some (.int k) => some k | _ => none))) = true := by kernel_rfl
theorem j29 : ((Rows.genRingsRow.pinned == Rows.genRingsRow.pinnedBy)) = true := by kernel_rfl
theorem j30 : ((Rows.genRingsRow.veiled == (Try.f5.params.toList ++ Rows.genRingsSpec.plain.varTypes Try.prog ++ Try.f5.resultTypes.toList).any (Try.prog.veiledRec ·))) = true := by kernel_rfl
theorem j31 : (Rows.genRingsRow.veiledFits Try.prog Try.f5.params.toList (Try.f5.params.toList ++ Rows.genRingsSpec.plain.varTypes Try.prog ++ Try.f5.resultTypes.toList)) = true := by kernel_rfl
set_option maxRecDepth 100000 in
theorem closed : joinedFacts Try.checked.prog 5 Try.f5 Rows.genRingsSpec Rows.genRingsRow = true := by unfold joinedFacts; exact (band (band (band (band (band (band (band (band (band (band (band (band (band (band (band (band (band (band (band (band (band (band (band (band (band (band (band (band (band (band (band j0 factLaid) factMaps) j3) j4) j5) factStops) j7) factKnobs) j9) j10) j11) j12) j13) j14) j15) j16) j17) j18) j19) j20) j21) j22) j23) factHeard) factEnter) j26) j27) j28) j29) j30) j31)
theorem named : Try.checked.prog.funcNamed Rows.genRingsRow.func = some 5 := by kernel_rfl
theorem over : Rows.genRingsRow.holds Try.pinned (OpenSpec.ofChange Rows.genRingsSpec) :=
  OpenClaim.holds_of_wide 5 Try.f5 rfl rfl rfl rfl rfl rfl rfl ⟨rfl, rfl, rfl, rfl, rfl⟩ rfl rfl rfl rfl rfl named Try.func5 closed
    (of_decide_eq_true (by kernel_rfl)) (by unfold Func.isWrapper; first | (rw [if_pos (by decide +kernel)]; kernel_rfl) | (rw [if_neg (by decide +kernel)]; exact ⟨rfl, rfl⟩))
    (fun os started H enc _ => lifted os started H enc)
/-- The statement. -/
theorem proved : Rows.GenRingsSaid := over
end genRings
end Go.Proofs.Ythpnahapiodflaa
