/- Part 6 of what the claim CoiExtends needs: lemmas and contracts. No conditions. -/
import Derived.Test.YteidpnpbfagaeaaGreatRows
import Derived.Lib.SmallJoins
import Derived.KernelRfl
import Derived.WalkKit
import Derived.ProofKit
import Derived.Deep.Quiet
import Derived.Deep.LoopGhost
import Derived.StillTail
import Derived.Test.YteidpnpbfagaeaaGreatProg
import Derived.OpenShut
import Derived.ShutString
import Derived.ChangeOld
import Derived.Deep.Slices
import Derived.SizedLaws
import Derived.Laws.StructEq
import Derived.Laws.Externs
import Derived.MapKept
import Derived.Laws.CopyRow
import Derived.Laws.IdiomCopy
import Derived.Test.YteidpnpbfagaeaaGreatCoiExtendsP5
set_option linter.unusedVariables false
set_option linter.unusedSimpArgs false
set_option maxRecDepth 20000
set_option maxHeartbeats 32000000
namespace Go.Proofs.YteidpnpbfagaeaaGreat
open Go Go.Lt Go.RowKit

theorem ref17_Bad (gm : Nat) (c : Circ) (rn : RowV (Int × Int)) (ra : RowV Int) (a b : Option Addr) (ca cb : Nat) (s i : List Bool) (p : Int) (w : World) (hM : MAt w gm c rn ra) (Rs : Row 1 encB w a s) (Ri : Row 1 encB w b i) :
  Pure Tryz.prog 43 [.pointer (some ⟨gm, 0, none⟩), .slice a s.length ca, .slice b i.length cb, .int .i64 p] w (.bool (dec (BadP c.t s i p))) := by
 have hM' := hM
 obtain ⟨hcells, hC, Rn, Ra, en, ea, hg, hz⟩ := hM
 obtain ⟨y0, y1, y2, y3, y4, _⟩ := hcells
 have Rb := hC.bads.row
 have hbl := Rb.len
 by_cases q1 : 0 <= p
 ·by_cases q2 : p < c.bads.2.2.length
  ·obtain ⟨l, hl⟩ := getI c.bads.2.2 (show p.toNat < c.bads.2.2.length by omega)
   have e : dec (BadP c.t s i p) = litV c.t s i l := by
    cases hv : litV c.t s i l
    ·refine dFf fun h => ?_
     obtain ⟨_, l', h1, h2⟩ := h
     have : c.bads.2.2[p.toNat]? = some l' := h1
     rw [hl] at this; cases this
     rw [hv] at h2; cases h2
    ·exact dTt ⟨q1, l, hl, hv⟩
   refine Spec.of _ Tryz.func43 rfl Tryz.ntmps43 (by kernel_rfl) rfl ?_
   repeat' (first | (apply WL.nilc; (iterate 3 exact rfl)) | (apply WL.gT; exact rfl; exact rfl; (focus (first | exact dTt q1 | exact dTt q2; done))) | (apply WL.callP (f := 101); (iterate 4 exact rfl); exact ref17_Lit gm c rn ra _ _ _ _ s i l _ (hM'.ext extA) (Rs.ext extA) (Ri.ext extA) (used_bad (List.mem_of_getElem? hl)); intro w' hx) | (first | apply WL.nil | refine WL.au (k := ?_) | (apply WL.index tOk; (iterate 8 exact rfl); assumption; exact extA; exact rfl; omega; assumption; intro b off h; have hcc := h; first | (obtain ⟨h1, h2, h3, h4, h5, h6, _⟩ := h) | (obtain ⟨h1, h2, h3, _⟩ := h) | (obtain ⟨h1, h2, _⟩ := h) | (obtain ⟨h1, _⟩ := h))) | apply Z.tn | (first | apply W.seq | apply W.region | apply W.ret))
   exact Z.bd1 Tryz.results43 rfl fun m => ⟨by rw [e], Ext.at extA m⟩
  ·have e : dec (BadP c.t s i p) = false := dFf fun h => by
    obtain ⟨_, l', h1, h2⟩ := h
    have := lGt h1
    have : p.toNat < c.bads.2.2.length := this
    omega
   refine Spec.of _ Tryz.func43 rfl Tryz.ntmps43 (by kernel_rfl) rfl ?_
   repeat' (first | (apply WL.nilc; (iterate 3 exact rfl)) | (apply WL.gT; exact rfl; exact rfl; (focus (exact dTt q1))) | (apply WL.gF; exact rfl; exact rfl; exact dFf q2) | (first | apply WL.nil | refine WL.au (k := ?_) | (apply WL.gdF; exact rfl; exact rfl)) | apply Z.tn | (first | apply W.seq | apply W.region | apply W.ret))
   exact Z.bd1 Tryz.results43 rfl fun m => ⟨by rw [e], Ext.at extA m⟩
 ·have e : dec (BadP c.t s i p) = false := dFf fun h => q1 h.1
  refine Spec.of _ Tryz.func43 rfl Tryz.ntmps43 (by kernel_rfl) rfl ?_
  repeat' (first | (apply WL.gF; exact rfl; exact rfl; exact dFf q1) | (first | apply WL.nil | refine WL.au (k := ?_) | (apply WL.gdF; exact rfl; exact rfl)) | apply Z.tn | (first | apply W.seq | apply W.region | apply W.ret))
  exact Z.bd1 Tryz.results43 rfl fun m => ⟨by rw [e], Ext.at extA m⟩

theorem ref17_Holds (gm : Nat) (c : Circ) (rn : RowV (Int × Int)) (ra : RowV Int) (a b : Option Addr) (ca cb : Nat) (s i : List Bool) (w : World) (hM : MAt w gm c rn ra) (Rs : Row 1 encB w a s) (Ri : Row 1 encB w b i) :
  Pure Tryz.prog 42 [.pointer (some ⟨gm, 0, none⟩), .slice a s.length ca, .slice b i.length cb] w (.bool (dec (HoldsP c.t s i))) := by
 have hM' := hM
 obtain ⟨hcells, hC, Rn, Ra, en, ea, hg, hz⟩ := hM
 have Rc := hC.cons.row
 have hbl := Rc.len
 refine Spec.of _ Tryz.func42 rfl Tryz.ntmps42 (by kernel_rfl) rfl ?_
 repeat' (first | (first | apply WL.nil | refine WL.au (k := ?_)) | apply Z.tn | (first | apply W.seq | apply W.region | apply W.block))
 refine W.loopW c.cons.2.2.length (fun k w' => k <= c.cons.2.2.length /\ Ext w w' /\ ∀ (j : Nat) l, j < k -> c.cons.2.2[j]? = some l -> litV c.t s i l = true) (fun k => [(0, .pointer (some ⟨gm, 0, none⟩)), (1, .slice a s.length ca), (2, .slice b i.length cb), (7, .int .i64 k)]) ⟨Nat.zero_le _, Ext.refl _, fun j l h => by omega⟩ (fun k w' h => h.1) ⟨rfl, rfl, rfl, rfl, trivial⟩ ?_
 rintro k w1 ⟨hk, hx1, hall⟩
 have hc1 := hcells.ext hx1
 obtain ⟨y0, y1, y2, y3, y4, y5, _⟩ := hc1
 have Rc1 := Rc.ext hx1
 by_cases hlt : k < c.cons.2.2.length
 ·obtain ⟨l, hl⟩ := getI c.cons.2.2 hlt
  have hu : l ∈ c.t.used := used_con (List.mem_of_getElem? hl)
  have hr := fun (w9 : World) (h9 : Ext w w9) => ref17_Lit gm c rn ra a b ca cb s i l w9 (hM'.ext h9) (Rs.ext h9) (Ri.ext h9) hu
  cases hv : litV c.t s i l <;> rw [hv] at hr
  ·have e : dec (HoldsP c.t s i) = false := dFf fun h => by have := h l (List.mem_of_getElem? hl); rw [hv] at this; cases this
   repeat' (first | (apply WL.nilc; (iterate 3 exact rfl)) | (apply W.cKT; exact rfl; exact dTt (by omega)) | (apply WL.callP (f := 101); (iterate 4 exact rfl); exact hr _ extA; intro w' hx) | (first | apply WL.nil | refine WL.au (k := ?_) | (apply WL.index tOk; (iterate 8 exact rfl); assumption; exact extA; exact rfl; omega; assumption; intro b off h; have hcc := h; first | (obtain ⟨h1, h2, h3, h4, h5, h6, _⟩ := h) | (obtain ⟨h1, h2, h3, _⟩ := h) | (obtain ⟨h1, h2, _⟩ := h) | (obtain ⟨h1, _⟩ := h))) | (first | apply Z.tn | apply Z.tnr | apply Z.bkr) | (first | apply W.seq | apply W.region | apply W.block | apply W.skip | apply W.ret | (apply W.condT; exact rfl)))
   exact Z.bd1 Tryz.results42 rfl fun m => ⟨by rw [e], Ext.at extA m⟩
  ·repeat' (first | (apply WL.nilc; (iterate 3 exact rfl)) | (apply W.cKT; exact rfl; exact dTt (by omega)) | (apply WL.callP (f := 101); (iterate 4 exact rfl); exact hr _ extA; intro w' hx) | (first | apply WL.nil | refine WL.au (k := ?_) | (apply WL.index tOk; (iterate 8 exact rfl); assumption; exact extA; exact rfl; omega; assumption; intro b off h; have hcc := h; first | (obtain ⟨h1, h2, h3, h4, h5, h6, _⟩ := h) | (obtain ⟨h1, h2, h3, _⟩ := h) | (obtain ⟨h1, h2, _⟩ := h) | (obtain ⟨h1, _⟩ := h))) | (first | apply Z.tn | apply Z.bkn) | (first | apply W.seq | apply W.region | apply W.block | apply W.skip | (apply W.condF; exact rfl)))
   refine Z.agW ⟨by omega, extA, fun j l' hj h1 => ?_⟩ ⟨rfl, rfl, rfl, rfl, trivial⟩
   by_cases hjk : j = k
   ·subst hjk; rw [hl] at h1; cases h1; exact hv
   ·exact hall j l' (by omega) h1
 ·obtain rfl : k = c.cons.2.2.length := by omega
  have e : dec (HoldsP c.t s i) = true := dTt fun l h => by
   obtain ⟨j, hj⟩ := List.mem_iff_getElem?.1 h
   exact hall j l (lGt hj) hj
  repeat' (first | (apply WL.nilc; (iterate 3 exact rfl)) | (apply W.cKF; exact rfl; exact dFf (by omega)) | (first | apply WL.nil | refine WL.au (k := ?_)) | (first | apply Z.tn | apply Z.tnx | apply Z.bkx) | (first | apply W.seq | apply W.region | apply W.ret | apply W.exit))
  exact Z.bd1 Tryz.results42 rfl fun m => ⟨by rw [e], Ext.at extA m⟩

theorem ref17_New (c : Circ) (w : World) (hC : CAt w c) (hg : GoodC' c.t) (hz : SzC c.t 100000) :
  Lt.Spec Tryz.prog 13 [c.val] w (fun v w' => Ext w w' /\ ∃ gm rn ra, v = .pointer (some ⟨gm, 0, none⟩) /\ MAt w' gm c rn ra /\ w.heap.size <= gm) := by
 refine Spec.of _ Tryz.func13 rfl Tryz.ntmps13 (by kernel_rfl) rfl ?_
 repeat' (first | (apply WL.box; (iterate 3 exact rfl); intro gb w' hb hge hc hx; have hcc := hc; obtain ⟨h1, h2, h3, _⟩ := hc; (first | (have h_0 := hcells; clear h_0) | (have hcells := hcc; obtain ⟨gc, rfl⟩ : ∃ x, x = gb := ⟨_, rfl⟩; obtain ⟨wc, rfl⟩ : ∃ x, x = w' := ⟨_, rfl⟩; obtain ⟨hxc, rfl⟩ : ∃ x, x = hx := ⟨_, rfl⟩))) | (apply WL.call (f := 39); (iterate 4 exact rfl); exact ref11_Net c _ (hC.ext extA) hg hz; rintro v' w7 ⟨hx7, am, cm, ab, cb, rfl, hOm, hOb⟩; have hcells7 := hcells.ext hx7; have Rm := hOm.row encN_ok; have Rb := hOb.row eIk) | (apply WL.build tOk; (iterate 7 exact rfl); kernel_rfl) | (first | apply WL.nil | refine WL.au (k := ?_)) | apply Z.tn | (first | apply W.seq | apply W.region | apply W.ret))
 have hcm : Cells w' gb 0 (c.vals ++ [.slice am (cNet c.t).1.length cm, .slice ab (cNet c.t).2.length cb]) := hcc
 exact Z.bd1 Tryz.results13 rfl fun m => ⟨Ext.at extA m, gb, (am, cm, (cNet c.t).1), (ab, cb, (cNet c.t).2), rfl, (MAt.mk hcm (hC.ext extA) (Rm.ext extA) (Rb.ext extA) rfl rfl hg hz : MAt w' gb c (am, cm, (cNet c.t).1) (ab, cb, (cNet c.t).2)).ext ((Ext.refl _).at m), Nat.le_trans (Below.size (show Ext w w7 from extA)) hge⟩

abbrev encRB : RowV Bool -> List Value := encRow
theorem encRB_ok : Enc 1 encRB := encRow_ok
structure RunV where
 st : RowV Bool
 ins : RowV (RowV Bool)
abbrev RunV.val (r : RunV) : Value := .agg #[rowVal r.st, rowVal r.ins]
abbrev RunV.s (r : RunV) : List Bool := r.st.2.2
abbrev RunV.i (r : RunV) : List (List Bool) := r.ins.2.2.map (·.2.2)
structure RAt (w : World) (r : RunV) : Prop where
 st : Row 1 encB w r.st.1 r.st.2.2
 ins : Row 1 encRB w r.ins.1 r.ins.2.2
 each : ∀ x ∈ r.ins.2.2, Row 1 encB w x.1 x.2.2
theorem RAt.ext {w w' : World} {r : RunV} (h : RAt w r) (hx : Ext w w') : RAt w' r := ⟨h.st.ext hx, h.ins.ext hx, fun x h1 => (h.each x h1).ext hx⟩

def IsRunV (w : World) (q : List Bool × List (List Bool)) (v : Value) (w' : World) : Prop := Ext w w' /\ ∃ r : RunV, v = r.val /\ RAt w' r /\ r.s = q.1 /\ r.i = q.2

theorem Sep.oldU {B B' g : Nat} {w w' : World} {ps : List Piece} (hS : Lt.Sep B w ps) (hU : Upd B' (some ⟨g, 0, none⟩) w w') (hg : g < B) : Lt.Sep B w' ps :=
 ⟨fun i p h => ⟨p.keep (hS.holds i p h).1 (fun k hk => hU.grown.block k ((hS.holds i p h).2 k hk).2 (fun he => by
  have h1 := ((hS.holds i p h).2 k hk).1
  simp only [blk, Option.map_some, Option.some.injEq] at he
  omega)), fun k hk => ⟨((hS.holds i p h).2 k hk).1, Nat.lt_of_lt_of_le ((hS.holds i p h).2 k hk).2 hU.grown.size⟩⟩, hS.apart⟩

theorem take_eqB {A B : List Bool} {k : Nat} {x y : Bool} (h : A.take k = B.take k) (hx : A[k]? = some x) (hy : B[k]? = some y) (he : x = y) : A.take (k + 1) = B.take (k + 1) := by
 rw [tkS hx, tkS hy, h, he]
theorem ref01_Same (a b : Option Addr) (ca cb : Nat) (A B : List Bool) (w : World) (RA : Row 1 encB w a A) (RB : Row 1 encB w b B) :
  Still Tryz.prog 32 [.slice a A.length ca, .slice b B.length cb] w (.bool (dec (A = B))) := by
 have hlA := RA.len
 have hlB := RB.len
 by_cases hl : A.length = B.length
 rotate_left
 ·rw [dFf (fun h => hl (by rw [h]))]
  refine Spec.of _ Tryz.func32 rfl Tryz.ntmps32 (by kernel_rfl) rfl ?_
  repeat' (first | (apply W.cKT; exact rfl; exact dTt (by omega)) | (first | apply WL.nil | refine WL.au (k := ?_)) | (first | apply Z.tn | apply Z.tnr) | (first | apply W.seq | apply W.region | apply W.ret))
  exact Z.bd1 Tryz.results32 rfl fun m => ⟨rfl, m, rfl⟩
 refine Spec.of _ Tryz.func32 rfl Tryz.ntmps32 (by kernel_rfl) rfl ?_
 repeat' (first | (apply W.cKF; exact rfl; exact dFf (by omega)) | (first | apply WL.nil | refine WL.au (k := ?_)) | apply Z.tn | (first | apply W.seq | apply W.region | apply W.block | apply W.skip))
 refine W.loop1 A.length (fun k => k <= A.length /\ A.take k = B.take k) (fun k => [(0, .slice a A.length ca), (1, .slice b B.length cb), (5, .int .i64 k)]) ⟨Nat.zero_le _, rfl⟩ (fun k h => h.1) ⟨rfl, rfl, rfl, trivial⟩ ?_
 rintro k ⟨hk, hT⟩
 by_cases hlt : k < A.length
 ·obtain ⟨x, hx⟩ := getI A hlt
  obtain ⟨y, hy⟩ := getI B (show k < B.length by omega)
  by_cases he : x = y
  ·subst he
   repeat' (first | (apply W.cKT; exact rfl; (focus (exact dTt (by omega)))) | (apply W.cKF; exact rfl; exact dFf (fun h => h rfl)) | (first | apply WL.nil | refine WL.au (k := ?_)) | (first | apply QL.nil | refine QL.au (k := ?_) | (apply QL.index tOk; (iterate 8 exact rfl); assumption; exact extA; exact rfl; omega; assumption; intro b off h; have hcc := h; first | (obtain ⟨h1, h2, h3, h4, h5, h6, _⟩ := h) | (obtain ⟨h1, h2, h3, _⟩ := h) | (obtain ⟨h1, h2, _⟩ := h) | (obtain ⟨h1, _⟩ := h))) | (first | apply Z.tn | apply Z.bkn) | (first | apply W.seq | apply W.region | apply W.block | apply W.skip | (apply W.rgD tMix; kernel_rfl)))
   exact Z.again1 ⟨by omega, take_eqB hT hx hy rfl⟩ ⟨rfl, rfl, rfl, trivial⟩
  ·rw [dFf (fun h => he (by rw [h] at hx; rw [hx] at hy; exact Option.some.inj hy))]
   repeat' (first | (apply W.cKT; exact rfl; (focus (exact dTt (by omega)))) | (first | apply WL.nil | refine WL.au (k := ?_)) | (first | apply QL.nil | refine QL.au (k := ?_) | (apply QL.index tOk; (iterate 8 exact rfl); assumption; exact extA; exact rfl; omega; assumption; intro b off h; have hcc := h; first | (obtain ⟨h1, h2, h3, h4, h5, h6, _⟩ := h) | (obtain ⟨h1, h2, h3, _⟩ := h) | (obtain ⟨h1, h2, _⟩ := h) | (obtain ⟨h1, _⟩ := h))) | (first | apply Z.tn | apply Z.tnr | apply Z.bkr) | (first | apply W.seq | apply W.region | apply W.block | apply W.skip | apply W.ret | (apply W.rgD tMix; kernel_rfl)))
   exact Z.bd1 Tryz.results32 rfl fun m => ⟨rfl, m, rfl⟩
 ·obtain rfl : k = A.length := by omega
  have hAB : A = B := by rw [List.take_length] at hT; rw [hT, hl, List.take_length]
  rw [dTt hAB]
  repeat' (first | (apply W.cKF; exact rfl; exact dFf (by omega)) | (first | apply WL.nil | refine WL.au (k := ?_)) | (first | apply Z.tn | apply Z.tnx | apply Z.bkx) | (first | apply W.seq | apply W.region | apply W.ret | apply W.exit))
  exact Z.bd1 Tryz.results32 rfl fun m => ⟨rfl, m, rfl⟩
abbrev witV (r : RunV) : Value := .agg #[.int .i64 0, .int .i64 0, rowVal r.st, rowVal r.ins]

theorem runI_get {r : RunV} {k : Nat} {x : RowV Bool} (h : r.ins.2.2[k]? = some x) : r.i[k]? = some x.2.2 := by
 show (r.ins.2.2.map (·.2.2))[k]? = _
 rw [List.getElem?_map, h]; rfl
theorem runI_len (r : RunV) : r.i.length = r.ins.2.2.length := List.length_map _
theorem range_map_succ {α : Type} (f : Nat -> α) (k : Nat) : (List.range (k + 1)).map f = (List.range k).map f ++ [f k] := by rw [List.range_succ, List.map_append]; rfl
theorem ref17_States (gm : Nat) (c : Circ) (rn : RowV (Int × Int)) (ra : RowV Int) (r : RunV) (w : World) (hM : MAt w gm c rn ra) (hR : RAt w r) (hn : r.ins.2.2.length <= 1048576) :
  Lt.Spec Tryz.prog 41 [.pointer (some ⟨gm, 0, none⟩), r.val] w (IsFreshRR 1 encB 4 28 w (statesV c.t r.s r.i)) := by
 have hM' := hM
 obtain ⟨hcells, hC, Rn, Ra, en, ea, hg, hz⟩ := hM
 have k2 : c.lat.2.2.length <= 100000 := hz.2.1
 refine Spec.of _ Tryz.func41 rfl Tryz.ntmps41 (by kernel_rfl) rfl ?_
 repeat' (first | (apply WL.box; (iterate 3 exact rfl); intro gr wr hb hge hc hxr; have hcc := hc; obtain ⟨h1, h2, h3, _⟩ := hc) | (first | apply WL.nil | refine WL.au (k := ?_)) | apply Z.tn | (first | apply W.seq | apply W.region))
 have hcr := hcells.ext hxr
 obtain ⟨y0, y1, y2, _⟩ := hcr
 repeat' (first | (apply FL.nilc; (iterate 3 exact rfl)) | (show W _ _ (.region 1 _ _) _ _ _; apply W.regionGX (.fl true 1 (.fl true 3 (.fl true 4 (.fl true 5 (.fl true 6 (.fl false 2 (.fl false 7 (.fl true 8 (.br 0 (.br 9 (.fl true 10 (.fl true 11 .done)) .stop) (.br 9 (.br 0 (.fl true 10 (.fl true 11 .done)) .stop) .stop)))))))))) [0, 7, 8, 9, 10] tMix; kernel_rfl) | (apply WL.lit (len := 0) tOk; (iterate 6 exact rfl); kernel_rfl; exact rfl; intro g8 w' hb hge hc hx; have hO0 := Own.ofB0 (enc := encRB) (s := 1) hb hge) | (apply WL.call (f := 99); (iterate 4 exact rfl); exact ref17_Brought _ _ r.s c.lat.2.2.length _ (hR.st.ext extA) (by omega); rintro v' w' ⟨hx, a', cap', rfl, hO⟩) | (first | (apply SX.done; intro w' hx) | (apply SX.fl0; exact rfl) | (apply SX.fl1; exact rfl; exact extA) | (apply SX.br1; exact rfl; intro w' hx) | (apply SX.br; exact rfl; (intro w' hx))) | (first | apply FL.nilX | (apply FL.loadE tOk; (iterate 5 exact rfl); assumption)) | refine FL.au (k := ?_) | (apply Z.sxE; exact extA) | (first | apply WL.nil | refine WL.au (k := ?_)) | apply Z.tn | (first | apply W.seq | apply W.region | apply W.block))
 all_goals
  have hXr : Ext wr w' := extA
  have h0 : RR1 1 encB 4 28 wr.heap.size w' (some ⟨g8, 0, none⟩) 0 [] a' cap' (brV r.s c.lat.2.2.length) := by
   refine RR1.first (Own.base (Own.ext hO extA) (Below.size extA)) (Own.base (Own.ext hO0 extA) (Below.size extA)) fun k hk => ?_
   first
   | exact Nat.ne_of_gt (Nat.lt_of_lt_of_le (Nat.lt_of_lt_of_le (heap_lt hb) (Below.size extA)) (hO.blk_lt k hk).1)
   | exact Nat.ne_of_lt (Nat.lt_of_lt_of_le (Nat.lt_of_lt_of_le (hO.blk_lt k hk).2 (Below.size extA)) hge)
  have hXw : Ext w w' := hxr.trans hXr
  obtain ⟨b0, rfl⟩ : ∃ x, x = a' := ⟨_, rfl⟩; obtain ⟨d0, rfl⟩ : ∃ x, x = cap' := ⟨_, rfl⟩; obtain ⟨w1, rfl⟩ : ∃ x, x = w' := ⟨_, rfl⟩
  clear hO hO0
  refine W.loopO2 r.ins.2.2.length (fun k a cp b dp w' => k <= r.ins.2.2.length /\ Ext wr w' /\ ∃ rs : List (RowV Bool), rs.length = k /\ rs.map (fun q => q.2.2) = (List.range k).map (stateV c.t r.s r.i) /\ RR1 1 encB 4 28 wr.heap.size w' a cp rs b dp (stateV c.t r.s r.i k))
   (fun k a cp b dp => [(0, .pointer (some ⟨gm, 0, none⟩)), (3, .pointer (some ⟨gr, 0, none⟩)), (5, .slice a k cp), (6, .slice b (stateV c.t r.s r.i k).length dp), (7, .int .i64 k)]) (some ⟨g8, 0, none⟩) 0 b0 d0 ⟨Nat.zero_le _, hXr, [], rfl, rfl, h0⟩ (fun k a cp b dp w' h => h.1) ⟨rfl, rfl, rfl, rfl, rfl, trivial⟩ ?_
  clear h0
  rintro k a cp b dp w2 ⟨hk, hX2, rs, hl, he, hR1⟩
  have hsl := stateV_len c.t r.s r.i k
  have hsl' : (stateV c.t r.s r.i k).length = c.lat.2.2.length := hsl
  have hcc2 := hcc.ext hX2
  obtain ⟨k1, k3, _⟩ := hcc2
  have hRi := hR.ins
  have hXw2 : Ext w w2 := hxr.trans hX2
  by_cases hlt : k < r.ins.2.2.length
  ·obtain ⟨x, hx⟩ := getI r.ins.2.2 hlt
   have hxi := runI_get hx
   have hxr2 := hR.each x (List.mem_of_getElem? hx)
   have e1 : stateV c.t r.s r.i (k + 1) = nextV c.t (stateV c.t r.s r.i k) x.2.2 := by
    show nextV c.t _ (r.i.getD k []) = _; rw [gDo hxi]
   have hOo : Own 1 encRB 28 wr.heap.size w2 a cp rs := hR1.rr.outer
   have RSt := hR1.own.row eBk
   repeat' (first | (apply W.cKT; exact rfl; exact dTt (by omega)) | (apply WL.lit tOk; (iterate 6 exact rfl); kernel_rfl; exact rfl; intro gb w' hb hge hc hx) | (apply WL.ap1 (z := (((b, dp, stateV c.t r.s r.i k) : RowV Bool))) tOk encRB_ok; (iterate 10 exact rfl); assumption; exact extA; ((focus (simp [*]; done))); assumption; exact rfl; exact rfl; exact extA; omega; intro a' cap' w' hO hX' hU hF) | (first | apply WL.nil | refine WL.au (k := ?_)) | apply Z.tn | (first | apply W.seq | apply W.region | apply W.block | apply W.skip))
   have hXn : Ext wr w' := hX'
   have hR2 := (hR1.ext hx).push hU hO hF
   have hl2 : (rs ++ [((b, dp, stateV c.t r.s r.i k) : RowV Bool)]).length = k + 1 := by rw [List.length_append, hl]; rfl
   have he2 : (rs ++ [((b, dp, stateV c.t r.s r.i k) : RowV Bool)]).map (fun q => q.2.2) = (List.range (k + 1)).map (stateV c.t r.s r.i) := by rw [List.map_append, he, range_map_succ]; rfl
   have hget : (rs ++ [((b, dp, stateV c.t r.s r.i k) : RowV Bool)])[k]? = some (b, dp, stateV c.t r.s r.i k) := by rw [List.getElem?_append_right (by omega), hl]; simp
   have RSt2 : Row 1 encB w' b (stateV c.t r.s r.i k) := hR2.row eBk hget
   obtain ⟨k4, k5, _⟩ := hcc.ext hXn
   clear hOo RSt hO hU hF
   obtain ⟨w3, rfl⟩ : ∃ x, x = w' := ⟨_, rfl⟩; obtain ⟨a3, rfl⟩ : ∃ x, x = a' := ⟨_, rfl⟩; obtain ⟨c3, rfl⟩ : ∃ x, x = cap' := ⟨_, rfl⟩
   have hM3 := hM'.ext (hxr.trans hXn)
   have hRi3 := hRi.ext (hxr.trans hXn)
   have hxr3 := hxr2.ext (hxr.trans hXn)
   repeat' (first | (apply WL.call (f := 100); (iterate 4 exact rfl); exact ref17_Next gm c rn ra _ _ _ _ (stateV c.t r.s r.i k) x.2.2 _ (hM3.ext extA) (RSt2.ext extA) (hxr3.ext extA); rintro v' w' ⟨hx, a', cap', rfl, hO⟩) | (first | apply WL.nil | refine WL.au (k := ?_) | (apply WL.index tOk; (iterate 8 exact rfl); assumption; exact extA; exact rfl; omega; assumption; intro b off h; have hcc := h; first | (obtain ⟨h1, h2, h3, h4, h5, h6, _⟩ := h) | (obtain ⟨h1, h2, h3, _⟩ := h) | (obtain ⟨h1, h2, _⟩ := h) | (obtain ⟨h1, _⟩ := h))) | (first | apply Z.tn | apply Z.bkn) | apply W.region)
   rw [<- e1] at hO ⊢
   exact Z.againO2 a3 c3 a' cap' ⟨by omega, hXn.trans extA, _, hl2, he2, RR1.new hR2 extA hO (Below.size hXn)⟩ ⟨rfl, rfl, congrArg (fun z => some (Value.slice a3 z c3)) hl2, rfl, rfl, trivial⟩
  ·obtain rfl : k = r.ins.2.2.length := by omega
   repeat' (first | (apply W.cKF; exact rfl; exact dFf (by omega)) | (first | apply WL.nil | refine WL.au (k := ?_)) | (first | apply Z.tn | apply Z.tnx | apply Z.bkx) | (first | apply W.seq | apply W.region | apply W.ret | apply W.exit))
   have he' : rs.map (fun q => q.2.2) = statesV c.t r.s r.i := by rw [he]; unfold statesV; rw [runI_len]
   refine Z.bd1 Tryz.results41 rfl fun m => ⟨hXw2.at m, a, cp, rs, by rw [hl], (hR1.rr.base (Below.size hxr)).at m, he'⟩

theorem statesV_i (c : CirT) (r : RunV) {k : Nat} {rs : List (RowV Bool)} (h : rs.map (fun q => q.2.2) = statesV c r.s r.i) (hk : k < r.ins.2.2.length) : ∃ q, rs[k]? = some q /\ q.2.2 = stateV c r.s r.i k := by
 have h1 : (rs.map (fun q => q.2.2))[k]? = some (stateV c r.s r.i k) := by rw [h]; exact statesV_get c r.s r.i (by rw [runI_len]; exact hk)
 rw [List.getElem?_map] at h1
 obtain ⟨q, hq, he⟩ := Option.map_eq_some_iff.1 h1
 exact ⟨q, hq, he⟩
theorem ref17_Breaks (gm : Nat) (c : Circ) (rn : RowV (Int × Int)) (ra : RowV Int) (r : RunV) (p : Int) (w : World) (hM : MAt w gm c rn ra) (hR : RAt w r) (hn : r.ins.2.2.length <= 1048576) :
  Pure Tryz.prog 14 [.pointer (some ⟨gm, 0, none⟩), r.val, .int .i64 p] w (.bool (dec (BreaksP c.t r.s r.i p))) := by
 have hM' := hM
 obtain ⟨hcells, hC, Rn, Ra, en, ea, hg, hz⟩ := hM
 have hil := runI_len r
 by_cases q1 : StartsP c.t r.s
 rotate_left
 ·have e : dec (BreaksP c.t r.s r.i p) = false := dFf fun h => q1 h.1
  refine Spec.of _ Tryz.func14 rfl Tryz.ntmps14 (by kernel_rfl) rfl ?_
  repeat' (first | (apply WL.box; (iterate 3 exact rfl); intro gb w' hb hge hc hx; have hcc := hc; obtain ⟨h1, h2, h3, _⟩ := hc) | (apply WL.gT; exact rfl; exact rfl; (focus ((rw [dFf q1]; rfl); done))) | (apply WL.callS (f := 40); (iterate 4 exact rfl); exact ref17_Starts gm c rn ra _ _ r.s _ (hM'.ext extA) (hR.st.ext extA)) | (first | apply WL.nil | refine WL.au (k := ?_) | (apply WL.gdF; exact rfl; exact rfl)) | (first | apply Z.tn | apply Z.tnr) | (first | apply W.seq | apply W.region | apply W.ret | (apply W.condT; exact rfl)))
  exact Z.bd1 Tryz.results14 rfl fun m => ⟨by rw [e], Ext.at extA m⟩
 by_cases q2 : r.ins.2.2.length = 0
 ·have e : dec (BreaksP c.t r.s r.i p) = false := dFf fun h => h.2.1 (List.eq_nil_of_length_eq_zero (by rw [hil]; exact q2))
  refine Spec.of _ Tryz.func14 rfl Tryz.ntmps14 (by kernel_rfl) rfl ?_
  repeat' (first | (apply WL.box; (iterate 3 exact rfl); intro gb w' hb hge hc hx; have hcc := hc; obtain ⟨h1, h2, h3, _⟩ := hc) | (apply WL.gF; exact rfl; exact rfl; (focus ((rw [dTt q1]; rfl)))) | (apply W.cKT; exact rfl; exact dTt (by omega)) | (apply WL.callS (f := 40); (iterate 4 exact rfl); exact ref17_Starts gm c rn ra _ _ r.s _ (hM'.ext extA) (hR.st.ext extA)) | (first | apply WL.nil | refine WL.au (k := ?_)) | (first | apply Z.tn | apply Z.tnr) | (first | apply W.seq | apply W.region | apply W.ret))
  exact Z.bd1 Tryz.results14 rfl fun m => ⟨by rw [e], Ext.at extA m⟩
 refine Spec.of _ Tryz.func14 rfl Tryz.ntmps14 (by kernel_rfl) rfl ?_
 repeat' (first | (show W _ _ (.region 3 _ _) _ _ _; apply W.regionGX (.fl true 0 (.fl true 3 (.fl false 1 (.fl false 4 (.fl true 5 (.fl true 6 (.br 2 (.fl true 7 (.fl true 8 .done)) .stop))))))) [2, 4, 5, 6, 7] tMix; kernel_rfl) | (apply WL.box; (iterate 3 exact rfl); intro gr wr hb hge hc hxr; have hcc := hc; obtain ⟨h1, h2, h3, _⟩ := hc) | (apply WL.gF; exact rfl; exact rfl; (focus ((rw [dTt q1]; rfl)))) | (apply W.cKF; exact rfl; exact dFf (by omega)) | (apply WL.callS (f := 40); (iterate 4 exact rfl); exact ref17_Starts gm c rn ra _ _ r.s _ (hM'.ext extA) (hR.st.ext extA)) | (apply WL.call (f := 41); (iterate 4 exact rfl); exact ref17_States gm c rn ra r _ (hM'.ext extA) (hR.ext extA) hn; rintro v' w3 ⟨hx3, a3, c3, rs, rfl, hRR, he⟩) | (first | (apply SX.done; intro w' hx) | (apply SX.fl0; exact rfl) | (apply SX.fl1; exact rfl; exact extA) | (apply SX.br1; exact rfl; intro w' hx)) | (first | apply FL.nilX | (apply FL.loadE tOk; (iterate 5 exact rfl); assumption) | (apply FL.loadAE tOk; (iterate 5 exact rfl); assumption; exact rfl)) | refine FL.au (k := ?_) | (apply Z.sxE; exact extA) | (first | apply WL.nil | refine WL.au (k := ?_)) | apply Z.tn | (first | apply W.seq | apply W.region | apply W.block | apply W.skip))
 have hX3 : Ext wr w' := extA
 have hRR' : OwnRR 1 encB 4 28 _ w' a3 c3 rs := hRR.ext extA
 clear hRR
 obtain ⟨w4, rfl⟩ : ∃ x, x = w' := ⟨_, rfl⟩
 have hrl : rs.length = r.ins.2.2.length := by have := congrArg List.length he; rw [List.length_map, statesV_len, hil] at this; exact this
 have Rrs : Row 1 encRB w4 a3 rs := hRR'.outer.row encRB_ok
 have hcc4 := hcc.ext hX3
 have hX0 : Ext w w4 := hxr.trans hX3
 have hM4 := hM'.ext hX0
 have hR4 := hR.ext hX0
 have hc4 := hcells.ext hX0
 have hnn : (r.ins.2.2.length : Int) - 1 = ((r.ins.2.2.length - 1 : Nat) : Int) := by omega
 refine W.loopW r.ins.2.2.length (fun k w' => k <= r.ins.2.2.length /\ Ext w4 w' /\ GoesP c.t r.s r.i k) (fun k => [(0, .pointer (some ⟨gm, 0, none⟩)), (2, .int .i64 p), (4, .pointer (some ⟨gr, 0, none⟩)), (7, .slice a3 rs.length c3), (8, .int .i64 ((r.ins.2.2.length : Int) - 1)), (9, .int .i64 k)]) ⟨Nat.zero_le _, Ext.refl _, fun j i h => by omega⟩ (fun k w' h => h.1) ⟨rfl, rfl, rfl, rfl, rfl, rfl, trivial⟩ ?_
 rintro k w5 ⟨hk, hX5, hgo⟩
 obtain ⟨k1, k3, _⟩ := hcc4.ext hX5
 obtain ⟨y0, y1, y2, _⟩ := hc4.ext hX5
 have Rrs5 := Rrs.ext hX5
 have hRi5 := hR4.ins.ext hX5
 by_cases hlt : k < r.ins.2.2.length
 ·obtain ⟨x, hx⟩ := getI r.ins.2.2 hlt
  have hxi := runI_get hx
  have hxr := hR4.each x (List.mem_of_getElem? hx)
  obtain ⟨q, hq, hqe⟩ := statesV_i c.t r he hlt
  have Rq := hRR'.row eBk hq
  have hh := fun (w9 : World) (h9 : Ext w4 w9) => ref17_Holds gm c rn ra q.1 x.1 q.2.1 x.2.1 q.2.2 x.2.2 w9 (hM4.ext h9) (Rq.ext h9) (hxr.ext h9)
  have hx5 := fun (w9 : World) (h9 : Ext w5 w9) => hh w9 (hX5.trans h9)
  by_cases u1 : x.2.2.length = c.ins.2.2.length
  ·by_cases u2 : HoldsP c.t q.2.2 x.2.2
   ·have hstep : GoesP c.t r.s r.i (k + 1) := fun j i hj hi => by
     by_cases hjk : j = k
     ·subst hjk; rw [hxi] at hi; cases hi; exact ⟨u1, hqe ▸ u2⟩
     ·exact hgo j i (by omega) hi
    rw [dTt u2] at hx5
    repeat' (first | (apply QL.nilc; (iterate 3 exact rfl)) | (apply QL.gF; exact rfl; exact rfl; exact dFf (by omega)) | (apply W.cKT; exact rfl; (focus (exact dTt (by omega)))) | (apply QL.callP; (iterate 4 exact rfl); exact hx5) | (first | apply WL.nil | refine WL.au (k := ?_)) | (first | (apply QL.nilX; intro w' hx) | refine QL.au (k := ?_) | (apply QL.index tOk; (iterate 8 exact rfl); assumption; exact extA; exact rfl; omega; assumption; intro b off h; have hcc := h; first | (obtain ⟨h1, h2, h3, h4, h5, h6, _⟩ := h) | (obtain ⟨h1, h2, h3, _⟩ := h) | (obtain ⟨h1, h2, _⟩ := h) | (obtain ⟨h1, _⟩ := h))) | (first | apply Z.tn | apply Z.bkn) | (first | apply W.seq | apply W.region | apply W.block | apply W.skip | (apply W.condF; exact rfl) | (apply W.regionX tMix; kernel_rfl)))
    exact Z.agW ⟨by omega, extA, hstep⟩ ⟨rfl, rfl, rfl, rfl, rfl, rfl, trivial⟩
   ·have e : dec (BreaksP c.t r.s r.i p) = false := dFf fun h => u2 (by have := (h.2.2.1 k x.2.2 (by rw [hil]; exact hlt) hxi).2; rw [hqe]; exact this)
    rw [dFf u2] at hx5
    repeat' (first | (apply QL.nilc; (iterate 3 exact rfl)) | (apply QL.gF; exact rfl; exact rfl; exact dFf (by omega)) | (apply W.cKT; exact rfl; (focus (exact dTt (by omega)))) | (apply QL.callP; (iterate 4 exact rfl); exact hx5) | (first | apply WL.nil | refine WL.au (k := ?_)) | (first | (apply QL.nilX; intro w' hx) | refine QL.au (k := ?_) | (apply QL.index tOk; (iterate 8 exact rfl); assumption; exact extA; exact rfl; omega; assumption; intro b off h; have hcc := h; first | (obtain ⟨h1, h2, h3, h4, h5, h6, _⟩ := h) | (obtain ⟨h1, h2, h3, _⟩ := h) | (obtain ⟨h1, h2, _⟩ := h) | (obtain ⟨h1, _⟩ := h))) | (first | apply Z.tn | apply Z.tnr | apply Z.bkr) | (first | apply W.seq | apply W.region | apply W.block | apply W.skip | apply W.ret | (apply W.condT; exact rfl) | (apply W.regionX tMix; kernel_rfl)))
    exact Z.bd1 Tryz.results14 rfl fun m => ⟨by rw [e], Ext.at extA m⟩
  ·have e : dec (BreaksP c.t r.s r.i p) = false := dFf fun h => u1 (h.2.2.1 k x.2.2 (by rw [hil]; exact hlt) hxi).1
   repeat' (first | (apply QL.nilc; (iterate 3 exact rfl)) | (apply QL.gT; exact rfl; exact rfl; (focus (exact dTt (by omega)))) | (apply W.cKT; exact rfl; (focus (exact dTt (by omega)))) | (first | apply WL.nil | refine WL.au (k := ?_)) | (first | (apply QL.nilX; intro w' hx) | refine QL.au (k := ?_) | (apply QL.index tOk; (iterate 8 exact rfl); assumption; exact extA; exact rfl; omega; assumption; intro b off h; have hcc := h; first | (obtain ⟨h1, h2, h3, h4, h5, h6, _⟩ := h) | (obtain ⟨h1, h2, h3, _⟩ := h) | (obtain ⟨h1, h2, _⟩ := h) | (obtain ⟨h1, _⟩ := h)) | (apply QL.gdF; exact rfl; exact rfl)) | (first | apply Z.tn | apply Z.tnr | apply Z.bkr) | (first | apply W.seq | apply W.region | apply W.block | apply W.skip | apply W.ret | (apply W.condT; exact rfl) | (apply W.regionX tMix; kernel_rfl)))
   exact Z.bd1 Tryz.results14 rfl fun m => ⟨by rw [e], Ext.at extA m⟩
 ·obtain rfl : k = r.ins.2.2.length := by omega
  obtain ⟨x, hx⟩ := getI r.ins.2.2 (show r.ins.2.2.length - 1 < r.ins.2.2.length by omega)
  have hxi := runI_get hx
  have hxr := hR4.each x (List.mem_of_getElem? hx)
  obtain ⟨q, hq, hqe⟩ := statesV_i c.t r he (show r.ins.2.2.length - 1 < r.ins.2.2.length by omega)
  have Rq := hRR'.row eBk hq
  have hh := fun (w9 : World) (h9 : Ext w5 w9) => ref17_Bad gm c rn ra q.1 x.1 q.2.1 x.2.1 q.2.2 x.2.2 p w9 (hM4.ext (hX5.trans h9)) (Rq.ext (hX5.trans h9)) (hxr.ext (hX5.trans h9))
  have e : dec (BreaksP c.t r.s r.i p) = dec (BadP c.t q.2.2 x.2.2 p) := dCg ⟨fun h => by
   have := h.2.2.2
   rw [hil, gDo hxi, <- hqe] at this; exact this, fun h => ⟨q1, fun h0 => q2 (by rw [<- hil, h0]; rfl), by rw [hil]; exact hgo, by rw [hil, gDo hxi, <- hqe]; exact h⟩⟩
  have hq' : rs[((r.ins.2.2.length : Int) - 1).toNat]? = some q := by rw [hnn]; exact hq
  have hx' : r.ins.2.2[((r.ins.2.2.length : Int) - 1).toNat]? = some x := by rw [hnn]; exact hx
  repeat' (first | (apply W.cKF; exact rfl; exact dFf (by omega)) | (apply QL.callP; (iterate 4 exact rfl); exact hh) | (first | apply WL.nil | refine WL.au (k := ?_)) | (first | (apply QL.nilX; intro w' hx) | refine QL.au (k := ?_) | (apply QL.index tOk; (iterate 8 exact rfl); assumption; exact extA; exact rfl; omega; assumption; intro b off h; have hcc := h; first | (obtain ⟨h1, h2, h3, h4, h5, h6, _⟩ := h) | (obtain ⟨h1, h2, h3, _⟩ := h) | (obtain ⟨h1, h2, _⟩ := h) | (obtain ⟨h1, _⟩ := h))) | (first | apply Z.tn | apply Z.tnx | apply Z.bkx) | (first | apply W.seq | apply W.region | apply W.ret | apply W.exit | (apply W.regionX tMix; kernel_rfl)))
  exact Z.bd1 Tryz.results14 rfl fun m => ⟨by rw [e], Ext.at extA m⟩

theorem Row.keepU {α : Type} {s : Nat} {enc : α -> List Value} {w1 w2 : World} {g B : Nat} {a : Option Addr} {l : List α} (h : Row s enc w1 a l) (hU : Upd B (some ⟨g, 0, none⟩) w1 w2) (ha : ∀ k, blk a = some k -> k < w1.heap.size /\ k ≠ g) : Row s enc w2 a l :=
 h.keep fun k hk => hU.grown.block k (ha k hk).1 fun he => by
  simp only [blk, Option.map_some, Option.some.injEq] at he; exact (ha k hk).2 he

open Classical in
noncomputable def putK (ks : List Int) (a : Int) : List Int := if a ∈ ks then ks else ks ++ [a]
theorem putK_mem (ks : List Int) (a p : Int) : p ∈ putK ks a ↔ p ∈ ks ∨ p = a := by
 unfold putK
 split
 ·rename_i h
  exact ⟨.inl, fun hh => hh.elim id fun e => by rw [e]; exact h⟩
 ·rw [List.mem_append, List.mem_singleton]
theorem mset_keys : ∀ (ks : List Int) (a : Int), mset a true (keysL true ks) = keysL true ks
 | [], _ => rfl
 | k :: ks, a => by
  show (bif dec (a = k) then (k, true) :: keysL true ks else (k, true) :: mset a true (keysL true ks)) = _
  rw [mset_keys ks a]
  cases dec (a = k) <;> rfl
theorem mget_inC {ks : List Int} {a : Int} (h : a ∈ ks) : mget a (keysL true ks) = some true := by rw [mget_keys, dTt h]; rfl
theorem mget_noC {ks : List Int} {a : Int} (h : a ∉ ks) : mget a (keysL true ks) = none := by rw [mget_keys, dFf h]; rfl
theorem putK_old {ks : List Int} {a : Int} (h : a ∈ ks) : putK ks a = ks := by unfold putK; rw [if_pos h]
theorem putK_new {ks : List Int} {a : Int} (h : a ∉ ks) : putK ks a = ks ++ [a] := by unfold putK; rw [if_neg h]
theorem coi_Needs (c : Circ) (Y : Int) (w : World) (hC : CAt w c) (hg : GoodC' c.t) (hz : SzC c.t 100000) :
  Lt.Spec Tryz.prog 30 [c.val, .int .i64 Y] w (IsFresh2 1 encI 3 1 encI 3 w (laV c.t Y) (inV c.t Y)) := by
 have z1 : c.ins.2.2.length <= 100000 := hz.1
 have z2 : c.lat.2.2.length <= 100000 := hz.2.1
 have hnl := net_len hg hz
 have hsl : (skV c.t).length = c.lat.2.2.length := stuck_len
 have efr := free_out c.t
 refine Spec.of _ Tryz.func30 rfl Tryz.ntmps30 (by kernel_rfl) rfl ?_
 repeat' (first | (apply WL.box; (iterate 3 exact rfl); intro gc wc hb hge hc hxc; have hcc := hc; obtain ⟨h1, h2, h3, _⟩ := hc; (have hcells := hcc)) | (apply WL.call (f := 28); (iterate 4 exact rfl); exact coi_Stuck c _ (hC.ext extA) hg hz; rintro v' w1 ⟨hx1, aS, cS, rfl, hOS⟩) | (show WL _ _ _ (⟨some 6, .alloc _, _, _, _, _⟩ :: _) _ _ _; apply WL.alloc tOk; (iterate 3 exact rfl); intro g6 w2 hb6 hge6 hx2) | (show WL _ _ _ (⟨none, .store _ (.tmp 6) _, _, _, _, _⟩ :: _) _ _ _; apply WL.storeB (w0 := w1) tOk; (iterate 4 exact rfl); exact hb6; exact Ext.refl _; kernel_rfl; kernel_rfl; kernel_rfl; exact hx2; exact hge6; intro w3 hb3 hc3 hX3 hU3; obtain ⟨k6, _⟩ := id hc3; have hX13 : Ext w1 w3 := hX3; have hXc3 : Ext wc w3 := hx1.trans hX13; have RS := (hOS.row eIk).ext hX13; obtain ⟨y0, y1, y2, y3, y4, y5, y6, y7, y8, _⟩ := Cells.ext hXc3 hcells) | (apply WL.call (f := 86); (iterate 4 exact rfl); exact coi_upTo c.lat.2.2.length _ z2; rintro v' w4 ⟨hx4, aU, cU, rfl, hOU⟩) | (apply WL.call (f := 85); (iterate 4 exact rfl); exact slices_DeleteFunc aU cU (allI c.lat.2.2.length) 87 [.pointer (some ⟨g6, 0, none⟩)] (outQ (skV c.t)) w4 w3 hOU hx4 (by rw [allI_len]; omega) (fun w' h9 x hx => coi_Needs1 g6 cS aS (skV c.t) x w' (h9.cell k6) (RS.ext h9) (by have := allI_mem.1 hx; omega)); rintro v' w5 ⟨hX5, hU5, rfl, hOF⟩) | (first | apply WL.nil | refine WL.au (k := ?_)) | apply Z.tn | (first | apply W.seq | apply W.region))
 have hXw5 : Ext w w5 := hxc.trans (hXc3.trans hX5)
 have hc5 : Cells w5 gc 0 c.vals := Cells.ext (hXc3.trans hX5) hcells
 have k65 := hX5.cell k6
 have RS5 := RS.ext hX5
 have hC5 := hC.ext hXw5
 rw [efr] at hOF ⊢
 have RF5 := hOF.row eIk
 have hfl : (freeV c.t).length <= c.lat.2.2.length := sel_le _ _
 have hal : (allI c.ins.2.2.length).length = c.ins.2.2.length := allI_len _
 obtain ⟨O, hO⟩ : ∃ O, O = storeV c.t := ⟨_, rfl⟩
 obtain ⟨q0, q1, q2, q3, q4, q5, q6, q7, q8, _⟩ := id hc5
 clear y0 y1 y2 y3 y4 y5 y6 y7 y8 hb6 hb3 hc3 hU3 hOU hU5
 refine W.cutT (σ := Nat × Nat × Nat × (Option Addr × Nat) × (Option Addr × Nat) × (Option Addr × Nat) × (Option Addr × Nat) × World) (fun s => Ext w5 s.2.2.2.2.2.2.2 /\ Cells s.2.2.2.2.2.2.2 s.1 0 (foldW c s.2.2.2.2.1.1 s.2.2.2.2.1.2 s.2.2.2.2.2.1.1 s.2.2.2.2.2.1.2 (.slice aS (skV c.t).length cS) (.pointer (some ⟨s.2.1, 0, none⟩)) (.slice s.2.2.2.2.2.2.1.1 O.1.length s.2.2.2.2.2.2.1.2)) /\ Row 1 encI s.2.2.2.2.2.2.2 s.2.2.2.2.2.1.1 (cNet c.t).2 /\ Row 1 encI s.2.2.2.2.2.2.2 s.2.2.2.2.2.2.1.1 O.1 /\ ∃ w0 : World, Lt.Sep w0.heap.size s.2.2.2.2.2.2.2 (stN w0.heap.size s.2.1 s.2.2.2.1.1 s.2.2.2.1.2 s.2.2.1 O.2))
  (fun s => [(1, .int .i64 Y), (2, .pointer (some ⟨gc, 0, none⟩)), (7, .slice aU (freeV c.t).length cU), (8, .pointer (some ⟨s.1, 0, none⟩))]) (fun s => s.2.2.2.2.2.2.2) ?_ ?_
 ·skip
  repeat' (first | (show W _ _ (.region 3 _ _) _ _ _; apply W.regionGX (.fl true 2 (.fl true 3 (.fl false 0 (.fl false 1 (.fl false 4 (.fl true 5 (.br 6 (.br 7 (.br 8 (.br 9 .done .stop) .stop) (.br 8 (.br 7 (.br 9 .done .stop) .stop) .stop)) (.br 8 (.br 6 (.br 7 (.br 9 .done .stop) .stop) .stop) .stop)))))))) [1, 4, 5, 6, 7, 8] tMix; kernel_rfl) | (apply FL.loadAE (vs := c.vals) tOk; (iterate 5 exact rfl); exact hc5; exact rfl) | (apply WL.call (f := 86); (iterate 4 exact rfl); exact coi_upTo c.ins.2.2.length _ z1; rintro v' wU ⟨hxU, aV, cV, rfl, hOV⟩) | (show WL _ _ _ (⟨some 8, .alloc _, _, _, _, _⟩ :: _) _ _ _; apply WL.alloc tOk; (iterate 3 exact rfl); intro g8 wA hb8 hge8 hxA) | (apply WL.call (f := 74); (iterate 4 exact rfl); exact coi_fold c (skV c.t) (freeV c.t) (allI c.ins.2.2.length) aS aU aV cS cU cV _ (hC5.ext extA) hg hz (store_ok hg) (by omega) (by omega) (RS5.ext extA) (RF5.ext extA) ((hOV.row eIk).ext extA); rintro v' wF ⟨hxF, aN, cN, aA, cA, gs, r, ar, caps, aO, cO, rfl, RNf, RAf, ROf, hSf, hbf⟩; replace RAf : Row 1 encI wF aA (cNet c.t).2 := RAf; have eO : foldV c.t (skV c.t) (freeV c.t) (allI c.ins.2.2.length) = O := hO.symm; rw [eO] at ROf hSf ⊢) | (show WL _ _ _ (⟨none, .store _ (.tmp 8) _, _, _, _, _⟩ :: _) _ _ _; apply WL.storeB (w0 := w5) tOk; (iterate 4 exact rfl); exact hb8; exact extA; kernel_rfl; kernel_rfl; kernel_rfl; exact extA; exact Nat.le_trans (Below.size extA) hge8; intro w6 hb9 hc9 hX9 hU9; have hA9 : ∀ k, (blk aN = some k ∨ blk aA = some k ∨ blk aO = some k) -> k < wF.heap.size /\ k ≠ g8 := (fun k hk => by have e1 := hbf k hk; refine ⟨e1.2, fun he => ?_⟩; first | (have e2 := Nat.lt_of_lt_of_le (heap_lt hb8) (Nat.le_trans (Below.size (show Ext wA _ from extA)) e1.1); omega) | (have e2 := Nat.lt_of_lt_of_le e1.2 (Nat.le_trans (Below.size (show Ext wF _ from extA)) hge8); omega)); have RA6 := Row.keepU (RAf.ext extA) hU9 (fun k hk => ⟨Nat.lt_of_lt_of_le (hA9 k (.inr (.inl hk))).1 (Below.size extA), (hA9 k (.inr (.inl hk))).2⟩); have RO6 := Row.keepU (ROf.ext extA) hU9 (fun k hk => ⟨Nat.lt_of_lt_of_le (hA9 k (.inr (.inr hk))).1 (Below.size extA), (hA9 k (.inr (.inr hk))).2⟩); have hS6 : ∃ w0 : World, Lt.Sep w0.heap.size w6 (stN w0.heap.size gs ar caps r O.2) := (by first | exact ⟨_, Sep.updNew hSf extA hU9 (Nat.le_trans (Below.size extA) hge8)⟩ | exact ⟨_, Sep.oldU (hSf.ext extA) hU9 (Nat.lt_of_lt_of_le (heap_lt hb8) (Below.size extA))⟩)) | (first | (apply SX.done; intro w' hx) | (apply SX.fl0; exact rfl) | (apply SX.fl1; exact rfl; exact extA) | (apply SX.br1; exact rfl; intro w' hx) | (apply SX.br; exact rfl; (intro w' hx))) | (first | apply FL.nilX | (apply FL.loadE tOk; (iterate 5 exact rfl); assumption)) | refine FL.au (k := ?_) | (first | (apply Z.sxL; exact rfl) | (apply Z.sxE; exact extA)) | apply WL.nil)
  all_goals
   have hXf : Ext w6 _ := (by assumption)
   obtain ⟨w0f, hS6'⟩ := hS6
   exact Z.cut (g8, gs, r, (ar, caps), (aN, cN), (aA, cA), (aO, cO), _) ⟨hX9.trans hXf, Cells.ext hXf hc9, RA6.ext hXf, RO6.ext hXf, w0f, hS6'.ext hXf⟩ (by repeat' first | exact trivial | (refine And.intro ?_ ?_) | exact rfl) rfl
 rintro ⟨g8, gs, r, ⟨ar, caps⟩, ⟨aN, cN⟩, ⟨aA, cA⟩, ⟨aO, cO⟩, w7⟩ ⟨hX57, hc8, RA7, RO7, w0f, hS7⟩
 dsimp only at hX57 hc8 RA7 RO7 hS7 ⊢
 have hc57 : Cells w7 gc 0 c.vals := Cells.ext hX57 hc5
 have hC7 := hC5.ext hX57
 have RF7 := RF5.ext hX57
 obtain ⟨_, _, _, _, _, _, _, _, _, _, _, u11, u12, u13, _⟩ := id hc8
 obtain ⟨p0, p1, p2, p3, p4, p5, p6, p7, p8, _⟩ := id hc57
 have hIO := fold_inv hg (store_ok hg)
 have hO1 : OwnOk c.t O.1 := by rw [hO]; exact fold_ownOk hg hz (store_ok hg) (by omega) (by show (allI c.ins.2.2.length).length <= _; omega)
 have hO2 : O.2.length <= 500000 /\ GNt O.2 := by
  rw [hO]
  refine ⟨?_, hIO.2.2.2.2.good⟩
  have h9 := hIO.2.2.2.1
  have h10 : (allI c.t.ins.length).length = c.ins.2.2.length := allI_len _
  show (foldV c.t (skV c.t) (freeV c.t) (allI c.t.ins.length)).2.length <= 500000
  omega
 have ncn := hC.cons.none
 have RCn := hC7.cons.row
 have hkb : ∀ x ∈ badL c.t Y :: c.cons.2.2, KnL c.t x := fun x hx => want_kn (c := c.t) hg hx
 have z5 : c.cons.2.2.length <= 100000 := hz.2.2.2.2.1
 have eSt : (badL c.t Y :: c.cons.2.2).map (flit c.t O.1) = inSt c.t (badL c.t Y) :: c.cons.2.2.map (inSt c.t) := by rw [hO]; rfl
 repeat' (first | (show W _ _ (.region 6 _ _) _ _ _; apply W.regionGX (.fl true 2 (.fl true 5 (.fl false 0 (.fl false 1 (.fl false 6 (.br 3 (.br 4 (.br 7 (.br 8 (.fl true 9 .done) .stop) .stop) .stop) .stop)))))) [1, 3, 4, 6, 7, 8] tMix; kernel_rfl) | (apply WL.call (f := 68); (iterate 4 exact rfl); exact aig_NetV gs r caps ar O.2 [] w7 w0f hS7 (by omega); rintro v' w8 ⟨hx8, aT, cT, rfl, hOT⟩) | (show WL _ _ _ (⟨some 38, _, _, _, _, _⟩ :: _) _ _ _; apply WL.makeMap (kv := encK) (vv := isB); exact rfl; exact rfl; intro rl w9 hMl hgel hx9) | (show WL _ _ _ (⟨some 39, _, _, _, _, _⟩ :: _) _ _ _; apply WL.makeMap (kv := encK) (vv := isB); exact rfl; exact rfl; intro ri w10 hMi hgei hx10; have hc10 : Cells w10 g8 0 (foldW c aN cN aA cA (.slice aS (skV c.t).length cS) (.pointer (some ⟨gs, 0, none⟩)) (.slice aO O.1.length cO)) := Cells.ext (hx8.trans (hx9.trans hx10)) hc8; have hcc10 : Cells w10 gc 0 c.vals := Cells.ext (hx8.trans (hx9.trans hx10)) hc57) | (apply WL.callP (f := 76); (iterate 4 exact rfl); exact coi_bad c Y _ (hC7.ext extA); intro w' hx) | (apply WL.lit tOk; (iterate 6 exact rfl); kernel_rfl; exact rfl; intro gb w' hb hge hc hx; have hO := Own.of_block ([badL c.t Y]) eIk hb hge rfl; (obtain ⟨hOb, rfl⟩ : ∃ x, x = hO := ⟨_, rfl⟩)) | (show WL _ _ _ (⟨some 47, _, _, _, _, _⟩ :: _) _ _ _; apply WL.appendS (w0 := w10) tOk eIk; (iterate 10 exact rfl); exact (Own.base hOb (Below.size (show Ext w10 _ from extA))); exact extA; exact rfl; exact RCn; exact extA; exact rfl; exact ncn; exact rfl; exact extA; (simp; omega); intro aW cW wW hOW hXW hUW hFW) | (apply WL.call (f := 77); (iterate 4 exact rfl); exact coi_fall c aN aA aO aW cN cA cO cW _ _ O.1 (badL c.t Y :: c.cons.2.2) hg hz hO1 hkb (by simp; omega) _ (RA7.ext extA) (RO7.ext extA) ((Own.row eIk hOW).ext extA) rfl rfl; rintro v' w12 ⟨hx12, aD, cD, rfl, hOD⟩; rw [eSt] at hOD ⊢) | (first | (apply SX.done; intro w' hx) | (apply SX.fl0; exact rfl) | (apply SX.fl1; exact rfl; exact extA) | (apply SX.br1; exact rfl; intro w' hx)) | (first | apply FL.nilX | (apply FL.loadE tOk; (iterate 5 exact rfl); ((focus (apply Ext.cell; rotate_left; assumption; exact extA; done)))) | (apply FL.loadAE tOk; (iterate 5 exact rfl); assumption; exact rfl)) | refine FL.au (k := ?_) | (apply Z.sxE; exact extA) | (first | apply WL.nil | refine WL.au (k := ?_)) | apply Z.tn | (first | apply W.seq | apply W.region | apply W.block))
 obtain ⟨w12b, rfl⟩ : ∃ x, x = w' := ⟨_, rfl⟩; obtain ⟨hx12b, rfl⟩ : ∃ x, x = hx := ⟨_, rfl⟩
 have hx810 : Ext w8 w10 := hx9.trans hx10
 have hX8w : ∀ w', Ext w8 w' -> Ext w7 w' := fun w' h => hx8.trans h
 have hS9 := Sep.newMap (Sep.none' (B := w8.heap.size)) hx9 hMl hgel (Nat.le_refl _)
 have hS10 := Sep.newMap hS9 hx10 hMi hgei (Below.size hx9)
 have hS12 := Sep.newRow hS10 (show Ext w10 w12 from extA) (hOD.base (Below.size (show Ext w8 _ from extA))) (fun q hq => Nat.le_trans (Below.size (show Ext w10 _ from extA)) (hOD.blk_lt q hq).1) (Below.size hx810)
 have RT8 := hOT.row encN_ok
 have hgm : ∀ (w9 : World) (l : List (Int × Int)), True := fun _ _ => trivial
 refine W.loop (σ := (List Int × List Int × List Int) × Option Addr × Nat × World) (fun s => Ext w8 s.2.2.2 /\ NdI c.t Y s.1.1 s.1.2.1 s.1.2.2 /\ Lt.Sep w8.heap.size s.2.2.2 [prow 1 encI 3 w8.heap.size s.2.1 s.2.2.1 s.1.2.2, pmap encK isB ri (keysL true s.1.1), pmap encK isB rl (keysL true s.1.2.1)])
  (fun s => [(2, .pointer (some ⟨gc, 0, none⟩)), (7, .slice aU (freeV c.t).length cU), (8, .pointer (some ⟨g8, 0, none⟩)), (9, .slice aT O.2.length cT), (10, .map (some rl)), (11, .map (some ri)), (12, .slice s.2.1 s.1.2.2.length s.2.2.1)])
  (fun s => s.2.2.2) (fun s => 2 * (c.lat.2.2.length + 1 - s.1.2.1.length) + (if s.1.2.2 = [] then 0 else 1)) (([], [], inSt c.t (badL c.t Y) :: c.cons.2.2.map (inSt c.t)), aD, cD, w12b) ⟨extA, ndI_first.resolve_right (fun h => h hg), hS12.ext hx12b⟩ (by repeat' first | exact trivial | (refine And.intro ?_ ?_) | exact rfl) rfl ?_
 clear hS12 hS10 hS9 hOD hOW hUW hFW hOb hMl hMi
 rintro ⟨⟨kI, kL, todo⟩, bT, cpT, w13⟩ ⟨hX13', hI, hS⟩
 dsimp only at hX13' hI hS ⊢
 have hc13 : Cells w13 gc 0 c.vals := Cells.ext (hx8.trans hX13') hc57
 have hg13 := Cells.ext (hx8.trans hX13') hc8
 obtain ⟨y0, y1, y2, y3, y4, y5, y6, y7, y8, _⟩ := id hc13
 have RF13 := RF7.ext (hx8.trans hX13')
 have hkLl := nd_len hI.b
 have hkl' : kL.length <= c.lat.2.2.length := hkLl
 by_cases hne : todo = []
 ·subst hne
  have hMi : MapIs encK isB w13 ri (keysL true kI) := hS.map (i := 1) rfl
  have hMl : MapIs encK isB w13 rl (keysL true kL) := hS.map (i := 2) rfl
  have hbi := (hS.lt (i := 1) rfl rfl).1
  have hbl := (hS.lt (i := 2) rfl rfl).1
  have hX513 : Ext w5 w13 := hX57.trans (hx8.trans hX13')
  have hX313 : Ext w3 w13 := hX5.trans hX513
  have hOF13 := hOF.ext hX513
  have h58 : w5.heap.size <= w8.heap.size := Below.size (hX57.trans hx8)
  have hnl2 : ∀ k, w8.heap.size <= k -> blk aU ≠ some k := fun k hk he => by have := (hOF.blk_lt k he).2; omega
  have eLa := ndI_la hI
  have eIn := ndI_in hI
  have hc3' : Cells w3 gc 0 c.vals := Cells.ext hXc3 hcells
  have hXw3 : Ext w w3 := hxc.trans hXc3
  clear y0 y1 y2 y3 y4 y5 y6 y7 y8 hc13 hg13
  obtain ⟨_, y1, y2, _⟩ := id hc3'
  have hn2 := coi_Needs2 aU cU rl (freeV c.t) kL w13 w3 hOF13 hX313 (by omega) hMl (hnl2 rl hbl)
  rw [eLa] at hn2
  repeat' (first | (apply W.cKF; exact rfl; exact dFf (by simp)) | (show W _ _ (.region 22 _ _) _ _ _; apply W.regionG (.fl true 0 (.fl true 1 (.fl true 2 (.fl true 4 (.fl true 5 (.fl true 9 (.fl false 6 (.fl true 7 (.br 3 (.br 8 (.br 10 (.fl true 11 (.fl true 12 .done)) .stop) .stop) .stop))))))))) [3, 8, 10, 11] (Ext w3) tMix; kernel_rfl) | (show WL _ _ _ (⟨_, .call ⟨.value (.tmp 96), _, _⟩, _, _, _, _⟩ :: _) _ _ _; apply WL.call; (iterate 4 exact rfl); exact hn2; rintro v' w16 ⟨hX16, rfl, hO16, hk16⟩; have hMi16 : MapIs encK isB w16 ri (keysL true kI) := hMi.keep (hk16 ri hMi.lt (hnl2 ri hbi))) | (apply WL.call (f := 86); (iterate 4 exact rfl); exact coi_upTo c.ins.2.2.length _ z1; rintro v' w17 ⟨hx17, aV, cV, rfl, hOV⟩) | (show WL _ _ _ (⟨_, .call ⟨.value (.tmp 100), _, _⟩, _, _, _, _⟩ :: _) _ _ _; apply WL.call; (iterate 4 exact rfl); (have hn3 := coi_Needs2 aV cV ri (allI c.ins.2.2.length) kI w17 w16 hOV hx17 (by omega) (hMi16.ext hx17) (fun he => by have h1 := (hOV.blk_lt ri he).1; have h2 := hMi16.lt; omega); rw [eIn] at hn3; exact hn3); rintro v' w18 ⟨hX18, rfl, hO18, _⟩) | (first | apply WL.nil | refine WL.au (k := ?_)) | (first | apply SG.done | (apply SG.fl0; exact rfl) | (apply SG.fl1; exact rfl; (focus ((intro m; first | assumption | (apply Ext.at; exact extA) | apply But.of_at; first | exact But.upd (by assumption) | exact But.ext extA | (refine But.trans ?_ (But.upd (by assumption)); exact But.ext extA) | exact But.at _ _ _); done))) | (apply SG.br1; exact rfl)) | (apply FL.loadE tOk; (iterate 5 exact rfl); assumption) | (first | apply FL.nilS | refine FL.au (k := ?_)) | (apply Z.sgE; (focus ((intro m; first | assumption | (apply Ext.at; exact extA) | apply But.of_at; first | exact But.upd (by assumption) | exact But.ext extA | (refine But.trans ?_ (But.upd (by assumption)); exact But.ext extA) | exact But.at _ _ _); done))) | (first | apply Z.tn | apply Z.tnx | apply Z.bkx) | (first | apply W.seq | apply W.region | apply W.ret | apply W.exit))
  have hX1618 : Ext w16 w18 := hX18
  have hXw16 : Ext w w16 := hXw3.trans hX16
  exact Z.body2 Tryz.results30 rfl rfl fun q => ⟨(hXw16.trans hX1618).at q, aU, cU, aV, cV, rfl, ((hO16.ext hX1618).base (Below.size hXw3)).ext ((Ext.refl _).at q), (hO18.base (Below.size hXw16)).ext ((Ext.refl _).at q)⟩
 have hpos : 0 < todo.length := List.length_pos_iff.2 hne
 have hOt : Own 1 encI 3 w8.heap.size w13 bT cpT todo := hS.row (i := 0) rfl
 have htI : ∀ x ∈ todo, inI64 x := fun x hx => by
  obtain ⟨l, hl, rfl, _⟩ := hI.t x hx
  have h9 := flit_in hg hO1 hl
  rw [hO] at h9
  have h10 : 0 <= inSt c.t l /\ inSt c.t l <= 4611686018427387905 := h9
  unfold inI64; omega
 repeat' (first | (apply W.cKT; exact rfl; exact dTt (by omega)) | (apply WL.call (f := 88); (iterate 4 exact rfl); exact cone_Support aT bT cT cpT O.2 todo w13 (RT8.ext hX13') (hOt.row eIk) hO2.2 (by omega) htI; rintro v' w14 ⟨hx14, aQ, cQ, rfl, hOQ⟩) | (first | apply WL.nil | refine WL.au (k := ?_)) | apply Z.tn | (first | apply W.seq | apply W.region | apply W.block | apply W.skip))
 obtain ⟨sL, hsL⟩ : ∃ sL, sL = supL O.2 todo := ⟨_, rfl⟩
 rw [<- hsL] at hOQ ⊢
 have hS14 := Sep.newRow (s := 1) (enc := encI) (el := 3) (a := none) (cap := 0) (l := ([] : List Int)) (Sep.newRow (Sep.drop hS 1) hx14 (hOQ.base (Below.size hX13')) (fun q hq => (hOQ.blk_lt q hq).1) (Below.size hX13')) (Ext.refl _) Own.nil (fun k hk => by cases hk) (Below.size (hX13'.trans hx14))
 have hg8w := Cells.ext hx8 hc8
 have hc8w : Cells w8 gc 0 c.vals := Cells.ext hx8 hc57
 have RL8 := (hC7.ext hx8).lat.row
 obtain ⟨_, _, x2, _⟩ := id hc8w
 refine W.loop (σ := (Nat × List Int × List Int × List Int) × Option Addr × Nat × World) (fun s => s.1.1 <= sL.length /\ s.1.2.2.2.length <= s.1.2.2.1.length /\ Ext w8 s.2.2.2 /\ NdJ c.t Y kI kL sL s.1.1 s.1.2.1 s.1.2.2.1 s.1.2.2.2 /\ Lt.Sep w8.heap.size s.2.2.2 [prow 1 encI 3 w8.heap.size s.2.1 s.2.2.1 s.1.2.2.2, prow 1 encI 3 w8.heap.size aQ cQ sL, pmap encK isB ri (keysL true s.1.2.1), pmap encK isB rl (keysL true s.1.2.2.1)])
  (fun s => [(2, .pointer (some ⟨gc, 0, none⟩)), (7, .slice aU (freeV c.t).length cU), (8, .pointer (some ⟨g8, 0, none⟩)), (9, .slice aT O.2.length cT), (10, .map (some rl)), (11, .map (some ri)), (12, .slice s.2.1 s.1.2.2.2.length s.2.2.1), (55, .slice aQ sL.length cQ), (56, .int .i64 sL.length), (57, .int .i64 s.1.1)])
  (fun s => s.2.2.2) (fun s => sL.length + 1 - s.1.1) ((0, kI, kL, []), none, 0, w14) ⟨Nat.zero_le _, Nat.zero_le _, hX13'.trans hx14, ndJ_first hI sL, hS14⟩ (by repeat' first | exact trivial | (refine And.intro ?_ ?_) | exact rfl) rfl ?_
 clear hS14 hS hOQ y0 y1 y2 y3 y4 y5 y6 y7 y8 hOt hg13
 rintro ⟨⟨q, jI, jL, t2⟩, b2, cp2, w15⟩ ⟨hq, htj, hX15, hJ, hS⟩
 dsimp only at hq htj hX15 hJ hS ⊢
 have hjl : jL.length <= c.lat.2.2.length := nd_len hJ.b
 have hc15 : Cells w15 gc 0 c.vals := Cells.ext hX15 hc8w
 obtain ⟨y0, y1, y2, y3, y4, y5, y6, y7, y8, _⟩ := id hc15
 by_cases hql : q < sL.length
 ·obtain ⟨v, hv⟩ := getI sL hql
  have hvm : v ∈ supL (storeV c.t).2 todo := by rw [<- hO, <- hsL]; exact List.mem_of_getElem? hv
  obtain ⟨hnd, hv1, hvM⟩ := ndI_meets hg hI hvm
  have hti : c.t.ins.length = c.ins.2.2.length := rfl
  have RQ15 : Row 1 encI w15 aQ sL := Own.row eIk (hS.row (i := 1) rfl)
  have hsLn := RQ15.len
  have hMi : MapIs encK isB w15 ri (keysL true jI) := hS.map (i := 2) rfl
  have hMl : MapIs encK isB w15 rl (keysL true jL) := hS.map (i := 3) rfl
  have hbi := (hS.lt (i := 2) rfl rfl).1
  have hbl := (hS.lt (i := 3) rfl rfl).1
  by_cases hvi : v <= (c.ins.2.2.length : Int)
  ·repeat' (first | (apply W.cKT; exact rfl; exact dTt (by omega)) | (apply WL.mapPutF (B := 0) (w0 := w8) (vv := isB) (v := true) tOk keyI; (iterate 6 exact rfl); exact hMi; exact hX15; exact hbi; intro w16 hM16 hX16 hU16; have hM17 : MapIs encK isB w16 ri (keysL true (putK jI (v - 1))) := (by by_cases hin : (v - 1) ∈ jI; (rw [mget_inC hin] at hM16; dsimp only at hM16; rw [mset_keys] at hM16; rw [putK_old hin]; exact hM16); (rw [mget_noC hin] at hM16; dsimp only at hM16; rw [putK_new hin, keysL_snoc]; exact hM16))) | (first | apply WL.nil | refine WL.au (k := ?_) | (apply WL.index tOk; (iterate 8 exact rfl); assumption; exact extA; exact rfl; omega; assumption; intro b off h; have hcc := h; first | (obtain ⟨h1, h2, h3, h4, h5, h6, _⟩ := h) | (obtain ⟨h1, h2, h3, _⟩ := h) | (obtain ⟨h1, h2, _⟩ := h) | (obtain ⟨h1, _⟩ := h))) | (first | apply Z.tn | apply Z.tnx | apply Z.bkx) | (first | apply W.seq | apply W.region | apply W.block | apply W.skip | apply W.exit))
   have hS16 := Sep.updMap (i := 2) rfl hU16 hM17 hS (Ext.refl _) (Below.size hX15)
   have hX16' : Ext w8 w16 := hX16
   exact Z.again ((q + 1, putK jI (v - 1), jL, t2), b2, cp2, w16) ⟨by dsimp only; omega, htj, hX16', ndJ_in hJ hv hnd hv1 hvi (fun p => putK_mem jI (v - 1) p), hS16⟩ (by dsimp only; omega) (by repeat' first | exact trivial | (refine And.intro ?_ ?_) | exact rfl) rfl
  obtain ⟨j, hj⟩ := getI (freeV c.t) (show (v - 1 - (c.ins.2.2.length : Int)).toNat < (freeV c.t).length by omega)
  have hjf := free_mem.1 (List.mem_of_getElem? hj)
  have RF15 := (RF7.ext hx8).ext hX15
  by_cases hjm : j ∈ jL
  ·repeat' (first | (apply W.cKT; exact rfl; (focus (exact dTt (by omega)))) | (apply W.cKF; exact rfl; (focus (first | exact dFf (by omega) | (rw [dTt hjm]; rfl); done))) | (apply WL.lookKeys tOk keyI; (iterate 8 exact rfl); exact hMl) | (first | apply WL.nil | refine WL.au (k := ?_) | (apply WL.index tOk; (iterate 8 exact rfl); assumption; exact extA; exact rfl; omega; assumption; intro b off h; have hcc := h; first | (obtain ⟨h1, h2, h3, h4, h5, h6, _⟩ := h) | (obtain ⟨h1, h2, h3, _⟩ := h) | (obtain ⟨h1, h2, _⟩ := h) | (obtain ⟨h1, _⟩ := h))) | (first | apply Z.tn | apply Z.bkn) | (first | apply W.seq | apply W.region | apply W.block | apply W.skip))
   exact Z.again ((q + 1, jI, jL, t2), b2, cp2, w15) ⟨by dsimp only; omega, htj, hX15, ndJ_old hJ hv (by omega) hj hjm, hS⟩ (by dsimp only; omega) (by repeat' first | exact trivial | (refine And.intro ?_ ?_) | exact rfl) rfl
  ·obtain ⟨t, ht⟩ := getI c.lat.2.2 (show j.toNat < c.lat.2.2.length from by have := hjf.2.1; have h9 : c.t.lat.length = c.lat.2.2.length := rfl; omega)
   have hkn := kLu hg (used_next (c := c.t) (List.mem_of_getElem? ht))
   have eFl : flit c.t O.1 t.2.1 = inSt c.t t.2.1 := by rw [hO]; rfl
   have hflit := fun (w9 : World) (h9 : Ext w8 w9) => coi_flit c aN aA aO cN cA cO (.slice aS (skV c.t).length cS) (.pointer (some ⟨gs, 0, none⟩)) O.1 hg hz hO1 t.2.1 hkn w9 ((RA7.ext hx8).ext h9) ((RO7.ext hx8).ext h9) rfl rfl
   rw [eFl] at hflit
   repeat' (first | (apply W.cKT; exact rfl; (focus (first | exact dTt (by omega) | (rw [dFf hjm]; rfl); done))) | (apply W.cKF; exact rfl; (focus (exact dFf (by omega)))) | (show W _ _ (.region 19 _ _) _ _ _; apply W.regionG (.fl true 0 (.fl true 2 (.fl true 4 (.fl false 1 (.fl false 3 (.fl true 5 (.fl true 6 (.fl false 7 (.br 8 (.br 9 (.br 10 (.fl true 11 .done) .stop) .stop) .stop))))))))) [3, 5, 6, 7, 8, 9, 10] (Ext w8) tMix; kernel_rfl) | (apply WL.lookKeys tOk keyI; (iterate 8 exact rfl); exact hMl) | (apply WL.mapPutF (B := 0) (w0 := w8) (vv := isB) (v := true) tOk keyI; (iterate 6 exact rfl); exact hMl; exact hX15; exact hbl; intro w16 hM16 hX16 hU16; have hM17 : MapIs encK isB w16 rl (keysL true (jL ++ [j])) := (by rw [mget_noC hjm] at hM16; dsimp only at hM16; rw [keysL_snoc]; exact hM16); have hS16 := Sep.updMap (i := 3) rfl hU16 hM17 hS (Ext.refl _) (Below.size hX15); have hX16' : Ext w8 w16 := hX16; clear hX16; have hO16 : Own 1 encI 3 w8.heap.size w16 b2 cp2 t2 := hS16.row (i := 0) rfl) | (apply WL.callP (f := 75); (iterate 4 exact rfl); exact hflit _ extA; intro w17 hx17) | (apply WL.lit tOk; (iterate 6 exact rfl); kernel_rfl; exact rfl; intro gb wL hb hge hc hxL) | (apply WL.ap1 (z := (inSt c.t t.2.1)) tOk eIk; (iterate 10 exact rfl); assumption; exact extA; exact rfl; assumption; exact rfl; exact rfl; exact extA; omega; intro bA cA wA hOA hXA hUA hFA; (have hSA := Sep.uRw (i := 0) rfl hUA hOA hFA hS16 extA (Below.size extA))) | (first | apply WL.nil | refine WL.au (k := ?_) | (apply WL.index tOk; (iterate 8 exact rfl); assumption; exact extA; exact rfl; omega; assumption; intro b off h; have hcc := h; first | (obtain ⟨h1, h2, h3, h4, h5, h6, _⟩ := h) | (obtain ⟨h1, h2, h3, _⟩ := h) | (obtain ⟨h1, h2, _⟩ := h) | (obtain ⟨h1, _⟩ := h))) | (first | apply SG.done | (apply SG.fl0; exact rfl) | (apply SG.fl1; exact rfl; (focus ((intro m; first | assumption | (apply Ext.at; exact extA) | apply But.of_at; first | exact But.upd (by assumption) | exact But.ext extA | (refine But.trans ?_ (But.upd (by assumption)); exact But.ext extA) | exact But.at _ _ _); done))) | (apply SG.br1; exact rfl)) | (first | (apply FL.loadE tOk; (iterate 5 exact rfl); assumption) | (apply FL.loadAE tOk; (iterate 5 exact rfl); assumption; exact rfl) | (apply FL.indexE tOk; (iterate 8 exact rfl); assumption; exact rfl; omega; assumption; intro b off h; have hcc := h; first | (obtain ⟨h1, h2, h3, h4, h5, h6, _⟩ := h) | (obtain ⟨h1, h2, h3, _⟩ := h) | (obtain ⟨h1, h2, _⟩ := h) | (obtain ⟨h1, _⟩ := h))) | (first | apply FL.nilS | refine FL.au (k := ?_)) | (apply Z.sgE; (focus ((intro m; first | assumption | (apply Ext.at; exact extA) | apply But.of_at; first | exact But.upd (by assumption) | exact But.ext extA | (refine But.trans ?_ (But.upd (by assumption)); exact But.ext extA) | exact But.at _ _ _); done))) | (first | apply Z.tn | apply Z.bkn) | (first | apply W.seq | apply W.region | apply W.block | apply W.skip))
   all_goals
    exact Z.again ((q + 1, jI, jL ++ [j], t2 ++ [inSt c.t t.2.1]), bA, cA, _) ⟨by dsimp only; omega, by dsimp only; rw [List.length_append, List.length_append]; simpa using htj, extA, ndJ_new hJ hv hnd (by omega) hj ht hjm, hSA.ext extA⟩ (by dsimp only; omega) (by repeat' first | exact trivial | (refine And.intro ?_ ?_) | exact rfl) rfl
 obtain rfl : q = sL.length := by omega
 repeat' (first | (apply W.cKF; exact rfl; exact dFf (by omega)) | (first | apply WL.nil | refine WL.au (k := ?_)) | (first | apply Z.tn | apply Z.bkn | apply Z.tnx | apply Z.bkx) | (first | apply W.seq | apply W.region | apply W.exit))
 have hI2 : NdI c.t Y jI jL t2 := ndJ_end hg hI (by rw [hsL, hO]) hJ
 have hS2 := Sep.pickL (pre := [_, _, _, _]) (tl := []) [0, 2, 3] pnone hS rfl
 have hgl := hJ.g
 exact Z.again ((jI, jL, t2), b2, cp2, w15) ⟨hX15, hI2, hS2⟩ (by
  dsimp only
  rw [if_neg hne]
  by_cases h9 : t2 = []
  ·rw [if_pos h9]; omega
  ·rw [if_neg h9]; have := hgl.2 h9; omega) (by repeat' first | exact trivial | (refine And.intro ?_ ?_) | exact rfl) rfl

def preB (m : Nat) (f g : Nat -> Bool) (k : Nat) : List Bool := tab m (fun u => if u < k then f u else g u)
theorem preB_len (m : Nat) (f g : Nat -> Bool) (k : Nat) : (preB m f g k).length = m := tab_len _ _
theorem preB_set {m : Nat} {f g : Nat -> Bool} {k : Nat} {y : Bool} (h : y = f k) : (preB m f g k).set k y = preB m f g (k + 1) := by
 unfold preB
 refine tab_set fun u _ => ?_
 by_cases e : u = k
 ·subst e; rw [if_pos rfl, if_pos (by omega), h]
 ·rw [if_neg e]
  by_cases h1 : u < k
  ·rw [if_pos h1, if_pos (by omega)]
  ·rw [if_neg h1, if_neg (by omega)]
theorem preB_all {m : Nat} {f g : Nat -> Bool} {l : List Bool} (hl : l.length = m) (h : ∀ u x, l[u]? = some x -> f u = x) : preB m f g m = l := by
 symm
 refine tab_eq hl fun u x hx => ?_
 have hu := lGt hx
 rw [if_pos (by omega)]; exact h u x hx
theorem preB_zero {m : Nat} {f g : Nat -> Bool} {l : List Bool} (hl : l.length = m) (h : ∀ u x, l[u]? = some x -> g u = x) : preB m f g 0 = l := by
 symm
 refine tab_eq hl fun u x hx => ?_
 rw [if_neg (by omega)]; exact h u x hx
theorem repB_get {m u : Nat} {y x : Bool} (h : (List.replicate m y)[u]? = some x) : y = x := by
 rw [List.getElem?_replicate] at h
 split at h
 ·exact Option.some.inj h
 ·cases h
theorem dec_is (p : Prop) [Decidable p] : dec p = decide p := by
 by_cases h : p
 ·rw [dTt h, decide_eq_true h]
 ·rw [dFf h, decide_eq_false h]
def IsRunS (w : World) (q : List Bool × List (List Bool)) (v : Value) (w' : World) : Prop := Ext w w' /\ ∃ r : RunV, v = r.val /\ RAt w' r /\ r.s = q.1 /\ r.i = q.2 /\ Stay w.heap.size w' (fun w9 => RAt w9 r)
theorem coi_Extend (c : Circ) (Y : Int) (r : RunV) (w : World) (hC : CAt w c) (hg : GoodC' c.t) (hz : SzC c.t 100000) (hR : RAt w r) (hrl : r.ins.2.2.length <= 100000) :
  Lt.Spec Tryz.prog 8 [c.val, .int .i64 Y, r.val] w (IsRunS w (extS c.t Y r.s, r.i.map (extI c.t Y))) := by
 have z1 : c.ins.2.2.length <= 100000 := hz.1
 have z2 : c.lat.2.2.length <= 100000 := hz.2.1
 refine Spec.of _ Tryz.func8 rfl Tryz.ntmps8 (by kernel_rfl) rfl ?_
 repeat' (first | (apply WL.box; (iterate 3 exact rfl); intro gb w' hb hge hc hx; have hcc := hc; obtain ⟨h1, h2, h3, _⟩ := hc; (first | (have h_0 := hcells; clear h_0; obtain ⟨gr, rfl⟩ : ∃ x, x = gb := ⟨_, rfl⟩; obtain ⟨wr, rfl⟩ : ∃ x, x = w' := ⟨_, rfl⟩; obtain ⟨hxr, rfl⟩ : ∃ x, x = hx := ⟨_, rfl⟩; have hcr : Cells wr gr 0 [rowVal r.st, rowVal r.ins] := hcc) | (have hcells := hcc; obtain ⟨gc, rfl⟩ : ∃ x, x = gb := ⟨_, rfl⟩; obtain ⟨wc, rfl⟩ : ∃ x, x = w' := ⟨_, rfl⟩; obtain ⟨hxc, rfl⟩ : ∃ x, x = hx := ⟨_, rfl⟩))) | (show WL _ _ _ (⟨some 6, .alloc _, _, _, _, _⟩ :: _) _ _ _; apply WL.alloc tOk; (iterate 3 exact rfl); intro g6 w2 hb6 hge6 hx2; have hc2 := Cells.ext (hxr.trans hx2) hcells) | (apply WL.call (f := 30); (iterate 4 exact rfl); exact coi_Needs c Y _ (hC.ext extA) hg hz; rintro v' w3 ⟨hx3, aL, cL, aI, cI, rfl, hOL, hOI⟩; have hc3 := Cells.ext hx3 hc2; obtain ⟨y0, y1, y2, y3, y4, y5, y6, y7, y8, _⟩ := id hc3) | (apply WL.makeC (w0 := w3) (z := false) tOk; (iterate 9 exact rfl); exact eBk; exact rfl; exact rfl; exact extA; omega; intro gl w4 hOS hgeS hx4) | (apply WL.build tOk; (iterate 7 exact rfl); kernel_rfl) | (show WL _ _ _ (⟨some 9, .alloc _, _, _, _, _⟩ :: _) _ _ _; apply WL.alloc tOk; (iterate 3 exact rfl); intro g9 w5 hb5 hge9 hx5) | (show WL _ _ _ (⟨none, .store _ (.tmp 9) _, _, _, _, _⟩ :: _) _ _ _; apply WL.storeB (w0 := w4) tOk; (iterate 4 exact rfl); exact hb5; exact Ext.refl _; kernel_rfl; kernel_rfl; kernel_rfl; exact hx5; exact hge9; intro w6 hb9 hc9 hX6 hU6; obtain ⟨x0, x1, x2, x3, x4, x5, x6, x7, x8, _⟩ := Cells.ext (hx4.trans hX6) hc3) | (first | apply WL.nil | refine WL.au (k := ?_)) | apply Z.tn | (first | apply W.seq | apply W.region | apply W.block))
 have hXw2 : Ext w w2 := (hxc.trans hxr).trans hx2
 have hXw3 : Ext w w3 := hXw2.trans hx3
 have hX46 : Ext w4 w6 := hX6
 have hX36 : Ext w3 w6 := hx4.trans hX46
 have hC3 := hC.ext hXw3
 have hR3 := hR.ext hXw3
 have RL3 := hOL.row eIk
 have RI3 := hOI.row eIk
 have hr3 : Cells w3 gr 0 [rowVal r.st, rowVal r.ins] := Cells.ext (hx2.trans hx3) hcr
 have hlaL : (laV c.t Y).length <= c.lat.2.2.length := sel_le _ _
 have hinL : (inV c.t Y).length <= c.ins.2.2.length := sel_le _ _
 have en : ((c.lat.2.2.length : Nat) : Int).toNat = c.lat.2.2.length := Int.toNat_natCast _
 have e0l : (List.replicate c.lat.2.2.length false).length = c.lat.2.2.length := List.length_replicate
 obtain ⟨f, hf⟩ : ∃ f : Nat -> Bool, f = fun u => decide ((c.lat.2.2.getD u (0, 0, 0)).2.2 = 1) := ⟨_, rfl⟩
 have e0 : preB c.lat.2.2.length f (fun _ => false) 0 = List.replicate c.lat.2.2.length false := preB_zero e0l fun u x hx => repB_get hx
 rw [en] at hOS hb9
 have hb90 : w6.heap[g9]? = some (.cells #[.slice (some ⟨gl, 0, none⟩) (List.replicate c.lat.2.2.length false).length c.lat.2.2.length, .slice none 0 0] 31 (0, 0)) := hb9
 rw [e0l] at hb90
 rw [<- e0] at hOS
 have hb9' : w6.heap[g9]? = some (.cells #[.slice (some ⟨gl, 0, none⟩) c.lat.2.2.length c.lat.2.2.length, .slice none 0 0] 31 (0, 0)) := hb90
 have hS4 := Sep.newRow (s := 1) (enc := encB) (el := 4) (Sep.none' (B := w3.heap.size) (w := w3)) hx4 (hOS.base (Nat.le_refl _)) (fun q hq => (hOS.blk_lt q hq).1) (Nat.le_refl _)
 have hS6 := Sep.newCell hS4 hX46 hb9' hge9 (Below.size hx4)
 clear hb5 hb9 hc9 hU6 hS4
 refine W.loopW c.lat.2.2.length (fun k w' => k <= c.lat.2.2.length /\ Ext w3 w' /\ Lt.Sep w3.heap.size w' [pcell g9 #[.slice (some ⟨gl, 0, none⟩) c.lat.2.2.length c.lat.2.2.length, .slice none 0 0] 31, prow 1 encB 4 w3.heap.size (some ⟨gl, 0, none⟩) c.lat.2.2.length (preB c.lat.2.2.length f (fun _ => false) k)])
  (fun k => [(3, .pointer (some ⟨gc, 0, none⟩)), (5, .pointer (some ⟨gr, 0, none⟩)), (6, .pointer (some ⟨g6, 0, none⟩)), (7, .slice aL (laV c.t Y).length cL), (8, .slice aI (inV c.t Y).length cI), (9, .pointer (some ⟨g9, 0, none⟩)), (31, rowVal c.lat), (32, .int .i64 c.lat.2.2.length), (33, .int .i64 k)]) ⟨Nat.zero_le _, hX36, hS6⟩ (fun k w' h => h.1) (by repeat' first | exact trivial | (refine And.intro ?_ ?_) | exact rfl) ?_
 clear hS6 hb9' hOS x0 x1 x2 x3 x4 x5 x6 x7 x8 y0 y1 y2 y3 y4 y5 y6 y7 y8
 rintro k wk ⟨hk, hXk, hS⟩
 have hpl := preB_len c.lat.2.2.length f (fun _ => false) k
 by_cases hlt : k < c.lat.2.2.length
 ·obtain ⟨t, ht⟩ := getI c.lat.2.2 hlt
  have RLk := (hC3.ext hXk).lat.row
  have hgl9 : gl < wk.heap.size := (hS.lt (i := 1) rfl rfl).2
  have hfk : dec (t.2.2 = 1) = f k := by rw [hf, dec_is]; dsimp only; rw [gDo ht]
  obtain ⟨y, hy⟩ := getI (preB c.lat.2.2.length f (fun _ => false) k) (show k < _ by omega)
  (try simp only [List.set_cons_zero, List.set_cons_succ] at hS); (try have hR1 := hS.row (i := 1) rfl); (try have hC0 := hS.cell (i := 0) rfl); (try have hD0 := (cHp hC0).1); (try have hE0 := (cHp hC0).2.1)
  repeat' (first | (apply W.cKT; exact rfl; exact dTt (by omega)) | (apply WL.alloc tOk; (iterate 3 exact rfl); intro gb w' hb hge hx) | (apply WL.storeB (w0 := w3) tOk; (iterate 4 exact rfl); assumption; exact extA; (iterate 3 exact rfl); exact extA; omega; intro w' hb hc hX' hU; have hcc := hc; obtain ⟨h1, h2, _⟩ := hc; (replace hS := Sep.updNew hS extA hU (by first | assumption | omega)); (try simp only [List.set_cons_zero, List.set_cons_succ] at hS); (try have hR1 := hS.row (i := 1) rfl); (try have hC0 := hS.cell (i := 0) rfl); (try have hD0 := (cHp hC0).1); (try have hE0 := (cHp hC0).2.1); (obtain ⟨e1', e2', e3', _⟩ := hcc; have hb10 := hb; have hne10 : gb ≠ gl := by omega)) | (apply WL.indexO tOk; (iterate 8 exact rfl); assumption; exact extA; exact eBk; omega; omega; assumption; intro gb ha hc; cases ha; have hcc := hc; first | (obtain ⟨h1, h2, h3, _⟩ := hc) | (obtain ⟨h1, h2, _⟩ := hc) | (obtain ⟨h1, _⟩ := hc)) | (apply WL.storeO tOk; (iterate 4 exact rfl); assumption; exact extA; (iterate 3 exact rfl); exact eBk; assumption; exact rfl; exact extA; intro w' hO hX' hU; (replace hS := Sep.uRw (i := 1) rfl hU hO (.inl rfl) hS extA (by (exact Below.size extA))); (try simp only [List.set_cons_zero, List.set_cons_succ] at hS); (try have hR1 := hS.row (i := 1) rfl); (try have hC0 := hS.cell (i := 0) rfl); (try have hD0 := (cHp hC0).1); (try have hE0 := (cHp hC0).2.1)) | (first | apply WL.nil | refine WL.au (k := ?_) | (apply WL.index tOk; (iterate 8 exact rfl); assumption; exact extA; exact rfl; omega; assumption; intro b off h; have hcc := h; first | (obtain ⟨h1, h2, h3, h4, h5, h6, _⟩ := h) | (obtain ⟨h1, h2, h3, _⟩ := h) | (obtain ⟨h1, h2, _⟩ := h) | (obtain ⟨h1, _⟩ := h))) | (first | apply Z.tn | apply Z.bkn) | (first | apply W.seq | apply W.region | apply W.block | apply W.skip))
  rw [Int.toNat_natCast, preB_set hfk] at hS
  exact Z.agW ⟨by omega, by assumption, hS⟩ (by repeat' first | exact trivial | (refine And.intro ?_ ?_) | exact rfl)
 obtain rfl : k = c.lat.2.2.length := by omega
 obtain ⟨S0, hS0⟩ : ∃ S0, S0 = (c.lat.2.2.map fun t => decide (t.2.2 = 1)) := ⟨_, rfl⟩
 have hS0l : S0.length = c.lat.2.2.length := by rw [hS0]; exact List.length_map _
 have e1 : preB c.lat.2.2.length f (fun _ => false) c.lat.2.2.length = putT (laV c.t Y) r.s S0 0 := (preB_all (l := S0) hS0l fun u x hx => by
  rw [hS0, List.getElem?_map] at hx
  obtain ⟨t, ht, rfl⟩ := Option.map_eq_some_iff.1 hx
  rw [hf]; dsimp only; rw [gDo ht]).trans rfl
 rw [e1] at hS
 repeat' (first | (apply W.cKF; exact rfl; exact dFf (by omega)) | (first | apply WL.nil | refine WL.au (k := ?_)) | (first | apply Z.tn | apply Z.tnx | apply Z.bkx) | (first | apply W.seq | apply W.region | apply W.block | apply W.exit))
 refine W.loopW (laV c.t Y).length (fun k w' => k <= (laV c.t Y).length /\ Ext w3 w' /\ Lt.Sep w3.heap.size w' [pcell g9 #[.slice (some ⟨gl, 0, none⟩) c.lat.2.2.length c.lat.2.2.length, .slice none 0 0] 31, prow 1 encB 4 w3.heap.size (some ⟨gl, 0, none⟩) c.lat.2.2.length (putT (laV c.t Y) r.s S0 k)])
  (fun k => [(3, .pointer (some ⟨gc, 0, none⟩)), (5, .pointer (some ⟨gr, 0, none⟩)), (6, .pointer (some ⟨g6, 0, none⟩)), (8, .slice aI (inV c.t Y).length cI), (9, .pointer (some ⟨g9, 0, none⟩)), (46, .slice aL (laV c.t Y).length cL), (47, .int .i64 (laV c.t Y).length), (48, .int .i64 k)]) ⟨Nat.zero_le _, hXk, hS⟩ (fun k w' h => h.1) (by repeat' first | exact trivial | (refine And.intro ?_ ?_) | exact rfl) ?_
 clear hS
 rintro k wm ⟨hk, hXm, hS⟩
 have hpl := putT_len (laV c.t Y) r.s S0 k
 have hrm : Cells wm gr 0 [rowVal r.st, rowVal r.ins] := Cells.ext hXm hr3
 obtain ⟨m0, m1, _⟩ := id hrm
 by_cases hlt : k < (laV c.t Y).length
 ·obtain ⟨z, hz'⟩ := getI (laV c.t Y) hlt
  have hzb := sel_bd z (List.mem_of_getElem? hz')
  have hzb2 : z < (c.lat.2.2.length : Int) := hzb.2
  have RLm := RL3.ext hXm
  have RSm := (hR3.ext hXm).st
  have e2 : putT (laV c.t Y) r.s S0 (k + 1) = (putT (laV c.t Y) r.s S0 k).set z.toNat (r.s.getD k false) := by rw [putT_succ, gDo hz']
  obtain ⟨y, hy⟩ := getI (putT (laV c.t Y) r.s S0 k) (show z.toNat < _ by omega)
  obtain ⟨n0, _⟩ := cHp (hS.cell (i := 0) (gb := g9) rfl)
  have hOm : Own 1 encB 4 w3.heap.size wm (some ⟨gl, 0, none⟩) c.lat.2.2.length (putT (laV c.t Y) r.s S0 k) := hS.row (i := 1) rfl
  repeat' (first | (apply W.cKT; exact rfl; exact dTt (by omega)) | (show W _ _ (.region 11 _ _) _ _ _; apply W.regionGX (.fl true 0 (.fl true 2 (.fl true 3 (.fl true 5 (.fl false 1 (.fl false 4 (.br 6 (.fl true 7 (.br 8 .done .stop)) .stop))))))) [4, 6] tMix; kernel_rfl) | (apply WL.callS (f := 31); (iterate 4 exact rfl); exact coi_told r.st.1 r.st.2.1 r.st.2.2 k _ (RSm.ext extA)) | (apply FL.indexO tOk; (iterate 8 exact rfl); exact hOm; exact extA; exact eBk; exact (by omega); omega; exact hy; intro gS hgS hcS; cases hgS) | (apply WL.storeO tOk; (iterate 4 exact rfl); assumption; exact extA; (iterate 3 exact rfl); exact eBk; assumption; exact rfl; exact extA; intro w' hO hX' hU) | (first | (apply SX.done; intro w' hx) | (apply SX.fl0; exact rfl) | (apply SX.fl1; exact rfl; exact extA) | (apply SX.br1; exact rfl; intro w' hx)) | (first | apply FL.nilX | (apply FL.loadE tOk; (iterate 5 exact rfl); assumption)) | refine FL.au (k := ?_) | (first | (apply Z.sxL; exact rfl) | (apply Z.sxE; exact extA)) | (first | apply WL.nil | refine WL.au (k := ?_) | (apply WL.index tOk; (iterate 8 exact rfl); assumption; exact extA; exact rfl; omega; assumption; intro b off h; have hcc := h; first | (obtain ⟨h1, h2, h3, h4, h5, h6, _⟩ := h) | (obtain ⟨h1, h2, h3, _⟩ := h) | (obtain ⟨h1, h2, _⟩ := h) | (obtain ⟨h1, _⟩ := h))) | (first | apply Z.tn | apply Z.bkn) | (first | apply W.seq | apply W.region | apply W.block | apply W.skip))
  all_goals
   have hS9 := Sep.uRw (i := 1) rfl hU hO (.inl rfl) hS extA (Below.size (hXm.trans extA))
   rw [<- e2] at hS9
   exact Z.agW ⟨by omega, extA, hS9.ext extA⟩ (by repeat' first | exact trivial | (refine And.intro ?_ ?_) | exact rfl)
 obtain rfl : k = (laV c.t Y).length := by omega
 obtain ⟨S, hSd⟩ : ∃ S, S = extS c.t Y r.s := ⟨_, rfl⟩
 have eS : putT (laV c.t Y) r.s S0 (laV c.t Y).length = S := by rw [hSd, hS0]; rfl
 rw [eS] at hS
 rw [<- hSd]
 have hSl : S.length = c.lat.2.2.length := by rw [hSd]; exact extS_len r.s
 repeat' (first | (apply W.cKF; exact rfl; exact dFf (by omega)) | (first | apply WL.nil | refine WL.au (k := ?_)) | (first | apply Z.tn | apply Z.tnx | apply Z.bkx) | (first | apply W.seq | apply W.region | apply W.block | apply W.exit))
 have hS3 := Sep.pickL (pre := [_, _, _]) (tl := []) [1, 0, 2] pnone (Sep.newRow (s := 1) (enc := encRB) (el := 28) (a := none) (cap := 0) (l := ([] : List (RowV Bool))) hS (Ext.refl _) Own.nil (fun q hq => by cases hq) (Below.size hXm)) rfl
 refine W.loopO r.ins.2.2.length (fun j b cp w' => j <= r.ins.2.2.length /\ Ext w3 w' /\ ∃ (rs : List (RowV Bool)) (R : List Piece), rs.length = j /\ Lt.Sep w3.heap.size w' (pcell g9 #[.slice (some ⟨gl, 0, none⟩) c.lat.2.2.length c.lat.2.2.length, .slice b rs.length cp] 31 :: prow 1 encRB 28 w3.heap.size b cp rs :: prow 1 encB 4 w3.heap.size (some ⟨gl, 0, none⟩) c.lat.2.2.length S :: R) /\ rs.map (fun r => r.2.2) = (r.i.take j).map (extI c.t Y) /\ ∀ w9, (∀ p ∈ R, p.P w9) -> ∀ x ∈ rs, Row 1 encB w9 x.1 x.2.2)
  (fun j b cp => [(3, .pointer (some ⟨gc, 0, none⟩)), (6, .pointer (some ⟨g6, 0, none⟩)), (8, .slice aI (inV c.t Y).length cI), (9, .pointer (some ⟨g9, 0, none⟩)), (63, rowVal r.ins), (64, .int .i64 r.ins.2.2.length), (65, .int .i64 j)]) none 0 ⟨Nat.zero_le _, hXm, [], [], rfl, hS3, rfl, fun w9 _ x hx => by cases hx⟩ (fun k a cp w' h => h.1) (by repeat' first | exact trivial | (refine And.intro ?_ ?_) | exact rfl) ?_
 clear hS hS3 m0 m1
 rintro j bo co wj ⟨hj, hXj, rs, R, hrsl, hS, hrs, hRR⟩
 have hc3j := Cells.ext hXj hc3
 obtain ⟨y0, y1, y2, y3, y4, y5, y6, y7, y8, _⟩ := id hc3j
 by_cases hlt : j < r.ins.2.2.length
 ·obtain ⟨x, hx⟩ := getI r.ins.2.2 hlt
  have hRj := hR3.ext hXj
  have RRj := hRj.ins
  have Rx := hRj.each x (List.mem_of_getElem? hx)
  have RIj := RI3.ext hXj
  repeat' (first | (apply W.cKT; exact rfl; exact dTt (by omega)) | (apply WL.makeC (w0 := wj) (z := false) tOk; (iterate 9 exact rfl); exact eBk; exact rfl; exact rfl; exact extA; omega; intro gq wm hOq hgeq hxq) | (first | apply WL.nil | refine WL.au (k := ?_) | (apply WL.index tOk; (iterate 8 exact rfl); assumption; exact extA; exact rfl; omega; assumption; intro b off h; have hcc := h; first | (obtain ⟨h1, h2, h3, h4, h5, h6, _⟩ := h) | (obtain ⟨h1, h2, h3, _⟩ := h) | (obtain ⟨h1, h2, _⟩ := h) | (obtain ⟨h1, _⟩ := h))) | apply Z.tn | (first | apply W.seq | apply W.region | apply W.block | apply W.skip))
  have eni : ((c.ins.2.2.length : Nat) : Int).toNat = c.ins.2.2.length := Int.toNat_natCast _
  have e0i : (List.replicate c.ins.2.2.length false).length = c.ins.2.2.length := List.length_replicate
  rw [eni] at hOq ⊢
  have hSq := Sep.newRow (s := 1) (enc := encB) (el := 4) (Sep.none' (B := wj.heap.size) (w := wj)) hxq (hOq.base (Nat.le_refl _)) (fun q hq => (hOq.blk_lt q hq).1) (Nat.le_refl _)
  refine W.loopW (inV c.t Y).length (fun k w' => k <= (inV c.t Y).length /\ Ext wj w' /\ Lt.Sep wj.heap.size w' [prow 1 encB 4 wj.heap.size (some ⟨gq, 0, none⟩) c.ins.2.2.length (putT (inV c.t Y) x.2.2 (List.replicate c.ins.2.2.length false) k)])
   (fun k => [(3, .pointer (some ⟨gc, 0, none⟩)), (6, .pointer (some ⟨g6, 0, none⟩)), (8, .slice aI (inV c.t Y).length cI), (9, .pointer (some ⟨g9, 0, none⟩)), (63, rowVal r.ins), (64, .int .i64 r.ins.2.2.length), (65, .int .i64 j), (15, .slice x.1 x.2.2.length x.2.1), (16, .slice (some ⟨gq, 0, none⟩) c.ins.2.2.length c.ins.2.2.length), (73, .slice aI (inV c.t Y).length cI), (74, .int .i64 (inV c.t Y).length), (75, .int .i64 k)]) ⟨Nat.zero_le _, hxq, hSq⟩ (fun k w' h => h.1) (by repeat' first | exact trivial | (refine And.intro ?_ ?_) | exact rfl | (rw [e0i]; exact rfl)) ?_
  obtain ⟨hSO, hSOe⟩ : ∃ hSO : Lt.Sep w3.heap.size wj _, hSO = hS := ⟨hS, rfl⟩
  clear hSq hOq hS hSOe
  rintro k wq ⟨hkq, hXq, hS⟩
  have hpl2 := putT_len (inV c.t Y) x.2.2 (List.replicate c.ins.2.2.length false) k
  by_cases hltq : k < (inV c.t Y).length
  ·obtain ⟨z, hz'⟩ := getI (inV c.t Y) hltq
   have hzb := sel_bd z (List.mem_of_getElem? hz')
   have hzb2 : z < (c.ins.2.2.length : Int) := hzb.2
   have RIq := RIj.ext hXq
   have e2 : putT (inV c.t Y) x.2.2 (List.replicate c.ins.2.2.length false) (k + 1) = (putT (inV c.t Y) x.2.2 (List.replicate c.ins.2.2.length false) k).set z.toNat (x.2.2.getD k false) := by rw [putT_succ, gDo hz']
   obtain ⟨y, hy⟩ := getI (putT (inV c.t Y) x.2.2 (List.replicate c.ins.2.2.length false) k) (show z.toNat < _ by omega)
   (try simp only [List.set_cons_zero, List.set_cons_succ] at hS); (try have hR0 := hS.row (i := 0) rfl)
   repeat' (first | (apply W.cKT; exact rfl; exact dTt (by omega)) | (apply WL.callS (f := 31); (iterate 4 exact rfl); exact coi_told x.1 x.2.1 x.2.2 k _ (Rx.ext extA)) | (apply WL.indexO tOk; (iterate 8 exact rfl); assumption; exact extA; exact eBk; ((focus (simp [*]; done))); omega; assumption; intro gb ha hc; cases ha; have hcc := hc; first | (obtain ⟨h1, h2, h3, _⟩ := hc) | (obtain ⟨h1, h2, _⟩ := hc) | (obtain ⟨h1, _⟩ := hc)) | (apply WL.storeO tOk; (iterate 4 exact rfl); assumption; exact extA; (iterate 3 exact rfl); exact eBk; assumption; exact rfl; exact extA; intro w' hO hX' hU; (replace hS := Sep.uRw (i := 0) rfl hU hO (.inl rfl) hS extA (by (exact Below.size extA))); (try simp only [List.set_cons_zero, List.set_cons_succ] at hS); (try have hR0 := hS.row (i := 0) rfl)) | (first | apply WL.nil | refine WL.au (k := ?_) | (apply WL.index tOk; (iterate 8 exact rfl); assumption; exact extA; exact rfl; omega; assumption; intro b off h; have hcc := h; first | (obtain ⟨h1, h2, h3, h4, h5, h6, _⟩ := h) | (obtain ⟨h1, h2, h3, _⟩ := h) | (obtain ⟨h1, h2, _⟩ := h) | (obtain ⟨h1, _⟩ := h))) | (first | apply Z.tn | apply Z.bkn) | (first | apply W.seq | apply W.region | apply W.block | apply W.skip))
   rw [<- e2] at hS
   exact Z.agW ⟨by omega, by assumption, hS⟩ (by repeat' first | exact trivial | (refine And.intro ?_ ?_) | exact rfl)
  obtain rfl : k = (inV c.t Y).length := by omega
  have eX : putT (inV c.t Y) x.2.2 (List.replicate c.ins.2.2.length false) (inV c.t Y).length = extI c.t Y x.2.2 := rfl
  rw [eX] at hS hpl2
  have hOq : Own 1 encB 4 wj.heap.size wq (some ⟨gq, 0, none⟩) c.ins.2.2.length (extI c.t Y x.2.2) := hS.row (i := 0) rfl
  have hexl : (extI c.t Y x.2.2).length = c.ins.2.2.length := extI_len x.2.2
  have hez : encRB ((some ⟨gq, 0, none⟩, c.ins.2.2.length, extI c.t Y x.2.2) : RowV Bool) = [.slice (some ⟨gq, 0, none⟩) c.ins.2.2.length c.ins.2.2.length] := by
   show [Value.slice (some ⟨gq, 0, none⟩) (extI c.t Y x.2.2).length c.ins.2.2.length] = _
   rw [hexl]
  have hOo : Own 1 encRB 28 w3.heap.size wj bo co rs := hSO.row (i := 1) rfl
  have hSn := Sep.newRow hSO hXq (hOq.base (Below.size hXj)) (fun q hq => (hOq.blk_lt q hq).1) (Below.size hXj)
  obtain ⟨n0, n1, _⟩ := cHp (hSn.cell (i := 1) (gb := g9) rfl)
  have hg9 : w3.heap.size <= g9 := (hSn.lt (i := 1) rfl rfl).1
  repeat' (first | (apply W.cKF; exact rfl; exact dFf (by omega)) | (apply WL.lit tOk; (iterate 6 exact rfl); kernel_rfl; exact rfl; intro gz wl hb hge hcl hxl) | (apply WL.ap1 (z := ((some ⟨gq, 0, none⟩, c.ins.2.2.length, extI c.t Y x.2.2) : RowV Bool)) tOk encRB_ok; (iterate 10 exact rfl); exact hOo; exact (hXq.trans hxl); exact rfl; exact hcl; exact hez; exact rfl; exact (hXj.trans (hXq.trans hxl)); omega; intro aP cP wP hOP hXP hUP hFP; have hSu := Sep.uRw (i := 2) rfl hUP hOP hFP hSn hxl (Below.size (hXj.trans (hXq.trans hxl))); have hbu := hSu.cell (i := 1) (gb := g9) rfl; have hXP' : Ext w3 wP := hXP) | (apply WL.storeF (w0 := w3) tOk; (iterate 4 exact rfl); exact hbu; exact Ext.refl _; (iterate 4 exact rfl); exact hXP'; exact hg9; intro wS hbS hXS hUS) | (first | apply WL.nil | refine WL.au (k := ?_)) | (first | apply Z.tn | apply Z.bkn | apply Z.tnx | apply Z.bkx) | (first | apply W.seq | apply W.region | apply W.exit))
  have hSf := Sep.uCl (i := 1) rfl hUS hbS hSu (Ext.refl _) (Below.size hXP')
  have hSg := Sep.pickL (pre := [_, _, _, _]) [1, 2, 3, 0] pnone hSf rfl
  have hXS' : Ext w3 wS := hXS
  refine Z.agO aP cP ⟨by omega, hXS', rs ++ [((some ⟨gq, 0, none⟩, c.ins.2.2.length, extI c.t Y x.2.2) : RowV Bool)], prow 1 encB 4 w3.heap.size (some ⟨gq, 0, none⟩) c.ins.2.2.length (extI c.t Y x.2.2) :: R, by rw [List.length_append, hrsl]; rfl, hSg, ?_, fun w9' hR9 y hy => ?_⟩ (by repeat' first | exact trivial | (refine And.intro ?_ ?_) | exact rfl)
  ·have hxi : r.i[j]? = some x.2.2 := by show (r.ins.2.2.map (·.2.2))[j]? = _; rw [List.getElem?_map, hx]; rfl
   rw [List.map_append, hrs, tkS hxi, List.map_append]; rfl
  ·rcases List.mem_append.1 hy with hy | hy
   ·exact hRR w9' (fun p hp => hR9 p (List.mem_cons_of_mem _ hp)) y hy
   ·rw [List.mem_singleton.1 hy]
    have p1 : Own 1 encB 4 w3.heap.size w9' (some ⟨gq, 0, none⟩) c.ins.2.2.length (extI c.t Y x.2.2) := hR9 (prow 1 encB 4 w3.heap.size (some ⟨gq, 0, none⟩) c.ins.2.2.length (extI c.t Y x.2.2)) (List.mem_cons_self ..)
    exact Own.row eBk p1
 obtain rfl : j = r.ins.2.2.length := by omega
 have hcg9 : Cells wj g9 0 [.slice (some ⟨gl, 0, none⟩) c.lat.2.2.length c.lat.2.2.length, .slice bo rs.length co] := cHp (hS.cell (i := 0) (gb := g9) rfl)
 have hil : r.i.length = r.ins.2.2.length := List.length_map _
 rw [<- hil, List.take_length] at hrs
 have hXwj : Ext w wj := hXw3.trans hXj
 have hX2j : Ext w2 wj := hx3.trans hXj
 have hg6 : g6 < w3.heap.size := Nat.lt_of_lt_of_le (heap_lt hb6) (Below.size hx3)
 have hB6 : w.heap.size <= g6 := Nat.le_trans (Below.size (hxc.trans hxr)) hge6
 repeat' (first | (apply W.cKF; exact rfl; exact dFf (by omega)) | (show WL _ _ _ (⟨none, .store _ (.tmp 6) _, _, _, _, _⟩ :: _) _ _ _; apply WL.storeB (w0 := w) tOk; (iterate 4 exact rfl); exact hb6; exact hX2j; kernel_rfl; kernel_rfl; kernel_rfl; exact hXwj; exact hB6; intro wE hbE hcE hXE hUE) | (first | apply WL.nil | refine WL.au (k := ?_)) | (first | apply Z.tn | apply Z.tnx | apply Z.bkx) | (first | apply W.seq | apply W.region | apply W.ret | apply W.exit))
 have hSE := Sep.oldU hS hUE hg6
 have hRE := hRR wE fun p hp => (hSE.holds _ p (List.mem_iff_getElem?.1 (show p ∈ _ from List.mem_cons_of_mem _ (List.mem_cons_of_mem _ (List.mem_cons_of_mem _ hp)))).choose_spec).1
 have hO1 : Own 1 encRB 28 w3.heap.size wE bo co rs := hSE.row (i := 1) rfl
 have hO2 : Own 1 encB 4 w3.heap.size wE (some ⟨gl, 0, none⟩) c.lat.2.2.length S := hSE.row (i := 2) rfl
 have hcE' : Cells wE g6 0 [.slice (some ⟨gl, 0, none⟩) S.length c.lat.2.2.length, .slice bo rs.length co] := by rw [hSl]; exact hcE
 have hst : Stay w.heap.size wE (fun w9 => RAt w9 ⟨(some ⟨gl, 0, none⟩, c.lat.2.2.length, S), (bo, co, rs)⟩) := fun w9 hsz hk => by
  have hS9 := Sep.stay hSE (Below.size hXw3) w9 hsz hk
  have hR9 := hRR w9 fun p hp => (hS9.holds _ p (List.mem_iff_getElem?.1 (show p ∈ _ from List.mem_cons_of_mem _ (List.mem_cons_of_mem _ (List.mem_cons_of_mem _ hp)))).choose_spec).1
  exact RAt.mk (Own.row eBk (hS9.row (i := 2) rfl)) (Own.row encRB_ok (hS9.row (i := 1) rfl)) hR9
 exact Z.bodyC tOk Tryz.results8 rfl rfl rfl rfl hcE' fun q => ⟨hXE.at q, ⟨(some ⟨gl, 0, none⟩, c.lat.2.2.length, S), (bo, co, rs)⟩, rfl, (RAt.mk (Own.row eBk hO2) (Own.row encRB_ok hO1) hRE : RAt wE ⟨(some ⟨gl, 0, none⟩, c.lat.2.2.length, S), (bo, co, rs)⟩).ext ((Ext.refl _).at q), rfl, hrs, hst⟩

noncomputable def outF (c : CirT) (own : List Int) : List Int := (cNet c).2.map fun z => if z < 0 then -1 else litI own z
theorem xor_two {z b : Int} (h0 : 0 <= z) (h1 : z % 2 = 0) (hb : b = 0 ∨ b = 1) : xorI z b = z + b := by
 unfold xorI Lt.xor1
 rcases hb with rfl | rfl
 ·rw [if_neg (by decide)]; omega
 ·rw [if_pos rfl, if_pos h1]
theorem out_lit {c : CirT} {own : List Int} (hg : GoodC' c) (ho : OwnOk c own) {l : Int} (hl : KnL c l) : ∃ z, (outF c own)[(l / 2).toNat]? = some z /\ 0 <= z /\ z <= 4611686018427387905 /\ litI (outF c own) l = flit c own l := by
 obtain ⟨z, z1, z2, z3, z4⟩ := knL_lit hg hl
 obtain ⟨y, hy⟩ := getI own (show (z / 2).toNat < own.length by rw [ho.len]; omega)
 obtain ⟨y0, y1⟩ := ho.all y (List.mem_of_getElem? hy)
 have e1 : litI own z = y := by rw [litI_some hy, z3]; rfl
 have e2 : (outF c own)[(l / 2).toNat]? = some y := by
  unfold outF
  rw [List.getElem?_map, z1]
  show some (if z < 0 then -1 else litI own z) = some y
  rw [if_neg (by omega), e1]
 refine ⟨y, e2, y0, by omega, ?_⟩
 have hb : l % 2 = 0 ∨ l % 2 = 1 := by omega
 have e3 : cl c l = z + l % 2 := by rw [show cl c l = xorI z (l % 2) from litI_some z1, xor_two z2 z3 hb]
 rw [litI_some e2]
 unfold flit
 rw [e3, litI_some (x := z + l % 2) (z := y) (by rw [show (z + l % 2) / 2 = z / 2 by omega]; exact hy), show (z + l % 2) % 2 = l % 2 by omega]
theorem at_even {c : CirT} (hg : GoodC' c) {v : Nat} {z : Int} (h : (cNet c).2[v]? = some z) (h0 : 0 <= z) : z <= 2 * ((cNet c).1.length : Int) := by
 rcases at_is hg h with e | ⟨_, _, e⟩
 ·omega
 ·exact e
theorem r42_Fold (c : Circ) (st la inp : List Int) (aS aL aI : Option Addr) (cS cL cI : Nat) (w : World) (hC : CAt w c) (hg : GoodC' c.t) (hz : SzC c.t 100000) (hF : FoldOk c.t st la inp) (hll : la.length <= 100000) (hil : inp.length <= 100000) (RS0 : Row 1 encI w aS st) (RL0 : Row 1 encI w aL la) (RI0 : Row 1 encI w aI inp) :
  Lt.Spec Tryz.prog 34 [c.val, .slice aS st.length cS, .slice aL la.length cL, .slice aI inp.length cI] w (fun v w' => Ext w w' /\ ∃ gs a cap aO cO, v = .tuple #[.pointer (some ⟨gs, 0, none⟩), .slice aO (outF c.t (foldV c.t st la inp).1).length cO] /\ (∃ w0 : World, Ext w w0 /\ Lt.Sep w0.heap.size w' (rsN w0.heap.size gs a cap (foldV c.t st la inp).2)) /\ Own 1 encI 3 w.heap.size w' aO cO (outF c.t (foldV c.t st la inp).1)) := by
 have z1 : c.ins.2.2.length <= 100000 := hz.1
 have z2 : c.lat.2.2.length <= 100000 := hz.2.1
 have hnl := net_len hg hz
 refine Spec.of _ Tryz.func34 rfl Tryz.ntmps34 (by kernel_rfl) rfl ?_
 repeat' (first | (apply WL.build tOk; (iterate 7 exact rfl); kernel_rfl) | (apply WL.box; (iterate 3 exact rfl); intro gb w' hb hge hc hx; have hcc := hc; obtain ⟨h1, h2, h3, _⟩ := hc; (first | (have h_0 := hcells; clear h_0; obtain ⟨gs, rfl⟩ : ∃ x, x = gb := ⟨_, rfl⟩; obtain ⟨w3, rfl⟩ : ∃ x, x = w' := ⟨_, rfl⟩; obtain ⟨hb3, rfl⟩ : ∃ x, x = hb := ⟨_, rfl⟩; obtain ⟨hx3, rfl⟩ : ∃ x, x = hx := ⟨_, rfl⟩; obtain ⟨hge3, rfl⟩ : ∃ x, x = hge := ⟨_, rfl⟩; have hb3' : w3.heap[gs]? = some (.cells #[.slice none 0 0] 65 (0, 0)) := hb3; have hS3 := Sep.newCell (Sep.newRow (s := 2) (enc := encN) (el := 84) (a := none) (cap := 0) (l := []) (Sep.none' (B := w2.heap.size) (w := w2)) (Ext.refl _) Own.nil (fun k hk => by cases hk) (Nat.le_refl _)) hx3 hb3' hge3 (Nat.le_refl _)) | (have hcells := hcc; obtain ⟨gc, rfl⟩ : ∃ x, x = gb := ⟨_, rfl⟩; obtain ⟨wc, rfl⟩ : ∃ x, x = w' := ⟨_, rfl⟩; obtain ⟨hxc, rfl⟩ : ∃ x, x = hx := ⟨_, rfl⟩))) | (apply WL.call (f := 39); (iterate 4 exact rfl); exact ref11_Net c _ (hC.ext hxc) hg hz; rintro v' w2 ⟨hx2, aN, cN, aA, cA, rfl, hON, hOA⟩; have hc2 := Cells.ext hx2 hcells) | (apply WL.lit (len := 0) tOk; (iterate 6 exact rfl); kernel_rfl; exact rfl; intro gb w' hb hge hc hx; have hO0 := Own.ofB0 (enc := encI) (s := 1) hb hge) | (first | apply WL.nil | refine WL.au (k := ?_)) | apply Z.tn | (first | apply W.seq | apply W.region | apply W.block))
 obtain ⟨w4, rfl⟩ : ∃ x, x = w' := ⟨_, rfl⟩; obtain ⟨hx4, rfl⟩ : ∃ x, x = hx := ⟨_, rfl⟩
 have hXw2 : Ext w w2 := hxc.trans hx2
 have hX4 : Ext w2 w4 := hx3.trans hx4
 have RN2 := hON.row encN_ok
 have RA2 := hOA.row eIk
 have RS2 := RS0.ext hXw2
 have RL2 := RL0.ext hXw2
 have RI2 := RI0.ext hXw2
 obtain ⟨p0, p1, p2, _⟩ := id hc2
 have hS4 := Sep.newRow hS3 hx4 (hO0.base (Below.size hx3)) (fun q hq => (hO0.blk_lt q hq).1) (Below.size hx3)
 obtain ⟨M, hMM⟩ : ∃ M, M = c.ins.2.2.length + c.lat.2.2.length := ⟨_, rfl⟩
 have hS5 : Lt.Sep w2.heap.size w4 (rsN w2.heap.size gs none 0 [] ++ [prow 1 encI 3 w2.heap.size (some ⟨gb, 0, none⟩) 0 (List.replicate 0 0)]) := Sep.pickL (pre := [_, _, _]) (tl := []) [1, 2, 0] pnone hS4 rfl
 refine W.loopO M (fun k b cp w' => k <= M /\ Ext w2 w' /\ Lt.Sep w2.heap.size w' (rsN w2.heap.size gs none 0 [] ++ [prow 1 encI 3 w2.heap.size b cp (List.replicate k 0)]))
  (fun k b cp => [(1, .slice aS st.length cS), (2, .slice aL la.length cL), (3, .slice aI inp.length cI), (4, .pointer (some ⟨gc, 0, none⟩)), (10, .slice aN (cNet c.t).1.length cN), (11, .slice aA (cNet c.t).2.length cA), (12, .pointer (some ⟨gs, 0, none⟩)), (13, .slice b (List.replicate k (0 : Int)).length cp), (14, .int .i64 k)]) (some ⟨gb, 0, none⟩) 0 ⟨Nat.zero_le _, hX4, hS5⟩ (fun k a cp w' h => h.1) (by repeat' first | exact trivial | (refine And.intro ?_ ?_) | exact rfl) ?_
 clear hS3 hS4 hS5 hO0 hb3 hb3'
 rintro k bI cp w9 ⟨hk, hX9, hS⟩
 have hrl : (List.replicate k (0 : Int)).length = k := List.length_replicate
 obtain ⟨_, u1, u2, _⟩ := Cells.ext hX9 hc2
 have hO9 : Own 1 encI 3 w2.heap.size w9 bI cp (List.replicate k 0) := hS.row (i := 2) rfl
 by_cases hlt : k < M
 ·have e1 : List.replicate (k + 1) (0 : Int) = List.replicate k 0 ++ [0] := List.replicate_succ'
  repeat' (first | (apply W.cKT; exact rfl; exact dTt (by omega)) | (apply WL.lit tOk; (iterate 6 exact rfl); kernel_rfl; exact rfl; intro gb wL hb hge hc hxL) | (apply WL.ap1 (z := (0)) tOk eIk; (iterate 10 exact rfl); assumption; exact extA; exact rfl; assumption; exact rfl; exact rfl; exact extA; omega; intro bA cA wA hOA hXA hUA hFA; (have hSA := Sep.uRw (i := 2) rfl hUA hOA hFA hS hxL (Below.size (hX9.trans hxL)))) | (first | apply WL.nil | refine WL.au (k := ?_)) | (first | apply Z.tn | apply Z.bkn) | (first | apply W.seq | apply W.region | apply W.block | apply W.skip))
  exact Z.agO bA cA ⟨by omega, hXA, by rw [e1]; exact hSA⟩ (by repeat' first | exact trivial | (refine And.intro ?_ ?_) | exact rfl | (rw [e1]; exact rfl))
 obtain rfl : k = M := by omega
 have e1 : List.replicate k (0 : Int) = (fill1 k inp 0).1 := rfl
 have hpl0 : (fill1 k inp 0).1.length = k := (fill1_cnt k inp 0 (Nat.zero_le _)).2
 rw [e1] at hS hO9 ⊢
 repeat' (first | (apply W.cKF; exact rfl; exact dFf (by omega)) | (first | apply WL.nil | refine WL.au (k := ?_)) | (first | apply Z.tn | apply Z.tnx | apply Z.bkx) | (first | apply W.seq | apply W.region | apply W.block | apply W.exit))
 refine W.loopW inp.length (fun j w' => j <= inp.length /\ Ext w2 w' /\ ∃ a cap, Lt.Sep w2.heap.size w' (rsN w2.heap.size gs a cap (List.replicate j (-1, 0)) ++ [prow 1 encI 3 w2.heap.size bI cp (fill1 k inp j).1]))
  (fun j => [(1, .slice aS st.length cS), (2, .slice aL la.length cL), (3, .slice aI inp.length cI), (4, .pointer (some ⟨gc, 0, none⟩)), (10, .slice aN (cNet c.t).1.length cN), (11, .slice aA (cNet c.t).2.length cA), (12, .pointer (some ⟨gs, 0, none⟩)), (13, .slice bI k cp), (15, .int .i64 j)]) ⟨Nat.zero_le _, hX9, none, 0, hS⟩ (fun k w' h => h.1) (by repeat' first | exact trivial | (refine And.intro ?_ ?_) | exact rfl | (rw [hpl0]; exact rfl)) ?_
 clear hS hO9 u1 u2
 rintro j wj ⟨hj, hXj, aj, cj, hS⟩
 obtain ⟨q1, q2⟩ := fill1_cnt k inp j hj
 have hrj : (List.replicate j ((-1 : Int), (0 : Int))).length = j := List.length_replicate
 by_cases hltj : j < inp.length
 ·obtain ⟨z, hz'⟩ := getI inp hltj
  have hzb := hF.inp z (List.mem_of_getElem? hz')
  have hzI : z < (c.ins.2.2.length : Int) := hzb.2
  have e2 := fill1_put (m := k) hz'
  obtain ⟨y, hy⟩ := getI (fill1 k inp j).1 (show z.toNat < _ by omega)
  repeat' (first | (apply W.cKT; exact rfl; exact dTt (by omega)) | (show W _ _ (.region 10 _ _) _ _ _; apply W.regionG (.fl true 0 (.fl true 1 (.fl true 2 (.fl true 3 (.fl true 5 (.fl false 4 (.br 6 (.fl true 7 (.br 8 .done .stop)) .stop))))))) [6] (Ext w2) tMix; kernel_rfl) | (apply WL.call (f := 55); (iterate 4 exact rfl); exact rs_Input gs _ _ (List.replicate j (-1, 0)) _ _ w2 extA (hS.ext extA) (by omega); rintro v' w8 ⟨hX8, a8, cap8, rfl, hS8⟩; have hX8' : Ext w2 w8 := hX8; have hO8 : Own 1 encI 3 w2.heap.size w8 bI cp (fill1 k inp j).1 := hS8.row (i := 2) rfl) | (apply FL.indexO tOk; (iterate 8 exact rfl); exact hO8; exact extA; exact eIk; exact q2; omega; exact hy; intro gS hgS hcS; subst hgS) | (apply WL.storeO tOk; (iterate 4 exact rfl); assumption; exact extA; (iterate 3 exact rfl); exact eIk; assumption; exact rfl; exact extA; intro w' hO hX' hU) | (first | apply WL.nil | refine WL.au (k := ?_)) | (first | apply SG.done | (apply SG.fl0; exact rfl) | (apply SG.fl1; exact rfl; (focus ((intro m; first | assumption | (apply Ext.at; exact extA) | apply But.of_at; first | exact But.upd (by assumption) | exact But.ext extA | (refine But.trans ?_ (But.upd (by assumption)); exact But.ext extA) | exact But.at _ _ _); done))) | (apply SG.br1; exact rfl)) | (first | (apply FL.loadE tOk; (iterate 5 exact rfl); assumption) | (apply FL.indexE tOk; (iterate 8 exact rfl); assumption; exact rfl; omega; assumption; intro b off h; have hcc := h; first | (obtain ⟨h1, h2, h3, h4, h5, h6, _⟩ := h) | (obtain ⟨h1, h2, h3, _⟩ := h) | (obtain ⟨h1, h2, _⟩ := h) | (obtain ⟨h1, _⟩ := h))) | (first | apply FL.nilS | refine FL.au (k := ?_)) | (first | (apply Z.sgL; exact rfl) | (apply Z.sgE; (focus ((intro m; first | assumption | (apply Ext.at; exact extA) | apply But.of_at; first | exact But.upd (by assumption) | exact But.ext extA | (refine But.trans ?_ (But.upd (by assumption)); exact But.ext extA) | exact But.at _ _ _); done)))) | (first | apply Z.tn | apply Z.bkn) | (first | apply W.seq | apply W.region | apply W.block | apply W.skip))
  all_goals
   have hS9 := Sep.uRw (i := 2) rfl hU hO (.inl rfl) hS8 extA (Below.size (hX8'.trans extA))
   rw [List.length_replicate, <- e2, <- List.replicate_succ'] at hS9
   exact Z.agW ⟨by omega, extA, a8, cap8, hS9.ext extA⟩ (by repeat' first | exact trivial | (refine And.intro ?_ ?_) | exact rfl)
 obtain rfl : j = inp.length := by omega
 have e1 : (fill1 k inp inp.length).1 = (fill2 c.ins.2.2.length k inp la 0).1 := rfl
 rw [e1, show inp.length = inp.length + 0 from rfl] at hS
 repeat' (first | (apply W.cKF; exact rfl; exact dFf (by omega)) | (first | apply WL.nil | refine WL.au (k := ?_)) | (first | apply Z.tn | apply Z.tnx | apply Z.bkx) | (first | apply W.seq | apply W.region | apply W.block | apply W.exit))
 refine W.loopW la.length (fun j w' => j <= la.length /\ Ext w2 w' /\ ∃ a cap, Lt.Sep w2.heap.size w' (rsN w2.heap.size gs a cap (List.replicate (inp.length + j) (-1, 0)) ++ [prow 1 encI 3 w2.heap.size bI cp (fill2 c.ins.2.2.length k inp la j).1]))
  (fun j => [(1, .slice aS st.length cS), (2, .slice aL la.length cL), (4, .pointer (some ⟨gc, 0, none⟩)), (10, .slice aN (cNet c.t).1.length cN), (11, .slice aA (cNet c.t).2.length cA), (12, .pointer (some ⟨gs, 0, none⟩)), (13, .slice bI k cp), (16, .int .i64 j)]) ⟨Nat.zero_le _, hXj, aj, cj, hS⟩ (fun k w' h => h.1) (by repeat' first | exact trivial | (refine And.intro ?_ ?_) | exact rfl) ?_
 clear hS
 rintro j2 wk ⟨hj2, hXk, ak, ck, hS⟩
 obtain ⟨q3, q4⟩ := fill2_cnt c.ins.2.2.length k inp la j2 hj2
 have hrj2 : (List.replicate (inp.length + j2) ((-1 : Int), (0 : Int))).length = inp.length + j2 := List.length_replicate
 by_cases hltk : j2 < la.length
 ·obtain ⟨z, hz'⟩ := getI la hltk
  have hzb := hF.la z (List.mem_of_getElem? hz')
  have hzI : z < (c.lat.2.2.length : Int) := hzb.2
  have e2 := fill2_put (I := c.ins.2.2.length) (m := k) (inp := inp) hz'
  have ez : ((c.ins.2.2.length : Int) + z).toNat = c.ins.2.2.length + z.toNat := by omega
  obtain ⟨y, hy⟩ := getI (fill2 c.ins.2.2.length k inp la j2).1 (show ((c.ins.2.2.length : Int) + z).toNat < _ by omega)
  repeat' (first | (apply W.cKT; exact rfl; exact dTt (by omega)) | (show W _ _ (.region 14 _ _) _ _ _; apply W.regionG (.fl true 0 (.fl true 1 (.fl true 4 (.fl true 5 (.fl true 6 (.fl true 9 (.fl false 2 (.fl true 3 (.fl false 7 (.fl true 8 (.br 10 (.fl true 11 (.br 12 .done .stop)) .stop))))))))))) [7, 8, 10] (Ext w2) tMix; kernel_rfl) | (apply WL.call (f := 55); (iterate 4 exact rfl); exact rs_Input gs _ _ (List.replicate (inp.length + j2) (-1, 0)) _ _ w2 extA (hS.ext extA) (by omega); rintro v' w8 ⟨hX8, a8, cap8, rfl, hS8⟩; have hX8' : Ext w2 w8 := hX8; have hO8 : Own 1 encI 3 w2.heap.size w8 bI cp (fill2 c.ins.2.2.length k inp la j2).1 := hS8.row (i := 2) rfl) | (apply FL.indexO tOk; (iterate 8 exact rfl); exact hO8; exact extA; exact eIk; exact q4; omega; exact hy; intro gS hgS hcS; subst hgS) | (apply WL.storeO tOk; (iterate 4 exact rfl); assumption; exact extA; (iterate 3 exact rfl); exact eIk; assumption; exact rfl; exact extA; intro w' hO hX' hU) | (first | apply WL.nil | refine WL.au (k := ?_)) | (first | apply SG.done | (apply SG.fl0; exact rfl) | (apply SG.fl1; exact rfl; (focus ((intro m; first | assumption | (apply Ext.at; exact extA) | apply But.of_at; first | exact But.upd (by assumption) | exact But.ext extA | (refine But.trans ?_ (But.upd (by assumption)); exact But.ext extA) | exact But.at _ _ _); done))) | (apply SG.br1; exact rfl)) | (first | (apply FL.loadE tOk; (iterate 5 exact rfl); assumption) | (apply FL.indexE tOk; (iterate 8 exact rfl); assumption; exact rfl; omega; assumption; intro b off h; have hcc := h; first | (obtain ⟨h1, h2, h3, h4, h5, h6, _⟩ := h) | (obtain ⟨h1, h2, h3, _⟩ := h) | (obtain ⟨h1, h2, _⟩ := h) | (obtain ⟨h1, _⟩ := h))) | (first | apply FL.nilS | refine FL.au (k := ?_)) | (first | (apply Z.sgL; exact rfl) | (apply Z.sgE; (focus ((intro m; first | assumption | (apply Ext.at; exact extA) | apply But.of_at; first | exact But.upd (by assumption) | exact But.ext extA | (refine But.trans ?_ (But.upd (by assumption)); exact But.ext extA) | exact But.at _ _ _); done)))) | (first | apply Z.tn | apply Z.bkn) | (first | apply W.seq | apply W.region | apply W.block | apply W.skip))
  all_goals
   have hS9 := Sep.uRw (i := 2) rfl hU hO (.inl rfl) hS8 extA (Below.size (hX8'.trans extA))
   rw [List.length_replicate, ez, <- e2, <- List.replicate_succ'] at hS9
   exact Z.agW ⟨by omega, extA, a8, cap8, hS9.ext extA⟩ (by repeat' first | exact trivial | (refine And.intro ?_ ?_) | exact rfl)
 obtain rfl : j2 = la.length := by omega
 have hst := hF.st.1
 have hsl : st.length = c.lat.2.2.length := hst
 obtain ⟨N0, hN0⟩ : ∃ N0, N0 = foldN la inp := ⟨_, rfl⟩
 have hN0l : N0.length = inp.length + la.length := by rw [hN0]; exact List.length_replicate
 obtain ⟨L2, hL2⟩ : ∃ L2, L2 = (fill2 c.ins.2.2.length k inp la la.length).1 := ⟨_, rfl⟩
 have hL2l : L2.length = k := by rw [hL2]; exact q4
 rw [show List.replicate (inp.length + la.length) ((-1 : Int), (0 : Int)) = N0 from hN0.symm, <- hL2] at hS
 repeat' (first | (apply W.cKF; exact rfl; exact dFf (by omega)) | (first | apply WL.nil | refine WL.au (k := ?_)) | (first | apply Z.tn | apply Z.tnx | apply Z.bkx) | (first | apply W.seq | apply W.region | apply W.block | apply W.exit))
 refine W.loopW st.length (fun j w' => j <= st.length /\ Ext w2 w' /\ Lt.Sep w2.heap.size w' (rsN w2.heap.size gs ak ck N0 ++ [prow 1 encI 3 w2.heap.size bI cp (fill3 c.ins.2.2.length st L2 j)]))
  (fun j => [(1, .slice aS st.length cS), (4, .pointer (some ⟨gc, 0, none⟩)), (10, .slice aN (cNet c.t).1.length cN), (11, .slice aA (cNet c.t).2.length cA), (12, .pointer (some ⟨gs, 0, none⟩)), (13, .slice bI k cp), (17, .int .i64 j)]) ⟨Nat.zero_le _, hXk, hS⟩ (fun k w' h => h.1) (by repeat' first | exact trivial | (refine And.intro ?_ ?_) | exact rfl) ?_
 clear hS
 rintro j3 wm ⟨hj3, hXm, hS⟩
 have hfl := fill3_len c.ins.2.2.length st L2 j3
 by_cases hlt3 : j3 < st.length
 ·obtain ⟨y, hy⟩ := getI st hlt3
  have hyD : st.getD j3 0 = y := gDo hy
  have hy3 := hF.st.2 j3 (by omega)
  rw [hyD] at hy3
  by_cases q5 : y = 2
  ·have e3 : fill3 c.ins.2.2.length st L2 (j3 + 1) = fill3 c.ins.2.2.length st L2 j3 := by
    rw [fill3_succ]; unfold stkP; rw [if_neg (by rw [hyD]; exact fun h => h q5)]
   repeat' (first | (apply W.cKT; exact rfl; (focus (exact dTt (by omega)))) | (apply W.cKF; exact rfl; exact dFf (by omega)) | (first | apply WL.nil | refine WL.au (k := ?_) | (apply WL.index tOk; (iterate 8 exact rfl); assumption; exact extA; exact rfl; omega; assumption; intro b off h; have hcc := h; first | (obtain ⟨h1, h2, h3, h4, h5, h6, _⟩ := h) | (obtain ⟨h1, h2, h3, _⟩ := h) | (obtain ⟨h1, h2, _⟩ := h) | (obtain ⟨h1, _⟩ := h))) | (first | apply Z.tn | apply Z.bkn) | (first | apply W.seq | apply W.region | apply W.block | apply W.skip))
   exact Z.agW ⟨by omega, hXm, by rw [e3]; exact hS⟩ (by repeat' first | exact trivial | (refine And.intro ?_ ?_) | exact rfl)
  ·have e3 : fill3 c.ins.2.2.length st L2 (j3 + 1) = (fill3 c.ins.2.2.length st L2 j3).set (c.ins.2.2.length + j3) y := by
    rw [fill3_succ]; unfold stkP; rw [hyD, if_pos q5]
   have ez : ((c.ins.2.2.length : Int) + (j3 : Int)).toNat = c.ins.2.2.length + j3 := by omega
   obtain ⟨yy, hyy⟩ := getI (fill3 c.ins.2.2.length st L2 j3) (show ((c.ins.2.2.length : Int) + (j3 : Int)).toNat < _ by omega)
   have hOm : Own 1 encI 3 w2.heap.size wm bI cp (fill3 c.ins.2.2.length st L2 j3) := hS.row (i := 2) rfl
   repeat' (first | (apply W.cKT; exact rfl; exact dTt (by omega)) | (show W _ _ (.region 19 _ _) _ _ _; apply W.regionG (.fl true 0 (.fl true 1 (.fl true 4 (.fl true 6 (.fl true 7 (.fl true 8 (.fl false 2 (.fl true 3 (.fl true 5 (.fl false 9 (.fl true 10 (.br 11 .done .stop)))))))))))) [5, 9] (Ext w2) tMix; kernel_rfl) | (apply FL.indexO tOk; (iterate 8 exact rfl); exact hOm; exact extA; exact eIk; exact (by omega); omega; exact hyy; intro gS hgS hcS; subst hgS) | (apply WL.storeO tOk; (iterate 4 exact rfl); assumption; exact extA; (iterate 3 exact rfl); exact eIk; assumption; exact rfl; exact extA; intro w' hO hX' hU) | (first | apply WL.nil | refine WL.au (k := ?_) | (apply WL.index tOk; (iterate 8 exact rfl); assumption; exact extA; exact rfl; omega; assumption; intro b off h; have hcc := h; first | (obtain ⟨h1, h2, h3, h4, h5, h6, _⟩ := h) | (obtain ⟨h1, h2, h3, _⟩ := h) | (obtain ⟨h1, h2, _⟩ := h) | (obtain ⟨h1, _⟩ := h))) | (first | apply SG.done | (apply SG.fl0; exact rfl) | (apply SG.fl1; exact rfl; (focus ((intro m; first | assumption | (apply Ext.at; exact extA) | apply But.of_at; first | exact But.upd (by assumption) | exact But.ext extA | (refine But.trans ?_ (But.upd (by assumption)); exact But.ext extA) | exact But.at _ _ _); done))) | (apply SG.br1; exact rfl)) | (first | (apply FL.loadE tOk; (iterate 5 exact rfl); assumption) | (apply FL.indexE tOk; (iterate 8 exact rfl); assumption; exact rfl; omega; assumption; intro b off h; have hcc := h; first | (obtain ⟨h1, h2, h3, h4, h5, h6, _⟩ := h) | (obtain ⟨h1, h2, h3, _⟩ := h) | (obtain ⟨h1, h2, _⟩ := h) | (obtain ⟨h1, _⟩ := h))) | (first | apply FL.nilS | refine FL.au (k := ?_)) | (apply Z.sgL; exact rfl) | (first | apply Z.tn | apply Z.bkn) | (first | apply W.seq | apply W.region | apply W.block | apply W.skip))
   all_goals
    have hS9 := Sep.uRw (i := 2) rfl hU hO (.inl rfl) hS extA (Below.size (hXm.trans extA))
    rw [ez, <- e3] at hS9
    exact Z.agW ⟨by omega, extA, hS9.ext extA⟩ (by repeat' first | exact trivial | (refine And.intro ?_ ?_) | exact rfl)
 obtain rfl : j3 = st.length := by omega
 have eF : fill3 c.ins.2.2.length st L2 st.length = fillC c.t st la inp := by
  unfold fillC
  rw [hL2, hMM, hsl]
 rw [eF] at hS hfl
 have hcL : (fillC c.t st la inp).length = k := by omega
 have hcp := rs_Copy gs ck cN cp ak aN bI N0 (cNet c.t).1 (fillC c.t st la inp) _ wm w2 hXm hS (by omega) (cNet_ok hg).2 (fun w' a' cap' N' h1 h2 => RN2.ext h1) (fun w' a' cap' N' h1 h2 => Own.row eIk (h2.row (i := 2) rfl))
 have eV : copyV N0 (cNet c.t).1 (fillC c.t st la inp) = foldV c.t st la inp := by unfold foldV; rw [hN0]
 rw [eV, hcL] at hcp
 obtain ⟨V, hV⟩ : ∃ V, V = foldV c.t st la inp := ⟨_, rfl⟩
 have hVo : OwnOk c.t V.1 := by rw [hV]; exact fold_ownOk hg hz hF hll hil
 rw [<- hV] at hcp ⊢
 repeat' (first | (apply W.cKF; exact rfl; exact dFf (by omega)) | (apply WL.call (f := 92); (iterate 4 exact rfl); exact hcp; rintro v' wC ⟨hXC, a8, cap8, aO, cO, rfl, hSC⟩; have hXC' : Ext w2 wC := hXC) | (apply WL.lit (len := 0) tOk; (iterate 6 exact rfl); kernel_rfl; exact rfl; intro gb w' hb hge hc hx; have hO0 := Own.ofB0 (enc := encI) (s := 1) hb hge) | (first | apply WL.nil | refine WL.au (k := ?_)) | (first | apply Z.tn | apply Z.tnx | apply Z.bkx) | (first | apply W.seq | apply W.region | apply W.block | apply W.exit))
 obtain ⟨wL, rfl⟩ : ∃ x, x = w' := ⟨_, rfl⟩; obtain ⟨hxL, rfl⟩ : ∃ x, x = hx := ⟨_, rfl⟩
 have RAC := RA2.ext hXC'
 have ROC : Row 1 encI wC aO V.1 := Own.row eIk (hSC.row (i := 2) rfl)
 have hoL : (outF c.t V.1).length = (cNet c.t).2.length := List.length_map _
 have hal := at_len hg
 have hmx := hg.max
 have hO1 : Own 1 encI 3 wC.heap.size wL (some ⟨gb, 0, none⟩) 0 ((outF c.t V.1).take 0) := hO0
 refine W.loopO (cNet c.t).2.length (fun j b cp w' => j <= (cNet c.t).2.length /\ Ext wC w' /\ Own 1 encI 3 wC.heap.size w' b cp ((outF c.t V.1).take j))
  (fun j b cp => [(11, .slice aA (cNet c.t).2.length cA), (12, .pointer (some ⟨gs, 0, none⟩)), (18, .slice aO V.1.length cO), (19, .slice b ((outF c.t V.1).take j).length cp), (20, .int .i64 j)]) (some ⟨gb, 0, none⟩) 0 ⟨Nat.zero_le _, hxL, hO1⟩ (fun k a cp w' h => h.1) (by repeat' first | exact trivial | (refine And.intro ?_ ?_) | exact rfl) ?_
 clear hO1 hO0
 rintro j4 bO cp4 wo ⟨hj4, hXo, hOo⟩
 have htl : ((outF c.t V.1).take j4).length = j4 := by rw [List.length_take]; omega
 by_cases hlt4 : j4 < (cNet c.t).2.length
 ·obtain ⟨z, hz1⟩ := getI (cNet c.t).2 hlt4
  have RAo := RAC.ext hXo
  have eo : (outF c.t V.1)[j4]? = some (if z < 0 then -1 else litI V.1 z) := by unfold outF; rw [List.getElem?_map, hz1]; rfl
  have eT := tkS eo
  by_cases q6 : z < 0
  ·rw [if_pos q6] at eT
   repeat' (first | (apply W.cKT; exact rfl; exact dTt (by omega)) | (apply WL.lit tOk; (iterate 6 exact rfl); kernel_rfl; exact rfl; intro gb w' hb hge hc hx) | (apply WL.ap1 (z := (-1)) tOk eIk; (iterate 10 exact rfl); assumption; exact extA; exact rfl; assumption; exact rfl; exact rfl; exact extA; omega; intro a' cap' w' hO hX' hU hF) | (first | apply WL.nil | refine WL.au (k := ?_) | (apply WL.index tOk; (iterate 8 exact rfl); assumption; exact extA; exact rfl; omega; assumption; intro b off h; have hcc := h; first | (obtain ⟨h1, h2, h3, h4, h5, h6, _⟩ := h) | (obtain ⟨h1, h2, h3, _⟩ := h) | (obtain ⟨h1, h2, _⟩ := h) | (obtain ⟨h1, _⟩ := h))) | (first | apply Z.tn | apply Z.bkn) | (first | apply W.seq | apply W.region | apply W.block | apply W.skip))
   exact Z.agO a' cap' ⟨by omega, hX', by rw [eT]; exact hO⟩ (by repeat' first | exact trivial | (refine And.intro ?_ ?_) | exact rfl | (rw [eT]; exact rfl))
  ·rw [if_neg q6] at eT
   have hzle := at_even hg hz1 (by omega)
   obtain ⟨y, hy⟩ := getI V.1 (show (z / 2).toNat < V.1.length by rw [hVo.len]; omega)
   have hyb := hVo.all y (List.mem_of_getElem? hy)
   have hcall := r42_at aO cO V.1 z y wo (ROC.ext hXo) (by omega) (by omega) hy ⟨hyb.1, by omega⟩
   repeat' (first | (apply W.cKT; exact rfl; (focus (exact dTt (by omega)))) | (apply W.cKF; exact rfl; exact dFf q6) | (apply WL.callS (f := 36); (iterate 4 exact rfl); exact hcall) | (apply WL.lit tOk; (iterate 6 exact rfl); kernel_rfl; exact rfl; intro gb w' hb hge hc hx) | (apply WL.ap1 (z := (litI V.1 z)) tOk eIk; (iterate 10 exact rfl); assumption; exact extA; exact rfl; assumption; exact rfl; exact rfl; exact extA; omega; intro a' cap' w' hO hX' hU hF) | (first | apply WL.nil | refine WL.au (k := ?_) | (apply WL.index tOk; (iterate 8 exact rfl); assumption; exact extA; exact rfl; omega; assumption; intro b off h; have hcc := h; first | (obtain ⟨h1, h2, h3, h4, h5, h6, _⟩ := h) | (obtain ⟨h1, h2, h3, _⟩ := h) | (obtain ⟨h1, h2, _⟩ := h) | (obtain ⟨h1, _⟩ := h))) | (first | apply Z.tn | apply Z.bkn) | (first | apply W.seq | apply W.region | apply W.block | apply W.skip))
   exact Z.agO a' cap' ⟨by omega, hX', by rw [eT]; exact hO⟩ (by repeat' first | exact trivial | (refine And.intro ?_ ?_) | exact rfl | (rw [eT]; exact rfl))
 obtain rfl : j4 = (cNet c.t).2.length := by omega
 rw [<- hoL, List.take_length] at hOo ⊢
 repeat' (first | (apply W.cKF; exact rfl; exact dFf (by omega)) | (first | apply WL.nil | refine WL.au (k := ?_)) | (first | apply Z.tn | apply Z.tnx | apply Z.bkx) | (first | apply W.seq | apply W.region | apply W.ret | apply W.exit))
 have hXwo : Ext w wo := hXw2.trans (hXC'.trans hXo)
 have hS2 := Sep.takeN hSC 2
 exact Z.body2 Tryz.results34 rfl rfl fun q => ⟨hXwo.at q, gs, a8, cap8, bO, cp4, rfl, ⟨w2, hXw2, (hS2.ext hXo).ext ((Ext.refl _).at q)⟩, (hOo.base (Below.size (hXw2.trans hXC'))).ext ((Ext.refl _).at q)⟩

theorem sel_add (a : Nat) (p : Nat -> Prop) : ∀ b, sel (a + b) p = sel a p ++ (sel b (fun k => p (a + k))).map (fun z => z + (a : Int))
 | 0 => by rw [sel_zero, Nat.add_zero]; simp
 | b + 1 => by
  by_cases h : p (a + b)
  ·rw [<- Nat.add_assoc, sel_yes h, sel_add a p b, sel_yes (p := fun k => p (a + k)) h, List.map_append, List.append_assoc, List.map_singleton, show ((a + b : Nat) : Int) = (b : Int) + (a : Int) by omega]
  ·rw [<- Nat.add_assoc, sel_no h, sel_add a p b, sel_no (p := fun k => p (a + k)) h]
theorem sel_noneC {m : Nat} {p : Nat -> Prop} (h : ∀ u, u < m -> ¬ p u) : sel m p = [] := by
 induction m with
 | zero => rfl
 | succ m ih => rw [sel_no (h m (by omega)), ih fun u hu => h u (by omega)]
theorem sel_pick (P q : Nat -> Prop) : ∀ L, (sel (sel L P).length q).map (fun k => (sel L P).getD k.toNat 0) = sel L (fun j => ∃ k, (sel L P)[k]? = some (j : Int) /\ q k)
 | 0 => rfl
 | L + 1 => by
  have ih := sel_pick P q L
  by_cases hP : P L
  ·rw [sel_yes hP, List.length_append, List.length_singleton]
   generalize hfr : sel L P = fr at ih
   have hbd : ∀ z ∈ fr, z < (L : Int) := fun z hz => by rw [<- hfr] at hz; exact (sel_bd z hz).2
   have e1 : (sel fr.length q).map (fun k => (fr ++ [(L : Int)]).getD k.toNat 0) = (sel fr.length q).map (fun k => fr.getD k.toNat 0) := List.map_congr_left fun k hk => by
    have hkb := sel_bd k hk
    rw [List.getD_eq_getElem?_getD, List.getElem?_append_left (by omega), <- List.getD_eq_getElem?_getD]
   have e2 : sel L (fun j => ∃ k, (fr ++ [(L : Int)])[k]? = some (j : Int) /\ q k) = sel L (fun j => ∃ k, fr[k]? = some (j : Int) /\ q k) := sel_congr fun u hu => by
    constructor
    ·rintro ⟨k, h1, h2⟩
     rcases get_snoc h1 with h3 | ⟨_, h3⟩
     ·exact ⟨k, h3, h2⟩
     ·omega
    ·rintro ⟨k, h1, h2⟩
     exact ⟨k, by rw [List.getElem?_append_left (lGt h1)]; exact h1, h2⟩
   have hlast : (∃ k, (fr ++ [(L : Int)])[k]? = some ((L : Nat) : Int) /\ q k) ↔ q fr.length := by
    constructor
    ·rintro ⟨k, h1, h2⟩
     rcases get_snoc h1 with h3 | ⟨h3, _⟩
     ·have := hbd _ (List.mem_of_getElem? h3); omega
     ·rw [<- h3]; exact h2
    ·intro h; exact ⟨fr.length, by simp, h⟩
   by_cases hq : q fr.length
   ·rw [sel_yes hq, List.map_append, e1, ih, sel_yes (p := fun j => ∃ k, (fr ++ [(L : Int)])[k]? = some (j : Int) /\ q k) (hlast.2 hq), e2]
    congr 1
    simp
   ·rw [sel_no hq, e1, ih, sel_no (p := fun j => ∃ k, (fr ++ [(L : Int)])[k]? = some (j : Int) /\ q k) (fun h => hq (hlast.1 h)), e2]
  ·rw [sel_no hP, ih]
   rw [sel_no (p := fun j => ∃ k, (sel L P)[k]? = some (j : Int) /\ q k)]
   rintro ⟨k, h1, _⟩
   have := (sel_bd _ (List.mem_of_getElem? h1)).2
   omega
structure WtI (c : CirT) (Y : Int) (want : List Int) : Prop where
 t : ∀ x ∈ want, ∃ l, KnL c l /\ x = inSt c l /\ AllN c Y l
 w : ∀ l ∈ badL c Y :: c.cons, inSt c l ∈ want
noncomputable abbrev nxS (c : CirT) (j : Int) : Int := inSt c (latD c j).2.1
def inpS (c : CirT) (s : List Int) : List Int := (s.filter fun v => decide (v <= (c.ins.length : Int))).map fun v => v - 1
noncomputable def laS (c : CirT) (s : List Int) : List Int := (s.filter fun v => !decide (v <= (c.ins.length : Int))).map fun v => (freeV c).getD (v - 1 - (c.ins.length : Int)).toNat 0
open Classical in
noncomputable def addW (c : CirT) (want : List Int) (j : Int) : List Int := if nxS c j ∈ want then want else want ++ [nxS c j]
noncomputable def addT (c : CirT) (want ls : List Int) (k : Nat) : List Int := (ls.take k).foldl (addW c) want
section
variable {c : CirT} {Y : Int} {want ls : List Int}
theorem inpS_snoc {s : List Int} {k : Nat} {v : Int} (h : s[k]? = some v) : inpS c (s.take (k + 1)) = if v <= (c.ins.length : Int) then inpS c (s.take k) ++ [v - 1] else inpS c (s.take k) := by
 unfold inpS
 rw [tkS h, List.filter_append, List.map_append]
 by_cases hv : v <= (c.ins.length : Int)
 ·rw [if_pos hv]; simp [hv]
 ·rw [if_neg hv]; simp [hv]
theorem laS_snoc {s : List Int} {k : Nat} {v : Int} (h : s[k]? = some v) : laS c (s.take (k + 1)) = if v <= (c.ins.length : Int) then laS c (s.take k) else laS c (s.take k) ++ [(freeV c).getD (v - 1 - (c.ins.length : Int)).toNat 0] := by
 unfold laS
 rw [tkS h, List.filter_append, List.map_append]
 by_cases hv : v <= (c.ins.length : Int)
 ·rw [if_pos hv]; simp [hv]
 ·rw [if_neg hv]; simp [hv]
theorem addT_succ {k : Nat} {j : Int} (h : ls[k]? = some j) : addT c want ls (k + 1) = addW c (addT c want ls k) j := by
 unfold addT; rw [tkS h, List.foldl_append]; rfl
theorem addT_sub (ls : List Int) : ∀ k, k <= ls.length -> (∀ x ∈ want, x ∈ addT c want ls k) /\ want.length <= (addT c want ls k).length /\ (addT c want ls k).length <= want.length + k /\ ((addT c want ls k).length = want.length -> addT c want ls k = want) /\ (∀ x ∈ addT c want ls k, x ∈ want ∨ ∃ j ∈ ls, x = nxS c j) /\ ∀ j ∈ ls.take k, nxS c j ∈ addT c want ls k
 | 0, _ => ⟨fun _ h => h, Nat.le_refl _, Nat.le_refl _, fun _ => rfl, fun _ h => .inl h, fun j hj => (by simp at hj)⟩
 | k + 1, hk => by
  obtain ⟨j, hj⟩ := getI ls (show k < _ by omega)
  obtain ⟨i1, i2, i3, i4, i5, i6⟩ := addT_sub ls k (by omega)
  rw [addT_succ hj]
  unfold addW
  by_cases h : nxS c j ∈ addT c want ls k
  ·rw [if_pos h]
   refine ⟨i1, i2, by omega, i4, i5, fun x hx => ?_⟩
   rcases take_mem hj hx with hx | rfl
   ·exact i6 x hx
   ·exact h
  ·rw [if_neg h]
   refine ⟨fun x hx => List.mem_append_left _ (i1 x hx), by rw [List.length_append]; omega, by rw [List.length_append, List.length_singleton]; omega, fun e => ?_, fun x hx => ?_, fun x hx => ?_⟩
   ·rw [List.length_append, List.length_singleton] at e; omega
   ·rcases List.mem_append.1 hx with hx | hx
    ·exact i5 x hx
    ·rw [List.mem_singleton.1 hx]; exact .inr ⟨j, List.mem_of_getElem? hj, rfl⟩
   ·rcases take_mem hj hx with hx | rfl
    ·exact List.mem_append_left _ (i6 x hx)
    ·exact List.mem_append_right _ (List.mem_singleton.2 rfl)
theorem wt_meets (hg : GoodC' c) (h : WtI c Y want) {v : Int} (hv : v ∈ supL (storeV c).2 want) : Need c Y v.toNat /\ 1 <= v /\ v <= ((c.ins.length + (freeV c).length : Nat) : Int) := by
 obtain ⟨x, hx, hh, hp, h1⟩ := sup_mem hv
 obtain ⟨l, _, rfl, hn⟩ := h.t x hx
 have h2 := in_var (fold_only hg (store_ok hg)) (v := v.toNat) (by omega) hp
 rw [allI_len] at h2
 exact ⟨hn _ hh hp, h1, by omega⟩
theorem laS_mem (hg : GoodC' c) (h : WtI c Y want) {j : Int} (hj : j ∈ laS c (supL (storeV c).2 want)) : ∃ k, (freeV c)[k]? = some j /\ Need c Y (c.ins.length + 1 + k) /\ ((c.ins.length + 1 + k : Nat) : Int) ∈ supL (storeV c).2 want := by
 unfold laS at hj
 obtain ⟨v, hv, rfl⟩ := List.mem_map.1 hj
 obtain ⟨hv1, hv2⟩ := List.mem_filter.1 hv
 have hv3 : ¬ v <= (c.ins.length : Int) := by simpa using hv2
 obtain ⟨h1, h2, h3⟩ := wt_meets hg h hv1
 obtain ⟨y, hy⟩ := getI (freeV c) (show (v - 1 - (c.ins.length : Int)).toNat < _ by omega)
 have e : c.ins.length + 1 + (v - 1 - (c.ins.length : Int)).toNat = v.toNat := by omega
 refine ⟨_, by rw [gDo hy]; exact hy, by rw [e]; exact h1, ?_⟩
 rw [e, show ((v.toNat : Nat) : Int) = v by omega]; exact hv1
theorem wt_next (hg : GoodC' c) (h : WtI c Y want) (hl : ls = laS c (supL (storeV c).2 want)) : WtI c Y (addT c want ls ls.length) := by
 obtain ⟨i1, _, _, _, i5, _⟩ := addT_sub (c := c) (want := want) ls ls.length (Nat.le_refl _)
 refine ⟨fun x hx => ?_, fun l hl' => i1 _ (h.w l hl')⟩
 rcases i5 x hx with hx | ⟨j, hj, rfl⟩
 ·exact h.t x hx
 ·rw [hl] at hj
  obtain ⟨k, hk, hn, _⟩ := laS_mem hg h hj
  have hf := free_mem.1 (List.mem_of_getElem? hk)
  obtain ⟨t, ht⟩ := getI c.lat (show j.toNat < _ by omega)
  have e : latD c j = t := gDo ht
  exact ⟨_, kLu hg (used_next (by rw [e]; exact List.mem_of_getElem? ht)), rfl, fun v a b => .step hn hk (by rw [e]; exact ht) a b⟩
theorem wt_need (hg : GoodC' c) (h : WtI c Y want) (hc : ∀ j ∈ laS c (supL (storeV c).2 want), nxS c j ∈ want) {v : Nat} (hn : Need c Y v) : (v : Int) ∈ supL (storeV c).2 want := by
 induction hn with
 | base hl h1 h2 => exact mem_sup (h.w _ hl) h1 h2
 | step _ hk ht h1 h2 ih =>
  rename_i k v' j t hn'
  have hj : j ∈ laS c (supL (storeV c).2 want) := by
   unfold laS
   refine List.mem_map.2 ⟨_, List.mem_filter.2 ⟨ih, by simp; omega⟩, ?_⟩
   rw [show (((c.ins.length + 1 + k : Nat) : Int) - 1 - (c.ins.length : Int)).toNat = k by omega]
   exact gDo hk
  have e : latD c j = t := gDo ht
  have h3 := hc j hj
  rw [show nxS c j = inSt c t.2.1 by unfold nxS; rw [e]] at h3
  exact mem_sup h3 h1 h2
theorem wt_sup (hg : GoodC' c) (h : WtI c Y want) (hc : ∀ j ∈ laS c (supL (storeV c).2 want), nxS c j ∈ want) : supL (storeV c).2 want = (sel c.ins.length (fun p => Need c Y (p + 1))).map (fun z => z + 1) ++ (sel (freeV c).length (fun k => Need c Y (c.ins.length + 1 + k))).map (fun z => z + ((c.ins.length + 1 : Nat) : Int)) := by
 have hle := (fold_only hg (store_ok hg)).le
 rw [allI_len] at hle
 have hiff : ∀ u : Nat, u < (storeV c).2.length + 1 -> ((OfP (storeV c).2 want u /\ InP (storeV c).2 u) ↔ Need c Y u) := fun u hu => by
  constructor
  ·rintro ⟨⟨h1, x, hx, hh⟩, hp⟩
   have := wt_meets hg h (mem_sup hx hh hp)
   rw [Int.toNat_natCast] at this; exact this.1
  ·intro hn
   obtain ⟨u', e, _, h3, h4⟩ := sel_mem.1 (wt_need hg h hc hn)
   have : u' = u := by omega
   rw [<- this]; exact ⟨h3, h4⟩
 have e0 : supL (storeV c).2 want = sel ((storeV c).2.length + 1) (Need c Y) := sel_congr hiff
 have hn0 : ¬ Need c Y 0 := fun hn => by
  have := wt_meets hg h (wt_need hg h hc hn)
  omega
 have hbig : ∀ u, c.ins.length + (freeV c).length < u -> ¬ Need c Y u := fun u hu hn => by
  have := (wt_meets hg h (wt_need hg h hc hn)).2.2
  omega
 rw [e0]
 obtain ⟨r, hr⟩ : ∃ r, (storeV c).2.length + 1 = (1 + c.ins.length + (freeV c).length) + r := ⟨(storeV c).2.length - (c.ins.length + (freeV c).length), by
  show (foldV c (skV c) (freeV c) (allI c.ins.length)).2.length + 1 = _ + ((foldV c (skV c) (freeV c) (allI c.ins.length)).2.length - _)
  omega⟩
 rw [hr, sel_add (1 + c.ins.length + (freeV c).length), sel_noneC (m := r) (fun u _ => hbig _ (by omega)), List.map_nil, List.append_nil, sel_add (1 + c.ins.length), sel_add 1, show sel 1 (Need c Y) = [] from by rw [sel_no hn0]; rfl, List.nil_append]
 have e1 : (fun k => Need c Y (1 + k)) = fun p => Need c Y (p + 1) := by funext k; rw [Nat.add_comm]
 rw [e1]
 congr 1
 rw [show 1 + c.ins.length = c.ins.length + 1 by omega]
theorem wt_in (hg : GoodC' c) (h : WtI c Y want) (hc : ∀ j ∈ laS c (supL (storeV c).2 want), nxS c j ∈ want) : inpS c (supL (storeV c).2 want) = inV c Y := by
 unfold inpS
 rw [wt_sup hg h hc, List.filter_append, List.filter_eq_self.2, List.filter_eq_nil_iff.2, List.append_nil, List.map_map]
 ·show _ = sel c.ins.length (fun p => Need c Y (p + 1))
  refine (List.map_congr_left fun z hz => ?_).trans (List.map_id _)
  show z + 1 - 1 = z
  omega
 ·intro z hz
  obtain ⟨k, hk, rfl⟩ := List.mem_map.1 hz
  have := (sel_bd k hk).1
  simp; omega
 ·intro z hz
  obtain ⟨k, hk, rfl⟩ := List.mem_map.1 hz
  have := (sel_bd k hk).2
  simp; omega
theorem wt_la (hg : GoodC' c) (h : WtI c Y want) (hc : ∀ j ∈ laS c (supL (storeV c).2 want), nxS c j ∈ want) : laS c (supL (storeV c).2 want) = laV c Y := by
 unfold laS
 rw [wt_sup hg h hc, List.filter_append, List.filter_eq_nil_iff.2, List.filter_eq_self.2, List.nil_append, List.map_map]
 ·have := sel_pick (fun j => (skV c).getD j 0 = 2) (fun k => Need c Y (c.ins.length + 1 + k)) c.lat.length
  refine Eq.trans (List.map_congr_left fun z hz => ?_) this
  show (freeV c).getD (z + ((c.ins.length + 1 : Nat) : Int) - 1 - (c.ins.length : Int)).toNat 0 = (freeV c).getD z.toNat 0
  rw [show (z + ((c.ins.length + 1 : Nat) : Int) - 1 - (c.ins.length : Int)) = z by omega]
 ·intro z hz
  obtain ⟨k, hk, rfl⟩ := List.mem_map.1 hz
  have := (sel_bd k hk).1
  simp; omega
 ·intro z hz
  obtain ⟨k, hk, rfl⟩ := List.mem_map.1 hz
  have := (sel_bd k hk).2
  simp; omega
noncomputable def missW (c : CirT) (want : List Int) : Nat := (freeV c).countP fun j => !dec (nxS c j ∈ want)
theorem countP_up {p q : Int -> Bool} (h : ∀ x, q x = true -> p x = true) : ∀ l : List Int, l.countP q <= l.countP p /\ ((∃ x ∈ l, p x = true /\ q x = false) -> l.countP q < l.countP p)
 | [] => ⟨Nat.le_refl _, fun ⟨x, hx, _⟩ => by cases hx⟩
 | y :: l => by
  obtain ⟨i1, i2⟩ := countP_up h l
  rw [List.countP_cons, List.countP_cons]
  have hy := h y
  refine ⟨by cases hq : q y <;> cases hp : p y <;> simp_all <;> omega, fun ⟨x, hx, hp, hq⟩ => ?_⟩
  rcases List.mem_cons.1 hx with rfl | hx
  ·rw [hp, hq]; simp; omega
  ·have := i2 ⟨x, hx, hp, hq⟩
   cases hq' : q y <;> cases hp' : p y <;> simp_all <;> omega
theorem wt_less (hg : GoodC' c) (h : WtI c Y want) (hl : ls = laS c (supL (storeV c).2 want)) (hgr : want.length < (addT c want ls ls.length).length) : missW c (addT c want ls ls.length) < missW c want := by
 obtain ⟨i1, _, _, _, i5, i6⟩ := addT_sub (c := c) (want := want) ls ls.length (Nat.le_refl _)
 rw [List.take_length] at i6
 have hex : ∃ j ∈ ls, nxS c j ∉ want := by
  apply Classical.byContradiction
  intro hn
  have hall : ∀ j ∈ ls, nxS c j ∈ want := fun j hj => Classical.byContradiction fun h1 => hn ⟨j, hj, h1⟩
  have key : ∀ k, k <= ls.length -> addT c want ls k = want := by
   intro k
   induction k with
   | zero => intro _; rfl
   | succ k ih =>
    intro hk
    obtain ⟨j, hj⟩ := getI ls (show k < _ by omega)
    rw [addT_succ hj, ih (by omega)]
    unfold addW
    rw [if_pos (hall j (List.mem_of_getElem? hj))]
  rw [key _ (Nat.le_refl _)] at hgr
  omega
 obtain ⟨j, hj, hjn⟩ := hex
 refine (countP_up (fun x hx => ?_) (freeV c)).2 ⟨j, ?_, ?_, ?_⟩
 ·by_cases h1 : nxS c x ∈ want
  ·rw [dTt (i1 _ h1)] at hx; cases hx
  ·rw [dFf h1]; rfl
 ·rw [hl] at hj
  obtain ⟨k, hk, _⟩ := laS_mem hg h hj
  exact List.mem_of_getElem? hk
 ·rw [dFf hjn]; rfl
 ·rw [dTt (i6 j hj)]; rfl
end

theorem Sep.joinC {B : Nat} {w w' : World} {ps qs : List Piece} (hS : Lt.Sep B w ps) (hx : Ext w w') (hq : Lt.Sep w.heap.size w' qs) (hB : B <= w.heap.size) : Lt.Sep B w' (qs ++ ps) := by
 have hS' := hS.ext hx
 refine ⟨fun i p h => ?_, fun i j p q h1 h2 hne => ?_⟩
 ·rcases get_app h with h | ⟨_, h⟩
  ·exact ⟨(hq.holds i p h).1, fun k hk => ⟨Nat.le_trans hB ((hq.holds i p h).2 k hk).1, ((hq.holds i p h).2 k hk).2⟩⟩
  ·exact hS'.holds _ p h
 ·rcases get_app h1 with h1 | ⟨l1, h1⟩
  ·rcases get_app h2 with h2 | ⟨l2, h2⟩
   ·exact hq.apart i j p q h1 h2 hne
   ·cases hb : p.b with
    | none => exact .inl rfl
    | some k =>
     refine .inr fun he => ?_
     have e1 := ((hq.holds i p h1).2 k hb).1
     have e2 := ((hS.holds _ q h2).2 k he.symm).2
     omega
  ·rcases get_app h2 with h2 | ⟨l2, h2⟩
   ·cases hb : p.b with
    | none => exact .inl rfl
    | some k =>
     refine .inr fun he => ?_
     have e1 := ((hq.holds j q h2).2 k he.symm).1
     have e2 := ((hS.holds _ p h1).2 k hb).2
     omega
   ·exact hS.apart _ _ p q h1 h2 (by omega)
noncomputable def freeT (c : CirT) (k : Nat) : List Int := sel k (fun j => (skV c).getD j 0 = 2)
theorem r42_Needs (c : Circ) (Y : Int) (w : World) (hC : CAt w c) (hg : GoodC' c.t) (hz : SzC c.t 100000) :
  Lt.Spec Tryz.prog 33 [c.val, .int .i64 Y] w (IsFresh2 1 encI 3 1 encI 3 w (laV c.t Y) (inV c.t Y)) := by
 have z1 : c.ins.2.2.length <= 100000 := hz.1
 have z2 : c.lat.2.2.length <= 100000 := hz.2.1
 have z5 : c.cons.2.2.length <= 100000 := hz.2.2.2.2.1
 have hnl := net_len hg hz
 have hsl : (skV c.t).length = c.lat.2.2.length := stuck_len
 refine Spec.of _ Tryz.func33 rfl Tryz.ntmps33 (by kernel_rfl) rfl ?_
 repeat' (first | (apply WL.box; (iterate 3 exact rfl); intro gc wc hb hge hc hxc; have hcc := hc; obtain ⟨h1, h2, h3, _⟩ := hc; (have hcells := hcc)) | (apply WL.call (f := 35); (iterate 4 exact rfl); exact r42_Stuck c _ (hC.ext extA) hg hz; rintro v' w1 ⟨hx1, aS, cS, rfl, hOS⟩; have hc1 := Cells.ext hx1 hcells) | (apply WL.lit (len := 0) tOk; (iterate 6 exact rfl); kernel_rfl; exact rfl; intro gb w' hb hge hc hx; have hO0 := Own.ofB0 (enc := encI) (s := 1) hb hge; (first | (have h_0 := hOf; clear h_0; obtain ⟨ga, rfl⟩ : ∃ x, x = gb := ⟨_, rfl⟩; obtain ⟨w3, rfl⟩ : ∃ x, x = w' := ⟨_, rfl⟩; obtain ⟨hx3, rfl⟩ : ∃ x, x = hx := ⟨_, rfl⟩; have hOa := hO0; clear hO0) | (obtain ⟨gf, rfl⟩ : ∃ x, x = gb := ⟨_, rfl⟩; obtain ⟨w2, rfl⟩ : ∃ x, x = w' := ⟨_, rfl⟩; obtain ⟨hx2, rfl⟩ : ∃ x, x = hx := ⟨_, rfl⟩; have hOf := hO0; clear hO0))) | (first | apply WL.nil | refine WL.au (k := ?_)) | apply Z.tn | (first | apply W.seq | apply W.region | apply W.block))
 have hXw1 : Ext w w1 := hxc.trans hx1
 have RS1 := hOS.row eIk
 have hC1 := hC.ext hXw1
 have hS2 := Sep.newRow (Sep.newRow (Sep.none' (B := w1.heap.size) (w := w1)) hx2 hOf (fun q hq => (hOf.blk_lt q hq).1) (Nat.le_refl _)) hx3 (hOa.base (Below.size hx2)) (fun q hq => (hOa.blk_lt q hq).1) (Below.size hx2)
 have hS3 : Lt.Sep w1.heap.size w3 [prow 1 encI 3 w1.heap.size (some ⟨gf, 0, none⟩) 0 (freeT c.t 0), prow 1 encI 3 w1.heap.size (some ⟨ga, 0, none⟩) 0 []] := Sep.pickL (pre := [_, _]) (tl := []) [1, 0] pnone hS2 rfl
 refine W.loopO c.lat.2.2.length (fun k b cp w' => k <= c.lat.2.2.length /\ Ext w1 w' /\ Lt.Sep w1.heap.size w' [prow 1 encI 3 w1.heap.size b cp (freeT c.t k), prow 1 encI 3 w1.heap.size (some ⟨ga, 0, none⟩) 0 []])
  (fun k b cp => [(1, .int .i64 Y), (2, .pointer (some ⟨gc, 0, none⟩)), (6, .slice aS (skV c.t).length cS), (7, .slice b (freeT c.t k).length cp), (8, .slice (some ⟨ga, 0, none⟩) 0 0), (9, .int .i64 k)]) (some ⟨gf, 0, none⟩) 0 ⟨Nat.zero_le _, hx2.trans hx3, hS3⟩ (fun k a cp w' h => h.1) (by repeat' first | exact trivial | (refine And.intro ?_ ?_) | exact rfl) ?_
 clear hS2 hS3 hOf hOa
 rintro k bF cF w9 ⟨hk, hX9, hS⟩
 have hftl : (freeT c.t k).length <= k := sel_le _ _
 by_cases hlt : k < c.lat.2.2.length
 ·obtain ⟨x, hx⟩ := getI (skV c.t) (show k < _ by omega)
  have hxD : (skV c.t).getD k 0 = x := gDo hx
  have RSk := RS1.ext hX9
  have hO9 : Own 1 encI 3 w1.heap.size w9 bF cF (freeT c.t k) := hS.row (i := 0) rfl
  by_cases q1 : x = 2
  ·have e1 : freeT c.t (k + 1) = freeT c.t k ++ [(k : Int)] := sel_yes (by rw [hxD]; exact q1)
   repeat' (first | (apply W.cKT; exact rfl; exact dTt (by omega)) | (apply WL.lit tOk; (iterate 6 exact rfl); kernel_rfl; exact rfl; intro gb wL hb hge hc hxL) | (apply WL.ap1 (z := ((k : Int))) tOk eIk; (iterate 10 exact rfl); assumption; exact extA; exact rfl; assumption; exact rfl; exact rfl; exact extA; omega; intro bA cA wA hOA hXA hUA hFA; (have hSA := Sep.uRw (i := 0) rfl hUA hOA hFA hS hxL (Below.size (hX9.trans hxL)))) | (first | apply WL.nil | refine WL.au (k := ?_) | (apply WL.index tOk; (iterate 8 exact rfl); assumption; exact extA; exact rfl; omega; assumption; intro b off h; have hcc := h; first | (obtain ⟨h1, h2, h3, h4, h5, h6, _⟩ := h) | (obtain ⟨h1, h2, h3, _⟩ := h) | (obtain ⟨h1, h2, _⟩ := h) | (obtain ⟨h1, _⟩ := h))) | (first | apply Z.tn | apply Z.bkn) | (first | apply W.seq | apply W.region | apply W.block | apply W.skip))
   exact Z.agO bA cA ⟨by omega, hXA, by rw [e1]; exact hSA⟩ (by repeat' first | exact trivial | (refine And.intro ?_ ?_) | exact rfl | (rw [e1]; exact rfl))
  ·have e1 : freeT c.t (k + 1) = freeT c.t k := sel_no (by rw [hxD]; exact q1)
   repeat' (first | (apply W.cKT; exact rfl; (focus (exact dTt (by omega)))) | (apply W.cKF; exact rfl; exact dFf q1) | (first | apply WL.nil | refine WL.au (k := ?_) | (apply WL.index tOk; (iterate 8 exact rfl); assumption; exact extA; exact rfl; omega; assumption; intro b off h; have hcc := h; first | (obtain ⟨h1, h2, h3, h4, h5, h6, _⟩ := h) | (obtain ⟨h1, h2, h3, _⟩ := h) | (obtain ⟨h1, h2, _⟩ := h) | (obtain ⟨h1, _⟩ := h))) | (first | apply Z.tn | apply Z.bkn) | (first | apply W.seq | apply W.region | apply W.block | apply W.skip))
   exact Z.agO bF cF ⟨by omega, hX9, by rw [e1]; exact hS⟩ (by repeat' first | exact trivial | (refine And.intro ?_ ?_) | exact rfl | (rw [e1]; exact rfl))
 obtain rfl : k = c.lat.2.2.length := by omega
 have eF : freeT c.t c.lat.2.2.length = freeV c.t := rfl
 rw [eF] at hS hftl ⊢
 repeat' (first | (apply W.cKF; exact rfl; exact dFf (by omega)) | (first | apply WL.nil | refine WL.au (k := ?_)) | (first | apply Z.tn | apply Z.tnx | apply Z.bkx) | (first | apply W.seq | apply W.region | apply W.block | apply W.exit))
 have hS3 : Lt.Sep w1.heap.size w9 [prow 1 encI 3 w1.heap.size bF cF (freeV c.t), prow 1 encI 3 w1.heap.size (some ⟨ga, 0, none⟩) 0 ((allI c.ins.2.2.length).take 0)] := hS
 refine W.loopO c.ins.2.2.length (fun k b cp w' => k <= c.ins.2.2.length /\ Ext w1 w' /\ Lt.Sep w1.heap.size w' [prow 1 encI 3 w1.heap.size bF cF (freeV c.t), prow 1 encI 3 w1.heap.size b cp ((allI c.ins.2.2.length).take k)])
  (fun k b cp => [(1, .int .i64 Y), (2, .pointer (some ⟨gc, 0, none⟩)), (6, .slice aS (skV c.t).length cS), (7, .slice bF (freeV c.t).length cF), (8, .slice b ((allI c.ins.2.2.length).take k).length cp), (10, .int .i64 k)]) (some ⟨ga, 0, none⟩) 0 ⟨Nat.zero_le _, hX9, hS3⟩ (fun k a cp w' h => h.1) (by repeat' first | exact trivial | (refine And.intro ?_ ?_) | exact rfl) ?_
 clear hS hS3 hX9
 rintro k2 bA cA wa ⟨hk2, hXa, hS⟩
 have hal : (allI c.ins.2.2.length).length = c.ins.2.2.length := allI_len _
 have htl2 : ((allI c.ins.2.2.length).take k2).length = k2 := by rw [List.length_take]; omega
 obtain ⟨_, u1, u2, _, _, u5, _⟩ := Cells.ext hXa hc1
 by_cases hlt2 : k2 < c.ins.2.2.length
 ·have e1 : (allI c.ins.2.2.length).take (k2 + 1) = (allI c.ins.2.2.length).take k2 ++ [(k2 : Int)] := tkS (allI_get hlt2)
  have hOa : Own 1 encI 3 w1.heap.size wa bA cA ((allI c.ins.2.2.length).take k2) := hS.row (i := 1) rfl
  repeat' (first | (apply W.cKT; exact rfl; exact dTt (by omega)) | (apply WL.lit tOk; (iterate 6 exact rfl); kernel_rfl; exact rfl; intro gb wL hb hge hc hxL) | (apply WL.ap1 (z := ((k2 : Int))) tOk eIk; (iterate 10 exact rfl); assumption; exact extA; exact rfl; assumption; exact rfl; exact rfl; exact extA; omega; intro bB cB wA hOA hXA hUA hFA; (have hSA := Sep.uRw (i := 1) rfl hUA hOA hFA hS hxL (Below.size (hXa.trans hxL)))) | (first | apply WL.nil | refine WL.au (k := ?_)) | (first | apply Z.tn | apply Z.bkn) | (first | apply W.seq | apply W.region | apply W.block | apply W.skip))
  exact Z.agO bB cB ⟨by omega, hXA, by rw [e1]; exact hSA⟩ (by repeat' first | exact trivial | (refine And.intro ?_ ?_) | exact rfl | (rw [e1]; exact rfl))
 obtain rfl : k2 = c.ins.2.2.length := by omega
 have eA : (allI c.ins.2.2.length).take c.ins.2.2.length = allI c.ins.2.2.length := by
  have h9 := List.take_length (l := allI c.ins.2.2.length)
  rw [hal] at h9; exact h9
 rw [eA] at hS ⊢
 have hOf : Own 1 encI 3 w1.heap.size wa bF cF (freeV c.t) := hS.row (i := 0) rfl
 have hOa : Own 1 encI 3 w1.heap.size wa bA cA (allI c.ins.2.2.length) := hS.row (i := 1) rfl
 have hCa := hC1.ext hXa
 have hca := Cells.ext hXa hc1
 have hXwa : Ext w wa := hXw1.trans hXa
 obtain ⟨O, hO⟩ : ∃ O, O = storeV c.t := ⟨_, rfl⟩
 have hO1 : OwnOk c.t O.1 := by rw [hO]; exact fold_ownOk hg hz (store_ok hg) (by omega) (by show (allI c.ins.2.2.length).length <= _; omega)
 have hIO := fold_inv hg (store_ok hg)
 have hO2 : O.2.length <= 500000 /\ GNt O.2 := by
  rw [hO]
  refine ⟨?_, hIO.2.2.2.2.good⟩
  have h9 := hIO.2.2.2.1
  have h10 : (allI c.t.ins.length).length = c.ins.2.2.length := allI_len _
  show (foldV c.t (skV c.t) (freeV c.t) (allI c.t.ins.length)).2.length <= 500000
  omega
 have eO : foldV c.t (skV c.t) (freeV c.t) (allI c.ins.2.2.length) = O := hO.symm
 have hatl := fun (l : Int) (hl : KnL c.t l) (aO : Option Addr) (cO : Nat) (w9 : World) (R : Row 1 encI w9 aO (outF c.t O.1)) => (show Still Tryz.prog 36 [.slice aO (outF c.t O.1).length cO, .int .i64 l] w9 (.int .i64 (inSt c.t l)) from by
  obtain ⟨z, h1, h2, h3, h4⟩ := out_lit hg hO1 hl
  have h5 := r42_at aO cO (outF c.t O.1) l z w9 R hl.1 (by have h6 := knL_max hg hl; have h7 := hg.max; omega) h1 ⟨h2, by omega⟩
  rw [h4, hO] at h5
  rw [hO]; exact h5)
 have hkb := bad_kn (c := c.t) hg Y
 repeat' (first | (apply W.cKF; exact rfl; exact dFf (by omega)) | (apply WL.call (f := 34); (iterate 4 exact rfl); exact r42_Fold c (skV c.t) (freeV c.t) (allI c.ins.2.2.length) aS bF bA cS cF cA _ hCa hg hz (store_ok hg) (by omega) (by omega) (RS1.ext hXa) (hOf.row eIk) (hOa.row eIk); rintro v' w5 ⟨hx5, gs, ar, caps, aO, cO, rfl, ⟨w0s, hX0s, hSs⟩, hOO⟩; rw [eO] at hSs hOO ⊢; have RO5 := hOO.row eIk; have hc5 := Cells.ext hx5 hca) | (apply WL.callP (f := 37); (iterate 4 exact rfl); exact r42_bad c Y _ (hCa.ext extA); intro w' hx) | (apply WL.callS (f := 36); (iterate 4 exact rfl); exact hatl _ hkb aO cO _ (RO5.ext extA)) | (apply WL.lit tOk; (iterate 6 exact rfl); kernel_rfl; exact rfl; intro gw w6 hb hge hc hx6; have hO := Own.of_block ([inSt c.t (badL c.t Y)]) eIk hb hge rfl; (obtain ⟨hOw, rfl⟩ : ∃ x, x = hO := ⟨_, rfl⟩)) | (first | apply WL.nil | refine WL.au (k := ?_)) | (first | apply Z.tn | apply Z.tnx | apply Z.bkx) | (first | apply W.seq | apply W.region | apply W.block | apply W.exit))
 have hX56 : Ext w5 w6 := extA
 have hOw5 : Own 1 encI 3 w5.heap.size w6 (some ⟨gw, 0, none⟩) 1 (inSt c.t (badL c.t Y) :: (c.cons.2.2.take 0).map (inSt c.t)) := hOw.base (Below.size (show Ext w5 _ from extA))
 have hC5 := hCa.ext hx5
 refine W.loopO c.cons.2.2.length (fun k b cp w' => k <= c.cons.2.2.length /\ Ext w5 w' /\ Own 1 encI 3 w5.heap.size w' b cp (inSt c.t (badL c.t Y) :: (c.cons.2.2.take k).map (inSt c.t)))
  (fun k b cp => [(2, .pointer (some ⟨gc, 0, none⟩)), (7, .slice bF (freeV c.t).length cF), (8, .slice bA (allI c.ins.2.2.length).length cA), (11, .pointer (some ⟨gs, 0, none⟩)), (12, .slice aO (outF c.t O.1).length cO), (13, .slice b (inSt c.t (badL c.t Y) :: (c.cons.2.2.take k).map (inSt c.t)).length cp), (14, .int .i64 k)]) (some ⟨gw, 0, none⟩) 1 ⟨Nat.zero_le _, hX56, hOw5⟩ (fun k a cp w' h => h.1) (by repeat' first | exact trivial | (refine And.intro ?_ ?_) | exact rfl) ?_
 clear hOw5 hOw hS u1 u2 u5
 rintro k3 bW cW wk ⟨hk3, hXk, hOk⟩
 have htl3 : ((c.cons.2.2.take k3).map (inSt c.t)).length = k3 := by rw [List.length_map, List.length_take]; omega
 obtain ⟨_, u1, u2, _, _, u5, _⟩ := Cells.ext hXk hc5
 by_cases hlt3 : k3 < c.cons.2.2.length
 ·obtain ⟨l, hl⟩ := getI c.cons.2.2 hlt3
  have RCk := (hC5.ext hXk).cons.row
  have hkl := kLu hg (used_con (c := c.t) (List.mem_of_getElem? hl))
  have e1 : (inSt c.t (badL c.t Y) :: (c.cons.2.2.take (k3 + 1)).map (inSt c.t)) = (inSt c.t (badL c.t Y) :: (c.cons.2.2.take k3).map (inSt c.t)) ++ [inSt c.t l] := by rw [tkS hl, List.map_append]; rfl
  have hcl := hatl l hkl aO cO wk (RO5.ext hXk)
  repeat' (first | (apply W.cKT; exact rfl; exact dTt (by omega)) | (apply WL.callS (f := 36); (iterate 4 exact rfl); exact hcl) | (apply WL.lit tOk; (iterate 6 exact rfl); kernel_rfl; exact rfl; intro gb w' hb hge hc hx) | (apply WL.ap1 (z := (inSt c.t l)) tOk eIk; (iterate 10 exact rfl); assumption; exact extA; exact rfl; assumption; exact rfl; exact rfl; exact extA; ((simp; omega)); intro a' cap' w' hO hX' hU hF) | (first | apply WL.nil | refine WL.au (k := ?_) | (apply WL.index tOk; (iterate 8 exact rfl); assumption; exact extA; exact rfl; omega; assumption; intro b off h; have hcc := h; first | (obtain ⟨h1, h2, h3, h4, h5, h6, _⟩ := h) | (obtain ⟨h1, h2, h3, _⟩ := h) | (obtain ⟨h1, h2, _⟩ := h) | (obtain ⟨h1, _⟩ := h))) | (first | apply Z.tn | apply Z.bkn) | (first | apply W.seq | apply W.region | apply W.block | apply W.skip))
  exact Z.agO a' cap' ⟨by omega, hX', by rw [e1]; exact hO⟩ (by repeat' first | exact trivial | (refine And.intro ?_ ?_) | exact rfl | (rw [e1]; exact rfl))
 obtain rfl : k3 = c.cons.2.2.length := by omega
 rw [List.take_length] at hOk htl3 ⊢
 have hW0 : WtI c.t Y (inSt c.t (badL c.t Y) :: c.cons.2.2.map (inSt c.t)) := by
  rcases ndI_first (c := c.t) (prop := Y) with h9 | h9
  ·refine ⟨h9.t, fun l hl => ?_⟩
   rcases List.mem_cons.1 hl with rfl | hl
   ·exact List.mem_cons_self ..
   ·exact List.mem_cons_of_mem _ (List.mem_map.2 ⟨l, hl, rfl⟩)
  ·exact absurd hg h9
 have hms : missW c.t (inSt c.t (badL c.t Y) :: c.cons.2.2.map (inSt c.t)) <= 100000 := Nat.le_trans List.countP_le_length (by omega)
 have hS0 := Sep.newRow (s := 1) (enc := encI) (el := 3) (Sep.none' (B := w5.heap.size) (w := w5)) hXk hOk (fun q hq => (hOk.blk_lt q hq).1) (Nat.le_refl _)
 repeat' (first | (apply W.cKF; exact rfl; exact dFf (by omega)) | (apply WL.lit (len := 0) tOk; (iterate 6 exact rfl); kernel_rfl; exact rfl; intro gb w' hb hge hc hx; have hO0 := Own.ofB0 (enc := encI) (s := 1) hb hge) | (first | apply WL.nil | refine WL.au (k := ?_)) | (first | apply Z.tn | apply Z.tnx | apply Z.bkx) | (first | apply W.seq | apply W.region | apply W.block | apply W.exit))
 obtain ⟨wz, rfl⟩ : ∃ x, x = w' := ⟨_, rfl⟩; obtain ⟨hxz, rfl⟩ : ∃ x, x = hx := ⟨_, rfl⟩
 have hXkz : Ext wk wz := extA
 refine W.loop (σ := List Int × Option Addr × Nat × World) (fun s => Ext w5 s.2.2.2 /\ WtI c.t Y s.1 /\ s.1.length + 500001 * missW c.t s.1 <= 60000000000 /\ Own 1 encI 3 w5.heap.size s.2.2.2 s.2.1 s.2.2.1 s.1)
  (fun s => [(2, .pointer (some ⟨gc, 0, none⟩)), (7, .slice bF (freeV c.t).length cF), (8, .slice bA (allI c.ins.2.2.length).length cA), (11, .pointer (some ⟨gs, 0, none⟩)), (12, .slice aO (outF c.t O.1).length cO), (13, .slice s.2.1 s.1.length s.2.2.1)])
  (fun s => s.2.2.2) (fun s => missW c.t s.1) ((inSt c.t (badL c.t Y) :: c.cons.2.2.map (inSt c.t)), bW, cW, wz) ⟨hXk.trans hXkz, hW0, by dsimp only; rw [List.length_cons, htl3]; omega, hOk.ext hXkz⟩ (by repeat' first | exact trivial | (refine And.intro ?_ ?_) | exact rfl) rfl ?_
 clear hS0 hOk hW0 hms u1 u2 u5 htl3
 rintro ⟨want, bT, cpT, w10⟩ ⟨hX10, hW, hwl, hOt⟩
 dsimp only at hX10 hW hwl hOt ⊢
 obtain ⟨_, u1, u2, _, _, u5, _⟩ := Cells.ext hX10 hc5
 have hSw := hSs.ext hX10
 obtain ⟨s0, _⟩ := cHp (hSw.cell (i := 0) (gb := gs) rfl)
 have RN10 : Row 2 encN w10 ar O.2 := Own.row encN_ok (hSw.row (i := 1) rfl)
 have htI : ∀ x ∈ want, inI64 x := fun x hx => by
  obtain ⟨l, hl, rfl, _⟩ := hW.t x hx
  have h9 := flit_in hg hO1 hl
  rw [hO] at h9
  have h10 : 0 <= inSt c.t l /\ inSt c.t l <= 4611686018427387905 := h9
  unfold inI64; omega
 repeat' (first | (apply WL.nilc; (iterate 3 exact rfl)) | (apply WL.call (f := 91); (iterate 4 exact rfl); exact ref08_Support ar bT caps cpT O.2 want w10 RN10 (hOt.row eIk) hO2.2 (by omega) htI; rintro v' w14 ⟨hx14, aQ, cQ, rfl, hOQ⟩) | (apply WL.lit (len := 0) tOk; (iterate 6 exact rfl); kernel_rfl; exact rfl; intro gb w' hb hge hc hx; have hO0 := Own.ofB0 (enc := encI) (s := 1) hb hge; (first | (have h_0 := hOl; clear h_0; obtain ⟨gi, rfl⟩ : ∃ x, x = gb := ⟨_, rfl⟩; obtain ⟨w16, rfl⟩ : ∃ x, x = w' := ⟨_, rfl⟩; obtain ⟨hx16, rfl⟩ : ∃ x, x = hx := ⟨_, rfl⟩; have hOi := hO0; clear hO0) | (obtain ⟨gl, rfl⟩ : ∃ x, x = gb := ⟨_, rfl⟩; obtain ⟨w15, rfl⟩ : ∃ x, x = w' := ⟨_, rfl⟩; obtain ⟨hx15, rfl⟩ : ∃ x, x = hx := ⟨_, rfl⟩; have hOl := hO0; clear hO0))) | (first | apply WL.nil | refine WL.au (k := ?_)) | apply Z.tn | (first | apply W.seq | apply W.region | apply W.block))
 obtain ⟨sL, hsL⟩ : ∃ sL, sL = supL O.2 want := ⟨_, rfl⟩
 rw [<- hsL] at hOQ ⊢
 have esL : sL = supL (storeV c.t).2 want := by rw [hsL, hO]
 have hti : c.t.ins.length = c.ins.2.2.length := rfl
 have RQ := hOQ.row eIk
 have hS16 := Sep.newRow (Sep.newRow (Sep.none' (B := w14.heap.size) (w := w14)) hx15 hOl (fun q hq => (hOl.blk_lt q hq).1) (Nat.le_refl _)) hx16 (hOi.base (Below.size hx15)) (fun q hq => (hOi.blk_lt q hq).1) (Below.size hx15)
 have hS17 : Lt.Sep w14.heap.size w16 [prow 1 encI 3 w14.heap.size (some ⟨gl, 0, none⟩) 0 (laS c.t (sL.take 0)), prow 1 encI 3 w14.heap.size (some ⟨gi, 0, none⟩) 0 (inpS c.t (sL.take 0))] := Sep.pickL (pre := [_, _]) (tl := []) [1, 0] pnone hS16 rfl
 have hsLl : sL.length <= 500001 := by rw [hsL]; exact Nat.le_trans (sel_le _ _) (by omega)
 have hF10 := (hOf.row eIk).ext (hx5.trans hX10)
 refine W.loopO2 sL.length (fun k b cp b2 cp2 w' => k <= sL.length /\ Ext w14 w' /\ Lt.Sep w14.heap.size w' [prow 1 encI 3 w14.heap.size b cp (laS c.t (sL.take k)), prow 1 encI 3 w14.heap.size b2 cp2 (inpS c.t (sL.take k))])
  (fun k b cp b2 cp2 => [(2, .pointer (some ⟨gc, 0, none⟩)), (7, .slice bF (freeV c.t).length cF), (8, .slice bA (allI c.ins.2.2.length).length cA), (11, .pointer (some ⟨gs, 0, none⟩)), (12, .slice aO (outF c.t O.1).length cO), (13, .slice bT want.length cpT), (15, .slice b (laS c.t (sL.take k)).length cp), (16, .slice b2 (inpS c.t (sL.take k)).length cp2), (17, .slice aQ sL.length cQ), (18, .int .i64 k)]) (some ⟨gl, 0, none⟩) 0 (some ⟨gi, 0, none⟩) 0 ⟨Nat.zero_le _, hx15.trans hx16, hS17⟩ (fun k a cp b2 cp2 w' h => h.1) (by repeat' first | exact trivial | (refine And.intro ?_ ?_) | exact rfl) ?_
 clear hS16 hS17 hOl hOi u1 u2 u5
 rintro k bL cL bI cI wd ⟨hkd, hXd, hS⟩
 by_cases hltd : k < sL.length
 ·obtain ⟨v, hv⟩ := getI sL hltd
  obtain ⟨hnd, hv1, hvM⟩ := wt_meets hg hW (v := v) (by rw [<- esL]; exact List.mem_of_getElem? hv)
  have RQd := RQ.ext hXd
  have e1 := inpS_snoc (c := c.t) hv
  have e2 := laS_snoc (c := c.t) hv
  have l1 : (inpS c.t (sL.take k)).length <= 500001 := by unfold inpS; rw [List.length_map]; exact Nat.le_trans (List.length_filter_le _ _) (by rw [List.length_take]; omega)
  have l2 : (laS c.t (sL.take k)).length <= 500001 := by unfold laS; rw [List.length_map]; exact Nat.le_trans (List.length_filter_le _ _) (by rw [List.length_take]; omega)
  by_cases hvi : v <= (c.ins.2.2.length : Int)
  ·rw [if_pos (show v <= (c.t.ins.length : Int) from hvi)] at e1 e2
   have hOid : Own 1 encI 3 w14.heap.size wd bI cI (inpS c.t (sL.take k)) := hS.row (i := 1) rfl
   repeat' (first | (apply W.cKT; exact rfl; exact dTt (by omega)) | (apply WL.lit tOk; (iterate 6 exact rfl); kernel_rfl; exact rfl; intro gb wL hb hge hc hxL) | (apply WL.ap1 (z := (v - 1)) tOk eIk; (iterate 10 exact rfl); assumption; exact extA; exact rfl; assumption; exact rfl; exact rfl; exact extA; omega; intro bB cB wA hOA hXA hUA hFA; (have hSA := Sep.uRw (i := 1) rfl hUA hOA hFA hS hxL (Below.size (hXd.trans hxL)))) | (first | apply WL.nil | refine WL.au (k := ?_) | (apply WL.index tOk; (iterate 8 exact rfl); assumption; exact extA; exact rfl; omega; assumption; intro b off h; have hcc := h; first | (obtain ⟨h1, h2, h3, h4, h5, h6, _⟩ := h) | (obtain ⟨h1, h2, h3, _⟩ := h) | (obtain ⟨h1, h2, _⟩ := h) | (obtain ⟨h1, _⟩ := h))) | (first | apply Z.tn | apply Z.bkn) | (first | apply W.seq | apply W.region | apply W.block | apply W.skip))
   exact Z.againO2 bL cL bB cB ⟨by omega, hXA, by rw [e1, e2]; exact hSA⟩ (by repeat' first | exact trivial | (refine And.intro ?_ ?_) | exact rfl | (rw [e1]; exact rfl) | (rw [e2]; exact rfl))
  ·rw [if_neg (show ¬ v <= (c.t.ins.length : Int) from hvi)] at e1 e2
   obtain ⟨j, hj⟩ := getI (freeV c.t) (show (v - 1 - (c.ins.2.2.length : Int)).toNat < (freeV c.t).length by omega)
   rw [show (freeV c.t).getD (v - 1 - (c.t.ins.length : Int)).toNat 0 = j from gDo hj] at e2
   have RFd := hF10.ext (hx14.trans hXd)
   have hj' : (freeV c.t)[(v - 1 - ((allI c.ins.2.2.length).length : Int)).toNat]? = some j := by rw [hal]; exact hj
   have hOld : Own 1 encI 3 w14.heap.size wd bL cL (laS c.t (sL.take k)) := hS.row (i := 0) rfl
   repeat' (first | (apply W.cKT; exact rfl; (focus (exact dTt (by omega)))) | (apply W.cKF; exact rfl; exact dFf (by omega)) | (apply WL.lit tOk; (iterate 6 exact rfl); kernel_rfl; exact rfl; intro gb wL hb hge hc hxL) | (apply WL.ap1 (z := (j)) tOk eIk; (iterate 10 exact rfl); assumption; exact extA; exact rfl; assumption; exact rfl; exact rfl; exact extA; omega; intro bB cB wA hOA hXA hUA hFA; (have hSA := Sep.uRw (i := 0) rfl hUA hOA hFA hS hxL (Below.size (hXd.trans hxL)))) | (first | apply WL.nil | refine WL.au (k := ?_) | (apply WL.index tOk; (iterate 8 exact rfl); assumption; exact extA; exact rfl; omega; assumption; intro b off h; have hcc := h; first | (obtain ⟨h1, h2, h3, h4, h5, h6, _⟩ := h) | (obtain ⟨h1, h2, h3, _⟩ := h) | (obtain ⟨h1, h2, _⟩ := h) | (obtain ⟨h1, _⟩ := h))) | (first | apply Z.tn | apply Z.bkn) | (first | apply W.seq | apply W.region | apply W.block | apply W.skip))
   exact Z.againO2 bB cB bI cI ⟨by omega, hXA, by rw [e1, e2]; exact hSA⟩ (by repeat' first | exact trivial | (refine And.intro ?_ ?_) | exact rfl | (rw [e1]; exact rfl) | (rw [e2]; exact rfl))
 obtain rfl : k = sL.length := by omega
 rw [List.take_length] at hS ⊢
 obtain ⟨ls, hls⟩ : ∃ ls, ls = laS c.t sL := ⟨_, rfl⟩
 rw [<- hls] at hS ⊢
 have hls' : ls = laS c.t (supL (storeV c.t).2 want) := by rw [hls, esL]
 have lls : ls.length <= 500001 := by rw [hls]; unfold laS; rw [List.length_map]; exact Nat.le_trans (List.length_filter_le _ _) hsLl
 have hX14 : Ext w5 w14 := hX10.trans hx14
 have hSt := Sep.newRow (s := 1) (enc := encI) (el := 3) (Sep.none' (B := w5.heap.size) (w := w5)) hX14 (hOt.ext hx14) (fun q hq => (hOt.blk_lt q hq).1) (Nat.le_refl _)
 have hSj : Lt.Sep w5.heap.size wd [prow 1 encI 3 w14.heap.size bL cL ls, prow 1 encI 3 w14.heap.size bI cI (inpS c.t sL), prow 1 encI 3 w5.heap.size bT cpT (addT c.t want ls 0)] := Sep.joinC hSt hXd hS (Below.size hX14)
 have d0 : dec (want.length < (addT c.t want ls 0).length) = false := dFf (fun h => Nat.lt_irrefl _ h)
 have a0 : (addT c.t want ls 0).length = want.length := rfl
 repeat' (first | (apply W.cKF; exact rfl; exact dFf (by omega)) | (first | apply WL.nil | refine WL.au (k := ?_)) | (first | apply Z.tn | apply Z.tnx | apply Z.bkx) | (first | apply W.seq | apply W.region | apply W.block | apply W.exit))
 refine W.loopO ls.length (fun k b cp w' => k <= ls.length /\ Ext w5 w' /\ Lt.Sep w5.heap.size w' [prow 1 encI 3 w14.heap.size bL cL ls, prow 1 encI 3 w14.heap.size bI cI (inpS c.t sL), prow 1 encI 3 w5.heap.size b cp (addT c.t want ls k)])
  (fun k b cp => [(2, .pointer (some ⟨gc, 0, none⟩)), (7, .slice bF (freeV c.t).length cF), (8, .slice bA (allI c.ins.2.2.length).length cA), (11, .pointer (some ⟨gs, 0, none⟩)), (12, .slice aO (outF c.t O.1).length cO), (13, .slice b (addT c.t want ls k).length cp), (15, .slice bL ls.length cL), (16, .slice bI (inpS c.t sL).length cI), (19, .bool (dec (want.length < (addT c.t want ls k).length))), (20, .int .i64 k)]) bT cpT ⟨Nat.zero_le _, hX14.trans hXd, hSj⟩ (fun k a cp w' h => h.1) (by repeat' first | exact trivial | (refine And.intro ?_ ?_) | exact rfl | (rw [d0]; exact rfl) | (rw [a0]; exact rfl)) ?_
 clear hSj hSt hS
 rintro k bW cW we ⟨hke, hXe, hS⟩
 obtain ⟨i1, i2, i3, i4, i5, i6⟩ := addT_sub (c := c.t) (want := want) ls k hke
 have hmw : want.length <= 60000000000 := by omega
 have hOLe : Own 1 encI 3 w14.heap.size we bL cL ls := (hS.holds 0 _ rfl).1
 have RLe : Row 1 encI we bL ls := hOLe.row eIk
 have hOWe : Own 1 encI 3 w5.heap.size we bW cW (addT c.t want ls k) := hS.row (i := 2) rfl
 have RWe := hOWe.row eIk
 by_cases hlte : k < ls.length
 ·obtain ⟨j, hj⟩ := getI ls hlte
  obtain ⟨kk, hkk, _, _⟩ := laS_mem hg hW (j := j) (by rw [<- hls']; exact List.mem_of_getElem? hj)
  have hjf := free_mem.1 (List.mem_of_getElem? hkk)
  obtain ⟨t, ht⟩ := getI c.lat.2.2 (show j.toNat < c.lat.2.2.length from by have := hjf.2.1; have h9 : c.t.lat.length = c.lat.2.2.length := rfl; omega)
  have eD : latD c.t j = t := gDo ht
  have enx : nxS c.t j = inSt c.t t.2.1 := by unfold nxS; rw [eD]
  have hkl := kLu hg (used_next (c := c.t) (List.mem_of_getElem? ht))
  have RLt := (hC5.ext hXe).lat.row
  obtain ⟨_, u1, u2, _⟩ := Cells.ext hXe hc5
  have hcl := fun (w9 : World) (h9 : Ext we w9) => hatl t.2.1 hkl aO cO w9 (RO5.ext (hXe.trans h9))
  have hhas := fun (w9 : World) (h9 : Ext we w9) => ref_Has bW cW (addT c.t want ls k) (inSt c.t t.2.1) w9 (RWe.ext h9)
  have eT := addT_succ (c := c.t) (want := want) hj
  unfold addW at eT
  rw [enx] at eT
  by_cases hin : inSt c.t t.2.1 ∈ addT c.t want ls k
  ·rw [if_pos hin] at eT
   repeat' (first | (apply W.cKT; exact rfl; (focus (exact dTt (by omega)))) | (apply W.cKF; exact rfl; (focus ((rw [dTt hin]; rfl); done))) | (show W _ _ (.region 30 _ _) _ _ _; apply W.regionGX (.fl true 0 (.fl true 1 (.fl true 3 (.fl true 4 (.fl true 5 (.fl false 2 (.fl false 6 (.fl true 7 (.fl true 8 (.fl false 9 (.br 10 (.fl true 11 .done) .stop))))))))))) [6, 8, 9, 10] tMix; kernel_rfl) | (apply WL.callS (f := 36); (iterate 4 exact rfl); exact hcl _ extA) | (apply WL.callS (f := 53); (iterate 4 exact rfl); exact hhas _ extA) | (first | (apply SX.done; intro w' hx) | (apply SX.fl0; exact rfl) | (apply SX.fl1; exact rfl; exact extA) | (apply SX.br1; exact rfl; intro w' hx)) | (first | apply FL.nilX | (apply FL.loadE tOk; (iterate 5 exact rfl); assumption) | (apply FL.indexE tOk; (iterate 8 exact rfl); assumption; exact rfl; omega; assumption; intro b off h; have hcc := h; first | (obtain ⟨h1, h2, h3, h4, h5, h6, _⟩ := h) | (obtain ⟨h1, h2, h3, _⟩ := h) | (obtain ⟨h1, h2, _⟩ := h) | (obtain ⟨h1, _⟩ := h))) | refine FL.au (k := ?_) | (apply Z.sxE; exact extA) | (first | apply WL.nil | refine WL.au (k := ?_)) | (first | apply Z.tn | apply Z.bkn) | (first | apply W.seq | apply W.region | apply W.block | apply W.skip))
   all_goals exact Z.agO bW cW ⟨by omega, hXe.trans extA, by rw [eT]; exact hS.ext extA⟩ (by repeat' first | exact trivial | (refine And.intro ?_ ?_) | exact rfl | (rw [eT]; exact rfl))
  ·rw [if_neg hin] at eT
   have e9 : dec (want.length < (addT c.t want ls (k + 1)).length) = true := dTt (by rw [eT, List.length_append, List.length_singleton]; omega)
   repeat' (first | (apply W.cKT; exact rfl; (focus (first | exact dTt (by omega) | (rw [dFf hin]; rfl); done))) | (show W _ _ (.region 30 _ _) _ _ _; apply W.regionGX (.fl true 0 (.fl true 1 (.fl true 3 (.fl true 4 (.fl true 5 (.fl false 2 (.fl false 6 (.fl true 7 (.fl true 8 (.fl false 9 (.br 10 (.fl true 11 .done) .stop))))))))))) [6, 8, 9, 10] tMix; kernel_rfl) | (apply WL.callS (f := 36); (iterate 4 exact rfl); exact hcl _ extA) | (apply WL.callS (f := 53); (iterate 4 exact rfl); exact hhas _ extA) | (apply WL.lit tOk; (iterate 6 exact rfl); kernel_rfl; exact rfl; intro gb wL hb hge hc hxL) | (apply WL.ap1 (z := (inSt c.t t.2.1)) tOk eIk; (iterate 10 exact rfl); assumption; exact extA; exact rfl; assumption; exact rfl; exact rfl; exact extA; omega; intro bB cB wA hOA hXA hUA hFA; (have hSA := Sep.uRw (i := 2) rfl hUA hOA hFA hS extA (Below.size (hXe.trans extA)))) | (first | (apply SX.done; intro w' hx) | (apply SX.fl0; exact rfl) | (apply SX.fl1; exact rfl; exact extA) | (apply SX.br1; exact rfl; intro w' hx)) | (first | apply FL.nilX | (apply FL.loadE tOk; (iterate 5 exact rfl); assumption) | (apply FL.indexE tOk; (iterate 8 exact rfl); assumption; exact rfl; omega; assumption; intro b off h; have hcc := h; first | (obtain ⟨h1, h2, h3, h4, h5, h6, _⟩ := h) | (obtain ⟨h1, h2, h3, _⟩ := h) | (obtain ⟨h1, h2, _⟩ := h) | (obtain ⟨h1, _⟩ := h))) | refine FL.au (k := ?_) | (apply Z.sxE; exact extA) | (first | apply WL.nil | refine WL.au (k := ?_)) | (first | apply Z.tn | apply Z.bkn) | (first | apply W.seq | apply W.region | apply W.block | apply W.skip))
   all_goals exact Z.agO bB cB ⟨by omega, hXA, by rw [eT]; exact hSA⟩ (by repeat' first | exact trivial | (refine And.intro ?_ ?_) | exact rfl | (rw [eT]; exact rfl) | (rw [e9]; exact rfl))
 obtain rfl : k = ls.length := by omega
 by_cases hmore : want.length < (addT c.t want ls ls.length).length
 ·repeat' (first | (apply W.cKF; exact rfl; (focus (first | exact dFf (by omega) | (rw [dTt hmore]; rfl); done))) | (first | apply WL.nil | refine WL.au (k := ?_)) | (first | apply Z.tn | apply Z.bkn | apply Z.tnx | apply Z.bkx) | (first | apply W.seq | apply W.region | apply W.skip | apply W.exit))
  have hle := wt_less hg hW hls' hmore
  exact Z.again (addT c.t want ls ls.length, bW, cW, we) ⟨hXe, wt_next hg hW hls', by dsimp only; omega, hOWe⟩ hle (by repeat' first | exact trivial | (refine And.intro ?_ ?_) | exact rfl) rfl
 ·have heq : addT c.t want ls ls.length = want := i4 (by omega)
  rw [heq] at i6
  rw [List.take_length] at i6
  have hcl : ∀ j ∈ laS c.t (supL (storeV c.t).2 want), nxS c.t j ∈ want := fun j hj => i6 j (by rw [hls']; exact hj)
  have eLa : ls = laV c.t Y := hls'.trans (wt_la hg hW hcl)
  have eIn : inpS c.t sL = inV c.t Y := by rw [esL]; exact wt_in hg hW hcl
  repeat' (first | (apply W.cKT; exact rfl; (focus ((rw [dFf hmore]; rfl); done))) | (apply W.cKF; exact rfl; (focus (exact dFf (by omega)))) | (first | apply WL.nil | refine WL.au (k := ?_)) | (first | apply Z.tn | apply Z.tnx | apply Z.bkx | apply Z.tnr | apply Z.bkr) | (first | apply W.seq | apply W.region | apply W.ret | apply W.exit))
  have hOL : Own 1 encI 3 w14.heap.size we bL cL ls := (hS.holds 0 _ rfl).1
  have hOI : Own 1 encI 3 w14.heap.size we bI cI (inpS c.t sL) := (hS.holds 1 _ rfl).1
  have hXw14 : Ext w w14 := (hXwa.trans hx5).trans hX14
  have hXwe : Ext w we := (hXwa.trans hx5).trans hXe
  rw [eLa] at hOL ⊢
  rw [eIn] at hOI ⊢
  exact Z.body2 Tryz.results33 rfl rfl fun q => ⟨hXwe.at q, bL, cL, bI, cI, rfl, (hOL.base (Below.size hXw14)).ext ((Ext.refl _).at q), (hOI.base (Below.size hXw14)).ext ((Ext.refl _).at q)⟩

theorem r42_Extend (c : Circ) (Y : Int) (r : RunV) (w : World) (hC : CAt w c) (hg : GoodC' c.t) (hz : SzC c.t 100000) (hR : RAt w r) (hrl : r.ins.2.2.length <= 100000) :
  Lt.Spec Tryz.prog 11 [c.val, .int .i64 Y, r.val] w (IsRunV w (extS c.t Y r.s, r.i.map (extI c.t Y))) := by
 have z1 : c.ins.2.2.length <= 100000 := hz.1
 have z2 : c.lat.2.2.length <= 100000 := hz.2.1
 refine Spec.of _ Tryz.func11 rfl Tryz.ntmps11 (by kernel_rfl) rfl ?_
 repeat' (first | (apply WL.box; (iterate 3 exact rfl); intro gb w' hb hge hc hx; have hcc := hc; obtain ⟨h1, h2, h3, _⟩ := hc; (first | (have h_0 := hcells; clear h_0; obtain ⟨gr, rfl⟩ : ∃ x, x = gb := ⟨_, rfl⟩; obtain ⟨wr, rfl⟩ : ∃ x, x = w' := ⟨_, rfl⟩; obtain ⟨hxr, rfl⟩ : ∃ x, x = hx := ⟨_, rfl⟩; have hcr : Cells wr gr 0 [rowVal r.st, rowVal r.ins] := hcc) | (have hcells := hcc; obtain ⟨gc, rfl⟩ : ∃ x, x = gb := ⟨_, rfl⟩; obtain ⟨wc, rfl⟩ : ∃ x, x = w' := ⟨_, rfl⟩; obtain ⟨hxc, rfl⟩ : ∃ x, x = hx := ⟨_, rfl⟩))) | (show WL _ _ _ (⟨some 6, .alloc _, _, _, _, _⟩ :: _) _ _ _; apply WL.alloc tOk; (iterate 3 exact rfl); intro g6 w2 hb6 hge6 hx2; have hc2 := Cells.ext (hxr.trans hx2) hcells) | (apply WL.call (f := 33); (iterate 4 exact rfl); exact r42_Needs c Y _ (hC.ext extA) hg hz; rintro v' w3 ⟨hx3, aL, cL, aI, cI, rfl, hOL, hOI⟩; have hc3 := Cells.ext hx3 hc2) | (apply WL.build tOk; (iterate 7 exact rfl); kernel_rfl) | (show WL _ _ _ (⟨some 9, .alloc _, _, _, _, _⟩ :: _) _ _ _; apply WL.alloc tOk; (iterate 3 exact rfl); intro g9 w5 hb5 hge9 hx5) | (show WL _ _ _ (⟨none, .store _ (.tmp 9) _, _, _, _, _⟩ :: _) _ _ _; apply WL.storeB (w0 := w3) tOk; (iterate 4 exact rfl); exact hb5; exact Ext.refl _; kernel_rfl; kernel_rfl; kernel_rfl; exact hx5; exact hge9; intro w6 hb9 hc9 hX6 hU6) | (first | apply WL.nil | refine WL.au (k := ?_)) | apply Z.tn | (first | apply W.seq | apply W.region | apply W.block))
 have hXw2 : Ext w w2 := (hxc.trans hxr).trans hx2
 have hXw3 : Ext w w3 := hXw2.trans hx3
 have hX36 : Ext w3 w6 := hX6
 have hC3 := hC.ext hXw3
 have hR3 := hR.ext hXw3
 have RL3 := hOL.row eIk
 have RI3 := hOI.row eIk
 have hr3 : Cells w3 gr 0 [rowVal r.st, rowVal r.ins] := Cells.ext (hx2.trans hx3) hcr
 have hlaL : (laV c.t Y).length <= c.lat.2.2.length := sel_le _ _
 have hinL : (inV c.t Y).length <= c.ins.2.2.length := sel_le _ _
 obtain ⟨S0, hS0⟩ : ∃ S0, S0 = (c.lat.2.2.map fun t => decide (t.2.2 = 1)) := ⟨_, rfl⟩
 have hS0l : S0.length = c.lat.2.2.length := by rw [hS0]; exact List.length_map _
 have hb9' : w6.heap[g9]? = some (.cells #[.slice none 0 0, .slice none 0 0] 31 (0, 0)) := hb9
 have hS6 := Sep.newCell (Sep.newRow (s := 1) (enc := encB) (el := 4) (a := none) (cap := 0) (l := ([] : List Bool)) (Sep.none' (B := w3.heap.size) (w := w3)) (Ext.refl _) Own.nil (fun q hq => by cases hq) (Nat.le_refl _)) hX36 hb9' hge9 (Nat.le_refl _)
 have hS7 : Lt.Sep w3.heap.size w6 [pcell g9 #[.slice none (S0.take 0).length 0, .slice none 0 0] 31, prow 1 encB 4 w3.heap.size none 0 (S0.take 0)] := hS6
 clear hb5 hb9 hc9 hU6 hS6
 refine W.loopO c.lat.2.2.length (fun k b cp w' => k <= c.lat.2.2.length /\ Ext w3 w' /\ Lt.Sep w3.heap.size w' [pcell g9 #[.slice b (S0.take k).length cp, .slice none 0 0] 31, prow 1 encB 4 w3.heap.size b cp (S0.take k)])
  (fun k b cp => [(3, .pointer (some ⟨gc, 0, none⟩)), (5, .pointer (some ⟨gr, 0, none⟩)), (6, .pointer (some ⟨g6, 0, none⟩)), (7, .slice aL (laV c.t Y).length cL), (8, .slice aI (inV c.t Y).length cI), (9, .pointer (some ⟨g9, 0, none⟩)), (10, .int .i64 k)]) none 0 ⟨Nat.zero_le _, hX36, hS7⟩ (fun k a cp w' h => h.1) (by repeat' first | exact trivial | (refine And.intro ?_ ?_) | exact rfl) ?_
 clear hS7 hb9'
 rintro k bS cS wk ⟨hk, hXk, hS⟩
 have htl : (S0.take k).length = k := by rw [List.length_take]; omega
 obtain ⟨y0, y1, y2, _⟩ := Cells.ext hXk hc3
 obtain ⟨n0, n1, _⟩ := cHp (hS.cell (i := 0) (gb := g9) rfl)
 have hg9 : w3.heap.size <= g9 := (hS.lt (i := 0) rfl rfl).1
 have hOs : Own 1 encB 4 w3.heap.size wk bS cS (S0.take k) := hS.row (i := 1) rfl
 by_cases hlt : k < c.lat.2.2.length
 ·obtain ⟨t, ht⟩ := getI c.lat.2.2 hlt
  have RLk := (hC3.ext hXk).lat.row
  have hsk : S0[k]? = some (dec (t.2.2 = 1)) := by rw [hS0, List.getElem?_map, ht, dec_is]; rfl
  have eT := tkS hsk
  repeat' (first | (apply W.cKT; exact rfl; exact dTt (by omega)) | (show W _ _ (.region 6 _ _) _ _ _; apply W.regionGX (.fl true 0 (.fl true 2 (.fl true 4 (.br 1 (.br 3 (.fl true 5 (.fl true 6 (.br 7 (.fl true 8 (.br 9 (.br 10 (.fl true 11 (.br 12 .done .stop)) .stop) .stop)) .stop))) .stop) (.br 3 (.fl true 5 (.fl true 6 (.br 1 (.br 7 (.fl true 8 (.br 9 (.br 10 (.fl true 11 (.br 12 .done .stop)) .stop) .stop)) .stop) (.br 7 (.fl true 8 (.br 1 (.br 9 (.br 10 (.fl true 11 (.br 12 .done .stop)) .stop) .stop) (.br 9 (.br 1 (.br 10 (.fl true 11 (.br 12 .done .stop)) .stop) .stop) .stop))) .stop)))) .stop))))) [] tMix; kernel_rfl) | (apply WL.lit tOk; (iterate 6 exact rfl); kernel_rfl; exact rfl; intro gz wl hb hge hcl hxl) | (apply WL.ap1 (z := dec (t.2.2 = 1)) tOk eBk; (iterate 10 exact rfl); exact hOs; exact extA; exact rfl; (refine Cells.ext ?_ hcl; exact extA); exact rfl; exact rfl; exact (hXk.trans extA); omega; intro aP cP wP hOP hXP hUP hFP; have hSu := Sep.uRw (i := 1) rfl hUP hOP hFP hS extA (Below.size (hXk.trans extA)); have hbu := hSu.cell (i := 0) (gb := g9) rfl; have hXP' : Ext w3 wP := hXP) | (apply WL.storeF (w0 := w3) tOk; (iterate 4 exact rfl); exact hbu; exact extA; (iterate 4 exact rfl); exact (hXP'.trans extA); exact hg9; intro wS hbS hXS hUS; have hSf := Sep.uCl (i := 0) rfl hUS hbS hSu extA (Below.size (hXP'.trans extA)); have hXS' : Ext w3 wS := hXS) | (first | (apply SX.done; intro w' hx) | (apply SX.fl0; exact rfl) | (apply SX.br1; exact rfl; intro w' hx) | (apply SX.br; exact rfl; (intro w' hx))) | (first | apply FL.nilX | (apply FL.indexE tOk; (iterate 8 exact rfl); assumption; exact rfl; omega; assumption; intro b off h; have hcc := h; first | (obtain ⟨h1, h2, h3, h4, h5, h6, _⟩ := h) | (obtain ⟨h1, h2, h3, _⟩ := h) | (obtain ⟨h1, h2, _⟩ := h) | (obtain ⟨h1, _⟩ := h))) | refine FL.au (k := ?_) | (apply Z.sxL; exact rfl) | (first | apply WL.nil | refine WL.au (k := ?_)) | (first | apply Z.tn | apply Z.bkn) | (first | apply W.seq | apply W.region | apply W.block | apply W.skip))
  all_goals exact Z.agO aP cP ⟨by omega, hXS'.trans extA, by rw [eT]; exact hSf.ext extA⟩ (by repeat' first | exact trivial | (refine And.intro ?_ ?_) | exact rfl)
 obtain rfl : k = c.lat.2.2.length := by omega
 have eS0 : S0.take c.lat.2.2.length = putT (laV c.t Y) r.s S0 0 := by rw [<- hS0l, List.take_length]; rfl
 rw [htl, eS0] at hS
 repeat' (first | (apply W.cKF; exact rfl; exact dFf (by omega)) | (first | apply WL.nil | refine WL.au (k := ?_)) | (first | apply Z.tn | apply Z.tnx | apply Z.bkx) | (first | apply W.seq | apply W.region | apply W.block | apply W.exit))
 refine W.loopW (laV c.t Y).length (fun k w' => k <= (laV c.t Y).length /\ Ext w3 w' /\ Lt.Sep w3.heap.size w' [pcell g9 #[.slice bS c.lat.2.2.length cS, .slice none 0 0] 31, prow 1 encB 4 w3.heap.size bS cS (putT (laV c.t Y) r.s S0 k)])
  (fun k => [(3, .pointer (some ⟨gc, 0, none⟩)), (5, .pointer (some ⟨gr, 0, none⟩)), (6, .pointer (some ⟨g6, 0, none⟩)), (7, .slice aL (laV c.t Y).length cL), (8, .slice aI (inV c.t Y).length cI), (9, .pointer (some ⟨g9, 0, none⟩)), (11, .int .i64 k)]) ⟨Nat.zero_le _, hXk, hS⟩ (fun k w' h => h.1) (by repeat' first | exact trivial | (refine And.intro ?_ ?_) | exact rfl) ?_
 clear hS hOs n0 n1 y0 y1 y2
 rintro k wm ⟨hk, hXm, hS⟩
 have hpl := putT_len (laV c.t Y) r.s S0 k
 obtain ⟨m0, m1, _⟩ := id hr3
 have hsl9 := hR3.st.len
 have RSt := hR3.st
 by_cases hlt : k < (laV c.t Y).length
 ·obtain ⟨z, hz'⟩ := getI (laV c.t Y) hlt
  have hzb := sel_bd z (List.mem_of_getElem? hz')
  have hzb2 : z < (c.lat.2.2.length : Int) := hzb.2
  have e2 : putT (laV c.t Y) r.s S0 (k + 1) = (putT (laV c.t Y) r.s S0 k).set z.toNat (r.s.getD k false) := by rw [putT_succ, gDo hz']
  obtain ⟨y, hy⟩ := getI (putT (laV c.t Y) r.s S0 k) (show z.toNat < _ by omega)
  obtain ⟨n0, _⟩ := cHp (hS.cell (i := 0) (gb := g9) rfl)
  have hOm : Own 1 encB 4 w3.heap.size wm bS cS (putT (laV c.t Y) r.s S0 k) := hS.row (i := 1) rfl
  by_cases hks : k < r.st.2.2.length
  ·obtain ⟨b9, hb9⟩ := getI r.st.2.2 hks
   rw [show r.s.getD k false = b9 from gDo hb9] at e2
   repeat' (first | (apply FL.gT; exact rfl; exact rfl; exact dTt (by omega)) | (apply W.cKT; exact rfl; exact dTt (by omega)) | (show W _ _ (.region 10 _ _) _ _ _; apply W.regionG (.fl true 0 (.fl true 2 (.fl true 3 (.fl true 4 (.fl true 6 (.fl true 7 (.fl false 5 (.fl false 8 (.fl true 9 (.fl true 10 (.fl true 11 (.fl true 12 (.fl true 14 (.fl false 13 (.fl true 15 (.fl false 16 (.fl true 17 (.br 1 (.fl true 18 (.br 19 .done .stop)) .stop)))))))))))))))))) [1, 8, 9, 10, 11, 12, 13, 14, 15, 16, 17] (Ext w3) tMix; kernel_rfl) | (apply FL.indexO tOk; (iterate 8 exact rfl); exact hOm; exact extA; exact eBk; exact (by omega); omega; exact hy; intro gS hgS hcS; subst hgS) | (apply WL.storeO tOk; (iterate 4 exact rfl); assumption; exact extA; (iterate 3 exact rfl); exact eBk; assumption; exact rfl; exact extA; intro w' hO hX' hU) | (first | apply WL.nil | refine WL.au (k := ?_)) | (first | apply SG.done | (apply SG.fl0; exact rfl) | (apply SG.fl1; exact rfl; (focus ((intro m; first | assumption | (apply Ext.at; exact extA) | apply But.of_at; first | exact But.upd (by assumption) | exact But.ext extA | (refine But.trans ?_ (But.upd (by assumption)); exact But.ext extA) | exact But.at _ _ _); done))) | (apply SG.br1; exact rfl)) | (first | (apply FL.loadE tOk; (iterate 5 exact rfl); assumption) | (apply FL.indexE tOk; (iterate 8 exact rfl); assumption; exact rfl; omega; assumption; intro b off h; have hcc := h; first | (obtain ⟨h1, h2, h3, h4, h5, h6, _⟩ := h) | (obtain ⟨h1, h2, h3, _⟩ := h) | (obtain ⟨h1, h2, _⟩ := h) | (obtain ⟨h1, _⟩ := h))) | (first | apply FL.nilS | refine FL.au (k := ?_)) | (first | (apply Z.sgL; exact rfl) | (apply Z.sgE; (focus ((intro m; first | assumption | (apply Ext.at; exact extA) | apply But.of_at; first | exact But.upd (by assumption) | exact But.ext extA | (refine But.trans ?_ (But.upd (by assumption)); exact But.ext extA) | exact But.at _ _ _); done)))) | (first | apply Z.tn | apply Z.bkn) | (first | apply W.seq | apply W.region | apply W.block | apply W.skip))
   all_goals
    have hS9 := Sep.uRw (i := 1) rfl hU hO (.inl rfl) hS extA (Below.size (hXm.trans extA))
    rw [<- e2] at hS9
    exact Z.agW ⟨by omega, extA, hS9.ext extA⟩ (by repeat' first | exact trivial | (refine And.intro ?_ ?_) | exact rfl)
  ·have e9 : r.s.getD k false = false := by rw [List.getD_eq_getElem?_getD, List.getElem?_eq_none (by show r.st.2.2.length <= k; omega)]; rfl
   rw [e9] at e2
   repeat' (first | (apply FL.gF; exact rfl; exact rfl; exact dFf (by omega)) | (apply W.cKT; exact rfl; (focus (exact dTt (by omega)))) | (show W _ _ (.region 10 _ _) _ _ _; apply W.regionG (.fl true 0 (.fl true 2 (.fl true 3 (.fl true 4 (.fl true 6 (.fl true 7 (.fl false 5 (.fl false 8 (.fl true 9 (.fl true 10 (.fl true 11 (.fl true 12 (.fl true 14 (.fl false 13 (.fl true 15 (.fl false 16 (.fl true 17 (.br 1 (.fl true 18 (.br 19 .done .stop)) .stop)))))))))))))))))) [1, 8, 9, 10, 11, 12, 13, 14, 15, 16, 17] (Ext w3) tMix; kernel_rfl) | (apply FL.indexO tOk; (iterate 8 exact rfl); exact hOm; exact extA; exact eBk; exact (by omega); omega; exact hy; intro gS hgS hcS; subst hgS) | (apply WL.storeO tOk; (iterate 4 exact rfl); assumption; exact extA; (iterate 3 exact rfl); exact eBk; assumption; exact rfl; exact extA; intro w' hO hX' hU) | (first | apply WL.nil | refine WL.au (k := ?_)) | (first | apply SG.done | (apply SG.fl0; exact rfl) | (apply SG.fl1; exact rfl; (focus ((intro m; first | assumption | (apply Ext.at; exact extA) | apply But.of_at; first | exact But.upd (by assumption) | exact But.ext extA | (refine But.trans ?_ (But.upd (by assumption)); exact But.ext extA) | exact But.at _ _ _); done))) | (apply SG.br1; exact rfl)) | (first | (apply FL.loadE tOk; (iterate 5 exact rfl); assumption) | (apply FL.indexE tOk; (iterate 8 exact rfl); assumption; exact rfl; omega; assumption; intro b off h; have hcc := h; first | (obtain ⟨h1, h2, h3, h4, h5, h6, _⟩ := h) | (obtain ⟨h1, h2, h3, _⟩ := h) | (obtain ⟨h1, h2, _⟩ := h) | (obtain ⟨h1, _⟩ := h))) | (first | apply FL.nilS | refine FL.au (k := ?_) | (apply FL.gdF; exact rfl; exact rfl)) | (first | (apply Z.sgL; exact rfl) | (apply Z.sgE; (focus ((intro m; first | assumption | (apply Ext.at; exact extA) | apply But.of_at; first | exact But.upd (by assumption) | exact But.ext extA | (refine But.trans ?_ (But.upd (by assumption)); exact But.ext extA) | exact But.at _ _ _); done)))) | (first | apply Z.tn | apply Z.bkn) | (first | apply W.seq | apply W.region | apply W.block | apply W.skip))
   all_goals
    have hS9 := Sep.uRw (i := 1) rfl hU hO (.inl rfl) hS extA (Below.size (hXm.trans extA))
    rw [<- e2] at hS9
    exact Z.agW ⟨by omega, extA, hS9.ext extA⟩ (by repeat' first | exact trivial | (refine And.intro ?_ ?_) | exact rfl)
 obtain rfl : k = (laV c.t Y).length := by omega
 obtain ⟨S, hSd⟩ : ∃ S, S = extS c.t Y r.s := ⟨_, rfl⟩
 have eS : putT (laV c.t Y) r.s S0 (laV c.t Y).length = S := by rw [hSd, hS0]; rfl
 rw [eS] at hS
 rw [<- hSd]
 have hSl : S.length = c.lat.2.2.length := by rw [hSd]; exact extS_len r.s
 repeat' (first | (apply W.cKF; exact rfl; exact dFf (by omega)) | (first | apply WL.nil | refine WL.au (k := ?_)) | (first | apply Z.tn | apply Z.tnx | apply Z.bkx) | (first | apply W.seq | apply W.region | apply W.block | apply W.exit))
 have hS3 := Sep.pickL (pre := [_, _, _]) (tl := []) [1, 0, 2] pnone (Sep.newRow (s := 1) (enc := encRB) (el := 28) (a := none) (cap := 0) (l := ([] : List (RowV Bool))) hS (Ext.refl _) Own.nil (fun q hq => by cases hq) (Below.size hXm)) rfl
 refine W.loopO r.ins.2.2.length (fun j b cp w' => j <= r.ins.2.2.length /\ Ext w3 w' /\ ∃ (rs : List (RowV Bool)) (R : List Piece), rs.length = j /\ Lt.Sep w3.heap.size w' (pcell g9 #[.slice bS c.lat.2.2.length cS, .slice b rs.length cp] 31 :: prow 1 encRB 28 w3.heap.size b cp rs :: prow 1 encB 4 w3.heap.size bS cS S :: R) /\ rs.map (fun r => r.2.2) = (r.i.take j).map (extI c.t Y) /\ ∀ w9, (∀ p ∈ R, p.P w9) -> ∀ x ∈ rs, Row 1 encB w9 x.1 x.2.2)
  (fun j b cp => [(3, .pointer (some ⟨gc, 0, none⟩)), (5, .pointer (some ⟨gr, 0, none⟩)), (6, .pointer (some ⟨g6, 0, none⟩)), (8, .slice aI (inV c.t Y).length cI), (9, .pointer (some ⟨g9, 0, none⟩)), (12, .int .i64 j)]) none 0 ⟨Nat.zero_le _, hXm, [], [], rfl, hS3, rfl, fun w9 _ x hx => by cases hx⟩ (fun k a cp w' h => h.1) (by repeat' first | exact trivial | (refine And.intro ?_ ?_) | exact rfl) ?_
 clear hS hS3
 rintro j bo co wj ⟨hj, hXj, rs, R, hrsl, hS, hrs, hRR⟩
 have hc3j := Cells.ext hXj hc3
 have hr3j := Cells.ext hXj hr3
 obtain ⟨y0, y1, y2, _⟩ := id hc3j
 obtain ⟨k0, k1, _⟩ := id hr3j
 by_cases hlt : j < r.ins.2.2.length
 ·obtain ⟨x, hx⟩ := getI r.ins.2.2 hlt
  have RR3 := hR3.ins
  have Rx3 := hR3.each x (List.mem_of_getElem? hx)
  have hxl9 := Rx3.len
  repeat' (first | (apply W.cKT; exact rfl; exact dTt (by omega)) | (apply WL.makeC (w0 := wj) (z := false) tOk; (iterate 9 exact rfl); exact eBk; exact rfl; exact rfl; exact extA; omega; intro gq wm hOq hgeq hxq) | (first | apply WL.nil | refine WL.au (k := ?_)) | apply Z.tn | (first | apply W.seq | apply W.region | apply W.block | apply W.skip))
  have eni : ((c.ins.2.2.length : Nat) : Int).toNat = c.ins.2.2.length := Int.toNat_natCast _
  have e0i : (List.replicate c.ins.2.2.length false).length = c.ins.2.2.length := List.length_replicate
  rw [eni] at hOq ⊢
  have hSq := Sep.newRow (s := 1) (enc := encB) (el := 4) (Sep.none' (B := wj.heap.size) (w := wj)) hxq (hOq.base (Nat.le_refl _)) (fun q hq => (hOq.blk_lt q hq).1) (Nat.le_refl _)
  refine W.loopW (inV c.t Y).length (fun k w' => k <= (inV c.t Y).length /\ Ext wj w' /\ Lt.Sep wj.heap.size w' [prow 1 encB 4 wj.heap.size (some ⟨gq, 0, none⟩) c.ins.2.2.length (putT (inV c.t Y) x.2.2 (List.replicate c.ins.2.2.length false) k)])
   (fun k => [(3, .pointer (some ⟨gc, 0, none⟩)), (5, .pointer (some ⟨gr, 0, none⟩)), (6, .pointer (some ⟨g6, 0, none⟩)), (8, .slice aI (inV c.t Y).length cI), (9, .pointer (some ⟨g9, 0, none⟩)), (12, .int .i64 j), (13, .slice (some ⟨gq, 0, none⟩) c.ins.2.2.length c.ins.2.2.length), (14, .int .i64 k)]) ⟨Nat.zero_le _, hxq, hSq⟩ (fun k w' h => h.1) (by repeat' first | exact trivial | (refine And.intro ?_ ?_) | exact rfl | (rw [e0i]; exact rfl)) ?_
  obtain ⟨hSO, hSOe⟩ : ∃ hSO : Lt.Sep w3.heap.size wj _, hSO = hS := ⟨hS, rfl⟩
  clear hSq hOq hS hSOe y0 y1 y2 k0 k1
  rintro k wq ⟨hkq, hXq, hS⟩
  have hpl2 := putT_len (inV c.t Y) x.2.2 (List.replicate c.ins.2.2.length false) k
  have hX3q : Ext w3 wq := hXj.trans hXq
  by_cases hltq : k < (inV c.t Y).length
  ·obtain ⟨z, hz'⟩ := getI (inV c.t Y) hltq
   have hzb := sel_bd z (List.mem_of_getElem? hz')
   have hzb2 : z < (c.ins.2.2.length : Int) := hzb.2
   have e2 : putT (inV c.t Y) x.2.2 (List.replicate c.ins.2.2.length false) (k + 1) = (putT (inV c.t Y) x.2.2 (List.replicate c.ins.2.2.length false) k).set z.toNat (x.2.2.getD k false) := by rw [putT_succ, gDo hz']
   obtain ⟨y, hy⟩ := getI (putT (inV c.t Y) x.2.2 (List.replicate c.ins.2.2.length false) k) (show z.toNat < _ by omega)
   have hOm : Own 1 encB 4 wj.heap.size wq (some ⟨gq, 0, none⟩) c.ins.2.2.length (putT (inV c.t Y) x.2.2 (List.replicate c.ins.2.2.length false) k) := hS.row (i := 0) rfl
   by_cases hks : k < x.2.2.length
   ·obtain ⟨b9, hb9⟩ := getI x.2.2 hks
    rw [show x.2.2.getD k false = b9 from gDo hb9] at e2
    repeat' (first | (apply FL.gT; exact rfl; exact rfl; exact dTt (by omega)) | (apply W.cKT; exact rfl; exact dTt (by omega)) | (show W _ _ (.region 18 _ _) _ _ _; apply W.regionG (.fl true 0 (.fl true 1 (.fl true 2 (.fl true 3 (.fl true 5 (.fl true 6 (.fl true 8 (.fl false 4 (.fl false 7 (.fl true 9 (.fl false 10 (.fl true 11 (.fl true 12 (.fl true 13 (.fl true 14 (.fl true 16 (.fl true 19 (.fl false 15 (.fl true 17 (.fl false 18 (.fl true 20 (.fl false 21 (.fl true 22 (.fl true 23 (.br 24 .done .stop))))))))))))))))))))))))) [7, 9, 10, 11, 12, 13, 14, 15, 16, 17, 18, 19, 20, 21, 22] (Ext w3) tMix; kernel_rfl) | (apply FL.indexO tOk; (iterate 8 exact rfl); exact hOm; exact extA; exact eBk; exact (by omega); omega; exact hy; intro gS hgS hcS; cases hgS) | (apply WL.storeO tOk; (iterate 4 exact rfl); assumption; exact extA; (iterate 3 exact rfl); exact eBk; assumption; exact rfl; exact extA; intro w' hO hX' hU) | (first | apply WL.nil | refine WL.au (k := ?_)) | (first | apply SG.done | (apply SG.fl0; exact rfl) | (apply SG.fl1; exact rfl; (focus ((intro m; first | assumption | (apply Ext.at; exact extA) | apply But.of_at; first | exact But.upd (by assumption) | exact But.ext extA | (refine But.trans ?_ (But.upd (by assumption)); exact But.ext extA) | exact But.at _ _ _); done))) | (apply SG.br1; exact rfl)) | (first | (apply FL.loadE tOk; (iterate 5 exact rfl); assumption) | (apply FL.indexE tOk; (iterate 8 exact rfl); assumption; exact rfl; omega; assumption; intro b off h; have hcc := h; first | (obtain ⟨h1, h2, h3, h4, h5, h6, _⟩ := h) | (obtain ⟨h1, h2, h3, _⟩ := h) | (obtain ⟨h1, h2, _⟩ := h) | (obtain ⟨h1, _⟩ := h))) | (first | apply FL.nilS | refine FL.au (k := ?_)) | (apply Z.sgL; exact rfl) | (first | apply Z.tn | apply Z.bkn) | (first | apply W.seq | apply W.region | apply W.block | apply W.skip))
    all_goals
     have hS9 := Sep.uRw (i := 0) rfl hU hO (.inl rfl) hS extA (Below.size (hXq.trans extA))
     rw [<- e2] at hS9
     exact Z.agW ⟨by omega, extA, hS9.ext extA⟩ (by repeat' first | exact trivial | (refine And.intro ?_ ?_) | exact rfl)
   ·have e9 : x.2.2.getD k false = false := by rw [List.getD_eq_getElem?_getD, List.getElem?_eq_none (by omega)]; rfl
    rw [e9] at e2
    repeat' (first | (apply FL.gF; exact rfl; exact rfl; exact dFf (by omega)) | (apply W.cKT; exact rfl; (focus (exact dTt (by omega)))) | (show W _ _ (.region 18 _ _) _ _ _; apply W.regionG (.fl true 0 (.fl true 1 (.fl true 2 (.fl true 3 (.fl true 5 (.fl true 6 (.fl true 8 (.fl false 4 (.fl false 7 (.fl true 9 (.fl false 10 (.fl true 11 (.fl true 12 (.fl true 13 (.fl true 14 (.fl true 16 (.fl true 19 (.fl false 15 (.fl true 17 (.fl false 18 (.fl true 20 (.fl false 21 (.fl true 22 (.fl true 23 (.br 24 .done .stop))))))))))))))))))))))))) [7, 9, 10, 11, 12, 13, 14, 15, 16, 17, 18, 19, 20, 21, 22] (Ext w3) tMix; kernel_rfl) | (apply FL.indexO tOk; (iterate 8 exact rfl); exact hOm; exact extA; exact eBk; exact (by omega); omega; exact hy; intro gS hgS hcS; cases hgS) | (apply WL.storeO tOk; (iterate 4 exact rfl); assumption; exact extA; (iterate 3 exact rfl); exact eBk; assumption; exact rfl; exact extA; intro w' hO hX' hU) | (first | apply WL.nil | refine WL.au (k := ?_)) | (first | apply SG.done | (apply SG.fl0; exact rfl) | (apply SG.fl1; exact rfl; (focus ((intro m; first | assumption | (apply Ext.at; exact extA) | apply But.of_at; first | exact But.upd (by assumption) | exact But.ext extA | (refine But.trans ?_ (But.upd (by assumption)); exact But.ext extA) | exact But.at _ _ _); done))) | (apply SG.br1; exact rfl)) | (first | (apply FL.loadE tOk; (iterate 5 exact rfl); assumption) | (apply FL.indexE tOk; (iterate 8 exact rfl); assumption; exact rfl; omega; assumption; intro b off h; have hcc := h; first | (obtain ⟨h1, h2, h3, h4, h5, h6, _⟩ := h) | (obtain ⟨h1, h2, h3, _⟩ := h) | (obtain ⟨h1, h2, _⟩ := h) | (obtain ⟨h1, _⟩ := h))) | (first | apply FL.nilS | refine FL.au (k := ?_) | (apply FL.gdF; exact rfl; exact rfl)) | (apply Z.sgL; exact rfl) | (first | apply Z.tn | apply Z.bkn) | (first | apply W.seq | apply W.region | apply W.block | apply W.skip))
    all_goals
     have hS9 := Sep.uRw (i := 0) rfl hU hO (.inl rfl) hS extA (Below.size (hXq.trans extA))
     rw [<- e2] at hS9
     exact Z.agW ⟨by omega, extA, hS9.ext extA⟩ (by repeat' first | exact trivial | (refine And.intro ?_ ?_) | exact rfl)
  obtain rfl : k = (inV c.t Y).length := by omega
  have eX : putT (inV c.t Y) x.2.2 (List.replicate c.ins.2.2.length false) (inV c.t Y).length = extI c.t Y x.2.2 := rfl
  rw [eX] at hS hpl2
  have hOq : Own 1 encB 4 wj.heap.size wq (some ⟨gq, 0, none⟩) c.ins.2.2.length (extI c.t Y x.2.2) := hS.row (i := 0) rfl
  have hexl : (extI c.t Y x.2.2).length = c.ins.2.2.length := extI_len x.2.2
  have hez : encRB ((some ⟨gq, 0, none⟩, c.ins.2.2.length, extI c.t Y x.2.2) : RowV Bool) = [.slice (some ⟨gq, 0, none⟩) c.ins.2.2.length c.ins.2.2.length] := by
   show [Value.slice (some ⟨gq, 0, none⟩) (extI c.t Y x.2.2).length c.ins.2.2.length] = _
   rw [hexl]
  have hOo : Own 1 encRB 28 w3.heap.size wj bo co rs := hSO.row (i := 1) rfl
  have hSn := Sep.newRow hSO hXq (hOq.base (Below.size hXj)) (fun q hq => (hOq.blk_lt q hq).1) (Below.size hXj)
  obtain ⟨n0, n1, _⟩ := cHp (hSn.cell (i := 1) (gb := g9) rfl)
  have hg9 : w3.heap.size <= g9 := (hSn.lt (i := 1) rfl rfl).1
  repeat' (first | (apply W.cKF; exact rfl; exact dFf (by omega)) | (apply WL.lit tOk; (iterate 6 exact rfl); kernel_rfl; exact rfl; intro gz wl hb hge hcl hxl) | (apply WL.ap1 (z := ((some ⟨gq, 0, none⟩, c.ins.2.2.length, extI c.t Y x.2.2) : RowV Bool)) tOk encRB_ok; (iterate 10 exact rfl); exact hOo; exact (hXq.trans hxl); exact rfl; exact hcl; exact hez; exact rfl; exact (hXj.trans (hXq.trans hxl)); omega; intro aP cP wP hOP hXP hUP hFP; have hSu := Sep.uRw (i := 2) rfl hUP hOP hFP hSn hxl (Below.size (hXj.trans (hXq.trans hxl))); have hbu := hSu.cell (i := 1) (gb := g9) rfl; have hXP' : Ext w3 wP := hXP) | (apply WL.storeF (w0 := w3) tOk; (iterate 4 exact rfl); exact hbu; exact Ext.refl _; (iterate 4 exact rfl); exact hXP'; exact hg9; intro wS hbS hXS hUS) | (first | apply WL.nil | refine WL.au (k := ?_)) | (first | apply Z.tn | apply Z.bkn | apply Z.tnx | apply Z.bkx) | (first | apply W.seq | apply W.region | apply W.exit))
  have hSf := Sep.uCl (i := 1) rfl hUS hbS hSu (Ext.refl _) (Below.size hXP')
  have hSg := Sep.pickL (pre := [_, _, _, _]) [1, 2, 3, 0] pnone hSf rfl
  have hXS' : Ext w3 wS := hXS
  refine Z.agO aP cP ⟨by omega, hXS', rs ++ [((some ⟨gq, 0, none⟩, c.ins.2.2.length, extI c.t Y x.2.2) : RowV Bool)], prow 1 encB 4 w3.heap.size (some ⟨gq, 0, none⟩) c.ins.2.2.length (extI c.t Y x.2.2) :: R, by rw [List.length_append, hrsl]; rfl, hSg, ?_, fun w9' hR9 y hy => ?_⟩ (by repeat' first | exact trivial | (refine And.intro ?_ ?_) | exact rfl)
  ·have hxi : r.i[j]? = some x.2.2 := by show (r.ins.2.2.map (·.2.2))[j]? = _; rw [List.getElem?_map, hx]; rfl
   rw [List.map_append, hrs, tkS hxi, List.map_append]; rfl
  ·rcases List.mem_append.1 hy with hy | hy
   ·exact hRR w9' (fun p hp => hR9 p (List.mem_cons_of_mem _ hp)) y hy
   ·rw [List.mem_singleton.1 hy]
    have p1 : Own 1 encB 4 w3.heap.size w9' (some ⟨gq, 0, none⟩) c.ins.2.2.length (extI c.t Y x.2.2) := hR9 (prow 1 encB 4 w3.heap.size (some ⟨gq, 0, none⟩) c.ins.2.2.length (extI c.t Y x.2.2)) (List.mem_cons_self ..)
    exact Own.row eBk p1
 obtain rfl : j = r.ins.2.2.length := by omega
 have hcg9 : Cells wj g9 0 [.slice bS c.lat.2.2.length cS, .slice bo rs.length co] := cHp (hS.cell (i := 0) (gb := g9) rfl)
 have hil : r.i.length = r.ins.2.2.length := List.length_map _
 rw [<- hil, List.take_length] at hrs
 have hXwj : Ext w wj := hXw3.trans hXj
 have hX2j : Ext w2 wj := hx3.trans hXj
 have hg6 : g6 < w3.heap.size := Nat.lt_of_lt_of_le (heap_lt hb6) (Below.size hx3)
 have hB6 : w.heap.size <= g6 := Nat.le_trans (Below.size (hxc.trans hxr)) hge6
 repeat' (first | (apply W.cKF; exact rfl; exact dFf (by omega)) | (show WL _ _ _ (⟨none, .store _ (.tmp 6) _, _, _, _, _⟩ :: _) _ _ _; apply WL.storeB (w0 := w) tOk; (iterate 4 exact rfl); exact hb6; exact hX2j; kernel_rfl; kernel_rfl; kernel_rfl; exact hXwj; exact hB6; intro wE hbE hcE hXE hUE) | (first | apply WL.nil | refine WL.au (k := ?_)) | (first | apply Z.tn | apply Z.tnx | apply Z.bkx) | (first | apply W.seq | apply W.region | apply W.ret | apply W.exit))
 have hSE := Sep.oldU hS hUE hg6
 have hRE := hRR wE fun p hp => (hSE.holds _ p (List.mem_iff_getElem?.1 (show p ∈ _ from List.mem_cons_of_mem _ (List.mem_cons_of_mem _ (List.mem_cons_of_mem _ hp)))).choose_spec).1
 have hO1 : Own 1 encRB 28 w3.heap.size wE bo co rs := hSE.row (i := 1) rfl
 have hO2 : Own 1 encB 4 w3.heap.size wE bS cS S := hSE.row (i := 2) rfl
 have hcE' : Cells wE g6 0 [.slice bS S.length cS, .slice bo rs.length co] := by rw [hSl]; exact hcE
 exact Z.bodyC tOk Tryz.results11 rfl rfl rfl rfl hcE' fun q => ⟨hXE.at q, ⟨(bS, cS, S), (bo, co, rs)⟩, rfl, (RAt.mk (Own.row eBk hO2) (Own.row encRB_ok hO1) hRE : RAt wE ⟨(bS, cS, S), (bo, co, rs)⟩).ext ((Ext.refl _).at q), rfl, hrs⟩
end Go.Proofs.YteidpnpbfagaeaaGreat
namespace Go.Lt
open Go.RowKit
section
variable {P : Program} {N : Nat} {e : Env} {w : World} {T : Tab} {ti : TI}
theorem Z.bodyCTT {fn : Func} {R : Value -> World -> Prop} {b ty : Nat} {vs : List Value} {t u s : Nat} {x y : Value} (hT : OkTab P T) (hr : fn.results = #[.cell t ty, .tmp u, .tmp s]) (hv : get e t = some (.pointer (some ⟨b, 0, none⟩))) (hx : get e u = some x) (hy : get e s = some y)
  (ht : tget T ty = some ti) (ha : isAggD ti.desc = true) (hs : ti.size = vs.length) (hc : Cells w b 0 vs) (hR : ∀ m, R (.tuple #[.agg vs.toArray, x, y]) (at' w m)) :
  Z N (bodyPost P fn fun x w' => ∃ v, x = .returned v /\ R v w') .ret e w := ⟨fun a m hf => by
 have h1 := run_isAgg' (hT.at ht) (at' w m); rw [ha] at h1
 have h3 := run_sizeOf' (hT.at ht) (at' w m); rw [hs] at h3
 have h2 := run_loadCellsFrom (P := P) (acc := #[]) (off := 0) (i := 0) (b := b) (hc.ext ((Ext.refl w).at m))
 refine bodyPost_ret (v := .tuple #[.agg vs.toArray, x, y]) ?_ hf.defers ⟨_, rfl, hR m⟩
 have h4 := hf.slots _ _ hv
 have h5 := hf.slots _ _ hx
 have h6 := hf.slots _ _ hy
 simp [results, hr, Array.getD_eq_getD_getElem?, h4, h5, h6, asAddr, loadVar, h1, h3, loadCells, h2]⟩
end
end Go.Lt
namespace Go.Proofs.YteidpnpbfagaeaaGreat
open Go Go.Lt Go.RowKit

theorem red_ownOk {c : CirT} {Y : Int} (hg : GoodC' c) (hz : SzC c 100000) : OwnOk c (redF c Y).1 := by
 have h1 : (laV c Y).length <= c.lat.length := sel_le _ _
 have h2 : (inV c Y).length <= c.ins.length := sel_le _ _
 have h3 : c.ins.length <= 100000 := hz.1
 have h4 : c.lat.length <= 100000 := hz.2.1
 exact fold_ownOk hg hz (need_ok hg Y) (by omega) (by omega)
theorem want_has {c : CirT} {Y : Int} (hg : GoodC' c) {x : Int} (hx : x ∈ wantW c Y) : hasL (redF c Y).2 x := by
 unfold wantW nextW at hx
 rcases List.mem_append.1 hx with h | h
 ·obtain ⟨j, hj, rfl⟩ := List.mem_map.1 h
  exact redL_has hg (kLu hg (used_next (latD_mem hj).1))
 ·rcases List.mem_cons.1 h with rfl | h
  ·exact redL_has hg (bad_kn hg Y)
  ·obtain ⟨l, hl, rfl⟩ := List.mem_map.1 h
   exact redL_has hg (kLu hg (used_con hl))
abbrev dV (mx : Int) (ai : Option Addr) (ci : Nat) (I : List Int) (al : Option Addr) (cl : Nat) (L : List T3) (ab : Option Addr) (cb nb : Nat) (ac : Option Addr) (cc : Nat) (C : List Int) (ag : Option Addr) (cg : Nat) (G : List T3) : List Value := [.int .i64 mx, .slice ai I.length ci, .slice al L.length cl, .slice none 0 0, .slice ab nb cb, .slice ac C.length cc, .slice ag G.length cg, .slice none 0 0, .string ⟨#[]⟩]
abbrev dP (b gd : Nat) (mx : Int) (ai : Option Addr) (ci : Nat) (I : List Int) (al : Option Addr) (cl : Nat) (L : List T3) (ab : Option Addr) (cb nb : Nat) (ac : Option Addr) (cc : Nat) (C : List Int) (ag : Option Addr) (cg : Nat) (G : List T3) : List Piece :=
 [prow 1 encI 3 b ai ci I, prow 3 enc3 69 b al cl L, prow 3 enc3 86 b ag cg G, prow 1 encI 3 b ac cc C, pcell gd (dV mx ai ci I al cl L ab cb nb ac cc C ag cg G).toArray 27]
theorem xor_twoX {z b : Int} (h0 : 0 <= z) (h1 : z % 2 = 0) (hb : b = 0 ∨ b = 1) : xorI z b = z + b := by
 unfold xorI Lt.xor1
 rcases hb with rfl | rfl
 ·rw [if_neg (by decide)]; omega
 ·rw [if_pos rfl, if_pos h1]
theorem now_at {c : CirT} {Y : Int} (hg : GoodC' c) (hz : SzC c 100000) {x : Int} (hx : x ∈ wantW c Y) : ∃ z, (atT (redF c Y).2 (keepP c Y) ((redF c Y).2.length + 1))[(x / 2).toNat]? = some z /\ 0 <= z /\ z <= 4611686018427387904 /\ nowL c Y x = xorI z (x % 2) /\ 0 <= x /\ x <= 4611686018427387904 := by
 have hh := want_has hg hx
 have hc := keepL hh hx
 have hl := red_len (prop := Y) hg hz
 unfold hasL at hh
 have hev := atv_even (keepP c Y) hc (by omega)
 have hget := atT_get (P := keepP c Y) (n := (redF c Y).2) (k := (redF c Y).2.length + 1) (u := (x / 2).toNat) (by omega) (by omega)
 exact ⟨_, hget, hev.1, by omega, (xor_twoX hev.1 hev.2.1 (by omega)).symm, by omega, by omega⟩
end Go.Proofs.YteidpnpbfagaeaaGreat
namespace Go.Lt
open Go.RowKit

section
variable {w wl w0 w' : World} {g k B : Nat} {o : Obj}
end
theorem Sep.updOldS {B B' g : Nat} {w w' : World} {ps : List Piece} (hS : Lt.Sep B w ps) (hU : Upd B' (some ⟨g, 0, none⟩) w w') (hg : g < B) : Lt.Sep B w' ps := by
 refine ⟨fun i p h => ⟨p.keep (hS.holds i p h).1 (fun k hk => hU.grown.block k ((hS.holds i p h).2 k hk).2 (fun he => ?_)), fun k hk => ⟨((hS.holds i p h).2 k hk).1, Nat.lt_of_lt_of_le ((hS.holds i p h).2 k hk).2 hU.grown.size⟩⟩, hS.apart⟩
 have h1 := ((hS.holds i p h).2 k hk).1
 simp only [blk, Option.map_some, Option.some.injEq] at he
 omega
end Go.Lt
