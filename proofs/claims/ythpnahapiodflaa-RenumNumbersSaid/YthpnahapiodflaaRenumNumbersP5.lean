/- RenumNumbers: a good circuit in the numbers of the short form, which stays as it is when numbered again. No conditions. -/
import Derived.Test.YthpnahapiodflaaRows
import Derived.Lib.SmallJoins
import Derived.KernelRfl
import Derived.WalkKit
import Derived.ProofKit
import Derived.Deep.Quiet
import Derived.Deep.LoopGhost
import Derived.StillTail
import Derived.Test.YthpnahapiodflaaProg
import Derived.OpenShut
import Derived.ShutString
import Derived.ChangeOld
import Derived.Deep.Slices
import Derived.SizedLaws
import Derived.Laws.StructEq
import Derived.Laws.CopyRow
import Derived.Laws.IdiomCopy
import Derived.Test.YthpnahapiodflaaRenumNumbersP4
namespace Go.Proofs.Ythpnahapiodflaa
open Go Go.Lt Go.RowKit
set_option linter.unusedVariables false
set_option linter.unusedSimpArgs false
set_option maxRecDepth 20000

theorem gateG_sw (i : Nat) (x : Int × Int) : gateG i (sw x) = gateG i x := by
  unfold gateG sw
  split
  · dsimp only
    rw [show max (max x.1 x.2) (min x.1 x.2) = max x.1 x.2 by omega, show min (max x.1 x.2) (min x.1 x.2) = min x.1 x.2 by omega]
  · rfl
theorem gatesG_sw (N : List (Int × Int)) (m k : Nat) (h : m + k ≤ N.length) : gatesG (N.map sw) m k = gatesG N m k := by
  unfold gatesG
  refine List.map_congr_left fun i hi => ?_
  obtain ⟨x, hx⟩ := getI N (show m + i < N.length by have := List.mem_range.1 hi; omega)
  have hx' : (N.map sw)[m + i]? = some (sw x) := by rw [List.getElem?_map, hx]; rfl
  rw [getD_of hx, getD_of hx', gateG_sw]
theorem map_same {f : Int → Int} {L : List Int} (h : ∀ x ∈ L, f x = x) : L.map f = L := by
  induction L with
  | nil => rfl
  | cons x r ih => rw [List.map_cons, h x (List.mem_cons_self ..), ih fun y hy => h y (List.mem_cons_of_mem _ hy)]
theorem genC_again {nin : Nat} {next reset : List Int} {rest : Rest} {N : List (Int × Int)} (h : GenOk nin next reset rest N) (hr : reset.length = next.length) : numC (genC nin next reset rest N) = genC nin next reset rest N := by
  obtain ⟨e1, e2⟩ := genC_net h
  have hle := h.only.le
  have hlat : ∀ i, i < next.length → (genC nin next reset rest N).lat[i]? = some (2 * (((nin + i : Nat) : Int) + 1), next.getD i 0, reset.getD i 0) := fun i hi => latsG_get hi
  have hll : (genC nin next reset rest N).lat.length = next.length := latsG_len _ _ _
  have hn : nextN (genC nin next reset rest N) = next := by
    apply List.ext_getElem?
    intro i
    unfold nextN
    by_cases hi : i < next.length
    · obtain ⟨z, hz⟩ := getI next hi
      rw [List.getElem?_map, hlat i hi, hz]
      show some (litI _ (next.getD i 0)) = _
      rw [getD_of hz, e2 z (h.nexts z (List.mem_of_getElem? hz))]
    · rw [List.getElem?_eq_none (by rw [List.length_map, hll]; omega), List.getElem?_eq_none (by omega)]
  have hs : resN (genC nin next reset rest N) = reset := by
    apply List.ext_getElem?
    intro i
    unfold resN
    by_cases hi : i < next.length
    · obtain ⟨z, hz⟩ := getI reset (show i < reset.length by omega)
      rw [List.getElem?_map, hlat i hi, hz]
      show some (if reset.getD i 0 = _ then litI _ (2 * (((nin + i : Nat) : Int) + 1)) else reset.getD i 0) = _
      rw [getD_of hz, e2 _ (by unfold hasL; omega)]
      split
      · rename_i hh; rw [hh]
      · rfl
    · rw [List.getElem?_eq_none (by rw [List.length_map, hll]; omega), List.getElem?_eq_none (by omega)]
  have ht : restN (genC nin next reset rest N) = rest := by
    show (⟨rest.outs.map _, rest.bads.map _, rest.cons.map _, rest.syms, rest.com⟩ : Rest) = rest
    rw [map_same fun x hx => e2 x (h.outs x hx), map_same fun x hx => e2 x (h.bads x hx), map_same fun x hx => e2 x (h.cons x hx)]
  unfold numC
  rw [hn, hs, ht, e1]
  have hi : (genC nin next reset rest N).ins.length = nin := evenL_len _ _
  rw [hi]
  unfold genC
  rw [List.length_map, gatesG_sw _ _ _ (by omega)]
theorem num_again {c : CirT} (h : GoodC' c) (hz : SzC c 100000) : numC (numC c) = numC c := genC_again (num_ok h hz) (by unfold resN; rw [List.length_map, nextN_len])
/-- In the numbers of the short form. -/
structure NormC (c : CirT) : Prop where
  len : c.max = (c.own.length : Int)
  own : ∀ (i : Nat) l, c.own[i]? = some l → l = 2 * (i : Int) + 2
  gate : ∀ g ∈ c.gates, g.2.2 ≤ g.2.1 ∧ g.2.1 < g.1
theorem num_norm {c : CirT} (h : GoodC' c) (hz : SzC c 100000) : NormC (numC c) := by
  have ho := genC_own (num_ok h hz)
  refine ⟨?_, fun i l hl => ?_, fun g hg => ?_⟩
  · show ((cNet c).1.length : Int) = ((genC c.ins.length (nextN c) (resN c) (restN c) (cNet c).1).own.length : Int)
    rw [ho, evenL_len]
  · have hl : (genC c.ins.length (nextN c) (resN c) (restN c) (cNet c).1).own[i]? = some l := hl
    rw [ho] at hl
    have hi := lt_of_get hl
    rw [evenL_len] at hi
    rw [evenL_get 0 _ hi] at hl
    have := Option.some.inj hl
    omega
  · obtain ⟨i, hi⟩ := List.mem_iff_getElem?.1 hg
    obtain ⟨x, hx, y1, y2, y3, rfl⟩ := genC_gate (num_ok h hz) hi
    dsimp only
    omega

set_option maxHeartbeats 4000000 in
theorem ref14_Normal (c : Circ) (w : World) (hC : CAt w c) (hn : NormC c.t) (hg : chkC c.t = 0) (hz : SzC c.t 100000) : Pure Try.prog 34 [c.val] w (.bool true) := by
  have hl1 : c.max = (c.t.own.length : Int) := hn.len
  have hck := fun (w9 : World) (h9 : Ext w w9) => ref11_Check c w9 (hC.ext h9) hz
  rw [hg] at hck
  have Rg := hC.gates.row
  have hgl := Rg.len
  have hol : c.t.own.length ≤ 400000 := by
    obtain ⟨q1, q2, q3, q4, q5, q6⟩ := hz
    show (c.ins.2.2 ++ c.lat.2.2.map (·.1) ++ c.gates.2.2.map (·.1)).length ≤ _
    rw [List.length_append, List.length_append, List.length_map, List.length_map]
    have : c.ins.2.2.length ≤ 100000 := q1
    have : c.lat.2.2.length ≤ 100000 := q2
    have : c.gates.2.2.length ≤ 100000 := q6
    omega
  have hk0 : dec ((0 : Int) ≠ 0) = false := dec_false (fun h => h rfl)
  refine Spec.of _ Try.func34 rfl Try.ntmps34 (by kernel_rfl) rfl ?_
  repeat' (first
    | (apply WL.box; exact rfl; exact rfl; exact rfl; intro gb w' hb hge hc hx; have hcc := hc; (first | (obtain ⟨h1, h2, h3, _⟩ := hc) | (obtain ⟨h1, h2, _⟩ := hc)); (obtain ⟨gc, rfl⟩ : ∃ x, x = gb := ⟨_, rfl⟩; obtain ⟨wc, rfl⟩ : ∃ x, x = w' := ⟨_, rfl⟩; obtain ⟨hxc, rfl⟩ : ∃ x, x = hx := ⟨_, rfl⟩; have hcells : Cells wc gc 0 c.vals := hcc))
    | ((show WL _ _ _ (⟨_, .call ⟨.value (.func 93), _, _⟩, _, _, _, _⟩ :: _) _ _ _); apply WL.call; exact rfl; exact rfl; exact rfl; exact rfl; exact ref11_Owned c _ (hC.ext (by (exact extA))) hz; rintro v' w' ⟨hx, a', cap', rfl, hO⟩; (obtain ⟨ao, rfl⟩ : ∃ x, x = a' := ⟨_, rfl⟩; obtain ⟨co, rfl⟩ : ∃ x, x = cap' := ⟨_, rfl⟩; obtain ⟨hOo, rfl⟩ : ∃ x, x = hO := ⟨_, rfl⟩; obtain ⟨wo, rfl⟩ : ∃ x, x = w' := ⟨_, rfl⟩))
    | (((show WL _ _ _ (⟨_, .call ⟨.value (.func 53), _, _⟩, _, _, _, _⟩ :: _) _ _ _); apply WL.callP; exact rfl; exact rfl; exact rfl; exact rfl; exact hck _ (by (exact extA)); intro w' hx))
    | (apply WL.gF; exact rfl; exact rfl; (focus (first | with_reducible exact hk0 | exact dec_false (by omega); done)))
    | (apply W.condKF; exact rfl; (focus (first | with_reducible exact hk0 | exact dec_false (by omega); done)))
    | (show WL _ _ _ _ _ _ _; first | apply WL.nil | (refine WL.au (k := ?_)))
    | (show Z _ _ _ _ _; apply Z.then_normal)
    | (show W _ _ _ _ _ _; first | apply W.seq | apply W.region | apply W.block | apply W.skip))
  have RO := hOo.row encI_ok
  have hXw : Ext wo w' := (by (exact extA))
  have hXc : Ext wc w' := (by (exact extA))
  have hX0 : Ext w w' := hxc.trans hXc
  have RO' := RO.ext hXw
  have Rg' := Rg.ext hX0
  obtain ⟨y0, y1, y2, y3, y4, y5, y6, _⟩ := hcells.ext hXc
  refine W.loop1 c.t.own.length (fun k => k ≤ c.t.own.length) (fun k => [(1, .pointer (some ⟨gc, 0, none⟩)), (3, .slice ao c.t.own.length co), (4, .int .i64 k)]) (Nat.zero_le _) (fun k h => h) ⟨rfl, rfl, rfl, trivial⟩ ?_
  rintro k hk
  by_cases hlt : k < c.t.own.length
  · obtain ⟨x, hxx⟩ := getI c.t.own hlt
    have hxe := hn.own k x hxx
    repeat' (first
      | (apply W.condKT; exact rfl; (focus (first | exact dec_true (by omega) | exact dec_false (by omega); done)))
      | (apply W.condKF; exact rfl; (focus (first | exact dec_true (by omega) | exact dec_false (by omega); done)))
      | (show WL _ _ _ _ _ _ _; first | apply WL.nil | (refine WL.au (k := ?_)) | (apply WL.index tOk; exact rfl; exact rfl; exact rfl; exact rfl; exact rfl; exact rfl; exact rfl; exact rfl; assumption; (exact extA); exact rfl; omega; assumption; intro b off h; have hcc := h; first | (obtain ⟨h1, h2, h3, h4, h5, h6, _⟩ := h) | (obtain ⟨h1, h2, h3, _⟩ := h) | (obtain ⟨h1, h2, _⟩ := h) | (obtain ⟨h1, _⟩ := h)))
      | (show Z _ _ _ _ _; first | apply Z.then_normal | apply Z.block_normal)
      | (show W _ _ _ _ _ _; first | apply W.seq | apply W.region | apply W.block | apply W.skip))
    exact Z.again1 (by omega) ⟨rfl, rfl, rfl, trivial⟩
  obtain rfl : k = c.t.own.length := by omega
  repeat' (first
    | (show WL _ _ _ _ _ _ _; first | apply WL.nil | (refine WL.au (k := ?_)))
    | (show Z _ _ _ _ _; apply Z.then_normal)
    | (show W _ _ _ _ _ _; first | apply W.seq | apply W.region))
  refine W.condKF rfl (dec_false (by omega)) ?_
  repeat' (first
    | (show WL _ _ _ _ _ _ _; first | apply WL.nil | (refine WL.au (k := ?_)))
    | (show Z _ _ _ _ _; first | apply Z.then_normal | apply Z.then_exit | apply Z.block_exit)
    | (show W _ _ _ _ _ _; first | apply W.seq | apply W.region | apply W.block | apply W.exit))
  refine W.loop1 c.gates.2.2.length (fun k => k ≤ c.gates.2.2.length) (fun k => [(1, .pointer (some ⟨gc, 0, none⟩)), (5, .int .i64 k)]) (Nat.zero_le _) (fun k h => h) ⟨rfl, rfl, trivial⟩ ?_
  rintro k hk
  by_cases hlt2 : k < c.gates.2.2.length
  · obtain ⟨x, hxx⟩ := getI c.gates.2.2 hlt2
    have hxe := hn.gate x (List.mem_of_getElem? hxx)
    repeat' (first
      | (apply QL.gF; exact rfl; exact rfl; (focus (first | exact dec_true (by omega) | exact dec_false (by omega); done)))
      | (apply W.condKT; exact rfl; (focus (first | exact dec_true (by omega) | exact dec_false (by omega); done)))
      | (apply W.condKF; exact rfl; (focus (first | exact dec_true (by omega) | exact dec_false (by omega); done)))
      | (show WL _ _ _ _ _ _ _; first | apply WL.nil | (refine WL.au (k := ?_)))
      | (show QL _ _ _ _ _ _ _; first | apply QL.nil | (refine QL.au (k := ?_)) | (apply QL.index tOk; exact rfl; exact rfl; exact rfl; exact rfl; exact rfl; exact rfl; exact rfl; exact rfl; assumption; (exact extA); exact rfl; omega; assumption; intro b off h; have hcc := h; first | (obtain ⟨h1, h2, h3, h4, h5, h6, _⟩ := h) | (obtain ⟨h1, h2, h3, _⟩ := h) | (obtain ⟨h1, h2, _⟩ := h) | (obtain ⟨h1, _⟩ := h)))
      | (show Z _ _ _ _ _; first | apply Z.then_normal | apply Z.block_normal)
      | (show W _ _ _ _ _ _; first | apply W.seq | apply W.region | apply W.block | apply W.skip | (apply W.regionD tMix; kernel_rfl)))
    exact Z.again1 (by omega) ⟨rfl, rfl, trivial⟩
  obtain rfl : k = c.gates.2.2.length := by omega
  repeat' (first
    | (apply W.condKF; exact rfl; (focus (exact dec_false (by omega); done)))
    | (show WL _ _ _ _ _ _ _; first | apply WL.nil | (refine WL.au (k := ?_)))
    | (show Z _ _ _ _ _; first | apply Z.then_normal | apply Z.then_exit | apply Z.block_exit)
    | (show W _ _ _ _ _ _; first | apply W.seq | apply W.region | apply W.ret | apply W.exit))
  exact Z.body1 Try.results34 rfl fun m => ⟨rfl, hX0.at m⟩

/-- The example. -/
abbrev exR : CirT := ⟨3, [6], [(2, 7, 0)], [], [], [], [], [], ⟨#[]⟩⟩
abbrev exS : CirT := ⟨2, [2], [(4, 3, 0)], [], [], [], [], [], ⟨#[]⟩⟩
theorem exR_good : GoodC' exR := by
  refine ⟨by decide, fun x hx => ?_, fun x hx => ?_, fun x hx => ?_, ?_, fun x hx h => ?_, ?_⟩
  · have : x = 6 ∨ x = 2 := by simpa using hx
    rcases this with rfl | rfl <;> decide
  · have : x = 7 := by simpa using hx
    subst this; decide
  · have : x = (2, 7, 0) := by simpa using hx
    subst this; exact .inl rfl
  · simp
  · have : x = 7 := by simpa using hx
    subst this; simp
  · show (ordL []).length = 0
    rw [ordL_nil]; rfl
theorem exR_net : cNet exR = ([(-1, 0), (-1, 0)], [0, 4, -1, 2]) := by
  unfold cNet
  rw [show exR.gates = [] from rfl, ordL_nil]
  rfl
theorem exR_num : numC exR = exS := by
  have h7 : litI [0, 4, -1, 2] 7 = 3 := rfl
  unfold numC genC nextN resN restN
  rw [exR_net]
  show (⟨2, evenL 0 1, latsG 1 [litI [0, 4, -1, 2] 7] [if (0 : Int) = 2 then _ else 0], [], [], [], gatesG _ _ 0, [], _⟩ : CirT) = _
  rw [h7]
  rfl
end Go.Proofs.Ythpnahapiodflaa
namespace Go.Proofs.Ythpnahapiodflaa
open Go Go.Lt Go.RowKit
set_option linter.unusedVariables false
set_option linter.unusedSimpArgs false
set_option maxRecDepth 20000

set_option maxRecDepth 20000 in
set_option maxHeartbeats 16000000 in
theorem law16_lives (w : World) : Pure Try.prog 28 [] w (.bool true) := by
  refine Spec.of _ Try.func28 rfl Try.ntmps28 (by kernel_rfl) rfl ?_
  repeat' (first
    | ((show WL _ _ _ (⟨_, .build 28 _, _, _, _, _⟩ :: _) _ _ _; apply WL.build (cs := [.int .i64 3, .slice (some ⟨g1, 0, none⟩) 1 1, .slice (some ⟨g2, 0, none⟩) 1 1, .slice none 0 0, .slice none 0 0, .slice none 0 0, .slice none 0 0, .slice none 0 0, .string ⟨#[]⟩]) tOk; exact rfl; exact rfl; exact rfl; exact rfl; exact rfl; exact rfl; (first | kernel_rfl | exact rfl); kernel_rfl))
    | (apply WL.build tOk; exact rfl; exact rfl; exact rfl; exact rfl; exact rfl; exact rfl; exact rfl; kernel_rfl)
    | (apply WL.lit tOk; exact rfl; exact rfl; exact rfl; exact rfl; exact rfl; exact rfl; (first | exact rfl | kernel_rfl | (simp [Instr.fill, catCells]; done)); exact rfl; intro gb w' hb hge hc hx; have hO := Own.of_block ([(6 : Int)]) encI_ok hb hge rfl; (obtain ⟨g1, rfl⟩ : ∃ x, x = gb := ⟨_, rfl⟩; obtain ⟨w1, rfl⟩ : ∃ x, x = w' := ⟨_, rfl⟩; obtain ⟨hx1, rfl⟩ : ∃ x, x = hx := ⟨_, rfl⟩; obtain ⟨hO1, rfl⟩ : ∃ x, x = hO := ⟨_, rfl⟩))
    | (apply WL.lit tOk; exact rfl; exact rfl; exact rfl; exact rfl; exact rfl; exact rfl; (first | exact rfl | kernel_rfl | (simp [Instr.fill, catCells]; done)); exact rfl; intro gb w' hb hge hc hx; have hO := Own.of_block ([((2, 7, 0) : T3)]) enc3_ok hb hge rfl; (obtain ⟨g2, rfl⟩ : ∃ x, x = gb := ⟨_, rfl⟩; obtain ⟨w3, rfl⟩ : ∃ x, x = w' := ⟨_, rfl⟩; obtain ⟨hx2, rfl⟩ : ∃ x, x = hx := ⟨_, rfl⟩; obtain ⟨hO2, rfl⟩ : ∃ x, x = hO := ⟨_, rfl⟩))
    | (show WL _ _ _ _ _ _ _; first | apply WL.nil | (refine WL.au (k := ?_)))
    | (show Z _ _ _ _ _; apply Z.then_normal)
    | (show W _ _ _ _ _ _; first | apply W.seq | apply W.region))
  obtain ⟨c, hc⟩ : ∃ c : Circ, c = ⟨3, (some ⟨g1, 0, none⟩, 1, [6]), (some ⟨g2, 0, none⟩, 1, [(2, 7, 0)]), (none, 0, []), (none, 0, []), (none, 0, []), (none, 0, []), (none, 0, []), ⟨#[]⟩⟩ := ⟨_, rfl⟩
  have hct : c.t = exR := by rw [hc]
  have hX2 : Ext w1 w3 := (by (exact extA))
  have hX : Ext w w3 := (by (exact extA))
  have nilK : ∀ {α : Type} (w0 : World) (s : Nat) (enc : α → List Value), RowK s enc w0 ((none, 0, []) : RowV α) := fun w0 s enc => ⟨Row.nil _ _ _ _, Nat.le_refl _, fun _ => rfl⟩
  have hC : CAt w3 c := by
    rw [hc]
    exact ⟨⟨(hO1.row encI_ok).ext hX2, Nat.le_refl _, fun h => by cases h⟩, ⟨hO2.row enc3_ok, Nat.le_refl _, fun h => by cases h⟩, nilK _ _ _, nilK _ _ _, nilK _ _ _, nilK _ _ _, nilK _ _ _⟩
  have hz : SzC c.t 100000 := by rw [hct]; unfold SzC; simp
  have hz7 : c.t.syms.length ≤ 100000 := by rw [hct]; simp
  have hgc : GoodC' c.t := by rw [hct]; exact exR_good
  have hnew := renum_Number c w3 hC hgc hz hz7
  have hv : c.val = .agg #[.int .i64 3, .slice (some ⟨g1, 0, none⟩) 1 1, .slice (some ⟨g2, 0, none⟩) 1 1, .slice none 0 0, .slice none 0 0, .slice none 0 0, .slice none 0 0, .slice none 0 0, .string ⟨#[]⟩] := by rw [hc]; rfl
  rw [hv, hct, exR_num, exR_net] at hnew
  repeat' (first
    | (((show WL _ _ _ (⟨_, .call ⟨.value (.func 30), _, _⟩, _, _, _, _⟩ :: _) _ _ _); apply WL.call; exact rfl; exact rfl; exact rfl; exact rfl; exact hnew; rintro v' w4 ⟨hx4, d, aa, ca, rfl, hdt, hCd, RA⟩))
    | (apply WL.alloc tOk; exact rfl; exact rfl; exact rfl; intro gb w' hb hge hx; (obtain ⟨g5, rfl⟩ : ∃ x, x = gb := ⟨_, rfl⟩; obtain ⟨hge5, rfl⟩ : ∃ x, x = hge := ⟨_, rfl⟩))
    | (apply WL.storeB (w0 := w4) tOk; exact rfl; exact rfl; exact rfl; exact rfl; assumption; (exact extA); exact rfl; exact rfl; exact rfl; (exact extA); (first | assumption | omega | (focus (apply Nat.le_trans; rotate_left; assumption; exact Below.size (by (exact extA)); done))); intro w' hb hc hX' hU; have hcc := hc; obtain ⟨h1, h2, _⟩ := hc; (obtain ⟨w5, rfl⟩ : ∃ x, x = w' := ⟨_, rfl⟩; obtain ⟨hb5, rfl⟩ : ∃ x, x = hb := ⟨_, rfl⟩; obtain ⟨hX5, rfl⟩ : ∃ x, x = hX' := ⟨_, rfl⟩; have hcd := cells_heap hb5))
    | (apply WL.lit tOk; exact rfl; exact rfl; exact rfl; exact rfl; exact rfl; exact rfl; (first | exact rfl | kernel_rfl | (simp [Instr.fill, catCells]; done)); exact rfl; intro gb w' hb hge hc hx; have hO := Own.of_block ([(2 : Int)]) encI_ok hb hge rfl; (obtain ⟨g12, rfl⟩ : ∃ x, x = gb := ⟨_, rfl⟩; obtain ⟨w12, rfl⟩ : ∃ x, x = w' := ⟨_, rfl⟩; obtain ⟨hx12, rfl⟩ : ∃ x, x = hx := ⟨_, rfl⟩; obtain ⟨hO12, rfl⟩ : ∃ x, x = hO := ⟨_, rfl⟩))
    | (apply WL.lit tOk; exact rfl; exact rfl; exact rfl; exact rfl; exact rfl; exact rfl; (first | exact rfl | kernel_rfl | (simp [Instr.fill, catCells]; done)); exact rfl; intro gb w' hb hge hc hx; have hO := Own.of_block ([((4, 3, 0) : T3)]) enc3_ok hb hge rfl; (obtain ⟨g14, rfl⟩ : ∃ x, x = gb := ⟨_, rfl⟩; obtain ⟨w14, rfl⟩ : ∃ x, x = w' := ⟨_, rfl⟩; obtain ⟨hx14, rfl⟩ : ∃ x, x = hx := ⟨_, rfl⟩; obtain ⟨hO14, rfl⟩ : ∃ x, x = hO := ⟨_, rfl⟩))
    | ((show WL _ _ _ (⟨_, .build 28 _, _, _, _, _⟩ :: _) _ _ _; apply WL.build (cs := [.int .i64 2, .slice (some ⟨g12, 0, none⟩) 1 1, .slice (some ⟨g14, 0, none⟩) 1 1, .slice none 0 0, .slice none 0 0, .slice none 0 0, .slice none 0 0, .slice none 0 0, .string ⟨#[]⟩]) tOk; exact rfl; exact rfl; exact rfl; exact rfl; exact rfl; exact rfl; (first | kernel_rfl | exact rfl); kernel_rfl))
    | (apply WL.build tOk; exact rfl; exact rfl; exact rfl; exact rfl; exact rfl; exact rfl; exact rfl; kernel_rfl)
    | (show WL _ _ _ _ _ _ _; first | apply WL.nil | (refine WL.au (k := ?_)))
    | (show Z _ _ _ _ _; apply Z.then_normal)
    | (show W _ _ _ _ _ _; first | apply W.seq | apply W.region))
  obtain ⟨e, he⟩ : ∃ e : Circ, e = ⟨2, (some ⟨g12, 0, none⟩, 1, [2]), (some ⟨g14, 0, none⟩, 1, [(4, 3, 0)]), (none, 0, []), (none, 0, []), (none, 0, []), (none, 0, []), (none, 0, []), ⟨#[]⟩⟩ := ⟨_, rfl⟩
  have het : e.t = exS := by rw [he]
  have hX12 : Ext w12 w14 := (by (exact extA))
  have hX5' : Ext w5 w14 := (by (exact extA))
  have hCe : CAt w14 e := by
    rw [he]
    exact ⟨⟨(hO12.row encI_ok).ext hX12, Nat.le_refl _, fun h => by cases h⟩, ⟨hO14.row enc3_ok, Nat.le_refl _, fun h => by cases h⟩, nilK _ _ _, nilK _ _ _, nilK _ _ _, nilK _ _ _, nilK _ _ _⟩
  have hCd14 : CAt w14 d := hCd.ext (hX5.trans hX5')
  have RA14 := RA.ext (hX5.trans hX5')
  have hsm := fun (w0 : World) (h0 : Ext w14 w0) => ref11_Same d e w0 (hCd14.ext h0) (hCe.ext h0)
  rw [dec_true (show d.t = e.t by rw [hdt, het])] at hsm
  have hev : e.val = .agg #[.int .i64 2, .slice (some ⟨g12, 0, none⟩) 1 1, .slice (some ⟨g14, 0, none⟩) 1 1, .slice none 0 0, .slice none 0 0, .slice none 0 0, .slice none 0 0, .slice none 0 0, .string ⟨#[]⟩] := by rw [he]; rfl
  rw [hev] at hsm
  have hX14 : Ext w w14 := hX.trans (hx4.trans (hX5.trans hX5'))
  repeat' (first
    | (((show WL _ _ _ (⟨_, .call ⟨.value (.func 32), _, _⟩, _, _, _, _⟩ :: _) _ _ _); apply WL.callP; exact rfl; exact rfl; exact rfl; exact rfl; exact hsm _ (Ext.refl _); intro w15 hx15))
    | (apply WL.lit tOk; exact rfl; exact rfl; exact rfl; exact rfl; exact rfl; exact rfl; (first | exact rfl | kernel_rfl | (simp [Instr.fill, catCells]; done)); exact rfl; intro gb w' hb hge hc hx; have hO := Own.of_block ([(0 : Int), 4, -1, 2]) encI_ok hb hge rfl; (obtain ⟨g19, rfl⟩ : ∃ x, x = gb := ⟨_, rfl⟩; obtain ⟨w19, rfl⟩ : ∃ x, x = w' := ⟨_, rfl⟩; obtain ⟨hx19, rfl⟩ : ∃ x, x = hx := ⟨_, rfl⟩; obtain ⟨hO19, rfl⟩ : ∃ x, x = hO := ⟨_, rfl⟩; have R19 := hO19.row encI_ok; have hin := ref_Ints aa (some ⟨g19, 0, none⟩) ca 4 [0, 4, -1, 2] [0, 4, -1, 2] w19 (RA14.ext (by (exact extA))) R19; rw [dec_true rfl] at hin))
    | (((show WL _ _ _ (⟨_, .call ⟨.value (.func 33), _, _⟩, _, _, _, _⟩ :: _) _ _ _); apply WL.callS; exact rfl; exact rfl; exact rfl; exact rfl; exact hin))
    | (show WL _ _ _ _ _ _ _; first | apply WL.nil | (refine WL.au (k := ?_)))
    | (show Z _ _ _ _ _; apply Z.then_normal)
    | (show W _ _ _ _ _ _; apply W.ret))
  exact Z.body1 Try.results28 rfl fun m => ⟨rfl, Ext.at (hX14.trans (by (exact extA))) m⟩
set_option maxHeartbeats 16000000 in
theorem law_RenumNumbers (c : Circ) (w : World) (hC : CAt w c) : Pure Try.prog 6 [c.val] w (.bool true) := by
  by_cases hf : FewC c.t 30 ∧ c.max ≤ 300 ∧ GoodC' c.t
  rotate_left
  · refine Spec.of _ Try.func6 rfl Try.ntmps6 (by kernel_rfl) rfl ?_
    repeat' (first
      | (apply WL.box; exact rfl; exact rfl; exact rfl; intro gb w' hb hge hc hx; have hcc := hc; (first | (obtain ⟨h1, h2, h3, _⟩ := hc) | (obtain ⟨h1, h2, _⟩ := hc)))
      | (apply W.condKT; exact rfl; (focus (first | (rw [dec_false hf]; rfl); done)))
      | ((show WL _ _ _ (⟨_, .call ⟨.value (.func 27), _, _⟩, _, _, _, _⟩ :: _) _ _ _); apply WL.callP; exact rfl; exact rfl; exact rfl; exact rfl; exact law11_Small c 30 _ (hC.ext (by (exact extA))) (by decide); intro w' hx)
      | ((show WL _ _ _ (⟨_, .call ⟨.value (.func 28), _, _⟩, _, _, _, _⟩ :: _) _ _ _); apply WL.callP; exact rfl; exact rfl; exact rfl; exact rfl; exact law16_lives _; intro w' hx)
      | (show WL _ _ _ _ _ _ _; first | apply WL.nil | (refine WL.au (k := ?_)))
      | (show Z _ _ _ _ _; first | apply Z.then_normal | apply Z.then_ret)
      | (show W _ _ _ _ _ _; first | apply W.seq | apply W.region | apply W.ret))
    exact Z.body1 Try.results6 rfl fun m => ⟨rfl, Ext.at (by (exact extA)) m⟩
  have hf' := hf
  obtain ⟨hfew, hmx, hg⟩ := hf'
  obtain ⟨hz, hz7⟩ := few_sz2 hfew (by decide)
  have hgn := num_good hg hz
  have hzn := num_sz hg hz
  have hz7n : (numC c.t).syms.length ≤ 100000 := hz7
  have hckn : chkC (numC c.t) = 0 := chkC_good.2 hgn
  have hnn := num_norm hg hz
  have hag := num_again hg hz
  have hkf : (!dec (FewC c.t 30 ∧ c.max ≤ 300 ∧ GoodC' c.t)) = false := by rw [dec_true hf]; rfl
  refine Spec.of _ Try.func6 rfl Try.ntmps6 (by kernel_rfl) rfl ?_
  repeat' (first
    | (apply WL.box; exact rfl; exact rfl; exact rfl; intro gb w' hb hge hc hx; have hcc := hc; (first | (obtain ⟨h1, h2, h3, _⟩ := hc) | (obtain ⟨h1, h2, _⟩ := hc)); (obtain ⟨g1, rfl⟩ : ∃ x, x = gb := ⟨_, rfl⟩; obtain ⟨wc, rfl⟩ : ∃ x, x = w' := ⟨_, rfl⟩; obtain ⟨hxc, rfl⟩ : ∃ x, x = hx := ⟨_, rfl⟩; have hcells : Cells wc g1 0 c.vals := hcc))
    | (apply W.condKF; exact rfl; (focus (with_reducible exact hkf; done)))
    | ((show WL _ _ _ (⟨_, .call ⟨.value (.func 27), _, _⟩, _, _, _, _⟩ :: _) _ _ _); apply WL.callP; exact rfl; exact rfl; exact rfl; exact rfl; exact law11_Small c 30 _ (hC.ext (by (exact extA))) (by decide); intro w' hx)
    | (((show WL _ _ _ (⟨_, .call ⟨.value (.func 29), _, _⟩, _, _, _, _⟩ :: _) _ _ _); apply WL.call; exact rfl; exact rfl; exact rfl; exact rfl; exact law11_Own c _ (hC.ext (by (exact extA))) hz hz7; rintro v' w4 ⟨hx4, d, rfl, hdt, hOd⟩; have hCd := hOd.at))
    | (show WL _ _ _ _ _ _ _; first | apply WL.nil | (refine WL.au (k := ?_)))
    | (show Z _ _ _ _ _; apply Z.then_normal)
    | (show W _ _ _ _ _ _; first | apply W.seq | apply W.region | apply W.skip))
  have hXw4 : Ext w w4 := (by (exact extA))
  have hc4 : Cells w4 g1 0 c.vals := hcells.ext (by (exact extA))
  have hC4 := hC.ext hXw4
  repeat' (first
    | (apply WL.alloc tOk; exact rfl; exact rfl; exact rfl; intro gb w' hb hge hx; (obtain ⟨g3, rfl⟩ : ∃ x, x = gb := ⟨_, rfl⟩; obtain ⟨hge3, rfl⟩ : ∃ x, x = hge := ⟨_, rfl⟩; obtain ⟨hb3, rfl⟩ : ∃ x, x = hb := ⟨_, rfl⟩; obtain ⟨hx3, rfl⟩ : ∃ x, x = hx := ⟨_, rfl⟩)))
  repeat' (first
    | (apply WL.storeB (w0 := w4) tOk; exact rfl; exact rfl; exact rfl; exact rfl; assumption; (exact extA); exact rfl; exact rfl; exact rfl; (exact extA); (first | assumption | omega | (focus (apply Nat.le_trans; rotate_left; assumption; exact Below.size (by (exact extA)); done))); intro w' hb hc hX' hU; have hcc := hc; obtain ⟨h1, h2, _⟩ := hc; (obtain ⟨w5, rfl⟩ : ∃ x, x = w' := ⟨_, rfl⟩; obtain ⟨hb5, rfl⟩ : ∃ x, x = hb := ⟨_, rfl⟩; obtain ⟨hX5, rfl⟩ : ∃ x, x = hX' := ⟨_, rfl⟩; have hcd := cells_heap hb5))
    | (show WL _ _ _ _ _ _ _; first | apply WL.nil | (refine WL.au (k := ?_)))
    | (show Z _ _ _ _ _; apply Z.then_normal)
    | (show W _ _ _ _ _ _; first | apply W.seq | apply W.region))
  have hgd : GoodC' d.t := by rw [hdt]; exact hg
  have hzd : SzC d.t 100000 := by rw [hdt]; exact hz
  have hzd7 : d.t.syms.length ≤ 100000 := by rw [hdt]; exact hz7
  have hnum := renum_Number d w5 (hCd.ext hX5) hgd hzd hzd7
  rw [hdt] at hnum
  repeat' (first
    | (((show WL _ _ _ (⟨_, .call ⟨.value (.func 30), _, _⟩, _, _, _, _⟩ :: _) _ _ _); apply WL.call; exact rfl; exact rfl; exact rfl; exact rfl; exact hnum; rintro v' w6 ⟨hx6, e1, a1, c1, rfl, he1, hC1, R1⟩))
    | (show WL _ _ _ _ _ _ _; (refine WL.au (k := ?_))))
  repeat' (first
    | (apply WL.alloc tOk; exact rfl; exact rfl; exact rfl; intro gb w' hb hge hx; (obtain ⟨g4, rfl⟩ : ∃ x, x = gb := ⟨_, rfl⟩; obtain ⟨hge4, rfl⟩ : ∃ x, x = hge := ⟨_, rfl⟩; obtain ⟨hb4, rfl⟩ : ∃ x, x = hb := ⟨_, rfl⟩; obtain ⟨hx4', rfl⟩ : ∃ x, x = hx := ⟨_, rfl⟩)))
  repeat' (first
    | (apply WL.storeB (w0 := w6) tOk; exact rfl; exact rfl; exact rfl; exact rfl; assumption; (exact extA); exact rfl; exact rfl; exact rfl; (exact extA); (first | assumption | omega | (focus (apply Nat.le_trans; rotate_left; assumption; exact Below.size (by (exact extA)); done))); intro w' hb hc hX' hU; have hcc := hc; obtain ⟨h1, h2, _⟩ := hc; (obtain ⟨w7, rfl⟩ : ∃ x, x = w' := ⟨_, rfl⟩; obtain ⟨hb7, rfl⟩ : ∃ x, x = hb := ⟨_, rfl⟩; obtain ⟨hX7, rfl⟩ : ∃ x, x = hX' := ⟨_, rfl⟩; have hce1 := cells_heap hb7))
    | (show WL _ _ _ _ _ _ _; first | apply WL.nil | (refine WL.au (k := ?_)))
    | (show Z _ _ _ _ _; apply Z.then_normal)
    | (show W _ _ _ _ _ _; first | apply W.seq | apply W.region))
  have hX47 : Ext w4 w7 := hX5.trans (hx6.trans hX7)
  have hnum2 := ref16_Number c w7 (hC4.ext hX47) hg hz
  have hc7 : Cells w7 g1 0 c.vals := hc4.ext hX47
  repeat' (first
    | (((show WL _ _ _ (⟨_, .call ⟨.value (.func 31), _, _⟩, _, _, _, _⟩ :: _) _ _ _); apply WL.call; exact rfl; exact rfl; exact rfl; exact rfl; exact hnum2; rintro v' w8 ⟨hx8, e2, a2, c2, rfl, he2, hC2, R2⟩))
    | (show WL _ _ _ _ _ _ _; (refine WL.au (k := ?_))))
  repeat' (first
    | (apply WL.alloc tOk; exact rfl; exact rfl; exact rfl; intro gb w' hb hge hx; (obtain ⟨g6, rfl⟩ : ∃ x, x = gb := ⟨_, rfl⟩; obtain ⟨hge6, rfl⟩ : ∃ x, x = hge := ⟨_, rfl⟩; obtain ⟨hb6, rfl⟩ : ∃ x, x = hb := ⟨_, rfl⟩; obtain ⟨hx6', rfl⟩ : ∃ x, x = hx := ⟨_, rfl⟩)))
  repeat' (first
    | (apply WL.storeB (w0 := w8) tOk; exact rfl; exact rfl; exact rfl; exact rfl; assumption; (exact extA); exact rfl; exact rfl; exact rfl; (exact extA); (first | assumption | omega | (focus (apply Nat.le_trans; rotate_left; assumption; exact Below.size (by (exact extA)); done))); intro w' hb hc hX' hU; have hcc := hc; obtain ⟨h1, h2, _⟩ := hc; (obtain ⟨w9, rfl⟩ : ∃ x, x = w' := ⟨_, rfl⟩; obtain ⟨hb9, rfl⟩ : ∃ x, x = hb := ⟨_, rfl⟩; obtain ⟨hX9, rfl⟩ : ∃ x, x = hX' := ⟨_, rfl⟩; have hce2 := cells_heap hb9))
    | (show WL _ _ _ _ _ _ _; first | apply WL.nil | (refine WL.au (k := ?_)))
    | (show Z _ _ _ _ _; apply Z.then_normal)
    | (show W _ _ _ _ _ _; first | apply W.seq | apply W.region))
  have hX79 : Ext w7 w9 := hx8.trans hX9
  have hX59 : Ext w5 w9 := hx6.trans (hX7.trans hX79)
  have hX49 : Ext w4 w9 := hX5.trans hX59
  have hC19 : CAt w9 e1 := hC1.ext (hX7.trans hX79)
  have hC29 : CAt w9 e2 := hC2.ext hX9
  have hC9 : CAt w9 c := hC4.ext hX49
  have hCd9 : CAt w9 d := hCd.ext hX49
  have v1 : Cells w9 g4 0 e1.vals := Cells.ext hX79 hce1
  have v2 : Cells w9 g6 0 e2.vals := hce2
  have v3 : Cells w9 g3 0 d.vals := Cells.ext hX59 hcd
  have v4 : Cells w9 g1 0 c.vals := hc4.ext hX49
  have R19 := R1.ext (hX7.trans hX79)
  have R29 := R2.ext hX9
  obtain ⟨A, hA⟩ : ∃ A, A = (cNet c.t).2 := ⟨_, rfl⟩
  rw [← hA] at R19 R29 ⊢
  have s1 := fun (w0 : World) (h0 : Ext w9 w0) => ref11_Same e1 e2 w0 (hC19.ext h0) (hC29.ext h0)
  rw [dec_true (show e1.t = e2.t by rw [he1, he2])] at s1
  have s2 := fun (w0 : World) (h0 : Ext w9 w0) => ref_Ints a1 a2 c1 c2 A A w0 (R19.ext h0) (R29.ext h0)
  rw [dec_true (show A = A from rfl)] at s2
  have s3 := fun (w0 : World) (h0 : Ext w9 w0) => ref11_Same d c w0 (hCd9.ext h0) (hC9.ext h0)
  rw [dec_true (show d.t = c.t from hdt)] at s3
  have s4 := fun (w0 : World) (h0 : Ext w9 w0) => ref14_Normal e1 w0 (hC19.ext h0) (by rw [he1]; exact hnn) (by rw [he1]; exact hckn) (by rw [he1]; exact hzn)
  have hz1 : SzC e1.t 100000 := by rw [he1]; exact hzn
  have hz17 : e1.t.syms.length ≤ 100000 := by rw [he1]; exact hz7n
  clear hnum hnum2
  have hXw9 : Ext w w9 := hXw4.trans hX49
  repeat' (first
    | (((show WL _ _ _ (⟨_, .call ⟨.value (.func 32), _, _⟩, _, _, _, _⟩ :: _) _ _ _); apply WL.callP; exact rfl; exact rfl; exact rfl; exact rfl; (first | exact s1 _ (by (exact extA)) | exact s3 _ (by (exact extA))); intro w' hx))
    | (apply WL.callS; exact rfl; exact rfl; exact rfl; exact rfl; (apply s2 _; (exact extA)))
    | (((show WL _ _ _ (⟨_, .call ⟨.value (.func 34), _, _⟩, _, _, _, _⟩ :: _) _ _ _); apply WL.callP; exact rfl; exact rfl; exact rfl; exact rfl; exact s4 _ (by (exact extA)); intro w' hx))
    | (((show WL _ _ _ (⟨_, .call ⟨.value (.func 29), _, _⟩, _, _, _, _⟩ :: _) _ _ _); apply WL.call; exact rfl; exact rfl; exact rfl; exact rfl; exact law11_Own e1 _ (hC19.ext (by (exact extA))) hz1 hz17; rintro v' w10 ⟨hx10, e3, rfl, he3, hO3⟩))
    | (show WL _ _ _ _ _ _ _; first | apply WL.nil | (refine WL.au (k := ?_)))
    | (show Z _ _ _ _ _; apply Z.then_normal)
    | (show W _ _ _ _ _ _; first | apply W.seq | apply W.region | apply W.skip | (apply W.condF; exact rfl)))
  have hX910 : Ext w9 w10 := (by (exact extA))
  have h3n : e3.t = numC c.t := he3.trans he1
  have hnum3 := renum_Number e3 w10 hO3.at (by rw [h3n]; exact hgn) (by rw [h3n]; exact hzn) (by rw [h3n]; exact hz7n)
  rw [h3n, hag] at hnum3
  repeat' (first
    | (((show WL _ _ _ (⟨_, .call ⟨.value (.func 30), _, _⟩, _, _, _, _⟩ :: _) _ _ _); apply WL.call; exact rfl; exact rfl; exact rfl; exact rfl; exact hnum3; rintro v' w11 ⟨hx11, e4, a4, c4, rfl, he4, hC4', _⟩))
    | (show WL _ _ _ _ _ _ _; (refine WL.au (k := ?_))))
  repeat' (first
    | (apply WL.alloc tOk; exact rfl; exact rfl; exact rfl; intro gb w' hb hge hx; (obtain ⟨g8, rfl⟩ : ∃ x, x = gb := ⟨_, rfl⟩; obtain ⟨hge8, rfl⟩ : ∃ x, x = hge := ⟨_, rfl⟩; obtain ⟨hb8, rfl⟩ : ∃ x, x = hb := ⟨_, rfl⟩; obtain ⟨hx8', rfl⟩ : ∃ x, x = hx := ⟨_, rfl⟩)))
  repeat' (first
    | (apply WL.storeB (w0 := w11) tOk; exact rfl; exact rfl; exact rfl; exact rfl; assumption; (exact extA); exact rfl; exact rfl; exact rfl; (exact extA); (first | assumption | omega | (focus (apply Nat.le_trans; rotate_left; assumption; exact Below.size (by (exact extA)); done))); intro w' hb hc hX' hU; have hcc := hc; obtain ⟨h1, h2, _⟩ := hc; (obtain ⟨w12, rfl⟩ : ∃ x, x = w' := ⟨_, rfl⟩; obtain ⟨hb12, rfl⟩ : ∃ x, x = hb := ⟨_, rfl⟩; obtain ⟨hX12, rfl⟩ : ∃ x, x = hX' := ⟨_, rfl⟩; have hce4 := cells_heap hb12))
    | (show WL _ _ _ _ _ _ _; first | apply WL.nil | (refine WL.au (k := ?_)))
    | (show Z _ _ _ _ _; apply Z.then_normal)
    | (show W _ _ _ _ _ _; first | apply W.seq | apply W.region))
  have hX912 : Ext w9 w12 := hX910.trans (hx11.trans hX12)
  have v5 : Cells w12 g4 0 e1.vals := Cells.ext hX912 v1
  have s5 := fun (w0 : World) (h0 : Ext w12 w0) => ref11_Same e4 e1 w0 (hC4'.ext (hX12.trans h0)) (hC19.ext (hX912.trans h0))
  rw [dec_true (show e4.t = e1.t by rw [he4, he1])] at s5
  have hXw12 : Ext w w12 := hXw9.trans hX912
  repeat' (first
    | (((show WL _ _ _ (⟨_, .call ⟨.value (.func 32), _, _⟩, _, _, _, _⟩ :: _) _ _ _); apply WL.callP; exact rfl; exact rfl; exact rfl; exact rfl; exact s5 _ (by (exact extA)); intro w' hx))
    | ((show WL _ _ _ (⟨_, .call ⟨.value (.func 28), _, _⟩, _, _, _, _⟩ :: _) _ _ _); apply WL.callP; exact rfl; exact rfl; exact rfl; exact rfl; exact law16_lives _; intro w' hx)
    | (show WL _ _ _ _ _ _ _; first | apply WL.nil | (refine WL.au (k := ?_)))
    | (show Z _ _ _ _ _; apply Z.then_normal)
    | (show W _ _ _ _ _ _; apply W.ret))
  exact Z.body1 Try.results6 rfl fun m => ⟨rfl, Ext.at (by (exact extA)) m⟩
end Go.Proofs.Ythpnahapiodflaa
namespace Go.Proofs.Ythpnahapiodflaa
open Go Go.Lt Go.RowKit Go.ChangeShapes Go.WideShapes Go.ChangeAt Go.Deep
set_option linter.unusedVariables false
set_option linter.unusedSimpArgs false
set_option maxRecDepth 20000

set_option maxRecDepth 20000 in
theorem circ_of {H : Type} {en : TypeId × Value → H} {w : World} {base : Nat} {spare : Nat → Bool} {held : Bool} {r : Reach} {b0 : Nat} {v : Value} {d : DataW H} {ps : List MemPlace} (hval : Value.okWide Try.prog w r b0 28 v) (hd : DataW.Trod en Try.prog w base spare held 28 v d ps) : ∃ c : Circ, v = c.val ∧ CAt w c := by
  obtain ⟨⟨m, ins, lat, outs, bads, cons, gates, syms, com, _⟩, hv, _, ki, kl, ko, kb, kc, kg, ks, _⟩ := struct_of (reads_struct Try.underlying28 (by kernel_rfl) (by kernel_rfl) (readsF_cons (reads_int Try.underlying3) (readsF_cons (reads_row (s := 1) (reads_int Try.underlying3) (by kernel_rfl) Try.underlying23 (fun _ => rfl) (by decide)) (readsF_cons (reads_row (s := 3) (reads_triple' (s0 := 1) (s1 := 1) (s2 := 1) Try.underlying69 (reads_int Try.underlying3) (reads_int Try.underlying3) (reads_int Try.underlying3) (by kernel_rfl) rfl rfl rfl (by kernel_rfl) (by kernel_rfl) (by kernel_rfl)) (by kernel_rfl) Try.underlying24 (fun _ => rfl) (by decide)) (readsF_cons (reads_row (s := 1) (reads_int Try.underlying3) (by kernel_rfl) Try.underlying23 (fun _ => rfl) (by decide)) (readsF_cons (reads_row (s := 1) (reads_int Try.underlying3) (by kernel_rfl) Try.underlying23 (fun _ => rfl) (by decide)) (readsF_cons (reads_row (s := 1) (reads_int Try.underlying3) (by kernel_rfl) Try.underlying23 (fun _ => rfl) (by decide)) (readsF_cons (reads_row (s := 3) (reads_triple' (s0 := 1) (s1 := 1) (s2 := 1) Try.underlying106 (reads_int Try.underlying3) (reads_int Try.underlying3) (reads_int Try.underlying3) (by kernel_rfl) rfl rfl rfl (by kernel_rfl) (by kernel_rfl) (by kernel_rfl)) (by kernel_rfl) Try.underlying25 (fun _ => rfl) (by decide)) (readsF_cons (reads_row (s := 3) (reads_triple' (s0 := 1) (s1 := 1) (s2 := 1) Try.underlying110 (reads_int Try.underlying5) (reads_int Try.underlying3) (reads_string Try.underlying9) (by kernel_rfl) rfl rfl rfl (by kernel_rfl) (by kernel_rfl) (by kernel_rfl)) (by kernel_rfl) Try.underlying26 (fun _ => rfl) (by decide)) (readsF_cons (reads_string Try.underlying9) (readsF_nil _))))))))))) Try.underlying28 hval hd
  exact ⟨⟨m, ins, lat, outs, bads, cons, gates, syms, com⟩, hv, ⟨ki.1, ki.2.1, ki.2.2.2.1⟩, ⟨kl.1, kl.2.1, kl.2.2.2.1⟩, ⟨ko.1, ko.2.1, ko.2.2.2.1⟩, ⟨kb.1, kb.2.1, kb.2.2.2.1⟩, ⟨kc.1, kc.2.1, kc.2.2.2.1⟩, ⟨kg.1, kg.2.1, kg.2.2.2.1⟩, ⟨ks.1, ks.2.1, ks.2.2.2.1⟩⟩
end Go.Proofs.Ythpnahapiodflaa
namespace Go.Proofs.Ythpnahapiodflaa
open Go Go.Lt Go.ChangeShapes Go.WideShapes Go.ChangeAt Go.RowKit
set_option linter.unusedVariables false
set_option linter.unusedSimpArgs false
set_option maxRecDepth 20000
open Go.ChangeMaps (open_string shut_string)
namespace renumNumbers
theorem own : ownKnob Try.prog.godebug = none := by kernel_rfl
theorem laidOut : laidOutB Try.prog = true := factLaid
set_option maxRecDepth 100000 in
theorem lifted (os : Os) (started : os.Started) (H : Type) (enc : TypeId × Value → H) :
    ReturnsInHanded {} Try.checked os 6 .any (Rows.renumNumbersSpec.pre6 enc Try.prog Try.f6 Rows.renumNumbersRow.domain false) (Rows.renumNumbersSpec.post enc Try.prog Try.f6 false true false false) := by
  refine returnsInHanded_of_change (C := Try.checked) own started (by kernel_rfl) Try.func6
    (ChangeSpec.witness6 (enc := enc) (C := Try.checked) false ⟨#[], #[.agg #[.int .i64 0, .slice none 0 0, .slice none 0 0, .slice none 0 0, .slice none 0 0, .slice none 0 0, .slice none 0 0, .slice none 0 0, .string ⟨#[]⟩]], []⟩ 8 (by kernel_rfl) (by kernel_rfl) (by kernel_rfl) (by kernel_rfl)) ?_
  intro W base args ds gs before hval0 hW hcnd _
  have hval : ∀ (j : Nat) t v, Try.f6.params[j]? = some t → args[j]? = some v → Value.okWide Try.prog W .any base t v := hval0
  have hW' := hW
  obtain ⟨p, q, hA0, hV, rfl, hfz, hnd⟩ := hW
  have hA : DataW.TrodAll enc Try.prog W 0 (fun _ => true) true Try.f6.params.toList args.toList ds p := hA0
  rw [Try.params6] at hA hval
  obtain ⟨v0, vs0, d0, ds0, p0, q0, hargs, rfl, rfl, h0, r0⟩ := trodAll_cons hA
  obtain ⟨rfl, rfl, rfl⟩ := trodAll_nil r0
  obtain rfl : args = #[v0] := by cases args; simp_all
  obtain ⟨rfl, rfl⟩ := trodVars_none hV
  have k0 := h0
  have lt0 : ∀ x ∈ p0, x.block < W.heap.size := by obtain ⟨m, hm⟩ := k0; exact DataW.trod_lt m _ _ _ hm
  obtain ⟨c0, rfl, hC0⟩ := circ_of (hval 0 28 v0 rfl rfl) h0
  clear hA0 hval0
  refine (Spec.law (law_RenumNumbers c0 W hC0)).mono fun e W' ⟨he, bel⟩ => ?_
  subst he
  exact ⟨_, rfl, _, _, _, [], _, [], hW', trodAll_mk1 (shut_bool Try.underlying4 _), (trodAll_cons_mk (Below.trod laidOut (by kernel_rfl) (of_decide_eq_true (by kernel_rfl)) k0 bel lt0) trodAll_mk0), rfl, bel.frame _, fun h => by cases h⟩
theorem j0 : (Rows.renumNumbersRow.wf (OpenSpec.ofChange Rows.renumNumbersSpec)) = true := by kernel_rfl
theorem j3 : (Try.f6.params.all (Try.prog.readableRec ·)) = true := by kernel_rfl
theorem j4 : (namedTie Try.prog Rows.renumNumbersRow.named Rows.renumNumbersSpec.vars) = true := by kernel_rfl
theorem j5 : ((Rows.renumNumbersRow.stops == [])) = true := by kernel_rfl
theorem j7 : ((Rows.renumNumbersRow.knobs == [])) = true := by kernel_rfl
theorem j9 : ((Rows.renumNumbersRow.inPlace == Try.prog.inPlace 6)) = true := by kernel_rfl
theorem j10 : ((Rows.renumNumbersRow.unfollowed == Try.prog.unfollowed 6)) = true := by kernel_rfl
theorem j11 : ((Rows.renumNumbersRow.recurses == Try.prog.recurses 6)) = true := by kernel_rfl
theorem j12 : ((Rows.renumNumbersRow.named == Try.prog.varsNamed 6)) = true := by kernel_rfl
theorem j13 : ((Rows.renumNumbersRow.maps == (Try.f6.params.toList ++ Rows.renumNumbersSpec.plain.varTypes Try.prog).any (Try.prog.mapsRec ·))) = true := by kernel_rfl
theorem j14 : ((Rows.renumNumbersRow.ifaces == (Try.f6.params.toList ++ Rows.renumNumbersSpec.plain.varTypes Try.prog).any (Try.prog.ifacesRec ·))) = true := by kernel_rfl
theorem j15 : ((Rows.renumNumbersRow.mapsOut == Try.prog.mapsAmong Try.f6.resultTypes.toList)) = true := by kernel_rfl
theorem j16 : ((Rows.renumNumbersRow.loops == (Try.f6.params.toList ++ Rows.renumNumbersSpec.plain.varTypes Try.prog).any (Try.prog.loopsFrom ·))) = true := by kernel_rfl
theorem j17 : ((Rows.renumNumbersRow.wideKeys == (Try.f6.params.toList ++ Rows.renumNumbersSpec.plain.varTypes Try.prog ++ Try.f6.resultTypes.toList).any (Try.prog.wideKeysFrom ·))) = true := by kernel_rfl
theorem j18 : (Rows.renumNumbersSpec.vars.all (Try.prog.varReadable ·)) = true := by kernel_rfl
theorem j19 : (Try.f6.resultTypes.all (fun t => Try.prog.readableRec t && decide (t < Try.prog.types.size))) = true := by kernel_rfl
theorem j20 : ((Rows.renumNumbersRow.ifacesOut == Try.f6.resultTypes.toList.any (Try.prog.ifacesRec ·))) = true := by kernel_rfl
theorem j21 : ((Rows.renumNumbersRow.loopsOut == Try.f6.resultTypes.toList.any (Try.prog.loopsFrom ·))) = true := by kernel_rfl
theorem j22 : ((Rows.renumNumbersRow.plainKeys == Try.prog.plainKeys)) = true := by rw [show Rows.renumNumbersRow.plainKeys = Rows.genCountsRow.plainKeys by kernel_rfl]; exact factKeys
theorem j23 : (Rows.renumNumbersRow.shortTexts.isNone) = true := by kernel_rfl
theorem j26 : ((Rows.renumNumbersRow.lifted == Try.prog.liftsFinal)) = true := by rw [show Rows.renumNumbersRow.lifted = Rows.genCountsRow.lifted by kernel_rfl]; exact factLifts
theorem j27 : ((Try.prog.make == some Rows.renumNumbersRow.make)) = true := by rw [show Rows.renumNumbersRow.make = Rows.genCountsRow.make by kernel_rfl]; exact factMake
theorem j28 : ((Rows.renumNumbersRow.kinds == (if Rows.renumNumbersRow.domain.isEmpty then [] else Try.f6.params.toList.map fun t => match Try.prog.underlying t with | some (.int k) => some k | _ => none))) = true := by kernel_rfl
theorem j29 : ((Rows.renumNumbersRow.pinned == Rows.renumNumbersRow.pinnedBy)) = true := by kernel_rfl
theorem j30 : ((Rows.renumNumbersRow.veiled == (Try.f6.params.toList ++ Rows.renumNumbersSpec.plain.varTypes Try.prog ++ Try.f6.resultTypes.toList).any (Try.prog.veiledRec ·))) = true := by kernel_rfl
theorem j31 : (Rows.renumNumbersRow.veiledFits Try.prog Try.f6.params.toList (Try.f6.params.toList ++ Rows.renumNumbersSpec.plain.varTypes Try.prog ++ Try.f6.resultTypes.toList)) = true := by kernel_rfl
set_option maxRecDepth 100000 in
theorem closed : joinedFacts Try.checked.prog 6 Try.f6 Rows.renumNumbersSpec Rows.renumNumbersRow = true := by unfold joinedFacts; exact (band (band (band (band (band (band (band (band (band (band (band (band (band (band (band (band (band (band (band (band (band (band (band (band (band (band (band (band (band (band (band j0 factLaid) factMaps) j3) j4) j5) factStops) j7) factKnobs) j9) j10) j11) j12) j13) j14) j15) j16) j17) j18) j19) j20) j21) j22) j23) factHeard) factEnter) j26) j27) j28) j29) j30) j31)
theorem named : Try.checked.prog.funcNamed Rows.renumNumbersRow.func = some 6 := by kernel_rfl
theorem over : Rows.renumNumbersRow.holds Try.pinned (OpenSpec.ofChange Rows.renumNumbersSpec) :=
  OpenClaim.holds_of_wide 6 Try.f6 rfl rfl rfl rfl rfl rfl rfl ⟨rfl, rfl, rfl, rfl, rfl⟩ rfl rfl rfl rfl rfl named Try.func6 closed
    (of_decide_eq_true (by kernel_rfl)) (by unfold Func.isWrapper; first | (rw [if_pos (by decide +kernel)]; kernel_rfl) | (rw [if_neg (by decide +kernel)]; exact ⟨rfl, rfl⟩))
    (fun os started H enc _ => lifted os started H enc)
/-- The statement. -/
theorem proved : Rows.RenumNumbersSaid := over
end renumNumbers
end Go.Proofs.Ythpnahapiodflaa
