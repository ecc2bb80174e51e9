/- Part 5 of what the claim UnrollPlays needs: lemmas and contracts, printed from longer texts. No conditions. -/
import Derived.Test.YteidpnpbfagaeaaGreatRows
import Derived.Lib.SmallJoins
import Derived.KernelRfl
import Derived.WalkKit
import Derived.ProofKit
import Derived.Deep.Quiet
import Derived.Deep.LoopGhost
import Derived.StillTail
import Derived.Test.YteidpnpbfagaeaaGreatProg
import Derived.OpenShut
import Derived.ShutString
import Derived.ChangeOld
import Derived.Deep.Slices
import Derived.SizedLaws
import Derived.Laws.StructEq
import Derived.Laws.Externs
import Derived.MapKept
import Derived.JoinedCond
import Derived.Test.YteidpnpbfagaeaaGreatUnrollPlaysP4
namespace Go.Proofs.YteidpnpbfagaeaaGreat
open Go Go.Lt Go.RowKit
set_option linter.unusedVariables false
set_option linter.unusedSimpArgs false
set_option maxRecDepth 20000

noncomputable abbrev okO (m x : Int) : Bool := dec (1 < x) && dec (x % 2 = 0) && dec (x ≤ 2 * m)
noncomputable abbrev okR (x : T3) : Bool := dec (x.2.2 = 0) || dec (x.2.2 = 1) || dec (x.2.2 = x.1)
theorem all_snoc {α : Type} {l : List α} {k : Nat} {x : α} (p : α → Bool) (h : l[k]? = some x) : (l.take (k + 1)).all p = ((l.take k).all p && p x) := by rw [take_succ' h, List.all_append]; simp
theorem bad_iff {c : CirT} (hm : ¬ BadMax c) : (c.own.all (okO c.max) && c.lat.all okR && c.used.all (inR c.max)) = true ↔ ¬ (BadMax c ∨ BadOwn c ∨ BadUse c ∨ BadRes c) := by
 simp only [Bool.and_eq_true, List.all_eq_true]
 constructor
 ·rintro ⟨⟨h1, h2⟩, h3⟩ (h | ⟨x, hx, h⟩ | ⟨x, hx, h⟩ | ⟨x, hx, h⟩)
  ·exact hm h
  ·have := h1 x hx
   have h4 := of_dec this.1.1; have h5 := of_dec this.1.2; have h6 := of_dec this.2; omega
  ·have := h3 x hx
   have h4 := of_dec this.1; have h5 := of_dec this.2; omega
  ·have := h2 x hx
   simp only [Bool.or_eq_true] at this
   rcases this with (h4 | h4) | h4 <;> have h5 := of_dec h4 <;> omega
 ·intro h
  refine ⟨⟨fun x hx => ?_, fun x hx => ?_⟩, fun x hx => ?_⟩
  ·have hn : ¬ (x < 2 ∨ x % 2 = 1 ∨ 2 * c.max < x) := fun hh => h (.inr (.inl ⟨x, hx, hh⟩))
   exact ⟨⟨dec_true (by omega), dec_true (by omega)⟩, dec_true (by omega)⟩
  ·have hn : ¬ (x.2.2 ≠ 0 ∧ x.2.2 ≠ 1 ∧ x.2.2 ≠ x.1) := fun hh => h (.inr (.inr (.inr ⟨x, hx, hh⟩)))
   unfold okR
   by_cases q1 : x.2.2 = 0
   ·rw [dec_true q1]; rfl
   ·by_cases q2 : x.2.2 = 1
    ·rw [dec_true q2]; simp
    ·rw [dec_true (show x.2.2 = x.1 from Classical.byContradiction fun q3 => hn ⟨q1, q2, q3⟩)]; simp
  ·have hn : ¬ (x < 0 ∨ 2 * c.max + 1 < x) := fun hh => h (.inr (.inr (.inl ⟨x, hx, hh⟩)))
   exact ⟨dec_true (by omega), dec_true (by omega)⟩
theorem half_mem {l : List Int} {x : Int} (hl : ∀ y ∈ l, y % 2 = 0 ∧ 2 ≤ y) : x / 2 ∈ (0 :: l.map (· / 2) : List Int) ↔ (x / 2 = 0 ∨ x - x % 2 ∈ l) := by
 constructor
 ·intro h
  rcases List.mem_cons.1 h with h | h
  ·exact .inl h
  ·obtain ⟨y, hy, he⟩ := List.mem_map.1 h
   have := hl y hy
   exact .inr (by rw [show x - x % 2 = y by omega]; exact hy)
 ·rintro (h | h)
  ·rw [h]; simp
  ·exact List.mem_cons_of_mem _ (List.mem_map.2 ⟨_, h, by omega⟩)
theorem none_iff {c : CirT} {m : Int} (hown : ∀ x ∈ c.own, 2 ≤ x ∧ x % 2 = 0 ∧ x ≤ 2 * m) (hused : ∀ x ∈ c.used, 0 ≤ x ∧ x ≤ 2 * m + 1) : (true && c.used.all (inK (0 :: c.own.map (· / 2)))) = true ↔ ¬ NoneC c := by
 rw [Bool.true_and, List.all_eq_true]
 have hev : ∀ y ∈ c.own, y % 2 = 0 ∧ 2 ≤ y := fun y hy => by have := hown y hy; omega
 constructor
 ·rintro h ⟨x, hx, h1, h2⟩
  have := of_dec (h x hx)
  rcases (half_mem hev).1 this with h3 | h3
  ·omega
  ·exact h2 h3
 ·intro h x hx
  refine dec_true ((half_mem hev).2 ?_)
  by_cases h1 : 1 < x
  ·exact .inr (Classical.byContradiction fun h2 => h ⟨x, hx, h1, h2⟩)
  ·have := hused x hx; exact .inl (by omega)
theorem once_of {c : CirT} (h : ¬ Twice c) (hown : ∀ x ∈ c.own, x % 2 = 0) : Once c.gates := by
 have hn : c.own.Nodup := nodup_take fun i x hx hm => h ⟨i, x, hx, hm⟩
 rw [List.nodup_append] at hn
 have hp := List.pairwise_iff_getElem.1 (List.nodup_iff_pairwise_ne.1 hn.2.1)
 intro i j x y hi hj he
 have h1 := hown x.1 (List.mem_append_right _ (List.mem_map.2 ⟨x, List.mem_of_getElem? hi, rfl⟩))
 have h2 := hown y.1 (List.mem_append_right _ (List.mem_map.2 ⟨y, List.mem_of_getElem? hj, rfl⟩))
 have ei : (c.gates.map (·.1))[i]? = some x.1 := by rw [List.getElem?_map, hi]; rfl
 have ej : (c.gates.map (·.1))[j]? = some y.1 := by rw [List.getElem?_map, hj]; rfl
 obtain ⟨li, gi⟩ := List.getElem?_eq_some_iff.1 ei
 obtain ⟨lj, gj⟩ := List.getElem?_eq_some_iff.1 ej
 refine Classical.byContradiction fun hne => ?_
 rcases Nat.lt_or_gt_of_ne hne with h3 | h3
 ·exact hp i j li lj h3 (by rw [gi, gj]; omega)
 ·exact hp j i lj li h3 (by rw [gi, gj]; omega)
set_option maxHeartbeats 32000000 in
theorem circ_Check (c : Circ) (w : World) (hC : CAt w c) (hz : SzC c.t 100000) :
  Pure Tryz.prog 46 [c.val] w (.int .i64 (chkC c.t)) := by
 have hcm : c.t.max = c.max := rfl
 have z1 : c.ins.2.2.length ≤ 100000 := hz.1
 have z2 : c.lat.2.2.length ≤ 100000 := hz.2.1
 have z6 : c.gates.2.2.length ≤ 100000 := hz.2.2.2.2.2
 have hol : c.t.own.length ≤ 300000 := by
  show (c.ins.2.2 ++ c.lat.2.2.map (·.1) ++ c.gates.2.2.map (·.1)).length ≤ _
  simp; omega
 by_cases hmax : BadMax c.t
 ·rw [chk_5 (.inl hmax)]
  have hmax' : c.max < 0 ∨ 16777216 < c.max := hmax
  refine Spec.of _ Tryz.func46 rfl Tryz.ntmps46 (by kernel_rfl) rfl ?_
  repeat' (first
   | (apply WL.box; (iterate 3 exact rfl); intro gb w' hb hge hc hx; have hcc := hc; ((obtain ⟨h1, h2, h3, _⟩ := hc)); (obtain ⟨y0, _⟩ := hcc; obtain ⟨gc, rfl⟩ : ∃ x, x = gb := ⟨_, rfl⟩; obtain ⟨wc, rfl⟩ : ∃ x, x = w' := ⟨_, rfl⟩; obtain ⟨hxc, rfl⟩ : ∃ x, x = hx := ⟨_, rfl⟩))
   | (show WL _ _ _ _ _ _ _; first | apply WL.nil | (refine WL.au (k := ?_)) | (apply WL.guardF; exact rfl; exact rfl) | (apply WL.gD; exact rfl; exact rfl; all_goals intro _))
   | (show Z _ _ _ _ _; first | apply Z.then_normal | apply Z.then_ret)
   | (show W _ _ _ _ _ _; first | apply W.seq | apply W.region | apply W.skip | apply W.ret | (apply W.condT; exact rfl) | (apply W.condD; exact rfl; all_goals intro _))
   | fail)
  all_goals first
   | exact Z.body1 Tryz.results46 rfl fun m => ⟨rfl, Ext.at extA m⟩
   | (exfalso; omega)
   | skip
 have hm0 : ¬ (c.max < 0 ∨ 16777216 < c.max) := hmax
 refine Spec.of _ Tryz.func46 rfl Tryz.ntmps46 (by kernel_rfl) rfl ?_
 repeat' (first
  | (apply WL.box; (iterate 3 exact rfl); intro gb w' hb hge hc hx; have hcc := hc; ((obtain ⟨h1, h2, h3, _⟩ := hc)); (have hcells := hcc; obtain ⟨y0, y1, y2, y3, y4, y5, y6, _⟩ := hcc; obtain ⟨gc, rfl⟩ : ∃ x, x = gb := ⟨_, rfl⟩; obtain ⟨wc, rfl⟩ : ∃ x, x = w' := ⟨_, rfl⟩; obtain ⟨hxc, rfl⟩ : ∃ x, x = hx := ⟨_, rfl⟩))
  | (apply WL.gF; exact rfl; exact rfl; (focus (exact dec_false (by omega); done)))
  | (show WL _ _ _ _ _ _ _; first | apply WL.nil | (refine WL.au (k := ?_)))
  | (show Z _ _ _ _ _; apply Z.then_normal)
  | (show W _ _ _ _ _ _; first | apply W.seq | apply W.region)
  | fail)
 have hgc := heap_lt hb
 refine W.condKF rfl (dec_false (by omega)) ?_
 repeat' (first
  | ((show WL _ _ _ (⟨_, .call ⟨.value (.func 107), _, _⟩, _, _, _, _⟩ :: _) _ _ _); apply WL.call; (iterate 4 exact rfl); exact circ_defined c _ (hC.ext extA) hz; rintro v' w' ⟨hx, a', cap', rfl, hO⟩; (obtain ⟨hOo, rfl⟩ : ∃ x, x = hO := ⟨_, rfl⟩; obtain ⟨hxo, rfl⟩ : ∃ x, x = hx := ⟨_, rfl⟩; obtain ⟨wo, rfl⟩ : ∃ x, x = w' := ⟨_, rfl⟩; obtain ⟨ao, rfl⟩ : ∃ x, x = a' := ⟨_, rfl⟩; obtain ⟨co, rfl⟩ : ∃ x, x = cap' := ⟨_, rfl⟩))
  | (apply WL.alloc tOk; (iterate 3 exact rfl); intro gb w' hb hge hx; (obtain ⟨g3, rfl⟩ : ∃ x, x = gb := ⟨_, rfl⟩; obtain ⟨w3, rfl⟩ : ∃ x, x = w' := ⟨_, rfl⟩; obtain ⟨hx3, rfl⟩ : ∃ x, x = hx := ⟨_, rfl⟩; obtain ⟨hb3, rfl⟩ : ∃ x, x = hb := ⟨_, rfl⟩; obtain ⟨hge3, rfl⟩ : ∃ x, x = hge := ⟨_, rfl⟩))
  | (apply WL.storeB (w0 := wo) tOk; (iterate 4 exact rfl); assumption; (exact extA); (iterate 3 exact rfl); (exact extA); (assumption); intro w' hb hc hX' hU; have hcc := hc; obtain ⟨h1, h2, _⟩ := hc; (obtain ⟨w4, rfl⟩ : ∃ x, x = w' := ⟨_, rfl⟩; obtain ⟨hb4, rfl⟩ : ∃ x, x = hb := ⟨_, rfl⟩; obtain ⟨hU4, rfl⟩ : ∃ x, x = hU := ⟨_, rfl⟩; obtain ⟨hX4, rfl⟩ : ∃ x, x = hX' := ⟨_, rfl⟩))
  | (show WL _ _ _ _ _ _ _; first | apply WL.nil | (refine WL.au (k := ?_)))
  | (show Z _ _ _ _ _; apply Z.then_normal)
  | (show W _ _ _ _ _ _; first | apply W.seq | apply W.region | apply W.block | apply W.skip)
  | fail)
 have Ro := Own.row encI_ok hOo
 have hXo : Ext wc wo := hxo
 have hlb : wo.heap.size ≤ g3 := hge3
 refine W.loopW c.t.own.length (fun k w' => k ≤ c.t.own.length ∧ Ext wo w' ∧ w'.heap[g3]? = some (.cells (okV ((c.t.own.take k).all (okO c.max))) 4 (0, 0))) (fun k => [(1, .pointer (some ⟨gc, 0, none⟩)), (3, .pointer (some ⟨g3, 0, none⟩)), (4, .slice ao c.t.own.length co), (22, .slice ao c.t.own.length co), (23, .int .i64 (c.t.own.length : Nat)), (24, .int .i64 k)]) ⟨Nat.zero_le _, hX4, hb4⟩ (fun k w' h => h.1) ⟨rfl, rfl, rfl, rfl, rfl, rfl, trivial⟩ ?_
 clear hb4 hX4 hU4 hcc h1 hb3 hx3
 rintro k w5 ⟨hk, hX5, hc5⟩
 have hcb := (cells_heap hc5).1
 by_cases hlt : k < c.t.own.length
 ·obtain ⟨x, hx⟩ := getI c.t.own hlt
  have hso := all_snoc (okO c.max) hx
  obtain ⟨bb, hbb⟩ : ∃ bb, (c.t.own.take k).all (okO c.max) = bb := ⟨_, rfl⟩
  rw [hbb] at hcb hc5 hso
  cases bb with
  | false =>
   repeat' (first
    | (apply W.condKT; exact rfl; (focus (exact dec_true (by omega); done)))
    | (apply WL.storeB (w0 := wo) tOk; (iterate 4 exact rfl); assumption; (exact extA); (iterate 3 exact rfl); (exact extA); (assumption); intro w' hb hc hX' hU; have hcc := hc; obtain ⟨h1, h2, _⟩ := hc)
    | (show WL _ _ _ _ _ _ _; first | apply WL.nil | (refine WL.au (k := ?_)) | (apply WL.index tOk; (iterate 8 exact rfl); assumption; (exact extA); exact rfl; omega; assumption; intro b off h; have hcc := h; first | (obtain ⟨h1, h2, h3, h4, h5, h6, _⟩ := h) | (obtain ⟨h1, h2, h3, _⟩ := h) | (obtain ⟨h1, h2, _⟩ := h) | (obtain ⟨h1, _⟩ := h)) | (apply WL.guardF; exact rfl; exact rfl))
    | (show Z _ _ _ _ _; first | apply Z.then_normal | apply Z.block_normal)
    | (show W _ _ _ _ _ _; first | apply W.seq | apply W.region | apply W.block | apply W.skip)
    | fail)
   exact Z.againW ⟨by omega, extA, by rw [hso]; exact hb⟩ ⟨rfl, rfl, rfl, rfl, rfl, rfl, trivial⟩
  | true =>
   have hlt' : ((k : Nat) : Int) < (c.t.own.length : Int) := by omega
   by_cases f1 : 1 < x
   rotate_left
   ·skip
    have e : okO c.max x = false := by unfold okO; rw [dec_false f1]; rfl
    rw [e] at hso
    repeat' (first
     | (apply WL.gF; exact rfl; exact rfl; (focus (exact dec_false f1; done)))
     | (apply W.condKT; exact rfl; (focus (exact dec_true hlt')))
     | (apply WL.storeB (w0 := wo) tOk; (iterate 4 exact rfl); assumption; (exact extA); (iterate 3 exact rfl); (exact extA); (assumption); intro w' hb hc hX' hU; have hcc := hc; obtain ⟨h1, h2, _⟩ := hc)
     | (show WL _ _ _ _ _ _ _; first | apply WL.nil | (refine WL.au (k := ?_)) | (apply WL.index tOk; (iterate 8 exact rfl); assumption; (exact extA); exact rfl; omega; assumption; intro b off h; have hcc := h; first | (obtain ⟨h1, h2, h3, h4, h5, h6, _⟩ := h) | (obtain ⟨h1, h2, h3, _⟩ := h) | (obtain ⟨h1, h2, _⟩ := h) | (obtain ⟨h1, _⟩ := h)) | (apply WL.guardF; exact rfl; exact rfl))
     | (show Z _ _ _ _ _; first | apply Z.then_normal | apply Z.block_normal)
     | (show W _ _ _ _ _ _; first | apply W.seq | apply W.region | apply W.block | apply W.skip)
     | fail)
    exact Z.againW ⟨by omega, extA, by rw [hso]; exact hb⟩ ⟨rfl, rfl, rfl, rfl, rfl, rfl, trivial⟩
   by_cases f2 : x % 2 = 0
   rotate_left
   ·skip
    have e : okO c.max x = false := by unfold okO; rw [dec_false f2]; simp
    rw [e] at hso
    repeat' (first
     | (apply WL.gT; exact rfl; exact rfl; (focus (exact dec_true f1)))
     | (apply WL.gF; exact rfl; exact rfl; (focus (exact dec_false f2; done)))
     | (apply W.condKT; exact rfl; (focus (exact dec_true hlt')))
     | (apply WL.andA; (iterate 4 exact rfl))
     | (apply WL.storeB (w0 := wo) tOk; (iterate 4 exact rfl); assumption; (exact extA); (iterate 3 exact rfl); (exact extA); (assumption); intro w' hb hc hX' hU; have hcc := hc; obtain ⟨h1, h2, _⟩ := hc)
     | (show WL _ _ _ _ _ _ _; first | apply WL.nil | (refine WL.au (k := ?_)) | (apply WL.index tOk; (iterate 8 exact rfl); assumption; (exact extA); exact rfl; omega; assumption; intro b off h; have hcc := h; first | (obtain ⟨h1, h2, h3, h4, h5, h6, _⟩ := h) | (obtain ⟨h1, h2, h3, _⟩ := h) | (obtain ⟨h1, h2, _⟩ := h) | (obtain ⟨h1, _⟩ := h)) | (apply WL.guardF; exact rfl; exact rfl))
     | (show Z _ _ _ _ _; first | apply Z.then_normal | apply Z.block_normal)
     | (show W _ _ _ _ _ _; first | apply W.seq | apply W.region | apply W.block | apply W.skip)
     | fail)
    exact Z.againW ⟨by omega, extA, by rw [hso]; exact hb⟩ ⟨rfl, rfl, rfl, rfl, rfl, rfl, trivial⟩
   have e : okO c.max x = dec (x ≤ 2 * c.max) := by unfold okO; rw [dec_true f1, dec_true f2]; rfl
   rw [e] at hso
   repeat' (first
    | (apply WL.gT; exact rfl; exact rfl; (focus (first | exact dec_true f1 | exact dec_true f2; done)))
    | (apply W.condKT; exact rfl; (focus (exact dec_true hlt')))
    | (apply WL.andA; (iterate 4 exact rfl))
    | (apply WL.storeB (w0 := wo) tOk; (iterate 4 exact rfl); assumption; (exact extA); (iterate 3 exact rfl); (exact extA); (assumption); intro w' hb hc hX' hU; have hcc := hc; obtain ⟨h1, h2, _⟩ := hc)
    | (show WL _ _ _ _ _ _ _; first | apply WL.nil | (refine WL.au (k := ?_)) | (apply WL.index tOk; (iterate 8 exact rfl); assumption; (exact extA); exact rfl; omega; assumption; intro b off h; have hcc := h; first | (obtain ⟨h1, h2, h3, h4, h5, h6, _⟩ := h) | (obtain ⟨h1, h2, h3, _⟩ := h) | (obtain ⟨h1, h2, _⟩ := h) | (obtain ⟨h1, _⟩ := h)))
    | (show Z _ _ _ _ _; first | apply Z.then_normal | apply Z.block_normal)
    | (show W _ _ _ _ _ _; first | apply W.seq | apply W.region | apply W.block | apply W.skip)
    | fail)
   exact Z.againW ⟨by omega, extA, by rw [hso]; exact hb⟩ ⟨rfl, rfl, rfl, rfl, rfl, rfl, trivial⟩
 obtain rfl : k = c.t.own.length := by omega
 rw [List.take_length] at hc5
 obtain ⟨b1, hb1⟩ : ∃ b1, c.t.own.all (okO c.max) = b1 := ⟨_, rfl⟩
 rw [hb1] at hc5
 have Rl := hC.lat.row.ext hxc
 repeat' (first
  | (apply W.condKF; exact rfl; (focus (exact dec_false (by omega); done)))
  | (show WL _ _ _ _ _ _ _; first | apply WL.nil | (refine WL.au (k := ?_)))
  | (show Z _ _ _ _ _; first | apply Z.then_normal | apply Z.then_exit | apply Z.block_exit)
  | (show W _ _ _ _ _ _; first | apply W.seq | apply W.region | apply W.block | apply W.exit)
  | fail)
 clear hcb
 have hX5' := hX5
 refine W.loopW c.lat.2.2.length (fun k w' => k ≤ c.lat.2.2.length ∧ Ext wo w' ∧ w'.heap[g3]? = some (.cells (okV (b1 && (c.lat.2.2.take k).all okR)) 4 (0, 0))) (fun k => [(1, .pointer (some ⟨gc, 0, none⟩)), (3, .pointer (some ⟨g3, 0, none⟩)), (4, .slice ao c.t.own.length co), (47, rowVal c.lat), (48, .int .i64 (c.lat.2.2.length : Nat)), (49, .int .i64 k)]) ⟨Nat.zero_le _, hX5, by rw [List.take_zero]; simpa using hc5⟩ (fun k w' h => h.1) ⟨rfl, rfl, rfl, rfl, rfl, rfl, trivial⟩ ?_
 clear hc5 hX5 hX5'
 rintro k w5 ⟨hk, hX5, hc5⟩
 have hcb := (cells_heap hc5).1
 by_cases hlt : k < c.lat.2.2.length
 ·obtain ⟨x, hx⟩ := getI c.lat.2.2 hlt
  have hso := all_snoc okR hx
  have hlt' : ((k : Nat) : Int) < (c.lat.2.2.length : Int) := by omega
  obtain ⟨bb, hbb⟩ : ∃ bb, (b1 && (c.lat.2.2.take k).all okR) = bb := ⟨_, rfl⟩
  have hso' : (b1 && (c.lat.2.2.take (k + 1)).all okR) = (bb && okR x) := by rw [hso, ← hbb, Bool.and_assoc]
  rw [hbb] at hcb hc5
  clear hso
  repeat' (first
   | (show WL _ _ _ _ _ _ _; first | apply WL.nil | (refine WL.au (k := ?_)))
   | (show Z _ _ _ _ _; apply Z.then_normal)
   | (show W _ _ _ _ _ _; first | apply W.seq | apply W.region)
   | fail)
  refine W.condKT rfl (dec_true hlt') ?_
  repeat' (first
   | (apply WL.alloc tOk; (iterate 3 exact rfl); intro gb w' hb hge hx; (obtain ⟨g8, rfl⟩ : ∃ x, x = gb := ⟨_, rfl⟩; obtain ⟨w6, rfl⟩ : ∃ x, x = w' := ⟨_, rfl⟩; obtain ⟨hx6, rfl⟩ : ∃ x, x = hx := ⟨_, rfl⟩; obtain ⟨hb6, rfl⟩ : ∃ x, x = hb := ⟨_, rfl⟩; obtain ⟨hge6, rfl⟩ : ∃ x, x = hge := ⟨_, rfl⟩))
   | (apply WL.storeB (w0 := w5) tOk; (iterate 4 exact rfl); assumption; (exact extA); (iterate 3 exact rfl); (exact extA); (assumption); intro w' hb hc hX' hU; have hcc := hc; obtain ⟨h1, h2, _⟩ := hc; (obtain ⟨w7, rfl⟩ : ∃ x, x = w' := ⟨_, rfl⟩; obtain ⟨hX7, rfl⟩ : ∃ x, x = hX' := ⟨_, rfl⟩; obtain ⟨hb7, rfl⟩ : ∃ x, x = hb := ⟨_, rfl⟩; have hC7 := cells_heap hb7; obtain ⟨i0, i1, i2, _⟩ := hC7))
   | (show WL _ _ _ _ _ _ _; first | apply WL.nil | (refine WL.au (k := ?_)) | (apply WL.index tOk; (iterate 8 exact rfl); assumption; (exact extA); exact rfl; omega; assumption; intro b off h; have hcc := h; first | (obtain ⟨h1, h2, h3, h4, h5, h6, _⟩ := h) | (obtain ⟨h1, h2, h3, _⟩ := h) | (obtain ⟨h1, h2, _⟩ := h) | (obtain ⟨h1, _⟩ := h)) | (apply WL.guardF; exact rfl; exact rfl) | (apply WL.gD; exact rfl; exact rfl; all_goals intro _) | (apply WL.gB; exact rfl; exact rfl; all_goals (intro h_9; fail_if_success (cases h_9; done))))
   | (show Z _ _ _ _ _; apply Z.then_normal)
   | (show W _ _ _ _ _ _; first | apply W.seq | apply W.region | apply W.block | apply W.skip)
   | fail)
  all_goals
   repeat' (first
    | (apply WL.storeB (w0 := wo) tOk; (iterate 4 exact rfl); assumption; (exact extA); (iterate 3 exact rfl); (exact extA); (assumption); intro w' hb hc hX' hU; have hcc := hc; obtain ⟨h1, h2, _⟩ := hc)
    | (show WL _ _ _ _ _ _ _; first | apply WL.nil | (refine WL.au (k := ?_)))
    | (show Z _ _ _ _ _; first | apply Z.then_normal | apply Z.block_normal)
    | (show W _ _ _ _ _ _; apply W.region)
    | fail)
   refine Z.againW ⟨by omega, extA, ?_⟩ ⟨rfl, rfl, rfl, rfl, rfl, rfl, trivial⟩
   rw [hso']
   clear hcells hcc hcb hc5 hC hz
   first
    | (rw [show (bb && okR x) = false by simp [okR, dec_true, dec_false, *]]; exact hb)
    | (rw [show (bb && okR x) = true by simp [okR, dec_true, dec_false, *]]; exact hb)
    | (rw [show (bb && okR x) = dec (x.2.2 = x.1) by simp [okR, dec_true, dec_false, *]]; exact hb)
 obtain rfl : k = c.lat.2.2.length := by omega
 rw [List.take_length] at hc5
 repeat' (first
  | (show WL _ _ _ _ _ _ _; first | apply WL.nil | (refine WL.au (k := ?_)))
  | (show Z _ _ _ _ _; apply Z.then_normal)
  | (show W _ _ _ _ _ _; first | apply W.seq | apply W.region)
  | fail)
 refine W.condKF rfl (dec_false (by omega)) ?_
 have hX5w : Ext wc w5 := extA
 have huse := circ_uses c wc w5 109 g3 [.pointer (some ⟨g3, 0, none⟩), .pointer (some ⟨gc, 0, none⟩)] (inR c.max) (b1 && c.lat.2.2.all okR) (hC.ext hxc) hz hX5w (Nat.le_trans (Below.size hXo) hlb) hc5 (fun x hx w9 b hbt hc9 => circ_Check1 w9 g3 gc c.max x b hc9 (But.cell hbt (Ext.cell hX5w y0) (fun he => by have h9 := Option.some.inj he; have h8 := Below.size hXo; simp only at h9; omega)) (by omega))
 repeat' (first
  | (((show WL _ _ _ (⟨_, .call ⟨.value (.func 108), _, _⟩, _, _, _, _⟩ :: _) _ _ _); apply WL.call; (iterate 4 exact rfl); exact huse; rintro v' w6 ⟨rfl, hb6, hc6⟩))
  | (show WL _ _ _ _ _ _ _; first | apply WL.nil | (refine WL.au (k := ?_)))
  | (show Z _ _ _ _ _; first | apply Z.then_normal | apply Z.then_exit | apply Z.block_exit)
  | (show W _ _ _ _ _ _; first | apply W.seq | apply W.region | apply W.exit)
  | fail)
 have hU6 : Upd g3 (some ⟨g3, 0, none⟩) w5 w6 := ⟨hb6, fun k hk => by have h9 : g3 = k := Option.some.inj hk; omega⟩
 have hX6 : Ext wo w6 := hU6.ext hX5 hlb
 have hcb := (cells_heap hc6).1
 have hbad := bad_iff (c := c.t) hmax
 rw [show c.t.own.all (okO c.t.max) = b1 from hb1] at hbad
 obtain ⟨b2, hb2⟩ : ∃ b2, (b1 && c.lat.2.2.all okR && c.t.used.all (inR c.max)) = b2 := ⟨_, rfl⟩
 rw [hb2] at hc6 hcb
 have hbad2 : b2 = true ↔ ¬ (BadMax c.t ∨ BadOwn c.t ∨ BadUse c.t ∨ BadRes c.t) := by rw [← hb2]; exact hbad
 clear hbad huse
 cases b2 with
 | false =>
  have h5 : BadMax c.t ∨ BadOwn c.t ∨ BadUse c.t ∨ BadRes c.t := Classical.byContradiction fun h => by have := hbad2.2 h; cases this
  repeat' (first
   | (show WL _ _ _ _ _ _ _; first | apply WL.nil | (refine WL.au (k := ?_)))
   | (show Z _ _ _ _ _; apply Z.then_normal)
   | fail)
  refine W.condKT rfl rfl ?_
  repeat' (first
   | (show WL _ _ _ _ _ _ _; first | apply WL.nil | (refine WL.au (k := ?_)))
   | (show Z _ _ _ _ _; first | apply Z.then_normal | apply Z.then_ret)
   | (show W _ _ _ _ _ _; first | apply W.seq | apply W.region | apply W.ret)
   | fail)
  exact Z.body1 Tryz.results46 rfl fun m => ⟨by rw [chk_5 h5], Ext.at extA m⟩
 | true =>
  have h5 := hbad2.1 rfl
  have hown : ∀ x ∈ c.t.own, 2 ≤ x ∧ x % 2 = 0 ∧ x ≤ 2 * c.max := fun x hx => by
   have hn : ¬ (x < 2 ∨ x % 2 = 1 ∨ 2 * c.t.max < x) := fun hh => h5 (.inr (.inl ⟨x, hx, hh⟩))
   rw [hcm] at hn; omega
  have hused : ∀ x ∈ c.t.used, 0 ≤ x ∧ x ≤ 2 * c.max + 1 := fun x hx => by
   have hn : ¬ (x < 0 ∨ 2 * c.t.max + 1 < x) := fun hh => h5 (.inr (.inr (.inl ⟨x, hx, hh⟩)))
   rw [hcm] at hn; omega
  repeat' (first
   | (show WL _ _ _ _ _ _ _; first | apply WL.nil | (refine WL.au (k := ?_)))
   | (show Z _ _ _ _ _; apply Z.then_normal)
   | fail)
  refine W.condKF rfl rfl ?_
  repeat' (first
   | ((apply WL.makeMap (kv := encK) (vv := isB); exact rfl; exact rfl; intro rm w7 hM7 hge7 hx7))
   | ((apply WL.insertF (B := 0) (w0 := w6) (vv := isB) tOk keyI; (iterate 6 exact rfl); exact hM7; exact extA; exact hge7; intro w8 hM8 hX8 hU8))
   | (apply WL.alloc tOk; (iterate 3 exact rfl); intro gb w' hb hge hx; (obtain ⟨g9, rfl⟩ : ∃ x, x = gb := ⟨_, rfl⟩; obtain ⟨w9, rfl⟩ : ∃ x, x = w' := ⟨_, rfl⟩; obtain ⟨hx9, rfl⟩ : ∃ x, x = hx := ⟨_, rfl⟩; obtain ⟨hb9, rfl⟩ : ∃ x, x = hb := ⟨_, rfl⟩; obtain ⟨hge9, rfl⟩ : ∃ x, x = hge := ⟨_, rfl⟩))
   | (apply WL.storeB (w0 := w8) tOk; (iterate 4 exact rfl); assumption; (exact extA); (iterate 3 exact rfl); (exact extA); (assumption); intro w' hb hc hX' hU; have hcc := hc; obtain ⟨h1, h2, _⟩ := hc; (obtain ⟨w10, rfl⟩ : ∃ x, x = w' := ⟨_, rfl⟩; obtain ⟨hb10, rfl⟩ : ∃ x, x = hb := ⟨_, rfl⟩; obtain ⟨hU10, rfl⟩ : ∃ x, x = hU := ⟨_, rfl⟩; obtain ⟨hX10, rfl⟩ : ∃ x, x = hX' := ⟨_, rfl⟩))
   | (show WL _ _ _ _ _ _ _; first | apply WL.nil | (refine WL.au (k := ?_)))
   | (show Z _ _ _ _ _; apply Z.then_normal)
   | (show W _ _ _ _ _ _; first | apply W.seq | apply W.region | apply W.block | apply W.skip)
   | fail)
  have hS : Lt.Sep w6.heap.size w10 [pcell g9 #[.map (some rm)] 122, pmap encK isB rm (keysL true (0 :: (c.t.own.take 0).map (· / 2)))] := Sep.newCell (Sep.newMap Sep.none' hX8 hM8 hge7 (Nat.le_refl _)) hX10 hb10 hge9 (Below.size hX8)
  clear hM7 hM8 hb9 hb10 hU10 hU8 hcc h1 hx9
  have hX10w : Ext w6 w10 := extA
  have hXw6 : Ext wc w6 := extA
  have hev : ∀ k, ∀ y ∈ c.t.own.take k, y % 2 = 0 ∧ 2 ≤ y := fun k y hy => by have := hown y (List.mem_of_mem_take hy); omega
  clear hX10 hX8 hx7
  refine W.loopW c.t.own.length (fun k w' => k ≤ c.t.own.length ∧ Ext w6 w' ∧ Lt.Sep w6.heap.size w' [pcell g9 #[.map (some rm)] 122, pmap encK isB rm (keysL true (0 :: (c.t.own.take k).map (· / 2)))] ∧ ∀ i x, i < k → c.t.own[i]? = some x → x ∉ c.t.own.take i) (fun k => [(1, .pointer (some ⟨gc, 0, none⟩)), (3, .pointer (some ⟨g3, 0, none⟩)), (9, .pointer (some ⟨g9, 0, none⟩)), (79, .slice ao c.t.own.length co), (80, .int .i64 (c.t.own.length : Nat)), (81, .int .i64 k)]) ⟨Nat.zero_le _, hX10w, hS, fun i x h => absurd h (Nat.not_lt_zero _)⟩ (fun k w' h => h.1) ⟨rfl, rfl, rfl, rfl, rfl, rfl, trivial⟩ ?_
  clear hS hX10w
  rintro k w11 ⟨hk, hX11, hS, hno⟩
  have hg9 := (cells_heap (hS.cell (i := 0) rfl)).1
  have hMp := hS.map (i := 1) rfl
  have hrm := (hS.lt (i := 1) rfl rfl).1
  have hX11o : Ext wo w11 := extA
  by_cases hlt : k < c.t.own.length
  ·obtain ⟨x, hx⟩ := getI c.t.own hlt
   have hxo := hown x (List.mem_of_getElem? hx)
   have hhm := half_mem (x := x) (hev k)
   rw [show x - x % 2 = x by omega] at hhm
   by_cases hin : x ∈ c.t.own.take k
   ·have htw : Twice c.t := ⟨k, x, hx, hin⟩
    repeat' (first
     | (show WL _ _ _ _ _ _ _; first | apply WL.nil | (refine WL.au (k := ?_)))
     | (show Z _ _ _ _ _; apply Z.then_normal)
     | (show W _ _ _ _ _ _; first | apply W.seq | apply W.region)
     | fail)
    refine W.condKT rfl (dec_true (by omega)) ?_
    repeat' (first
     | ((apply WL.lookKeys tOk keyI; (iterate 8 exact rfl); exact hMp))
     | (show WL _ _ _ _ _ _ _; first | apply WL.nil | (refine WL.au (k := ?_)) | (apply WL.index tOk; (iterate 8 exact rfl); assumption; (exact extA); exact rfl; omega; assumption; intro b off h; have hcc := h; first | (obtain ⟨h1, h2, h3, h4, h5, h6, _⟩ := h) | (obtain ⟨h1, h2, h3, _⟩ := h) | (obtain ⟨h1, h2, _⟩ := h) | (obtain ⟨h1, _⟩ := h)))
     | (show Z _ _ _ _ _; apply Z.then_normal)
     | (show W _ _ _ _ _ _; first | apply W.seq | apply W.region | apply W.block | apply W.skip)
     | fail)
    refine W.condKT rfl (dec_true (hhm.2 (.inr hin))) ?_
    repeat' (first
     | (show WL _ _ _ _ _ _ _; first | apply WL.nil | (refine WL.au (k := ?_)))
     | (show Z _ _ _ _ _; first | apply Z.then_normal | apply Z.then_ret | apply Z.block_ret)
     | (show W _ _ _ _ _ _; first | apply W.seq | apply W.region | apply W.ret)
     | fail)
    exact Z.body1 Tryz.results46 rfl fun m => ⟨by rw [chk_7 h5 htw], Ext.at extA m⟩
   ·have hnm : ¬ x / 2 ∈ (0 :: (c.t.own.take k).map (· / 2) : List Int) := fun h => by
     rcases hhm.1 h with h | h
     ·omega
     ·exact hin h
    repeat' (first
     | (show WL _ _ _ _ _ _ _; first | apply WL.nil | (refine WL.au (k := ?_)))
     | (show Z _ _ _ _ _; apply Z.then_normal)
     | (show W _ _ _ _ _ _; first | apply W.seq | apply W.region)
     | fail)
    refine W.condKT rfl (dec_true (by omega)) ?_
    repeat' (first
     | ((apply WL.lookKeys tOk keyI; (iterate 8 exact rfl); exact hMp))
     | (show WL _ _ _ _ _ _ _; first | apply WL.nil | (refine WL.au (k := ?_)) | (apply WL.index tOk; (iterate 8 exact rfl); assumption; (exact extA); exact rfl; omega; assumption; intro b off h; have hcc := h; first | (obtain ⟨h1, h2, h3, h4, h5, h6, _⟩ := h) | (obtain ⟨h1, h2, h3, _⟩ := h) | (obtain ⟨h1, h2, _⟩ := h) | (obtain ⟨h1, _⟩ := h)))
     | (show Z _ _ _ _ _; apply Z.then_normal)
     | (show W _ _ _ _ _ _; first | apply W.seq | apply W.region | apply W.block | apply W.skip)
     | fail)
    refine W.condKF rfl (dec_false hnm) ?_
    repeat' (first
     | ((apply WL.mapPutF (B := 0) (w0 := w6) (vv := isB) tOk keyI; (iterate 6 exact rfl); exact hMp; exact extA; assumption; intro w' hM' hX' hU))
     | (show WL _ _ _ _ _ _ _; first | apply WL.nil | (refine WL.au (k := ?_)))
     | (show Z _ _ _ _ _; first | apply Z.then_normal | apply Z.block_normal)
     | (show W _ _ _ _ _ _; first | apply W.region | apply W.skip)
     | fail)
    rw [mget_keys, dec_false hnm] at hM'
    have hS4 := Sep.updMap (i := 1) rfl hU hM' hS extA (Below.size extA)
    refine Z.againW ⟨by omega, extA, ?_, fun i z hi hz => ?_⟩ ⟨rfl, rfl, rfl, rfl, rfl, rfl, trivial⟩
    ·rw [take_succ' hx, List.map_append, ← List.cons_append, List.map_singleton, keysL_snoc]; exact hS4
    ·by_cases hik : i = k
     ·subst hik; rw [hx] at hz; cases hz; exact hin
     ·exact hno i z (by omega) hz
  obtain rfl : k = c.t.own.length := by omega
  rw [List.take_length] at hS hMp
  have h7 : ¬ Twice c.t := fun ⟨i, x, a1, a2⟩ => hno i x (lt_of_get a1) a1 a2
  repeat' (first
   | (show WL _ _ _ _ _ _ _; first | apply WL.nil | (refine WL.au (k := ?_)))
   | (show Z _ _ _ _ _; apply Z.then_normal)
   | (show W _ _ _ _ _ _; first | apply W.seq | apply W.region)
   | fail)
  refine W.condKF rfl (dec_false (by omega)) ?_
  have hc11 : w11.heap[g3]? = some (.cells (okV true) 4 (0, 0)) := by rw [hX11.block g3 (heap_lt hc6)]; exact hc6
  have hgm : ∀ g ∈ c.gates.2.2, g.1 ∈ c.t.own ∧ g.2.1 ∈ c.t.used ∧ g.2.2 ∈ c.t.used := fun g hg =>
   ⟨List.mem_append.2 (.inr (List.mem_map.2 ⟨g, hg, rfl⟩)), List.mem_append.2 (.inr (List.mem_flatMap.2 ⟨g, hg, by simp⟩)), List.mem_append.2 (.inr (List.mem_flatMap.2 ⟨g, hg, by simp⟩))⟩
  have hok : gsOk c.gates.2.2 := fun g hg => by
   obtain ⟨r1, r2, r3⟩ := hgm g hg
   have := hown _ r1
   have := hused _ r2
   have := hused _ r3
   omega
  have honce : Once c.gates.2.2 := once_of (c := c.t) h7 fun x hx => (hown x hx).2.1
  have hn9 := none_iff (c := c.t) hown hused
  obtain ⟨ks, hks⟩ : ∃ ks, (0 :: c.t.own.map (· / 2) : List Int) = ks := ⟨_, rfl⟩
  rw [hks] at hMp hn9
  have hXc11 : Ext wc w11 := extA
  have hne3 : g9 ≠ g3 := fun he => by have h1 := heap_lt hc6; have h2 := (hS.lt (i := 0) rfl rfl).1; omega
  have hne4 : rm ≠ g3 := fun he => by have h1 := heap_lt hc6; omega
  have huse := circ_uses c wc w11 110 g3 [.pointer (some ⟨g3, 0, none⟩), .pointer (some ⟨g9, 0, none⟩)] (inK ks) true (hC.ext hxc) hz hXc11 (Nat.le_trans (Below.size hXo) hlb) hc11 (fun x hx w9 b hbt hc9 => circ_Check2 w9 g3 g9 rm ks x b hc9 (But.cell hbt hg9 (fun he => hne3 (by have h9 := Option.some.inj he; simp only at h9; omega))) (hMp.keep (hbt.block rm hMp.lt (fun he => hne4 (by have h9 := Option.some.inj he; omega)))) (by have := hused x hx; omega))
  repeat' (first
   | (((show WL _ _ _ (⟨_, .call ⟨.value (.func 108), _, _⟩, _, _, _, _⟩ :: _) _ _ _); apply WL.call; (iterate 4 exact rfl); exact huse; rintro v' w12 ⟨rfl, hb12, hc12⟩))
   | (show WL _ _ _ _ _ _ _; first | apply WL.nil | (refine WL.au (k := ?_)))
   | (show Z _ _ _ _ _; first | apply Z.then_normal | apply Z.then_exit | apply Z.block_exit)
   | (show W _ _ _ _ _ _; first | apply W.seq | apply W.region | apply W.block | apply W.exit)
   | fail)
  have hU12 : Upd g3 (some ⟨g3, 0, none⟩) w11 w12 := ⟨hb12, fun k hk => by have h9 : g3 = k := Option.some.inj hk; omega⟩
  have hX12 : Ext wo w12 := hU12.ext hX11o hlb
  have hcb := (cells_heap hc12).1
  obtain ⟨b3, hb3⟩ : ∃ b3, (true && c.t.used.all (inK ks)) = b3 := ⟨_, rfl⟩
  rw [hb3] at hc12 hcb hn9
  cases b3 with
  | false =>
   have h9 : NoneC c.t := Classical.byContradiction fun h => by have := hn9.2 h; cases this
   repeat' (first
    | (show WL _ _ _ _ _ _ _; first | apply WL.nil | (refine WL.au (k := ?_)))
    | (show Z _ _ _ _ _; apply Z.then_normal)
    | fail)
   refine W.condKT rfl rfl ?_
   repeat' (first
    | (show WL _ _ _ _ _ _ _; first | apply WL.nil | (refine WL.au (k := ?_)))
    | (show Z _ _ _ _ _; first | apply Z.then_normal | apply Z.then_ret | apply Z.block_ret)
    | (show W _ _ _ _ _ _; first | apply W.seq | apply W.region | apply W.ret)
    | fail)
   exact Z.body1 Tryz.results46 rfl fun m => ⟨by rw [chk_9 h5 h7 h9], Ext.at extA m⟩
  | true =>
   have h9 := hn9.1 rfl
   repeat' (first
    | (show WL _ _ _ _ _ _ _; first | apply WL.nil | (refine WL.au (k := ?_)))
    | (show Z _ _ _ _ _; apply Z.then_normal)
    | fail)
   refine W.condKF rfl rfl ?_
   have hX12w : Ext w w12 := extA
   have Rg := hC.gates.row.ext hX12w
   have hcu := hcells.ext (show Ext wc w12 from extA)
   have x0 : Cells w12 gc 0 c.vals := hcu
   have x6 : w12.cell? ⟨gc, 0 + 1 + 1 + 1 + 1 + 1 + 1, none⟩ = some (rowVal c.gates) := hcu.2.2.2.2.2.2.1
   repeat' (first
    | (show W _ _ (.region 28 _ _) _ _ _; apply W.regionGX (.fl true 3 (.fl false 0 (.fl false 4 (.fl true 5 (.br 1 (.fl true 2 (.fl true 6 (.fl true 7 .done))) .stop))))) [1, 2, 4, 5, 6, 7] tMix; kernel_rfl)
    | ((show WL _ _ _ (⟨_, .call ⟨.value (.func 111), _, _⟩, _, _, _, _⟩ :: _) _ _ _); apply WL.call; (iterate 4 exact rfl); exact circ_Order c _ (Rg.ext extA) hok (by omega) honce; rintro v' w' ⟨hx, a', cap', rfl, hO⟩; (obtain ⟨hOd, rfl⟩ : ∃ x, x = hO := ⟨_, rfl⟩; obtain ⟨hxd, rfl⟩ : ∃ x, x = hx := ⟨_, rfl⟩; obtain ⟨wd, rfl⟩ : ∃ x, x = w' := ⟨_, rfl⟩; obtain ⟨ad, rfl⟩ : ∃ x, x = a' := ⟨_, rfl⟩; obtain ⟨cd, rfl⟩ : ∃ x, x = cap' := ⟨_, rfl⟩))
    | (show SX _ _ _ _ _ _ _ _ _; first | (apply SX.done; intro w' hx) | (apply SX.fl0; exact rfl) | (apply SX.fl1; exact rfl; (exact extA)) | (apply SX.br1; exact rfl; intro w' hx))
    | (show FL _ _ _ _ _ _ _ _; first | apply FL.nilX | (apply FL.loadE tOk; (iterate 5 exact rfl); (assumption)) | (apply FL.loadAE tOk; (iterate 5 exact rfl); assumption; exact rfl))
    | (show FL _ _ _ _ _ _ _ _; (refine FL.au (k := ?_)))
    | (show Z _ _ _ _ _; (apply Z.sxE; (exact extA)))
    | (show WL _ _ _ _ _ _ _; first | apply WL.nil | (refine WL.au (k := ?_)))
    | (show Z _ _ _ _ _; first | apply Z.then_normal | apply Z.block_normal | apply Z.then_ret | apply Z.block_ret)
    | (show W _ _ _ _ _ _; first | apply W.seq | apply W.region | apply W.skip | apply W.ret | (apply W.condD; exact rfl; all_goals intro _))
    | fail)
   all_goals (rename_i hlen; rw [show (natI (ordL c.gates.2.2)).length = (ordL c.t.gates).length from List.length_map _] at hlen)
   ·exact Z.body1 Tryz.results46 rfl fun m => ⟨by rw [chk_8 h5 h7 h9 (show (ordL c.t.gates).length < c.t.gates.length by have : c.t.gates = c.gates.2.2 := rfl; rw [this] at hlen ⊢; omega)], Ext.at extA m⟩
   ·exact Z.body1 Tryz.results46 rfl fun m => ⟨by rw [chk_0 h5 h7 h9 (show ¬ (ordL c.t.gates).length < c.t.gates.length by have : c.t.gates = c.gates.2.2 := rfl; rw [this] at hlen ⊢; omega)], Ext.at extA m⟩
end Go.Proofs.YteidpnpbfagaeaaGreat
namespace Go.Proofs.YteidpnpbfagaeaaGreat
open Go Go.Lt Go.RowKit
set_option linter.unusedVariables false
set_option linter.unusedSimpArgs false
set_option maxRecDepth 20000

abbrev netP (B g4 g5 : Nat) (an : Option Addr) (cn : Nat) (aa : Option Addr) (ca : Nat) (s : NA) : List Piece :=
 [pcell g4 #[.slice an s.1.length cn] 59, pcell g5 #[.slice aa s.2.length ca] 22, prow 2 encN 84 B an cn s.1, prow 1 encI 3 B aa ca s.2]
theorem circ_Net2 (w : World) (g5 : Nat) (aa : Option Addr) (ca : Nat) (A : List Int) (l z : Int) (hc : w.cell? ⟨g5, 0, none⟩ = some (.slice aa A.length ca)) (R : Row 1 encI w aa A) (h0 : 0 ≤ l) (hl9 : l ≤ 4294967296) (hz : A[(l / 2).toNat]? = some z) (hz0 : 0 ≤ z ∧ z ≤ 4294967296) :
  Still Tryz.prog 116 [.int .i64 l, .pointer (some ⟨g5, 0, none⟩)] w (.int .i64 (litI A l)) := by
 have hlt := lt_of_get hz
 have hl := R.len
 have e0 : litI A l = xorI z (l % 2) := litI_some hz
 refine Spec.of _ Tryz.func116 rfl Tryz.ntmps116 (by kernel_rfl) rfl ?_
 repeat' (first
  | (apply WL.andA; (iterate 4 exact rfl))
  | (apply WL.xorI; (iterate 4 exact rfl); omega; omega)
  | (show WL _ _ _ _ _ _ _; first | apply WL.nil | (refine WL.au (k := ?_)) | (apply WL.index tOk; (iterate 8 exact rfl); assumption; (exact extA); exact rfl; omega; assumption; intro b off h; have hcc := h; first | (obtain ⟨h1, h2, h3, h4, h5, h6, _⟩ := h) | (obtain ⟨h1, h2, h3, _⟩ := h) | (obtain ⟨h1, h2, _⟩ := h) | (obtain ⟨h1, _⟩ := h)))
  | (show Z _ _ _ _ _; apply Z.then_normal)
  | (show W _ _ _ _ _ _; first | apply W.seq | apply W.region | apply W.ret)
  | fail)
 exact Z.body1 Tryz.results116 rfl fun m => ⟨by rw [e0], m, rfl⟩
set_option maxHeartbeats 8000000 in
theorem circ_Net1 (w0 w : World) (g4 g5 : Nat) (an : Option Addr) (cn : Nat) (aa : Option Addr) (ca : Nat) (s : NA) (rest : List Piece) (l : Int) (x : Int × Int) (hX : Ext w0 w) (hS : Lt.Sep w0.heap.size w (netP w0.heap.size g4 g5 an cn aa ca s ++ rest)) (hl : 0 ≤ l ∧ (l / 2).toNat < s.2.length) (hl2 : l ≤ 4294967296) (hs : s.1.length ≤ 1000000) :
  Lt.Spec Tryz.prog 115 [.int .i64 l, .agg (encN x).toArray, .pointer (some ⟨g4, 0, none⟩), .pointer (some ⟨g5, 0, none⟩)] w (fun v w' => v = .tuple #[] ∧ Ext w0 w' ∧ ∃ an' cn', Lt.Sep w0.heap.size w' (netP w0.heap.size g4 g5 an' cn' aa ca (cput s l x) ++ rest)) := by
 obtain ⟨N, A⟩ := s
 dsimp only at hs hl
 have k0 := (cells_heap (hS.cell (i := 0) rfl)).1
 have k1 := (cells_heap (hS.cell (i := 1) rfl)).1
 have hg4 := (hS.lt (i := 0) rfl rfl).1
 have hN := hS.row (i := 2) rfl
 obtain ⟨zz, hzz⟩ := getI A hl.2
 refine Spec.of _ Tryz.func115 rfl Tryz.ntmps115 (by kernel_rfl) rfl ?_
 repeat' (first
  | (apply WL.box; (iterate 3 exact rfl); intro gb w' hb hge hc hx; have hcc := hc; ((obtain ⟨h1, h2, h3, _⟩ := hc)); (have hcells := hcc; obtain ⟨y0, y1, _⟩ := hcc; obtain ⟨w1, rfl⟩ : ∃ x, x = w' := ⟨_, rfl⟩; obtain ⟨hx1, rfl⟩ : ∃ x, x = hx := ⟨_, rfl⟩))
  | (apply WL.lit tOk; (iterate 6 exact rfl); (kernel_rfl); exact rfl; intro gb w' hb hge hc hx; (obtain ⟨w2, rfl⟩ : ∃ x, x = w' := ⟨_, rfl⟩; obtain ⟨hx2, rfl⟩ : ∃ x, x = hx := ⟨_, rfl⟩))
  | (apply WL.append1 (z := (x)) tOk encN_ok; (iterate 10 exact rfl); assumption; (exact extA); (exact rfl); (assumption); exact rfl; exact rfl; (exact extA); ((simp; omega)); intro a' cap' w' hO hX' hU hF)
  | (show WL _ _ _ _ _ _ _; first | apply WL.nil | (refine WL.au (k := ?_)))
  | (show Z _ _ _ _ _; apply Z.then_normal)
  | (show W _ _ _ _ _ _; first | apply W.seq | apply W.region)
  | fail)
 obtain ⟨w3, rfl⟩ : ∃ x, x = w' := ⟨_, rfl⟩; obtain ⟨an2, rfl⟩ : ∃ x, x = a' := ⟨_, rfl⟩; obtain ⟨cn2, rfl⟩ : ∃ x, x = cap' := ⟨_, rfl⟩
 have hS1 : Lt.Sep w0.heap.size w3 ([pcell g4 #[.slice an N.length cn] 59, pcell g5 #[.slice aa A.length ca] 22, prow 2 encN 84 w0.heap.size an2 cn2 (N ++ [x]), prow 1 encI 3 w0.heap.size aa ca A] ++ rest) := Sep.updRow (i := 2) rfl hU hO hF hS extA (Below.size extA)
 have hX3 : Ext w0 w3 := extA
 have hc4 := hS1.cell (i := 0) rfl
 repeat' (first
  | (apply WL.storeB (w0 := w0) tOk; (iterate 4 exact rfl); assumption; (exact extA); (iterate 3 exact rfl); (exact extA); (assumption); intro w' hb hc hX' hU; have hcc := hc; obtain ⟨h1, h2, _⟩ := hc; (obtain ⟨w4, rfl⟩ : ∃ x, x = w' := ⟨_, rfl⟩; obtain ⟨hb4, rfl⟩ : ∃ x, x = hb := ⟨_, rfl⟩; obtain ⟨hU4, rfl⟩ : ∃ x, x = hU := ⟨_, rfl⟩; obtain ⟨hX4, rfl⟩ : ∃ x, x = hX' := ⟨_, rfl⟩; have hS2 : Lt.Sep w0.heap.size w4 ([pcell g4 #[.slice an2 (N ++ [x]).length cn2] 59, pcell g5 #[.slice aa A.length ca] 22, prow 2 encN 84 w0.heap.size an2 cn2 (N ++ [x]), prow 1 encI 3 w0.heap.size aa ca A] ++ rest) := Sep.updCell (i := 0) rfl hU4 hb4 hS1 (Ext.refl _) (Below.size hX3); have p0 := (cells_heap (hS2.cell (i := 0) rfl)).1; have p1 := (cells_heap (hS2.cell (i := 1) rfl)).1; have hA4 := hS2.row (i := 3) rfl; have hnl : (N ++ [x]).length = N.length + 1 := by simp))
  | (apply WL.indexO tOk; (iterate 8 exact rfl); assumption; (exact extA); exact encI_ok; (exact rfl); omega; assumption; intro gb ha hc; cases ha; have hcc := hc; first | (obtain ⟨h1, h2, h3, _⟩ := hc) | (obtain ⟨h1, h2, _⟩ := hc) | (obtain ⟨h1, _⟩ := hc))
  | (apply WL.storeO (z' := (2 * ((N ++ [x]).length : Int))) tOk; (iterate 4 exact rfl); assumption; (exact extA); (iterate 3 exact rfl); exact encI_ok; assumption; exact rfl; (exact extA); intro w' hO hX' hU)
  | (show WL _ _ _ _ _ _ _; first | apply WL.nil | (refine WL.au (k := ?_)))
  | (show Z _ _ _ _ _; apply Z.then_normal)
  | (show W _ _ _ _ _ _; apply W.region)
  | fail)
 refine Z.body0n Tryz.results115 fun m => ⟨rfl, hX'.at m, an2, cn2, ?_⟩
 have hS3 := Sep.updRow (i := 3) rfl hU hO (.inl rfl) hS2 (Ext.refl _) (Below.size hX4)
 have e1 : cput (N, A) l x = (N ++ [x], A.set (l / 2).toNat (2 * ((N ++ [x]).length : Int))) := by unfold cput; rw [hnl]; rfl
 rw [e1]
 refine Sep.ext (w := w') ?_ ((Ext.refl _).at m)
 show Lt.Sep _ _ ([pcell g4 #[.slice an2 (N ++ [x]).length cn2] 59, pcell g5 #[.slice _ (A.set (l / 2).toNat (2 * ((N ++ [x]).length : Int))).length ca] 22, prow 2 encN 84 w0.heap.size an2 cn2 (N ++ [x]), prow 1 encI 3 w0.heap.size _ ca (A.set (l / 2).toNat (2 * ((N ++ [x]).length : Int)))] ++ rest)
 rw [List.length_set]
 exact hS3
end Go.Proofs.YteidpnpbfagaeaaGreat
namespace Go.Proofs.YteidpnpbfagaeaaGreat
open Go Go.Lt Go.RowKit
set_option linter.unusedVariables false
set_option linter.unusedSimpArgs false
set_option maxRecDepth 20000

structure AtK (m k : Nat) (A : List Int) : Prop where
 len : A.length = m + 1
 zero : A[0]? = some 0
 neg : ∀ u : Nat, 1 ≤ u → u < k → A[u]? = some (-1)
theorem AtK.all {m : Nat} {A : List Int} (h : AtK m (m + 1) A) : A = cAt0 (m : Int) := by
 apply List.ext_getElem?
 intro u
 have hr := PutOk.start m
 by_cases hu : u < m + 1
 ·cases u with
  | zero => rw [h.zero]; exact hr.zero.symm
  | succ u => rw [h.neg (u + 1) (by omega) hu]; exact (hr.not (u + 1) (by omega) (by omega) (fun l hl => by cases hl)).symm
 ·rw [List.getElem?_eq_none (by have := h.len; omega)]
  have h2 : (cAt0 (m : Int)).length = m + 1 := hr.len2
  exact (List.getElem?_eq_none (by omega)).symm
theorem Sep.perm4 {B : Nat} {w : World} {p q r s : Piece} (hS : Lt.Sep B w [p, q, r, s]) : Lt.Sep B w [r, p, s, q] := by
 refine hS.pick (fun i => match i with | 0 => 2 | 1 => 0 | 2 => 3 | _ => 1) (fun i x h => ?_) (fun i j hi hj hne => ?_)
 ·match i, h with
  | 0, h => exact h
  | 1, h => exact h
  | 2, h => exact h
  | 3, h => exact h
 ·have hi' : i < 4 := hi
  have hj' : j < 4 := hj
  match i, j, hi', hj', hne with
  | 0, 1, _, _, _ => decide
  | 0, 2, _, _, _ => decide
  | 0, 3, _, _, _ => decide
  | 1, 0, _, _, _ => decide
  | 1, 2, _, _, _ => decide
  | 1, 3, _, _, _ => decide
  | 2, 0, _, _, _ => decide
  | 2, 1, _, _, _ => decide
  | 2, 3, _, _, _ => decide
  | 3, 0, _, _, _ => decide
  | 3, 1, _, _, _ => decide
  | 3, 2, _, _, _ => decide
  | 0, 0, _, _, h => exact absurd rfl h
  | 1, 1, _, _, h => exact absurd rfl h
  | 2, 2, _, _, h => exact absurd rfl h
  | 3, 3, _, _, h => exact absurd rfl h
set_option maxHeartbeats 32000000 in
theorem circ_Net (c : Circ) (w : World) (hC : CAt w c) (hg : GoodC' c.t) (hz : SzC c.t 100000) :
  Lt.Spec Tryz.prog 49 [c.val] w (IsFresh2 2 encN 84 1 encI 3 w (cNet c.t).1 (cNet c.t).2) := by
 have z1 : c.ins.2.2.length ≤ 100000 := hz.1
 have z2 : c.lat.2.2.length ≤ 100000 := hz.2.1
 have z6 : c.gates.2.2.length ≤ 100000 := hz.2.2.2.2.2
 have hm : 0 ≤ c.max ∧ c.max ≤ 16777216 := hg.max
 have hcm : c.t.max = c.max := rfl
 obtain ⟨m, hmm⟩ : ∃ m : Nat, c.max = (m : Int) := ⟨c.max.toNat, by omega⟩
 have hmt : c.max.toNat = m := by omega
 have hown : ∀ x ∈ c.t.own, 2 ≤ x ∧ x % 2 = 0 ∧ x ≤ 2 * c.max := hg.own
 have hused : ∀ x ∈ c.t.used, 0 ≤ x ∧ x ≤ 2 * c.max + 1 := hg.used
 refine Spec.of _ Tryz.func49 rfl Tryz.ntmps49 (by kernel_rfl) rfl ?_
 repeat' (first
  | (apply WL.box; (iterate 3 exact rfl); intro gb w' hb hge hc hx; have hcc := hc; ((obtain ⟨h1, h2, h3, _⟩ := hc)); (have hcells := hcc; obtain ⟨y0, y1, y2, y3, y4, y5, y6, _⟩ := hcc; obtain ⟨gc, rfl⟩ : ∃ x, x = gb := ⟨_, rfl⟩; obtain ⟨wc, rfl⟩ : ∃ x, x = w' := ⟨_, rfl⟩; obtain ⟨hxc, rfl⟩ : ∃ x, x = hx := ⟨_, rfl⟩; have hS : Lt.Sep wc.heap.size wc [prow 2 encN 84 wc.heap.size none 0 []] := Sep.newRow Sep.none' (Ext.refl _) Own.nil (fun k hk => by cases hk) (Nat.le_refl _)))
  | (apply WL.alloc tOk; (iterate 3 exact rfl); intro gb w' hb hge hx; replace hS := Sep.newCell (Sep.ext hS extA) hx hb hge (by (first | exact Nat.le_refl _ | exact Below.size extA)); (try simp only [List.set_cons_zero, List.set_cons_succ] at hS); (try have hR1 := hS.row (i := 1) rfl); (try have hR3 := hS.row (i := 3) rfl); (try have hC0 := hS.cell (i := 0) rfl); (try have hD0 := (cells_heap hC0).1); (try have hD1 := (cells_heap hC1).1); (try have hC2 := hS.cell (i := 2) rfl); (try have hD2 := (cells_heap hC2).1); (first | (have h_0 := g4; clear h_0) | (obtain ⟨g4, rfl⟩ : ∃ x, x = gb := ⟨_, rfl⟩)))
  | (apply WL.make (w0 := wc) (z := (0:Int)) tOk; (iterate 9 exact rfl); exact encI_ok; exact rfl; exact rfl; (exact extA); (omega); intro gb w' hO hge hx; replace hS := Sep.newRow (Sep.ext hS extA) hx hO (fun k hk => by cases hk; exact hge) (by (exact Below.size extA)); (try simp only [List.set_cons_zero, List.set_cons_succ] at hS); (try have hR0 := hS.row (i := 0) rfl); (try have hR2 := hS.row (i := 2) rfl); (try have hD0 := (cells_heap hC0).1); (try have hC1 := hS.cell (i := 1) rfl); (try have hD1 := (cells_heap hC1).1); (obtain ⟨ga, rfl⟩ : ∃ x, x = gb := ⟨_, rfl⟩))
  | (apply WL.storeB (w0 := wc) tOk; (iterate 4 exact rfl); assumption; (exact extA); (iterate 3 exact rfl); (exact extA); ((focus (apply Nat.le_trans; rotate_left; assumption; exact Below.size extA; done))); intro w' hb hc hX' hU; have hcc := hc; obtain ⟨h1, h2, _⟩ := hc; (replace hS := Sep.updCell (i := 0) rfl hU hb hS extA (by (exact Below.size extA))); (try simp only [List.set_cons_zero, List.set_cons_succ] at hS); (try have hR1 := hS.row (i := 1) rfl); (try have hR3 := hS.row (i := 3) rfl); (try have hC0 := hS.cell (i := 0) rfl); (try have hD0 := (cells_heap hC0).1); (try have hD1 := (cells_heap hC1).1); (try have hC2 := hS.cell (i := 2) rfl); (try have hD2 := (cells_heap hC2).1))
  | (show WL _ _ _ _ _ _ _; first | apply WL.nil | (refine WL.au (k := ?_)))
  | (show Z _ _ _ _ _; apply Z.then_normal)
  | (show W _ _ _ _ _ _; first | apply W.seq | apply W.region | apply W.block)
  | fail)
 obtain ⟨g5, rfl⟩ : ∃ x, x = gb := ⟨_, rfl⟩
 have e1 : (c.max + 1).toNat = m + 1 := by omega
 rw [e1, List.length_replicate] at hS
 have hS2 : Lt.Sep wc.heap.size w' (netP wc.heap.size g4 g5 none 0 (some ⟨ga, 0, none⟩) (m + 1) ([], List.replicate (m + 1) 0)) := by
  have := Sep.perm4 hS
  unfold netP
  rw [List.length_replicate]
  exact this
 have hA0 : AtK m 1 (List.replicate (m + 1) 0) := ⟨by simp, rfl, fun u h1 h2 => by omega⟩
 have hX1 : Ext wc w' := extA
 refine W.loopW (m + 1) (fun k w' => k ≤ m ∧ Ext wc w' ∧ ∃ A, AtK m (k + 1) A ∧ Lt.Sep wc.heap.size w' (netP wc.heap.size g4 g5 none 0 (some ⟨ga, 0, none⟩) (m + 1) ([], A))) (fun k => [(1, .pointer (some ⟨gc, 0, none⟩)), (4, .pointer (some ⟨g4, 0, none⟩)), (5, .pointer (some ⟨g5, 0, none⟩)), (6, .int .i64 ((k : Int) + 1))]) ⟨Nat.zero_le _, hX1, _, hA0, hS2⟩ (fun k w' h => by have := h.1; omega) ⟨rfl, rfl, rfl, rfl, trivial⟩ ?_
 clear hS hS2 hA0 hX1
 rintro k w3 ⟨hk, hX3, A, hA, hS⟩
 have hlA := hA.len
 have hlA2 : (([], A) : NA).2.length = m + 1 := hA.len
 have k1 := (cells_heap (hS.cell (i := 1) rfl)).1
 have hAo := hS.row (i := 3) rfl
 by_cases hlt : k < m
 ·obtain ⟨yv, hyv⟩ := getI A (show ((k : Int) + 1).toNat < A.length by omega)
  repeat' (first
   | (show WL _ _ _ _ _ _ _; first | apply WL.nil | (refine WL.au (k := ?_)))
   | (show Z _ _ _ _ _; apply Z.then_normal)
   | (show W _ _ _ _ _ _; first | apply W.seq | apply W.region)
   | fail)
  refine W.condKT rfl (dec_true (by omega)) ?_
  repeat' (first
   | (apply WL.indexO tOk; (iterate 8 exact rfl); assumption; (exact extA); exact encI_ok; (exact rfl); omega; assumption; intro gb ha hc; cases ha; have hcc := hc; first | (obtain ⟨h1, h2, h3, _⟩ := hc) | (obtain ⟨h1, h2, _⟩ := hc) | (obtain ⟨h1, _⟩ := hc))
   | (apply WL.storeO (z' := ((-1 : Int))) tOk; (iterate 4 exact rfl); assumption; (exact extA); (iterate 3 exact rfl); exact encI_ok; assumption; exact rfl; (exact extA); intro w' hO hX' hU)
   | (show WL _ _ _ _ _ _ _; first | apply WL.nil | (refine WL.au (k := ?_)))
   | (show Z _ _ _ _ _; first | apply Z.then_normal | apply Z.block_normal)
   | (show W _ _ _ _ _ _; first | apply W.seq | apply W.region | apply W.block | apply W.skip)
   | fail)
  have hS3 := Sep.updRow (i := 3) rfl hU hO (.inl rfl) hS (Ext.refl _) (Below.size hX3)
  refine Z.againW ⟨by omega, extA, A.set ((k : Int) + 1).toNat (-1), ⟨by simp [hlA], ?_, fun u h1 h2 => ?_⟩, ?_⟩ ⟨rfl, rfl, rfl, rfl, trivial⟩
  ·rw [List.getElem?_set_ne (by omega)]; exact hA.zero
  ·by_cases hu : u = k + 1
   ·subst hu; rw [show ((k : Int) + 1).toNat = k + 1 by omega, List.getElem?_set_self (by omega)]
   ·rw [List.getElem?_set_ne (by omega)]; exact hA.neg u h1 (by omega)
  ·unfold netP
   rw [List.length_set]
   exact hS3
 obtain rfl : k = m := by omega
 obtain rfl := hA.all
 repeat' (first
  | (show WL _ _ _ _ _ _ _; first | apply WL.nil | (refine WL.au (k := ?_)))
  | (show Z _ _ _ _ _; apply Z.then_normal)
  | (show W _ _ _ _ _ _; first | apply W.seq | apply W.region)
  | fail)
 refine W.condKF rfl (dec_false (by omega)) ?_
 repeat' (first
  | (show WL _ _ _ _ _ _ _; first | apply WL.nil | (refine WL.au (k := ?_)))
  | (show Z _ _ _ _ _; first | apply Z.then_normal | apply Z.then_exit | apply Z.block_exit)
  | (show W _ _ _ _ _ _; first | apply W.seq | apply W.region | apply W.block | apply W.exit)
  | fail)
 have Ri := hC.ins.row.ext hxc
 have Rl := hC.lat.row.ext hxc
 have Rg := hC.gates.row.ext hxc
 have hown1 : ∀ x ∈ c.ins.2.2, 2 ≤ x ∧ x % 2 = 0 ∧ x ≤ 2 * c.max := fun x hx => hown x (List.mem_append_left _ (List.mem_append_left _ hx))
 have hown2 : ∀ x ∈ c.lat.2.2, 2 ≤ x.1 ∧ x.1 % 2 = 0 ∧ x.1 ≤ 2 * c.max := fun x hx => hown x.1 (List.mem_append_left _ (List.mem_append_right _ (List.mem_map.2 ⟨x, hx, rfl⟩)))
 have e10 : cS1 c.t 0 = ([], cAt0 (k : Int)) := by rw [cS1_0, hcm, hmm]
 refine W.loopW c.ins.2.2.length (fun j w' => j ≤ c.ins.2.2.length ∧ Ext wc w' ∧ ∃ an cn, Lt.Sep wc.heap.size w' (netP wc.heap.size g4 g5 an cn (some ⟨ga, 0, none⟩) (k + 1) (cS1 c.t j) ++ [])) (fun j => [(1, .pointer (some ⟨gc, 0, none⟩)), (4, .pointer (some ⟨g4, 0, none⟩)), (5, .pointer (some ⟨g5, 0, none⟩)), (7, .func (.func 115) #[] #[.pointer (some ⟨g4, 0, none⟩), .pointer (some ⟨g5, 0, none⟩)]), (31, rowVal c.ins), (32, .int .i64 (c.ins.2.2.length : Nat)), (33, .int .i64 j)]) ⟨Nat.zero_le _, hX3, none, 0, by rw [e10]; exact hS⟩ (fun k w' h => h.1) ⟨rfl, rfl, rfl, rfl, rfl, rfl, rfl, trivial⟩ ?_
 clear hS hAo k1 hX3 hlA hlA2 hA
 rintro j w4 ⟨hj, hX4, an, cn, hS⟩
 have hl1 : (cS1 c.t j).1.length = j ∧ (cS1 c.t j).2.length = c.max.toNat + 1 := cS1_len c.t hj
 by_cases hlt : j < c.ins.2.2.length
 ·obtain ⟨x, hgx⟩ := getI c.ins.2.2 hlt
  have hxo := hown1 x (List.mem_of_getElem? hgx)
  have e1 := cS1_s (c := c.t) hgx
  have hcall := circ_Net1 wc w4 g4 g5 an cn (some ⟨ga, 0, none⟩) (k + 1) (cS1 c.t j) [] x (-1, 0) hX4 hS (by omega) (by omega) (by omega)
  repeat' (first
   | (show WL _ _ _ _ _ _ _; first | apply WL.nil | (refine WL.au (k := ?_)))
   | (show Z _ _ _ _ _; apply Z.then_normal)
   | (show W _ _ _ _ _ _; first | apply W.seq | apply W.region)
   | fail)
  refine W.condKT rfl (dec_true (by omega)) ?_
  repeat' (first
   | (apply WL.build tOk; (iterate 7 exact rfl); kernel_rfl)
   | ((show WL _ _ _ (⟨_, .call ⟨.value (.tmp _), _, _⟩, _, _, _, _⟩ :: _) _ _ _; apply WL.call; (iterate 4 exact rfl); exact hcall; rintro v' w5 ⟨rfl, hX5, an2, cn2, hS5⟩))
   | (show WL _ _ _ _ _ _ _; first | apply WL.nil | (refine WL.au (k := ?_)) | (apply WL.index tOk; (iterate 8 exact rfl); assumption; (exact extA); exact rfl; omega; assumption; intro b off h; have hcc := h; first | (obtain ⟨h1, h2, h3, h4, h5, h6, _⟩ := h) | (obtain ⟨h1, h2, h3, _⟩ := h) | (obtain ⟨h1, h2, _⟩ := h) | (obtain ⟨h1, _⟩ := h)))
   | (show Z _ _ _ _ _; first | apply Z.then_normal | apply Z.block_normal)
   | (show W _ _ _ _ _ _; first | apply W.seq | apply W.region | apply W.block | apply W.skip)
   | fail)
  exact Z.againW ⟨by omega, hX5, an2, cn2, by rw [e1]; exact hS5⟩ ⟨rfl, rfl, rfl, rfl, rfl, rfl, rfl, trivial⟩
 obtain rfl : j = c.ins.2.2.length := by omega
 repeat' (first
  | (show WL _ _ _ _ _ _ _; first | apply WL.nil | (refine WL.au (k := ?_)))
  | (show Z _ _ _ _ _; apply Z.then_normal)
  | (show W _ _ _ _ _ _; first | apply W.seq | apply W.region)
  | fail)
 refine W.condKF rfl (dec_false (by omega)) ?_
 repeat' (first
  | (show WL _ _ _ _ _ _ _; first | apply WL.nil | (refine WL.au (k := ?_)))
  | (show Z _ _ _ _ _; first | apply Z.then_normal | apply Z.then_exit | apply Z.block_exit)
  | (show W _ _ _ _ _ _; first | apply W.seq | apply W.region | apply W.block | apply W.exit)
  | fail)
 have e20 : cS2 c.t 0 = cS1 c.t c.ins.2.2.length := cS2_0 c.t
 refine W.loopW c.lat.2.2.length (fun j w' => j ≤ c.lat.2.2.length ∧ Ext wc w' ∧ ∃ an cn, Lt.Sep wc.heap.size w' (netP wc.heap.size g4 g5 an cn (some ⟨ga, 0, none⟩) (k + 1) (cS2 c.t j) ++ [])) (fun j => [(1, .pointer (some ⟨gc, 0, none⟩)), (4, .pointer (some ⟨g4, 0, none⟩)), (5, .pointer (some ⟨g5, 0, none⟩)), (7, .func (.func 115) #[] #[.pointer (some ⟨g4, 0, none⟩), .pointer (some ⟨g5, 0, none⟩)]), (43, rowVal c.lat), (44, .int .i64 (c.lat.2.2.length : Nat)), (45, .int .i64 j)]) ⟨Nat.zero_le _, hX4, an, cn, by rw [e20]; exact hS⟩ (fun k w' h => h.1) ⟨rfl, rfl, rfl, rfl, rfl, rfl, rfl, trivial⟩ ?_
 clear hS hX4 hl1 hj hlt
 rintro j w4 ⟨hj, hX4, an, cn, hS⟩
 have hl1 : (cS2 c.t j).1.length = c.ins.2.2.length + j ∧ (cS2 c.t j).2.length = c.max.toNat + 1 := cS2_len c.t hj
 by_cases hlt : j < c.lat.2.2.length
 ·obtain ⟨x, hgx⟩ := getI c.lat.2.2 hlt
  have hxo := hown2 x (List.mem_of_getElem? hgx)
  have e1 := cS2_s (c := c.t) hgx
  have hcall := fun (w9 : World) (h9 : Ext w4 w9) => circ_Net1 wc w9 g4 g5 an cn (some ⟨ga, 0, none⟩) (k + 1) (cS2 c.t j) [] x.1 (-1, 0) (hX4.trans h9) (hS.ext h9) (by omega) (by omega) (by omega)
  repeat' (first
   | (show WL _ _ _ _ _ _ _; first | apply WL.nil | (refine WL.au (k := ?_)))
   | (show Z _ _ _ _ _; apply Z.then_normal)
   | (show W _ _ _ _ _ _; first | apply W.seq | apply W.region)
   | fail)
  refine W.condKT rfl (dec_true (by omega)) ?_
  repeat' (first
   | (apply WL.alloc tOk; (iterate 3 exact rfl); intro gb w' hb hge hx)
   | (apply WL.storeB (w0 := w4) tOk; (iterate 4 exact rfl); assumption; (exact extA); (iterate 3 exact rfl); (exact extA); (assumption); intro w' hb hc hX' hU; have hcc := hc; obtain ⟨h1, h2, _⟩ := hc; (have hC8 := cells_heap hb; obtain ⟨i0, i1, i2, _⟩ := hC8))
   | (apply WL.build tOk; (iterate 7 exact rfl); kernel_rfl)
   | ((show WL _ _ _ (⟨_, .call ⟨.value (.tmp _), _, _⟩, _, _, _, _⟩ :: _) _ _ _; apply WL.call; (iterate 4 exact rfl); exact hcall _ extA; rintro v' w5 ⟨rfl, hX5, an2, cn2, hS5⟩))
   | (show WL _ _ _ _ _ _ _; first | apply WL.nil | (refine WL.au (k := ?_)) | (apply WL.index tOk; (iterate 8 exact rfl); assumption; (exact extA); exact rfl; omega; assumption; intro b off h; have hcc := h; first | (obtain ⟨h1, h2, h3, h4, h5, h6, _⟩ := h) | (obtain ⟨h1, h2, h3, _⟩ := h) | (obtain ⟨h1, h2, _⟩ := h) | (obtain ⟨h1, _⟩ := h)))
   | (show Z _ _ _ _ _; first | apply Z.then_normal | apply Z.block_normal)
   | (show W _ _ _ _ _ _; first | apply W.seq | apply W.region | apply W.block | apply W.skip)
   | fail)
  exact Z.againW ⟨by omega, hX5, an2, cn2, by rw [e1]; exact hS5⟩ ⟨rfl, rfl, rfl, rfl, rfl, rfl, rfl, trivial⟩
 obtain rfl : j = c.lat.2.2.length := by omega
 repeat' (first
  | (show WL _ _ _ _ _ _ _; first | apply WL.nil | (refine WL.au (k := ?_)))
  | (show Z _ _ _ _ _; apply Z.then_normal)
  | (show W _ _ _ _ _ _; first | apply W.seq | apply W.region)
  | fail)
 refine W.condKF rfl (dec_false (by omega)) ?_
 have hgm : ∀ g ∈ c.gates.2.2, g.1 ∈ c.t.own ∧ g.2.1 ∈ c.t.used ∧ g.2.2 ∈ c.t.used := fun g hg =>
  ⟨List.mem_append.2 (.inr (List.mem_map.2 ⟨g, hg, rfl⟩)), List.mem_append.2 (.inr (List.mem_flatMap.2 ⟨g, hg, by simp⟩)), List.mem_append.2 (.inr (List.mem_flatMap.2 ⟨g, hg, by simp⟩))⟩
 have hok : gsOk c.gates.2.2 := fun g hg => by
  obtain ⟨r1, r2, r3⟩ := hgm g hg
  have := hown _ r1
  have := hused _ r2
  have := hused _ r3
  omega
 have h7 : ¬ Twice c.t := fun ⟨i, x, a1, a2⟩ => by
  have h3 := List.pairwise_iff_getElem.1 (List.nodup_iff_pairwise_ne.1 hg.once)
  obtain ⟨j, hj, he⟩ := List.mem_take_iff_getElem.1 a2
  obtain ⟨hi, he2⟩ := List.getElem?_eq_some_iff.1 a1
  exact h3 j i (by omega) hi (by omega) (by rw [he, he2])
 have honce : Once c.gates.2.2 := once_of (c := c.t) h7 fun x hx => (hown x hx).2.1
 have hcells4 := hcells.ext hX4
 have x0 : Cells w4 gc 0 c.vals := hcells4
 repeat' (first
  | ((show WL _ _ _ (⟨_, .call ⟨.value (.func 111), _, _⟩, _, _, _, _⟩ :: _) _ _ _); apply WL.call; (iterate 4 exact rfl); exact circ_Order c _ (Rg.ext extA) hok (by omega) honce; rintro v' w' ⟨hx, a', cap', rfl, hO⟩; (obtain ⟨hOd, rfl⟩ : ∃ x, x = hO := ⟨_, rfl⟩; obtain ⟨hxd, rfl⟩ : ∃ x, x = hx := ⟨_, rfl⟩; obtain ⟨wd, rfl⟩ : ∃ x, x = w' := ⟨_, rfl⟩; obtain ⟨ad, rfl⟩ : ∃ x, x = a' := ⟨_, rfl⟩; obtain ⟨cd, rfl⟩ : ∃ x, x = cap' := ⟨_, rfl⟩))
  | (show WL _ _ _ _ _ _ _; first | apply WL.nil | (refine WL.au (k := ?_)))
  | (show Z _ _ _ _ _; first | apply Z.then_normal | apply Z.then_exit | apply Z.block_exit)
  | (show W _ _ _ _ _ _; first | apply W.seq | apply W.region | apply W.block | apply W.exit)
  | fail)
 have hS0 : Lt.Sep wc.heap.size wd (netP wc.heap.size g4 g5 an cn (some ⟨ga, 0, none⟩) (k + 1) (cS2 c.t c.lat.2.2.length) ++ [prow 1 encI 3 wc.heap.size ad cd (natI (ordL c.gates.2.2))]) := by
  have h1 := hS.newRow' hxd hOd (Below.size hX4)
  rw [List.append_nil] at h1
  exact Sep.comm (ps := [prow 1 encI 3 wc.heap.size ad cd (natI (ordL c.gates.2.2))]) h1
 have hXd : Ext wc wd := extA
 have e30 : cS3 c.t 0 = cS2 c.t c.lat.2.2.length := cS3_0 c.t
 have hnl : (natI (ordL c.gates.2.2)).length = (ordL c.gates.2.2).length := by simp [natI]
 have hol : (ordL c.gates.2.2).length ≤ c.gates.2.2.length := (ordL_is c.gates.2.2).1.le
 refine W.loopW (ordL c.gates.2.2).length (fun j w' => j ≤ (ordL c.gates.2.2).length ∧ Ext wc w' ∧ ∃ an cn, Lt.Sep wc.heap.size w' (netP wc.heap.size g4 g5 an cn (some ⟨ga, 0, none⟩) (k + 1) (cS3 c.t j) ++ [prow 1 encI 3 wc.heap.size ad cd (natI (ordL c.gates.2.2))])) (fun j => [(1, .pointer (some ⟨gc, 0, none⟩)), (4, .pointer (some ⟨g4, 0, none⟩)), (5, .pointer (some ⟨g5, 0, none⟩)), (7, .func (.func 115) #[] #[.pointer (some ⟨g4, 0, none⟩), .pointer (some ⟨g5, 0, none⟩)]), (12, .func (.func 116) #[] #[.pointer (some ⟨g5, 0, none⟩)]), (57, .slice ad (natI (ordL c.gates.2.2)).length cd), (58, .int .i64 (natI (ordL c.gates.2.2)).length), (59, .int .i64 j)]) ⟨Nat.zero_le _, hXd, an, cn, by rw [e30]; exact hS0⟩ (fun k w' h => h.1) ⟨rfl, rfl, rfl, rfl, rfl, rfl, rfl, rfl, trivial⟩ ?_
 clear hS hS0 hX4 hl1 hj hlt hcells4 x0 hXd
 rintro j w4 ⟨hj, hX4, an, cn, hS⟩
 have hl1 : (cS3 c.t j).1.length = c.ins.2.2.length + c.lat.2.2.length + j ∧ (cS3 c.t j).2.length = c.max.toNat + 1 := cS3_len c.t hj
 by_cases hlt : j < (ordL c.gates.2.2).length
 ·obtain ⟨i, hi⟩ := getI (ordL c.gates.2.2) hlt
  obtain ⟨g, za, zb, hgg, hza, hzb, ka, kb⟩ := cS3_get hg (c := c.t) hi
  have hgg : c.gates.2.2[i]? = some g := hgg
  have hgi : c.gates.2.2[((i : Nat) : Int).toNat]? = some g := by rw [Int.toNat_natCast]; exact hgg
  have hgo := hok g (List.mem_of_getElem? hgg)
  have hgw := hown g.1 (hgm g (List.mem_of_getElem? hgg)).1
  have hgl := lt_of_get hgg
  have hni : (natI (ordL c.gates.2.2))[((j : Nat) : Int).toNat]? = some (i : Int) := by rw [Int.toNat_natCast, natI, List.getElem?_map, hi]; rfl
  have e1 : cS3 c.t (j + 1) = cput (cS3 c.t j) g.1 (litI (cS3 c.t j).2 g.2.1, litI (cS3 c.t j).2 g.2.2) := by rw [cS3_s (c := c.t) hi]; unfold cGate; rw [gAt_of hgg]
  have k1 := (cells_heap (hS.cell (i := 1) rfl)).1
  have RA := (hS.row (i := 3) rfl).row encI_ok
  have RO := (hS.row (i := 4) rfl).row encI_ok
  have hcall := fun (w9 : World) (h9 : Ext w4 w9) => circ_Net1 wc w9 g4 g5 an cn (some ⟨ga, 0, none⟩) (k + 1) (cS3 c.t j) [prow 1 encI 3 wc.heap.size ad cd (natI (ordL c.gates.2.2))] g.1 (litI (cS3 c.t j).2 g.2.1, litI (cS3 c.t j).2 g.2.2) (hX4.trans h9) (hS.ext h9) (by omega) (by omega) (by omega)
  repeat' (first
   | (show WL _ _ _ _ _ _ _; first | apply WL.nil | (refine WL.au (k := ?_)))
   | (show Z _ _ _ _ _; apply Z.then_normal)
   | (show W _ _ _ _ _ _; first | apply W.seq | apply W.region)
   | fail)
  refine W.condKT rfl (dec_true (by omega)) ?_
  repeat' (first
   | (apply WL.alloc tOk; (iterate 3 exact rfl); intro gb w' hb hge hx)
   | (apply WL.storeB (w0 := w4) tOk; (iterate 4 exact rfl); assumption; (exact extA); (iterate 3 exact rfl); (exact extA); (assumption); intro w' hb hc hX' hU; have hcc := hc; obtain ⟨h1, h2, _⟩ := hc; (obtain ⟨w6, rfl⟩ : ∃ x, x = w' := ⟨_, rfl⟩; obtain ⟨hX6, rfl⟩ : ∃ x, x = hX' := ⟨_, rfl⟩; have hC8 := cells_heap hb; obtain ⟨i0, i1, i2, _⟩ := hC8))
   | (show WL _ _ _ _ _ _ _; first | apply WL.nil | (refine WL.au (k := ?_)) | (apply WL.index tOk; (iterate 8 exact rfl); assumption; (exact extA); exact rfl; omega; assumption; intro b off h; have hcc := h; first | (obtain ⟨h1, h2, h3, h4, h5, h6, _⟩ := h) | (obtain ⟨h1, h2, h3, _⟩ := h) | (obtain ⟨h1, h2, _⟩ := h) | (obtain ⟨h1, _⟩ := h)))
   | (show Z _ _ _ _ _; apply Z.then_normal)
   | (show W _ _ _ _ _ _; first | apply W.seq | apply W.region | apply W.block | apply W.skip)
   | fail)
  have k1' := hX6.cell k1
  have RA' := RA.ext hX6
  repeat' (first
   | (apply W.regionQS 12 tMix; kernel_rfl; exact rfl; kernel_rfl; kernel_rfl)
   | (apply QL.build tOk; (iterate 7 exact rfl); kernel_rfl)
   | ((show QL _ _ _ _ (⟨_, .call ⟨.value (.tmp _), _, _⟩, _, _, _, _⟩ :: _) _ _); apply QL.callS; (iterate 4 exact rfl); exact circ_Net2 _ g5 _ _ (cS3 c.t j).2 g.2.1 za k1' RA' (by omega) (by omega) hza (by omega))
   | ((show QL _ _ _ _ (⟨_, .call ⟨.value (.tmp _), _, _⟩, _, _, _, _⟩ :: _) _ _); apply QL.callS; (iterate 4 exact rfl); exact circ_Net2 _ g5 _ _ (cS3 c.t j).2 g.2.2 zb k1' RA' (by omega) (by omega) hzb (by omega))
   | ((show WL _ _ _ (⟨_, .call ⟨.value (.tmp _), _, _⟩, _, _, _, _⟩ :: _) _ _ _; apply WL.call; (iterate 4 exact rfl); exact hcall _ extA; rintro v' w5 ⟨rfl, hX5, an2, cn2, hS5⟩))
   | (show WL _ _ _ _ _ _ _; first | apply WL.nil | (refine WL.au (k := ?_)))
   | (show QL _ _ _ _ _ _ _; first | apply QL.nil | (refine QL.au (k := ?_)))
   | (show Z _ _ _ _ _; first | apply Z.tail | apply Z.then_normal | apply Z.block_normal)
   | (show W _ _ _ _ _ _; apply W.region)
   | fail)
  exact Z.againW ⟨by omega, hX5, an2, cn2, by rw [e1]; exact hS5⟩ ⟨rfl, rfl, rfl, rfl, rfl, rfl, rfl, rfl, trivial⟩
 obtain rfl : j = (ordL c.gates.2.2).length := by omega
 repeat' (first
  | (show WL _ _ _ _ _ _ _; first | apply WL.nil | (refine WL.au (k := ?_)))
  | (show Z _ _ _ _ _; apply Z.then_normal)
  | (show W _ _ _ _ _ _; first | apply W.seq | apply W.region)
  | fail)
 refine W.condKF rfl (dec_false (by omega)) ?_
 have e39 : cS3 c.t (ordL c.gates.2.2).length = cNet c.t := cS3_all c.t
 rw [e39] at hS
 have k0 := (cells_heap (hS.cell (i := 0) rfl)).1
 have k1 := (cells_heap (hS.cell (i := 1) rfl)).1
 have hwc := Below.size hxc
 repeat' (first
  | (show QL _ _ _ _ _ _ _; first | apply QL.nil | (refine QL.au (k := ?_)))
  | (show Z _ _ _ _ _; first | apply Z.then_normal | apply Z.then_exit | apply Z.block_exit)
  | (show W _ _ _ _ _ _; first | apply W.seq | apply W.ret | apply W.exit | (apply W.regionD tMix; kernel_rfl))
  | fail)
 exact Z.body2 Tryz.results49 rfl rfl fun q => ⟨Ext.at extA q, an, cn, some ⟨ga, 0, none⟩, k + 1, rfl, ((hS.row (i := 2) rfl).base hwc).ext ((Ext.refl _).at q), ((hS.row (i := 3) rfl).base hwc).ext ((Ext.refl _).at q)⟩
end Go.Proofs.YteidpnpbfagaeaaGreat
namespace Go.Proofs.YteidpnpbfagaeaaGreat
open Go Go.Lt Go.RowKit
set_option linter.unusedVariables false
set_option linter.unusedSimpArgs false
set_option maxRecDepth 20000

theorem ordL_nil : ordL [] = [] := (IsOrd.ord (gs := []) (L := []) ⟨PreOrd.nil _, fun i ⟨g, hg, _⟩ => by simp at hg⟩).symm
end Go.Proofs.YteidpnpbfagaeaaGreat
namespace Go.Proofs.YteidpnpbfagaeaaGreat
open Go Go.Lt Go.RowKit
set_option linter.unusedVariables false
set_option linter.unusedSimpArgs false
set_option maxRecDepth 20000

theorem few_sz2 {c : CirT} {m : Int} (h : FewC c m) (hm : m ≤ 100000) : SzC c 100000 ∧ c.syms.length ≤ 100000 := by
 obtain ⟨h1, h2, h3, h4, h5, h6, h7, _⟩ := few_iff.1 h
 exact ⟨⟨by omega, by omega, by omega, by omega, by omega, by omega⟩, by omega⟩
end Go.Proofs.YteidpnpbfagaeaaGreat
namespace Go.Proofs.YteidpnpbfagaeaaGreat
open Go Go.Lt Go.RowKit
set_option linter.unusedVariables false
set_option linter.unusedSimpArgs false
set_option maxRecDepth 20000

theorem factNN : FactEq Tryz.prog 84 := ⟨by kernel_rfl, by kernel_rfl⟩
set_option maxHeartbeats 4000000 in
theorem ref07_Same (a b : Option Addr) (cap cb : Nat) (n : List (Int × Int)) (w : World) (R : Row 2 encN w a n) (R2 : Row 2 encN w b n) :
  Still Tryz.prog 22 [.slice a n.length cap, .slice b n.length cb] w (.bool true) := by
 have hlen := R.len
 refine Spec.of _ Tryz.func22 rfl Tryz.ntmps22 (by kernel_rfl) rfl ?_
 repeat' (first
  | (apply W.condKF; exact rfl; (focus (exact dec_false (fun h => h rfl); done)))
  | (show WL _ _ _ _ _ _ _; first | apply WL.nil | (refine WL.au (k := ?_)))
  | (show Z _ _ _ _ _; apply Z.then_normal)
  | (show W _ _ _ _ _ _; first | apply W.seq | apply W.region | apply W.block | apply W.skip)
  | fail)
 refine W.loop1 n.length (fun k => k ≤ n.length) (fun k => [(0, .slice a n.length cap), (1, .slice b n.length cb), (5, .int .i64 k)]) (by omega) (fun k h => h) ⟨rfl, rfl, rfl, trivial⟩ ?_
 rintro k hk
 by_cases hlt : k < n.length
 ·obtain ⟨z, hz⟩ := getI n hlt
  by_cases hin : z.1 < 0
  ·repeat' (first
    | (apply WL.gT; exact rfl; exact rfl; (focus (exact dec_true (by omega); done)))
    | (apply W.condKT; exact rfl; (focus (exact dec_true (by omega); done)))
    | (show WL _ _ _ _ _ _ _; first | apply WL.nil | (refine WL.au (k := ?_)) | (apply WL.index tOk; (iterate 8 exact rfl); assumption; (exact extA); exact rfl; omega; assumption; intro b off h; have hcc := h; first | (obtain ⟨h1, h2, h3, h4, h5, h6, _⟩ := h) | (obtain ⟨h1, h2, h3, _⟩ := h) | (obtain ⟨h1, h2, _⟩ := h) | (obtain ⟨h1, _⟩ := h)))
    | (show Z _ _ _ _ _; first | apply Z.then_normal | apply Z.then_exit | apply Z.block_exit)
    | (show W _ _ _ _ _ _; first | apply W.seq | apply W.region | apply W.block | apply W.skip | apply W.exit)
    | fail)
   exact Z.again1 (by omega) ⟨rfl, rfl, rfl, trivial⟩
  ·repeat' (first
    | (apply WL.gF; exact rfl; exact rfl; (focus (exact dec_false (by omega))))
    | (apply W.condKT; exact rfl; (focus (exact dec_true (by omega))))
    | (apply W.condKF; exact rfl; (focus (exact dec_false (fun h => h rfl); done)))
    | (apply QL.neqS tOk; (iterate 7 exact rfl); exact factNN)
    | (show WL _ _ _ _ _ _ _; first | apply WL.nil | (refine WL.au (k := ?_)) | (apply WL.index tOk; (iterate 8 exact rfl); assumption; (exact extA); exact rfl; omega; assumption; intro b off h; have hcc := h; first | (obtain ⟨h1, h2, h3, h4, h5, h6, _⟩ := h) | (obtain ⟨h1, h2, h3, _⟩ := h) | (obtain ⟨h1, h2, _⟩ := h) | (obtain ⟨h1, _⟩ := h)) | (apply WL.guardF; exact rfl; exact rfl))
    | (show QL _ _ _ _ _ _ _; first | apply QL.nil | (refine QL.au (k := ?_)) | (apply QL.index tOk; (iterate 8 exact rfl); assumption; (exact extA); exact rfl; omega; assumption; intro b off h; have hcc := h; first | (obtain ⟨h1, h2, h3, h4, h5, h6, _⟩ := h) | (obtain ⟨h1, h2, h3, _⟩ := h) | (obtain ⟨h1, h2, _⟩ := h) | (obtain ⟨h1, _⟩ := h)))
    | (show Z _ _ _ _ _; first | apply Z.then_normal | apply Z.block_normal)
    | (show W _ _ _ _ _ _; first | apply W.seq | apply W.region | apply W.block | apply W.skip | (apply W.condF; exact rfl) | (apply W.regionD tMix; kernel_rfl))
    | fail)
   exact Z.again1 (by omega) ⟨rfl, rfl, rfl, trivial⟩
 ·repeat' (first
   | (apply W.condKF; exact rfl; (focus (exact dec_false (by omega); done)))
   | (show WL _ _ _ _ _ _ _; first | apply WL.nil | (refine WL.au (k := ?_)))
   | (show Z _ _ _ _ _; first | apply Z.then_normal | apply Z.then_exit | apply Z.block_exit)
   | (show W _ _ _ _ _ _; first | apply W.seq | apply W.region | apply W.ret | apply W.exit)
   | fail)
  exact Z.body1 Tryz.results22 rfl fun m => ⟨rfl, m, rfl⟩

end Go.Proofs.YteidpnpbfagaeaaGreat
namespace Go.Proofs.YteidpnpbfagaeaaGreat
open Go Go.Lt Go.RowKit
set_option linter.unusedVariables false
set_option linter.unusedSimpArgs false
set_option maxRecDepth 20000

theorem clone_L (a : Option Addr) (cap : Nat) (l : List T3) (w : World) (R : Row 3 enc3 w a l) (hna : a = none → cap = 0) (hl : l.length ≤ 1048576) :
  Lt.Spec Tryz.prog 112 [.slice a l.length cap] w (IsFresh 3 enc3 69 w l) := by
 by_cases ha : a = none
 ·subst ha
  have hl0 : l = [] := by
   cases l with
   | nil => rfl
   | cons x r => obtain ⟨b, off, h1, _⟩ := R.elem 0 x rfl; cases h1
  subst hl0
  refine Spec.of _ Tryz.func112 rfl Tryz.ntmps112 (by kernel_rfl) rfl ?_
  repeat' (first
   | (apply WL.eqSl tOk; (iterate 6 exact rfl))
   | (apply W.condKT; exact rfl; (focus (exact dec_true rfl; done)))
   | (show WL _ _ _ _ _ _ _; first | apply WL.nil | (refine WL.au (k := ?_)))
   | (show Z _ _ _ _ _; first | apply Z.then_normal | apply Z.then_ret)
   | (show W _ _ _ _ _ _; first | apply W.seq | apply W.region | apply W.ret)
   | fail)
  exact Z.body1 Tryz.results112 rfl fun m => ⟨(Ext.refl _).at m, none, 0, rfl, Own.nil⟩
 ·refine Spec.of _ Tryz.func112 rfl Tryz.ntmps112 (by kernel_rfl) rfl ?_
  repeat' (first
   | (apply WL.eqSl tOk; (iterate 6 exact rfl))
   | (apply W.condKF; exact rfl; (focus (exact dec_false ha; done)))
   | (apply WL.lit (len := 0) tOk; (iterate 6 exact rfl); (kernel_rfl); exact rfl; intro gb w' hb hge hc hx; have hO0 := Own.of_block0 (enc := enc3) (s := 3) hb hge)
   | (apply WL.appendS tOk enc3_ok; (iterate 10 exact rfl); assumption; (exact extA); (exact rfl); assumption; (exact extA); (exact rfl); (assumption); exact rfl; (exact extA); ((simp; omega)); intro a' cap' w' hO hX' hU hF)
   | (show WL _ _ _ _ _ _ _; first | apply WL.nil | (refine WL.au (k := ?_)))
   | (show Z _ _ _ _ _; apply Z.then_normal)
   | (show W _ _ _ _ _ _; first | apply W.seq | apply W.region | apply W.skip | apply W.ret)
   | fail)
  exact Z.body1 Tryz.results112 rfl fun m => ⟨Ext.at extA m, a', cap', by rw [List.nil_append], by rw [List.nil_append] at hO; exact hO⟩
theorem clone_G (a : Option Addr) (cap : Nat) (l : List T3) (w : World) (R : Row 3 enc3 w a l) (hna : a = none → cap = 0) (hl : l.length ≤ 1048576) :
  Lt.Spec Tryz.prog 113 [.slice a l.length cap] w (IsFresh 3 enc3 86 w l) := by
 by_cases ha : a = none
 ·subst ha
  have hl0 : l = [] := by
   cases l with
   | nil => rfl
   | cons x r => obtain ⟨b, off, h1, _⟩ := R.elem 0 x rfl; cases h1
  subst hl0
  refine Spec.of _ Tryz.func113 rfl Tryz.ntmps113 (by kernel_rfl) rfl ?_
  repeat' (first
   | (apply WL.eqSl tOk; (iterate 6 exact rfl))
   | (apply W.condKT; exact rfl; (focus (exact dec_true rfl; done)))
   | (show WL _ _ _ _ _ _ _; first | apply WL.nil | (refine WL.au (k := ?_)))
   | (show Z _ _ _ _ _; first | apply Z.then_normal | apply Z.then_ret)
   | (show W _ _ _ _ _ _; first | apply W.seq | apply W.region | apply W.ret)
   | fail)
  exact Z.body1 Tryz.results113 rfl fun m => ⟨(Ext.refl _).at m, none, 0, rfl, Own.nil⟩
 ·refine Spec.of _ Tryz.func113 rfl Tryz.ntmps113 (by kernel_rfl) rfl ?_
  repeat' (first
   | (apply WL.eqSl tOk; (iterate 6 exact rfl))
   | (apply W.condKF; exact rfl; (focus (exact dec_false ha; done)))
   | (apply WL.lit (len := 0) tOk; (iterate 6 exact rfl); (kernel_rfl); exact rfl; intro gb w' hb hge hc hx; have hO0 := Own.of_block0 (enc := enc3) (s := 3) hb hge)
   | (apply WL.appendS tOk enc3_ok; (iterate 10 exact rfl); assumption; (exact extA); (exact rfl); assumption; (exact extA); (exact rfl); (assumption); exact rfl; (exact extA); ((simp; omega)); intro a' cap' w' hO hX' hU hF)
   | (show WL _ _ _ _ _ _ _; first | apply WL.nil | (refine WL.au (k := ?_)))
   | (show Z _ _ _ _ _; apply Z.then_normal)
   | (show W _ _ _ _ _ _; first | apply W.seq | apply W.region | apply W.skip | apply W.ret)
   | fail)
  exact Z.body1 Tryz.results113 rfl fun m => ⟨Ext.at extA m, a', cap', by rw [List.nil_append], by rw [List.nil_append] at hO; exact hO⟩
theorem clone_Y (a : Option Addr) (cap : Nat) (l : List Sy) (w : World) (R : Row 3 encY w a l) (hna : a = none → cap = 0) (hl : l.length ≤ 1048576) :
  Lt.Spec Tryz.prog 114 [.slice a l.length cap] w (IsFresh 3 encY 119 w l) := by
 by_cases ha : a = none
 ·subst ha
  have hl0 : l = [] := by
   cases l with
   | nil => rfl
   | cons x r => obtain ⟨b, off, h1, _⟩ := R.elem 0 x rfl; cases h1
  subst hl0
  refine Spec.of _ Tryz.func114 rfl Tryz.ntmps114 (by kernel_rfl) rfl ?_
  repeat' (first
   | (apply WL.eqSl tOk; (iterate 6 exact rfl))
   | (apply W.condKT; exact rfl; (focus (exact dec_true rfl; done)))
   | (show WL _ _ _ _ _ _ _; first | apply WL.nil | (refine WL.au (k := ?_)))
   | (show Z _ _ _ _ _; first | apply Z.then_normal | apply Z.then_ret)
   | (show W _ _ _ _ _ _; first | apply W.seq | apply W.region | apply W.ret)
   | fail)
  exact Z.body1 Tryz.results114 rfl fun m => ⟨(Ext.refl _).at m, none, 0, rfl, Own.nil⟩
 ·refine Spec.of _ Tryz.func114 rfl Tryz.ntmps114 (by kernel_rfl) rfl ?_
  repeat' (first
   | (apply WL.eqSl tOk; (iterate 6 exact rfl))
   | (apply W.condKF; exact rfl; (focus (exact dec_false ha; done)))
   | (apply WL.lit (len := 0) tOk; (iterate 6 exact rfl); (kernel_rfl); exact rfl; intro gb w' hb hge hc hx; have hO0 := Own.of_block0 (enc := encY) (s := 3) hb hge)
   | (apply WL.appendS tOk encY_ok; (iterate 10 exact rfl); assumption; (exact extA); (exact rfl); assumption; (exact extA); (exact rfl); (assumption); exact rfl; (exact extA); ((simp; omega)); intro a' cap' w' hO hX' hU hF)
   | (show WL _ _ _ _ _ _ _; first | apply WL.nil | (refine WL.au (k := ?_)))
   | (show Z _ _ _ _ _; apply Z.then_normal)
   | (show W _ _ _ _ _ _; first | apply W.seq | apply W.region | apply W.skip | apply W.ret)
   | fail)
  exact Z.body1 Tryz.results114 rfl fun m => ⟨Ext.at extA m, a', cap', by rw [List.nil_append], by rw [List.nil_append] at hO; exact hO⟩
end Go.Proofs.YteidpnpbfagaeaaGreat
namespace Go.Lt
open Go.RowKit
set_option linter.unusedVariables false
theorem Z.invFresh {N : Nat} {α : Type} {s : Nat} {enc : α → List Value} {d el B cap : Nat} {l : List α} {a : Option Addr} {w w' : World} {E : Env} (hx : Ext w w') (hB : B ≤ w.heap.size) (hO : Own s enc el w.heap.size w' a cap l) :
  Z N (postI N d (prRow s enc el B l) w E) .normal ((d, .slice a l.length cap) :: E) w' :=
 Z.invRow hx (hO.base hB) (.inr fun k hk => (hO.blk_lt k hk).1)
end Go.Lt
namespace Go.Proofs.YteidpnpbfagaeaaGreat
open Go Go.Lt Go.RowKit
set_option linter.unusedVariables false
set_option linter.unusedSimpArgs false
set_option maxRecDepth 20000

theorem Sep.perm7 {B : Nat} {w : World} {a b c d e f g : Piece} {rest : List Piece} (hS : Lt.Sep B w (a :: b :: c :: d :: e :: f :: g :: rest)) : Lt.Sep B w [d, e, f, a, b, c, g] := by
 refine hS.pick (fun i => if i < 3 then i + 3 else if i < 6 then i - 3 else i) (fun i x h => ?_) (fun i j hi hj hne => ?_)
 ·match i, h with
  | 0, h => exact h
  | 1, h => exact h
  | 2, h => exact h
  | 3, h => exact h
  | 4, h => exact h
  | 5, h => exact h
  | 6, h => exact h
 ·show (if i < 3 then i + 3 else if i < 6 then i - 3 else i) ≠ (if j < 3 then j + 3 else if j < 6 then j - 3 else j)
  have hi' : i < 7 := hi
  have hj' : j < 7 := hj
  repeat' split
  all_goals omega
set_option maxHeartbeats 16000000 in
theorem circ_Clone (c : Circ) (w : World) (hC : CAt w c) (hz : SzC c.t 100000) (hz2 : c.t.syms.length ≤ 100000) :
  Lt.Spec Tryz.prog 47 [c.val] w (fun v w' => Ext w w' ∧ ∃ d : Circ, v = d.val ∧ d.t = c.t ∧ OwnC w.heap.size w' d) := by
 have z1 : c.ins.2.2.length ≤ 100000 := hz.1
 have z2 : c.lat.2.2.length ≤ 100000 := hz.2.1
 have z3 : c.outs.2.2.length ≤ 100000 := hz.2.2.1
 have z4 : c.bads.2.2.length ≤ 100000 := hz.2.2.2.1
 have z5 : c.cons.2.2.length ≤ 100000 := hz.2.2.2.2.1
 have z6 : c.gates.2.2.length ≤ 100000 := hz.2.2.2.2.2
 have z7 : c.syms.2.2.length ≤ 100000 := hz2
 have Ri := hC.ins.row
 have Ro := hC.outs.row
 have Rb := hC.bads.row
 have Rn := hC.cons.row
 have Rl := hC.lat.row
 have Rg := hC.gates.row
 have Ry := hC.syms.row
 have ni := hC.ins.none
 have no := hC.outs.none
 have nb := hC.bads.none
 have nn := hC.cons.none
 have nl := hC.lat.none
 have ng := hC.gates.none
 have ny := hC.syms.none
 refine Spec.of _ Tryz.func47 rfl Tryz.ntmps47 (by kernel_rfl) rfl ?_
 repeat' (first
  | (apply WL.box; (iterate 3 exact rfl); intro gb w' hb hge hc hx; have hcc := hc; ((obtain ⟨h1, h2, h3, _⟩ := hc)); (obtain ⟨gc, rfl⟩ : ∃ x, x = gb := ⟨_, rfl⟩; obtain ⟨wc, rfl⟩ : ∃ x, x = w' := ⟨_, rfl⟩; obtain ⟨hxc, rfl⟩ : ∃ x, x = hx := ⟨_, rfl⟩; have hS : Lt.Sep w.heap.size wc [pcell gc c.vals.toArray 27] := Sep.newCell Sep.none' hxc hb hge (Nat.le_refl _)))
  | (apply WL.alloc tOk; (iterate 3 exact rfl); intro gb w' hb hge hx; replace hS := Sep.newCell (Sep.ext hS extA) hx hb hge (by (exact Below.size extA)); (try simp only [List.set_cons_zero, List.set_cons_succ] at hS); (try have hC0 := hS.cell (i := 0) rfl); (try have hD0 := (cells_heap hC0).1); (try have hE0 := (cells_heap hC0).2.1); (try have hF0 := (cells_heap hC0).2.2.1); (try have hG0 := (cells_heap hC0).2.2.2.1); (try have hC1 := hS.cell (i := 1) rfl); (try have hD1 := (cells_heap hC1).1); (try have hE1 := (cells_heap hC1).2.1); (try have hF1 := (cells_heap hC1).2.2.1); (try have hG1 := (cells_heap hC1).2.2.2.1))
  | (show WL _ _ _ _ _ _ _; apply WL.nil)
  | (show Z _ _ _ _ _; apply Z.then_normal)
  | (show W _ _ _ _ _ _; first | apply W.seq | apply W.region)
  | fail)
 obtain ⟨w1, rfl⟩ : ∃ x, x = w' := ⟨_, rfl⟩; obtain ⟨g2, rfl⟩ : ∃ x, x = gb := ⟨_, rfl⟩
 have hX2 : Ext w w1 := extA
 have hw1 : w.heap.size ≤ w1.heap.size := Below.size hX2
 have hgc : w.heap.size ≤ gc := (hS.lt (i := 1) rfl rfl).1
 have hcl := cells_heap (hS.cell (i := 1) rfl)
 obtain ⟨y0, y1, y2, y3, y4, y5, y6, y7, y8, _⟩ := hcl
 repeat' (first
  | (show W _ _ (.region 1 _ _) _ _ _; apply W.regionI 13 [.is (.pointer (some ⟨gc, 0 + 1, none⟩)), .is (rowVal c.ins), prRow 1 encI 3 w1.heap.size c.ins.2.2, .is (.pointer (some ⟨gc, 0 + 1 + 1, none⟩)), .is (rowVal c.lat), prRow 3 enc3 69 w1.heap.size c.lat.2.2, .is (.pointer (some ⟨gc, 0 + 1 + 1 + 1 + 1 + 1 + 1, none⟩)), .is (rowVal c.gates), prRow 3 enc3 86 w1.heap.size c.gates.2.2, .is (.pointer (some ⟨gc, 0 + 1 + 1 + 1 + 1 + 1 + 1 + 1, none⟩)), .is (rowVal c.syms), prRow 3 encY 119 w1.heap.size c.syms.2.2, .is (.pointer (some ⟨gc, 0 + 1, none⟩))] tMix; kernel_rfl; exact rfl; kernel_rfl; kernel_rfl; exact rfl; exact rfl)
  | (show OBL _ _ _ _ _ _ _ _; apply OBL.nil)
  | (show OBL _ _ _ _ _ _ 0 _; apply OBL.cons (ds := []); (iterate 3 exact rfl); kernel_rfl; intro w8 hw8 rest8)
  | (show OBL _ _ _ _ _ _ 1 _; apply OBL.cons (ds := [0]); (iterate 3 exact rfl); kernel_rfl; intro w8 hw8 rest8)
  | (show OBL _ _ _ _ _ _ 2 _; apply OBL.cons (ds := [1]); (iterate 3 exact rfl); kernel_rfl; intro w8 hw8 rest8)
  | (show OBL _ _ _ _ _ _ 3 _; apply OBL.cons (ds := []); (iterate 3 exact rfl); kernel_rfl; intro w8 hw8 rest8)
  | (show OBL _ _ _ _ _ _ 4 _; apply OBL.cons (ds := [3]); (iterate 3 exact rfl); kernel_rfl; intro w8 hw8 rest8)
  | (show OBL _ _ _ _ _ _ 5 _; apply OBL.cons (ds := [4, 2]); (iterate 3 exact rfl); kernel_rfl; intro w8 hw8 rest8)
  | (show OBL _ _ _ _ _ _ 6 _; apply OBL.cons (ds := []); (iterate 3 exact rfl); kernel_rfl; intro w8 hw8 rest8)
  | (show OBL _ _ _ _ _ _ 7 _; apply OBL.cons (ds := [6]); (iterate 3 exact rfl); kernel_rfl; intro w8 hw8 rest8)
  | (show OBL _ _ _ _ _ _ 8 _; apply OBL.cons (ds := [7, 5]); (iterate 3 exact rfl); kernel_rfl; intro w8 hw8 rest8)
  | (show OBL _ _ _ _ _ _ 9 _; apply OBL.cons (ds := []); (iterate 3 exact rfl); kernel_rfl; intro w8 hw8 rest8)
  | (show OBL _ _ _ _ _ _ 10 _; apply OBL.cons (ds := [9]); (iterate 3 exact rfl); kernel_rfl; intro w8 hw8 rest8)
  | (show OBL _ _ _ _ _ _ 11 _; apply OBL.cons (ds := [10, 8]); (iterate 3 exact rfl); kernel_rfl; intro w8 hw8 rest8)
  | (show OBL _ _ _ _ _ _ 12 _; apply OBL.cons (ds := [0, 1, 2, 3, 4, 6, 7, 9, 10]); (iterate 3 exact rfl); kernel_rfl; intro w8 hw8 rest8)
  | (show NO _ _ _ _ _ _ _ _ _ _; first | apply NO.nil | (apply NO.is; exact rfl; exact rfl) | (apply NO.ex; exact rfl; exact rfl; ((rintro _ ⟨ar, cr, rfl, hOr⟩))))
  | (intro w8 hw8; show NF _ _ _ _ _ _ _ _ _)
  | (show NF _ _ _ _ _ _ _ _ _; first | (apply NF.nilT; intro hap; replace hS := Sep.news [prowZ 3 encY 119 w.heap.size ar1_11 cr1_11 c.syms.2.2, prowZ 3 enc3 86 w.heap.size ar1_8 cr1_8 c.gates.2.2, prowZ 3 enc3 69 w.heap.size ar1_5 cr1_5 c.lat.2.2, prowZ 1 encI 3 w.heap.size ar1_2 cr1_2 c.ins.2.2] hS hw8 (by rintro q hq; simp only [List.mem_cons, List.not_mem_nil, or_false] at hq; rcases hq with rfl | rfl | rfl | rfl <;> exact prowZ_new (by assumption) hw1) (apartS hap) hw1; simp only [List.cons_append, List.nil_append] at hS; (try simp only [List.set_cons_zero, List.set_cons_succ] at hS); (try have hD0 := (cells_heap hC0).1); (try have hE0 := (cells_heap hC0).2.1); (try have hF0 := (cells_heap hC0).2.2.1); (try have hG0 := (cells_heap hC0).2.2.2.1); (try have hD1 := (cells_heap hC1).1); (try have hE1 := (cells_heap hC1).2.1); (try have hF1 := (cells_heap hC1).2.2.1); (try have hG1 := (cells_heap hC1).2.2.2.1); (try have hC4 := hS.cell (i := 4) rfl); (try have hD4 := (cells_heap hC4).1); (try have hE4 := (cells_heap hC4).2.1); (try have hF4 := (cells_heap hC4).2.2.1); (try have hG4 := (cells_heap hC4).2.2.2.1) ; have hC5 := hS.cell (i := 5) rfl) | (apply NF.is; exact rfl; exact rfl))
  | (show NF _ _ _ _ _ _ (2 :: _) _ _; apply NF.ex; exact rfl; exact rfl; rintro _ ⟨ar1_2, cr1_2, rfl, hOr1_2⟩)
  | (show NF _ _ _ _ _ _ (5 :: _) _ _; apply NF.ex; exact rfl; exact rfl; rintro _ ⟨ar1_5, cr1_5, rfl, hOr1_5⟩)
  | (show NF _ _ _ _ _ _ (8 :: _) _ _; apply NF.ex; exact rfl; exact rfl; rintro _ ⟨ar1_8, cr1_8, rfl, hOr1_8⟩)
  | (show NF _ _ _ _ _ _ (11 :: _) _ _; apply NF.ex; exact rfl; exact rfl; rintro _ ⟨ar1_11, cr1_11, rfl, hOr1_11⟩)
  | (show Z _ _ _ _ _; first | (apply Z.invIs; (exact extA)) | (apply Z.invFresh; (exact extA); (exact Below.size extA); assumption))
  | ((show WL _ _ _ (⟨_, .call ⟨.value (.func 78), _, _⟩, _, _, _, _⟩ :: _) _ _ _); apply WL.call; (iterate 4 exact rfl); exact slices_CloneI _ _ c.ins.2.2 _ (Ri.ext extA) ni (by omega); rintro v' w' ⟨hx, a', cap', rfl, hO⟩)
  | ((show WL _ _ _ (⟨_, .call ⟨.value (.func 112), _, _⟩, _, _, _, _⟩ :: _) _ _ _); apply WL.call; (iterate 4 exact rfl); exact clone_L _ _ c.lat.2.2 _ (Rl.ext extA) nl (by omega); rintro v' w' ⟨hx, a', cap', rfl, hO⟩)
  | ((show WL _ _ _ (⟨_, .call ⟨.value (.func 113), _, _⟩, _, _, _, _⟩ :: _) _ _ _); apply WL.call; (iterate 4 exact rfl); exact clone_G _ _ c.gates.2.2 _ (Rg.ext extA) ng (by omega); rintro v' w' ⟨hx, a', cap', rfl, hO⟩)
  | ((show WL _ _ _ (⟨_, .call ⟨.value (.func 114), _, _⟩, _, _, _, _⟩ :: _) _ _ _); apply WL.call; (iterate 4 exact rfl); exact clone_Y _ _ c.syms.2.2 _ (Ry.ext extA) ny (by omega); rintro v' w' ⟨hx, a', cap', rfl, hO⟩)
  | (apply WL.storeF (w0 := w) tOk; (iterate 4 exact rfl); assumption; (exact extA); (iterate 4 exact rfl); (exact extA); (assumption); intro w' hb hX' hU; replace hS := Sep.updCell (i := 5) rfl hU hb hS extA (by (exact Below.size extA)); (try simp only [List.set_cons_zero, List.set_cons_succ] at hS); (try have hD0 := (cells_heap hC0).1); (try have hE0 := (cells_heap hC0).2.1); (try have hF0 := (cells_heap hC0).2.2.1); (try have hG0 := (cells_heap hC0).2.2.2.1); (try have hD1 := (cells_heap hC1).1); (try have hE1 := (cells_heap hC1).2.1); (try have hF1 := (cells_heap hC1).2.2.1); (try have hG1 := (cells_heap hC1).2.2.2.1); (try have hC4 := hS.cell (i := 4) rfl); (try have hD4 := (cells_heap hC4).1); (try have hE4 := (cells_heap hC4).2.1); (try have hF4 := (cells_heap hC4).2.2.1); (try have hG4 := (cells_heap hC4).2.2.2.1))
  | (show WL _ _ _ _ _ _ _; first | apply WL.nil | (refine WL.au (k := ?_)))
  | (show Z _ _ _ _ _; apply Z.then_normal)
  | (show W _ _ _ _ _ _; apply W.seq)
  | fail)
 obtain ⟨w2, rfl⟩ : ∃ x, x = w' := ⟨_, rfl⟩
 have hX3 : Ext w w2 := extA
 have hw2 : w.heap.size ≤ w2.heap.size := Below.size hX3
 replace hS : Lt.Sep w.heap.size w2 [prowZ 3 encY 119 w.heap.size ar1_11 cr1_11 c.syms.2.2, prowZ 3 enc3 86 w.heap.size ar1_8 cr1_8 c.gates.2.2, prowZ 3 enc3 69 w.heap.size ar1_5 cr1_5 c.lat.2.2, prowZ 1 encI 3 w.heap.size ar1_2 cr1_2 c.ins.2.2, pcell g2 (Value.cells (.agg #[.int .i64 0, .slice none 0 0, .slice none 0 0, .slice none 0 0, .slice none 0 0, .slice none 0 0, .slice none 0 0, .slice none 0 0, .string ⟨#[]⟩])) 27, pcell gc ([.int .i64 c.max, .slice ar1_2 c.ins.2.2.length cr1_2, .slice ar1_5 c.lat.2.2.length cr1_5, rowVal c.outs, rowVal c.bads, rowVal c.cons, .slice ar1_8 c.gates.2.2.length cr1_8, .slice ar1_11 c.syms.2.2.length cr1_11, .string c.com] : List Value).toArray 27] := hS
 have hcl := cells_heap (hS.cell (i := 5) rfl)
 clear y0 y1 y2 y3 y4 y5 y6 y7 y8
 obtain ⟨y0, y1, y2, y3, y4, y5, y6, y7, y8, _⟩ := hcl
 repeat' (first
  | (show W _ _ (.region 2 _ _) _ _ _; apply W.regionI 10 [.is (.pointer (some ⟨gc, 0 + 1 + 1 + 1, none⟩)), .is (rowVal c.outs), prRow 1 encI 3 w2.heap.size c.outs.2.2, .is (.pointer (some ⟨gc, 0 + 1 + 1 + 1 + 1, none⟩)), .is (rowVal c.bads), prRow 1 encI 3 w2.heap.size c.bads.2.2, .is (.pointer (some ⟨gc, 0 + 1 + 1 + 1 + 1 + 1, none⟩)), .is (rowVal c.cons), prRow 1 encI 3 w2.heap.size c.cons.2.2, .is (.pointer (some ⟨gc, 0 + 1 + 1 + 1, none⟩))] tMix; kernel_rfl; exact rfl; kernel_rfl; kernel_rfl; exact rfl; exact rfl)
  | (show OBL _ _ _ _ _ _ _ _; apply OBL.nil)
  | (show OBL _ _ _ _ _ _ 0 _; apply OBL.cons (ds := []); (iterate 3 exact rfl); kernel_rfl; intro w8 hw8 rest8)
  | (show OBL _ _ _ _ _ _ 1 _; apply OBL.cons (ds := [0]); (iterate 3 exact rfl); kernel_rfl; intro w8 hw8 rest8)
  | (show OBL _ _ _ _ _ _ 2 _; apply OBL.cons (ds := [1]); (iterate 3 exact rfl); kernel_rfl; intro w8 hw8 rest8)
  | (show OBL _ _ _ _ _ _ 3 _; apply OBL.cons (ds := []); (iterate 3 exact rfl); kernel_rfl; intro w8 hw8 rest8)
  | (show OBL _ _ _ _ _ _ 4 _; apply OBL.cons (ds := [3]); (iterate 3 exact rfl); kernel_rfl; intro w8 hw8 rest8)
  | (show OBL _ _ _ _ _ _ 5 _; apply OBL.cons (ds := [4, 2]); (iterate 3 exact rfl); kernel_rfl; intro w8 hw8 rest8)
  | (show OBL _ _ _ _ _ _ 6 _; apply OBL.cons (ds := []); (iterate 3 exact rfl); kernel_rfl; intro w8 hw8 rest8)
  | (show OBL _ _ _ _ _ _ 7 _; apply OBL.cons (ds := [6]); (iterate 3 exact rfl); kernel_rfl; intro w8 hw8 rest8)
  | (show OBL _ _ _ _ _ _ 8 _; apply OBL.cons (ds := [7, 5]); (iterate 3 exact rfl); kernel_rfl; intro w8 hw8 rest8)
  | (show OBL _ _ _ _ _ _ 9 _; apply OBL.cons (ds := [0, 1, 2, 3, 4, 6, 7]); (iterate 3 exact rfl); kernel_rfl; intro w8 hw8 rest8)
  | (show NO _ _ _ _ _ _ _ _ _ _; first | apply NO.nil | (apply NO.is; exact rfl; exact rfl) | (apply NO.ex; exact rfl; exact rfl; ((rintro _ ⟨ar, cr, rfl, hOr⟩))))
  | (intro w8 hw8; show NF _ _ _ _ _ _ _ _ _)
  | (show NF _ _ _ _ _ _ _ _ _; first | (apply NF.nilT; intro hap; replace hS := Sep.news [prowZ 1 encI 3 w.heap.size ar2_8 cr2_8 c.cons.2.2, prowZ 1 encI 3 w.heap.size ar2_5 cr2_5 c.bads.2.2, prowZ 1 encI 3 w.heap.size ar2_2 cr2_2 c.outs.2.2] hS hw8 (by rintro q hq; simp only [List.mem_cons, List.not_mem_nil, or_false] at hq; rcases hq with rfl | rfl | rfl <;> exact prowZ_new (by assumption) hw2) (apartS hap) hw2; simp only [List.cons_append, List.nil_append] at hS; have hC8 := hS.cell (i := 8) rfl) | (apply NF.is; exact rfl; exact rfl))
  | (show NF _ _ _ _ _ _ (2 :: _) _ _; apply NF.ex; exact rfl; exact rfl; rintro _ ⟨ar2_2, cr2_2, rfl, hOr2_2⟩)
  | (show NF _ _ _ _ _ _ (5 :: _) _ _; apply NF.ex; exact rfl; exact rfl; rintro _ ⟨ar2_5, cr2_5, rfl, hOr2_5⟩)
  | (show NF _ _ _ _ _ _ (8 :: _) _ _; apply NF.ex; exact rfl; exact rfl; rintro _ ⟨ar2_8, cr2_8, rfl, hOr2_8⟩)
  | (show Z _ _ _ _ _; first | (apply Z.invIs; (exact extA)) | (apply Z.invFresh; (exact extA); (exact Below.size extA); assumption))
  | ((show WL _ _ _ (⟨_, .call ⟨.value (.func 78), _, _⟩, _, _, _, _⟩ :: _) _ _ _); apply WL.call; (iterate 4 exact rfl); exact slices_CloneI _ _ c.outs.2.2 _ (Ro.ext extA) no (by omega); rintro v' w' ⟨hx, a', cap', rfl, hO⟩)
  | ((show WL _ _ _ (⟨_, .call ⟨.value (.func 78), _, _⟩, _, _, _, _⟩ :: _) _ _ _); apply WL.call; (iterate 4 exact rfl); exact slices_CloneI _ _ c.bads.2.2 _ (Rb.ext extA) nb (by omega); rintro v' w' ⟨hx, a', cap', rfl, hO⟩)
  | ((show WL _ _ _ (⟨_, .call ⟨.value (.func 78), _, _⟩, _, _, _, _⟩ :: _) _ _ _); apply WL.call; (iterate 4 exact rfl); exact slices_CloneI _ _ c.cons.2.2 _ (Rn.ext extA) nn (by omega); rintro v' w' ⟨hx, a', cap', rfl, hO⟩)
  | (apply WL.storeF (w0 := w) tOk; (iterate 4 exact rfl); assumption; (exact extA); (iterate 4 exact rfl); (exact extA); (assumption); intro w' hb hX' hU; replace hS := Sep.updCell (i := 8) rfl hU hb hS extA (by (exact Below.size extA)); (try simp only [List.set_cons_zero, List.set_cons_succ] at hS); (try have hD0 := (cells_heap hC0).1); (try have hE0 := (cells_heap hC0).2.1); (try have hF0 := (cells_heap hC0).2.2.1); (try have hG0 := (cells_heap hC0).2.2.2.1); (try have hD1 := (cells_heap hC1).1); (try have hE1 := (cells_heap hC1).2.1); (try have hF1 := (cells_heap hC1).2.2.1); (try have hG1 := (cells_heap hC1).2.2.2.1); (try have hD4 := (cells_heap hC4).1); (try have hE4 := (cells_heap hC4).2.1); (try have hF4 := (cells_heap hC4).2.2.1); (try have hG4 := (cells_heap hC4).2.2.2.1))
  | (show WL _ _ _ _ _ _ _; first | apply WL.nil | (refine WL.au (k := ?_)))
  | (show Z _ _ _ _ _; apply Z.then_normal)
  | (show W _ _ _ _ _ _; first | apply W.seq | apply W.region)
  | fail)
 obtain ⟨w3, rfl⟩ : ∃ x, x = w' := ⟨_, rfl⟩
 obtain ⟨d, hd⟩ : ∃ d : Circ, d = ⟨c.max, (ar1_2, cr1_2, c.ins.2.2), (ar1_5, cr1_5, c.lat.2.2), (ar2_2, cr2_2, c.outs.2.2), (ar2_5, cr2_5, c.bads.2.2), (ar2_8, cr2_8, c.cons.2.2), (ar1_8, cr1_8, c.gates.2.2), (ar1_11, cr1_11, c.syms.2.2), c.com⟩ := ⟨_, rfl⟩
 have hS' : Lt.Sep w.heap.size w3 ([prowZ 1 encI 3 w.heap.size ar2_8 cr2_8 c.cons.2.2, prowZ 1 encI 3 w.heap.size ar2_5 cr2_5 c.bads.2.2, prowZ 1 encI 3 w.heap.size ar2_2 cr2_2 c.outs.2.2, prowZ 3 encY 119 w.heap.size ar1_11 cr1_11 c.syms.2.2, prowZ 3 enc3 86 w.heap.size ar1_8 cr1_8 c.gates.2.2, prowZ 3 enc3 69 w.heap.size ar1_5 cr1_5 c.lat.2.2, prowZ 1 encI 3 w.heap.size ar1_2 cr1_2 c.ins.2.2, pcell g2 (Value.cells (.agg #[.int .i64 0, .slice none 0 0, .slice none 0 0, .slice none 0 0, .slice none 0 0, .slice none 0 0, .slice none 0 0, .slice none 0 0, .string ⟨#[]⟩])) 27, pcell gc d.vals.toArray 27]) := by rw [hd]; exact hS
 have hps : d.ps w.heap.size = [prowZ 3 encY 119 w.heap.size ar1_11 cr1_11 c.syms.2.2, prowZ 3 enc3 86 w.heap.size ar1_8 cr1_8 c.gates.2.2, prowZ 3 enc3 69 w.heap.size ar1_5 cr1_5 c.lat.2.2, prowZ 1 encI 3 w.heap.size ar2_8 cr2_8 c.cons.2.2, prowZ 1 encI 3 w.heap.size ar2_5 cr2_5 c.bads.2.2, prowZ 1 encI 3 w.heap.size ar2_2 cr2_2 c.outs.2.2, prowZ 1 encI 3 w.heap.size ar1_2 cr1_2 c.ins.2.2] := by rw [hd]; rfl
 have hcap : CapC d := by
  rw [hd]
  exact ⟨⟨hOr1_2.capLe, hOr1_2.noneCap⟩, ⟨hOr1_5.capLe, hOr1_5.noneCap⟩, ⟨hOr2_2.capLe, hOr2_2.noneCap⟩, ⟨hOr2_5.capLe, hOr2_5.noneCap⟩, ⟨hOr2_8.capLe, hOr2_8.noneCap⟩, ⟨hOr1_8.capLe, hOr1_8.noneCap⟩, ⟨hOr1_11.capLe, hOr1_11.noneCap⟩⟩
 have hdt : d.t = c.t := by rw [hd]
 have hcd : Cells w3 gc 0 d.vals := cells_heap (hS'.cell (i := 8) rfl)
 have hc7 := hS'.cell (i := 7) rfl
 have hg2 : w.heap.size ≤ g2 := (hS'.lt (i := 7) rfl rfl).1
 have hX4 : Ext w w3 := extA
 clear hd
 repeat' (first
  | (apply WL.storeB (w0 := w) tOk; (iterate 4 exact rfl); assumption; (exact extA); (iterate 3 exact rfl); (exact extA); (assumption); intro w' hb hc hX' hU; have hcc := hc; obtain ⟨h1, h2, _⟩ := hc)
  | (show WL _ _ _ _ _ _ _; first | apply WL.nil | (refine WL.au (k := ?_)))
  | (show Z _ _ _ _ _; apply Z.then_normal)
  | (show W _ _ _ _ _ _; apply W.ret)
  | fail)
 refine Z.bodyC tOk Tryz.results47 rfl rfl rfl rfl (cells_heap hb) fun m => ⟨Ext.at extA m, d, rfl, hdt, ⟨?_, hcap⟩⟩
 have hS5 := hS'.updCell (i := 7) rfl hU hb (Ext.refl _) (Below.size hX4)
 rw [hps]
 exact (Sep.perm7 hS5).ext ((Ext.refl _).at m)
end Go.Proofs.YteidpnpbfagaeaaGreat
namespace Go.Proofs.YteidpnpbfagaeaaGreat
open Go Go.Lt Go.RowKit
set_option linter.unusedVariables false
set_option linter.unusedSimpArgs false
set_option maxRecDepth 20000

theorem fill_setU {l : List Int} {k L : Nat} (hl : l.length = k) (hk : k < L) (z : Int) : (l ++ List.replicate (L - k) 0).set k z = l ++ [z] ++ List.replicate (L - (k + 1)) 0 := by
 rw [show L - k = (L - (k + 1)) + 1 by omega, List.replicate_succ, List.set_append_right _ _ (by omega), hl, Nat.sub_self]; simp
theorem fill_setU2 {l r : List Int} {k : Nat} (hl : l.length = k) (y z : Int) : (l ++ [y] ++ r).set k z = l ++ [z] ++ r := by
 rw [List.append_assoc, List.set_append_right _ _ (by omega), hl, Nat.sub_self]; simp
theorem Known.frz {α : Type} {s : Nat} {enc : α → List Value} {el b cap : Nat} {w0 w2 : World} {a : Option Addr} {l : List α} (hE : Enc s enc) (h : Own s enc el b w2 a cap l) : Known w0 (frz b w2) (fun w => Row s enc w a l) := fun w _ hR => by
 refine (h.row hE).keep fun k hk => ?_
 obtain ⟨h1, h2⟩ := h.blk_lt k hk
 have hm : pfro k (w2.heap[k]?) ∈ Lt.frz b w2 := by
  unfold Lt.frz
  exact List.mem_map.2 ⟨k - b, List.mem_range.2 (by omega), by simp only [show b + (k - b) = k by omega]⟩
 exact hR _ hm
theorem Sep.unOrd {B : Nat} {w : World} {pf ps s0 s1 s2 : Piece} {rs : List Piece} (hS : Lt.Sep B w (ps :: pf :: s0 :: s1 :: s2 :: rs)) : Lt.Sep B w (s0 :: s1 :: s2 :: pf :: ps :: rs) :=
 Sep.ofPerm (by
  refine (List.Perm.append_right rs (l₁ := [ps, pf, s0, s1, s2]) (l₂ := [s0, s1, s2, pf, ps]) ?_)
  exact (List.perm_append_comm (l₁ := [ps, pf]) (l₂ := [s0, s1, s2])).trans (List.Perm.append_left [s0, s1, s2] (List.Perm.swap pf ps []))) hS
theorem Sep.unOrd2 {B : Nat} {w : World} {e st s0 s1 s2 pf : Piece} {rs : List Piece} (hS : Lt.Sep B w (e :: st :: s0 :: s1 :: s2 :: pf :: rs)) : Lt.Sep B w (s0 :: s1 :: s2 :: pf :: e :: st :: rs) :=
 Sep.ofPerm (List.Perm.append_right rs (l₁ := [e, st, s0, s1, s2, pf]) (l₂ := [s0, s1, s2, pf, e, st]) (List.perm_append_comm (l₁ := [e, st]) (l₂ := [s0, s1, s2, pf]))) hS
abbrev unV0 (d : Circ) (v9 v10 v11 v12 v13 : Value) : List Value := [.int .i64 d.max, rowVal d.ins, rowVal d.lat, rowVal d.outs, rowVal d.bads, rowVal d.cons, rowVal d.gates, rowVal d.syms, .string d.com, v9, v10, v11, v12, v13]
theorem un_NewE (c : Circ) (free : Bool) (w : World) (hC : CAt w c) (hz : SzC c.t 100000) (hb : ¬ GoodC' c.t) : Pure Tryz.prog 17 [c.val, .bool free] w (.tuple #[.pointer none, .int .i64 (chkC c.t)]) := by
 have hne : ¬ chkC c.t = 0 := fun h => hb (chkC_good.1 h)
 refine Spec.of _ Tryz.func17 rfl Tryz.ntmps17 (by kernel_rfl) rfl ?_
 repeat' (first
  | (apply WL.box; (iterate 3 exact rfl); intro gb w' hb hge hc hx; have hcc := hc; ((obtain ⟨h1, h2, h3, _⟩ := hc)); (obtain ⟨gc, rfl⟩ : ∃ x, x = gb := ⟨_, rfl⟩; obtain ⟨wc, rfl⟩ : ∃ x, x = w' := ⟨_, rfl⟩; obtain ⟨hxc, rfl⟩ : ∃ x, x = hx := ⟨_, rfl⟩; have hcells : Cells wc gc 0 c.vals := hcc))
  | ((show WL _ _ _ (⟨_, .call ⟨.value (.func 46), _, _⟩, _, _, _, _⟩ :: _) _ _ _); apply WL.callP; (iterate 4 exact rfl); exact circ_Check c _ (hC.ext extA) hz; intro w' hx)
  | (apply W.condKT; exact rfl; (focus (exact dec_true hne)))
  | (show WL _ _ _ _ _ _ _; first | apply WL.nil | (refine WL.au (k := ?_)))
  | (show Z _ _ _ _ _; first | apply Z.then_normal | apply Z.then_ret)
  | (show W _ _ _ _ _ _; first | apply W.seq | apply W.region | apply W.ret)
  | fail)
 exact Z.body2 Tryz.results17 rfl rfl fun m => ⟨rfl, Ext.at extA m⟩
set_option maxHeartbeats 16000000 in
theorem un_New (c : Circ) (free : Bool) (w : World) (hC : CAt w c) (hg : GoodC' c.t) (hz : SzC c.t 100000) (hz2 : c.t.syms.length ≤ 100000) :
  Lt.Spec Tryz.prog 17 [c.val, .bool free] w (fun v w' => ∃ w0 m x, Ext w w0 ∧ v = .tuple #[.pointer (some ⟨m.gf, 0, none⟩), .int .i64 0] ∧ m.d.t = c.t ∧ UAt w0 w' m (newU c.t free) x []) := by
 have z2 : c.lat.2.2.length ≤ 100000 := hz.2.1
 have hck : chkC c.t = 0 := chkC_good.2 hg
 have hcp := fun (w9 : World) (h9 : Ext w w9) => circ_Check c w9 (hC.ext h9) hz
 rw [hck] at hcp
 refine Spec.of _ Tryz.func17 rfl Tryz.ntmps17 (by kernel_rfl) rfl ?_
 repeat' (first
  | (apply WL.box; (iterate 3 exact rfl); intro gb w' hb hge hc hx; have hcc := hc; ((obtain ⟨h1, h2, h3, _⟩ := hc)); (first | (have h_0 := hcells; clear h_0; obtain ⟨gf, rfl⟩ : ∃ x, x = gb := ⟨_, rfl⟩; obtain ⟨w4, rfl⟩ : ∃ x, x = w' := ⟨_, rfl⟩; obtain ⟨hx4, rfl⟩ : ∃ x, x = hx := ⟨_, rfl⟩; obtain ⟨hge4, rfl⟩ : ∃ x, x = hge := ⟨_, rfl⟩; have hb4 : w4.heap[gf]? = some (.cells (unV0 d (.slice none 0 0) (.slice none 0 0) (.pointer (some ⟨gs, 0, none⟩)) (.slice none 0 0) (.slice none 0 0)).toArray 100 (0, 0)) := hb; clear hb hcc h1 h2 h3) | (obtain ⟨gc, rfl⟩ : ∃ x, x = gb := ⟨_, rfl⟩; obtain ⟨wc, rfl⟩ : ∃ x, x = w' := ⟨_, rfl⟩; obtain ⟨hxc, rfl⟩ : ∃ x, x = hx := ⟨_, rfl⟩; have hcells : Cells wc gc 0 c.vals := hcc)))
  | (apply WL.callP; (iterate 4 exact rfl); exact hcp _ extA; intro w' hx)
  | (apply W.condKF; exact rfl; (focus (exact dec_false (show ¬ (0 : Int) ≠ 0 from fun h => h rfl); done)))
  | (((show WL _ _ _ (⟨_, .call ⟨.value (.func 47), _, _⟩, _, _, _, _⟩ :: _) _ _ _); apply WL.call; (iterate 4 exact rfl); exact circ_Clone c _ (hC.ext extA) hz hz2; rintro v' w2 ⟨hx2, d, rfl, hdt, hOC⟩))
  | (((show WL _ _ _ (⟨_, .call ⟨.value (.func 48), _, _⟩, _, _, _, _⟩ :: _) _ _ _); apply WL.call; (iterate 4 exact rfl); exact aig_NewV w2 w2 [] (Ext.refl _) Sep.none'; rintro v' w3 ⟨hx3, gs, r, rfl, hS⟩))
  | (apply WL.build tOk; (iterate 7 exact rfl); kernel_rfl)
  | (((show WL _ _ _ (⟨_, .call ⟨.value (.func 49), _, _⟩, _, _, _, _⟩ :: _) _ _ _); apply WL.call; (iterate 4 exact rfl); exact circ_Net c _ (hC.ext extA) hg hz; rintro v' w5 ⟨hx5, aN, cN, aA, cA, rfl, hON, hOA⟩; have hgf : w2.heap.size ≤ gf := Nat.le_trans (Below.size hx3) hge4; have hS4 := Sep.newCell hS hx4 hb4 hge4 (Below.size hx3); have hS5 := Sep.freeze hS4 hx5 (Below.size (hx3.trans hx4)); have hb5 := hS5.cell (i := 0) rfl))
  | (apply WL.nilc; (iterate 3 exact rfl))
  | ((first | (have h_0 := hU6; clear h_0; apply WL.storeF (w0 := w2) tOk; (iterate 4 exact rfl); exact hb6; exact Ext.refl _; (iterate 4 exact rfl); exact extA; exact hgf; intro w7 hb7 hX7 hU7) | (apply WL.storeF (w0 := w2) tOk; (iterate 4 exact rfl); exact hb5; exact Ext.refl _; (iterate 4 exact rfl); exact extA; exact hgf; intro w6 hb6 hX6 hU6)))
  | (apply WL.makeC (w0 := w2) (z := (0:Int)) tOk; (iterate 9 exact rfl); exact encI_ok; exact rfl; exact rfl; (exact extA); (omega); intro gb w' hO hge hx; (obtain ⟨gl, rfl⟩ : ∃ x, x = gb := ⟨_, rfl⟩; obtain ⟨w8, rfl⟩ : ∃ x, x = w' := ⟨_, rfl⟩; obtain ⟨hOL, rfl⟩ : ∃ x, x = hO := ⟨_, rfl⟩; obtain ⟨hgeL, rfl⟩ : ∃ x, x = hge := ⟨_, rfl⟩; obtain ⟨hxL, rfl⟩ : ∃ x, x = hx := ⟨_, rfl⟩))
  | (show WL _ _ _ _ _ _ _; first | apply WL.nil | (refine WL.au (k := ?_)))
  | (show Z _ _ _ _ _; apply Z.then_normal)
  | (show W _ _ _ _ _ _; first | apply W.seq | apply W.region | apply W.block | apply W.skip)
  | fail)
 have hlt2 : (c.lat.2.2.length : Int).toNat = c.lat.2.2.length := Int.toNat_natCast _
 have hlt3 : (List.replicate (c.lat.2.2.length : Int).toNat (0 : Int)).length = c.lat.2.2.length := by rw [List.length_replicate, hlt2]
 have hdn : cNet c.t = cNet d.t := by rw [hdt]
 have hdl : d.t.lat = c.lat.2.2 := congrArg CirT.lat hdt
 obtain ⟨m, hm⟩ : ∃ m : UM, m = ⟨gf, gs, r, d, aN, cN, aA, cA⟩ := ⟨_, rfl⟩
 have hX27 : Ext w2 w7 := hX7
 have hX8 : Ext w2 w8 := hX27.trans hxL
 have hS6 := Sep.updCell (i := 0) rfl hU6 hb6 hS5 (Ext.refl _) (Below.size ((hx3.trans hx4).trans hx5))
 have hS7 := Sep.updCell (i := 0) rfl hU7 hb7 hS6 (Ext.refl _) (Below.size hX6)
 have hS8 := Sep.newRow hS7 hxL (hOL.base (Nat.le_refl _)) (fun k hk => by cases hk; exact hgeL) (Below.size hX27)
 have hS8' : Lt.Sep w2.heap.size w8 (stN w2.heap.size gs none 0 r [] ++ (pcell gf (m.vals none 0 0 none 0 0).toArray 100 :: prow 1 encI 3 w2.heap.size (some ⟨gl, 0, none⟩) c.lat.2.2.length (List.replicate c.lat.2.2.length 0) :: Lt.frz w4.heap.size w5)) := by
  have e : m.vals none 0 0 none 0 0 = unV0 d (.slice aN (cNet c.t).1.length cN) (.slice aA (cNet c.t).2.length cA) (.pointer (some ⟨gs, 0, none⟩)) (.slice none 0 0) (.slice none 0 0) := by rw [hm, hdn]
  rw [e]
  have hS9 := Sep.unOrd hS8
  rw [hlt2] at hS9
  exact hS9
 have hgc := hC.lat.row
 have e00 : firstTo c.t free 0 = ([], []) := rfl
 have hcl : ∀ x ∈ c.lat.2.2, x.2.2 = 0 ∨ x.2.2 = 1 ∨ x.2.2 = x.1 := hg.res
 refine W.loopO c.lat.2.2.length (fun k a cp w' => k ≤ c.lat.2.2.length ∧ Ext w2 w' ∧ Lt.Sep w2.heap.size w' (stN w2.heap.size gs a cp r (firstTo c.t free k).2 ++ (pcell gf (m.vals none 0 0 none 0 0).toArray 100 :: prow 1 encI 3 w2.heap.size (some ⟨gl, 0, none⟩) c.lat.2.2.length ((firstTo c.t free k).1 ++ List.replicate (c.lat.2.2.length - k) 0) :: Lt.frz w4.heap.size w5)))
  (fun k a cp => [(1, .bool free), (7, .pointer (some ⟨gf, 0, none⟩)), (8, .slice (some ⟨gl, 0, none⟩) c.lat.2.2.length c.lat.2.2.length), (37, rowVal c.lat), (38, .int .i64 c.lat.2.2.length), (39, .int .i64 k)]) none 0 ⟨Nat.zero_le _, hX8, by rw [e00]; exact hS8'⟩ (fun k a cp w' h => h.1) (by repeat' first | exact trivial | (refine And.intro ?_ ?_) | exact rfl | (rw [hlt3]; exact rfl)) ?_
 clear hS hS4 hS5 hS6 hS7 hS8 hS8' hb4 hb5 hb6 hb7 hU6 hU7 hOL hX6 hX7 hcells
 have hst9 : ∀ (w9 : World) (ps : List Piece), Lt.Sep w2.heap.size w9 ps → ps[3]? = some (pcell gf (m.vals none 0 0 none 0 0).toArray 100) → w9.cell? ⟨gf, 0 + 11, none⟩ = some (.pointer (some ⟨gs, 0, none⟩)) := fun w9 ps h1 h2 => by
  have h3 := (UC.of (m := m) (cells_heap (by rw [show m.gf = gf by rw [hm]]; exact h1.cell h2))).store
  rw [hm] at h3; exact h3
 rintro k a cp w9 ⟨hk, hX9, hS⟩
 obtain ⟨f1, f2, _, _⟩ := firstTo_inv hg free k hk
 have hgl9 : gl < w9.heap.size := (hS.lt (i := 4) rfl rfl).2
 by_cases hlt : k < c.lat.2.2.length
 ·obtain ⟨t, ht⟩ := getI c.lat.2.2 hlt
  have RL := hgc.ext ((((hxc.trans hx).trans hx2).trans hX9))
  have hs := firstTo_succ (c := c.t) (free := free) ht
  have hll : ((firstTo c.t free k).1 ++ List.replicate (c.lat.2.2.length - k) (0 : Int)).length = c.lat.2.2.length := by rw [List.length_append, f1, List.length_replicate]; omega
  obtain ⟨y, hy⟩ := getI ((firstTo c.t free k).1 ++ List.replicate (c.lat.2.2.length - k) (0 : Int)) (show k < _ by omega)
  have hy2 : (((firstTo c.t free k).1 ++ List.replicate (c.lat.2.2.length - k) (0 : Int)).set (k : Int).toNat t.2.2)[(k : Int).toNat]? = some t.2.2 := by rw [Int.toNat_natCast, List.getElem?_set_self (by omega)]
  (try simp only [List.set_cons_zero, List.set_cons_succ] at hS); (try have hR1 := hS.row (i := 1) rfl); (try have hR4 := hS.row (i := 4) rfl); (try have hC0 := hS.cell (i := 0) rfl); (try have hD0 := (cells_heap hC0).1); (try have hE0 := (cells_heap hC0).2.1); (try have hC3 := hS.cell (i := 3) rfl); (try have hD3 := (cells_heap hC3).1); (try have hE3 := (cells_heap hC3).2.1); (try have hF3 := (cells_heap hC3).2.2.1); (try have hG3 := (cells_heap hC3).2.2.2.1); (try have hM2 := hS.map (i := 2) rfl)
  rcases (show (free = true) ∨ (free = false ∧ 1 < t.2.2) ∨ (free = false ∧ ¬ 1 < t.2.2) by cases free <;> by_cases h : 1 < t.2.2 <;> simp [h]) with q0 | ⟨q0, q1⟩ | ⟨q0, q1⟩
  ·have e1 : firstTo c.t free (k + 1) = _ := hs.trans (fstep_in (.inl q0))
   repeat' (first
    | (apply WL.gT; exact rfl; exact rfl; (focus (exact q0; done)))
    | (apply W.condKT; exact rfl; (focus (exact dec_true (by omega))))
    | (apply WL.alloc tOk; (iterate 3 exact rfl); intro gb w' hb hge hx)
    | (apply WL.storeB (w0 := w2) tOk; (iterate 4 exact rfl); assumption; (exact extA); (iterate 3 exact rfl); (exact extA); ((focus (apply Nat.le_trans; rotate_left; assumption; exact Below.size extA; done))); intro w' hb hc hX' hU; have hcc := hc; obtain ⟨h1, h2, _⟩ := hc; (replace hS := Sep.updNew hS extA hU (by first | assumption | omega)); (try simp only [List.set_cons_zero, List.set_cons_succ] at hS); (try have hR1 := hS.row (i := 1) rfl); (try have hR4 := hS.row (i := 4) rfl); (try have hC0 := hS.cell (i := 0) rfl); (try have hD0 := (cells_heap hC0).1); (try have hE0 := (cells_heap hC0).2.1); (try have hC3 := hS.cell (i := 3) rfl); (try have hD3 := (cells_heap hC3).1); (try have hE3 := (cells_heap hC3).2.1); (try have hF3 := (cells_heap hC3).2.2.1); (try have hG3 := (cells_heap hC3).2.2.2.1); (try have hM2 := hS.map (i := 2) rfl); (obtain ⟨e1', e2', e3', _⟩ := hcc; have hb10 := hb; have hne10 : gb ≠ gl := by omega))
    | (apply WL.nilc; (iterate 3 exact rfl))
    | (apply WL.indexO tOk; (iterate 8 exact rfl); assumption; (exact extA); exact encI_ok; (first | omega | (focus (simp only [List.length_set]; omega))); omega; assumption; intro gb ha hc; cases ha; have hcc := hc; first | (obtain ⟨h1, h2, h3, _⟩ := hc) | (obtain ⟨h1, h2, _⟩ := hc) | (obtain ⟨h1, _⟩ := hc))
    | (apply WL.storeO tOk; (iterate 4 exact rfl); assumption; (exact extA); (iterate 3 exact rfl); exact encI_ok; assumption; exact rfl; (exact extA); intro w' hO hX' hU; (replace hS := Sep.updRow (i := 4) rfl hU hO (.inl rfl) hS extA (by (exact Below.size extA))); (try simp only [List.set_cons_zero, List.set_cons_succ] at hS); (try have hR1 := hS.row (i := 1) rfl); (try have hR4 := hS.row (i := 4) rfl); (try have hC0 := hS.cell (i := 0) rfl); (try have hD0 := (cells_heap hC0).1); (try have hE0 := (cells_heap hC0).2.1); (try have hC3 := hS.cell (i := 3) rfl); (try have hD3 := (cells_heap hC3).1); (try have hE3 := (cells_heap hC3).2.1); (try have hF3 := (cells_heap hC3).2.2.1); (try have hG3 := (cells_heap hC3).2.2.2.1); (try have hM2 := hS.map (i := 2) rfl); (first | (have h10 := hU.heap hb10 hne10; obtain ⟨e1', e2', e3', _⟩ := cells_heap h10) | skip))
    | ((show WL _ _ _ (⟨_, .load 96 _, _, _, _, _⟩ :: _) _ _ _; apply WL.load tOk; (iterate 5 exact rfl); exact hst9 _ _ hS rfl))
    | (((show WL _ _ _ (⟨_, .call ⟨.value (.func 50), _, _⟩, _, _, _, _⟩ :: _) _ _ _); apply WL.call; (iterate 4 exact rfl); exact aig_InputV gs r _ _ (firstTo c.t free k).2 _ _ w2 (by assumption) hS (by omega); rintro v' w8 ⟨hX8', a8, cap8, rfl, hS⟩; (try simp only [List.set_cons_zero, List.set_cons_succ] at hS); (try have hR1 := hS.row (i := 1) rfl); (try have hR4 := hS.row (i := 4) rfl); (try have hC0 := hS.cell (i := 0) rfl); (try have hD0 := (cells_heap hC0).1); (try have hE0 := (cells_heap hC0).2.1); (try have hC3 := hS.cell (i := 3) rfl); (try have hD3 := (cells_heap hC3).1); (try have hE3 := (cells_heap hC3).2.1); (try have hF3 := (cells_heap hC3).2.2.1); (try have hG3 := (cells_heap hC3).2.2.2.1); (try have hM2 := hS.map (i := 2) rfl)))
    | (show WL _ _ _ _ _ _ _; first | apply WL.nil | (refine WL.au (k := ?_)) | (apply WL.index tOk; (iterate 8 exact rfl); assumption; (exact extA); exact rfl; omega; assumption; intro b off h; have hcc := h; first | (obtain ⟨h1, h2, h3, h4, h5, h6, _⟩ := h) | (obtain ⟨h1, h2, h3, _⟩ := h) | (obtain ⟨h1, h2, _⟩ := h) | (obtain ⟨h1, _⟩ := h)) | (apply WL.guardF; exact rfl; exact rfl))
    | (show Z _ _ _ _ _; first | apply Z.then_normal | apply Z.block_normal)
    | (show W _ _ _ _ _ _; first | apply W.seq | apply W.region | apply W.block | apply W.skip | (apply W.condT; exact rfl))
    | fail)
   rw [Int.toNat_natCast, fill_setU f1 hlt, fill_setU2 f1] at hS
   exact Z.againO a8 cap8 ⟨by omega, by assumption, by rw [e1]; exact hS⟩ (by repeat' first | exact trivial | (refine And.intro ?_ ?_) | exact rfl)
  ·subst q0
   have e1 : firstTo c.t false (k + 1) = _ := hs.trans (fstep_in (.inr q1))
   repeat' (first
    | (apply W.condKT; exact rfl; (focus (exact dec_true (by omega))))
    | (apply WL.alloc tOk; (iterate 3 exact rfl); intro gb w' hb hge hx)
    | (apply WL.storeB (w0 := w2) tOk; (iterate 4 exact rfl); assumption; (exact extA); (iterate 3 exact rfl); (exact extA); ((focus (apply Nat.le_trans; rotate_left; assumption; exact Below.size extA; done))); intro w' hb hc hX' hU; have hcc := hc; obtain ⟨h1, h2, _⟩ := hc; (replace hS := Sep.updNew hS extA hU (by first | assumption | omega)); (try simp only [List.set_cons_zero, List.set_cons_succ] at hS); (try have hR1 := hS.row (i := 1) rfl); (try have hR4 := hS.row (i := 4) rfl); (try have hC0 := hS.cell (i := 0) rfl); (try have hD0 := (cells_heap hC0).1); (try have hE0 := (cells_heap hC0).2.1); (try have hC3 := hS.cell (i := 3) rfl); (try have hD3 := (cells_heap hC3).1); (try have hE3 := (cells_heap hC3).2.1); (try have hF3 := (cells_heap hC3).2.2.1); (try have hG3 := (cells_heap hC3).2.2.2.1); (try have hM2 := hS.map (i := 2) rfl); (obtain ⟨e1', e2', e3', _⟩ := hcc; have hb10 := hb; have hne10 : gb ≠ gl := by omega))
    | (apply WL.nilc; (iterate 3 exact rfl))
    | (apply WL.indexO tOk; (iterate 8 exact rfl); assumption; (exact extA); exact encI_ok; ((focus (simp [*]; done))); omega; assumption; intro gb ha hc; cases ha; have hcc := hc; first | (obtain ⟨h1, h2, h3, _⟩ := hc) | (obtain ⟨h1, h2, _⟩ := hc) | (obtain ⟨h1, _⟩ := hc))
    | (apply WL.storeO tOk; (iterate 4 exact rfl); assumption; (exact extA); (iterate 3 exact rfl); exact encI_ok; assumption; exact rfl; (exact extA); intro w' hO hX' hU; (replace hS := Sep.updRow (i := 4) rfl hU hO (.inl rfl) hS extA (by (exact Below.size extA))); (try simp only [List.set_cons_zero, List.set_cons_succ] at hS); (try have hR1 := hS.row (i := 1) rfl); (try have hR4 := hS.row (i := 4) rfl); (try have hC0 := hS.cell (i := 0) rfl); (try have hD0 := (cells_heap hC0).1); (try have hE0 := (cells_heap hC0).2.1); (try have hC3 := hS.cell (i := 3) rfl); (try have hD3 := (cells_heap hC3).1); (try have hE3 := (cells_heap hC3).2.1); (try have hF3 := (cells_heap hC3).2.2.1); (try have hG3 := (cells_heap hC3).2.2.2.1); (try have hM2 := hS.map (i := 2) rfl); (first | (have h10 := hU.heap hb10 hne10; obtain ⟨e1', e2', e3', _⟩ := cells_heap h10) | skip))
    | ((show WL _ _ _ (⟨_, .load 96 _, _, _, _, _⟩ :: _) _ _ _; apply WL.load tOk; (iterate 5 exact rfl); exact hst9 _ _ hS rfl))
    | (((show WL _ _ _ (⟨_, .call ⟨.value (.func 50), _, _⟩, _, _, _, _⟩ :: _) _ _ _); apply WL.call; (iterate 4 exact rfl); exact aig_InputV gs r _ _ (firstTo c.t false k).2 _ _ w2 (by assumption) hS (by omega); rintro v' w8 ⟨hX8', a8, cap8, rfl, hS⟩; (try simp only [List.set_cons_zero, List.set_cons_succ] at hS); (try have hR1 := hS.row (i := 1) rfl); (try have hR4 := hS.row (i := 4) rfl); (try have hC0 := hS.cell (i := 0) rfl); (try have hD0 := (cells_heap hC0).1); (try have hE0 := (cells_heap hC0).2.1); (try have hC3 := hS.cell (i := 3) rfl); (try have hD3 := (cells_heap hC3).1); (try have hE3 := (cells_heap hC3).2.1); (try have hF3 := (cells_heap hC3).2.2.1); (try have hG3 := (cells_heap hC3).2.2.2.1); (try have hM2 := hS.map (i := 2) rfl)))
    | (show WL _ _ _ _ _ _ _; first | apply WL.nil | (refine WL.au (k := ?_)) | (apply WL.index tOk; (iterate 8 exact rfl); assumption; (exact extA); exact rfl; omega; assumption; intro b off h; have hcc := h; first | (obtain ⟨h1, h2, h3, h4, h5, h6, _⟩ := h) | (obtain ⟨h1, h2, h3, _⟩ := h) | (obtain ⟨h1, h2, _⟩ := h) | (obtain ⟨h1, _⟩ := h)))
    | (show Z _ _ _ _ _; first | apply Z.then_normal | apply Z.block_normal)
    | (show W _ _ _ _ _ _; first | apply W.seq | apply W.region | apply W.block | apply W.skip)
    | fail)
   rw [Int.toNat_natCast, fill_setU f1 hlt, fill_setU2 f1] at hS
   exact Z.againO a8 cap8 ⟨by omega, by assumption, by rw [e1]; exact hS⟩ (by repeat' first | exact trivial | (refine And.intro ?_ ?_) | exact rfl)
  ·subst q0
   have e1 : firstTo c.t false (k + 1) = _ := hs.trans (fstep_no (fun hh => hh.elim (fun h => by cases h) q1))
   repeat' (first
    | (apply W.condKT; exact rfl; (focus (exact dec_true (by omega))))
    | (apply W.condKF; exact rfl; (focus (exact dec_false q1; done)))
    | (apply WL.alloc tOk; (iterate 3 exact rfl); intro gb w' hb hge hx)
    | (apply WL.storeB (w0 := w2) tOk; (iterate 4 exact rfl); assumption; (exact extA); (iterate 3 exact rfl); (exact extA); ((focus (apply Nat.le_trans; rotate_left; assumption; exact Below.size extA; done))); intro w' hb hc hX' hU; have hcc := hc; obtain ⟨h1, h2, _⟩ := hc; (replace hS := Sep.updNew hS extA hU (by first | assumption | omega)); (try simp only [List.set_cons_zero, List.set_cons_succ] at hS); (try have hR1 := hS.row (i := 1) rfl); (try have hR4 := hS.row (i := 4) rfl); (try have hC0 := hS.cell (i := 0) rfl); (try have hD0 := (cells_heap hC0).1); (try have hE0 := (cells_heap hC0).2.1); (try have hC3 := hS.cell (i := 3) rfl); (try have hD3 := (cells_heap hC3).1); (try have hE3 := (cells_heap hC3).2.1); (try have hF3 := (cells_heap hC3).2.2.1); (try have hG3 := (cells_heap hC3).2.2.2.1); (try have hM2 := hS.map (i := 2) rfl); (obtain ⟨e1', e2', e3', _⟩ := hcc; have hb10 := hb; have hne10 : gb ≠ gl := by omega))
    | (apply WL.indexO tOk; (iterate 8 exact rfl); assumption; (exact extA); exact encI_ok; ((focus (simp [*]; done))); omega; assumption; intro gb ha hc; cases ha; have hcc := hc; first | (obtain ⟨h1, h2, h3, _⟩ := hc) | (obtain ⟨h1, h2, _⟩ := hc) | (obtain ⟨h1, _⟩ := hc))
    | (apply WL.storeO tOk; (iterate 4 exact rfl); assumption; (exact extA); (iterate 3 exact rfl); exact encI_ok; assumption; exact rfl; (exact extA); intro w' hO hX' hU; (replace hS := Sep.updRow (i := 4) rfl hU hO (.inl rfl) hS extA (by (exact Below.size extA))); (try simp only [List.set_cons_zero, List.set_cons_succ] at hS); (try have hR1 := hS.row (i := 1) rfl); (try have hR4 := hS.row (i := 4) rfl); (try have hC0 := hS.cell (i := 0) rfl); (try have hD0 := (cells_heap hC0).1); (try have hE0 := (cells_heap hC0).2.1); (try have hC3 := hS.cell (i := 3) rfl); (try have hD3 := (cells_heap hC3).1); (try have hE3 := (cells_heap hC3).2.1); (try have hF3 := (cells_heap hC3).2.2.1); (try have hG3 := (cells_heap hC3).2.2.2.1); (try have hM2 := hS.map (i := 2) rfl); ((have h10 := hU.heap hb10 hne10; obtain ⟨e1', e2', e3', _⟩ := cells_heap h10)))
    | (show WL _ _ _ _ _ _ _; first | apply WL.nil | (refine WL.au (k := ?_)) | (apply WL.index tOk; (iterate 8 exact rfl); assumption; (exact extA); exact rfl; omega; assumption; intro b off h; have hcc := h; first | (obtain ⟨h1, h2, h3, h4, h5, h6, _⟩ := h) | (obtain ⟨h1, h2, h3, _⟩ := h) | (obtain ⟨h1, h2, _⟩ := h) | (obtain ⟨h1, _⟩ := h)))
    | (show Z _ _ _ _ _; first | apply Z.then_normal | apply Z.block_normal)
    | (show W _ _ _ _ _ _; first | apply W.seq | apply W.region | apply W.block | apply W.skip)
    | fail)
   rw [Int.toNat_natCast, fill_setU f1 hlt] at hS
   exact Z.againO a cp ⟨by omega, by assumption, by rw [e1]; exact hS⟩ (by repeat' first | exact trivial | (refine And.intro ?_ ?_) | exact rfl)
 ·obtain rfl : k = c.lat.2.2.length := by omega
  obtain ⟨F, hF⟩ : ∃ F, F = firstTo c.t free c.lat.2.2.length := ⟨_, rfl⟩
  rw [← hF] at hS f1 f2
  have e9 : F.1 ++ List.replicate (c.lat.2.2.length - c.lat.2.2.length) (0 : Int) = F.1 := by rw [Nat.sub_self, List.replicate_zero, List.append_nil]
  rw [e9] at hS
  have hb9 := hS.cell (i := 3) (gb := gf) (cs := (m.vals none 0 0 none 0 0).toArray) (t := 100) rfl
  refine W.sub [(7, .pointer (some ⟨gf, 0, none⟩)), (8, .slice (some ⟨gl, 0, none⟩) F.1.length c.lat.2.2.length), (38, .int .i64 c.lat.2.2.length), (39, .int .i64 c.lat.2.2.length)] ⟨rfl, by rw [f1]; rfl, rfl, rfl, trivial⟩ ?_
  repeat' (first
   | (apply W.condKF; exact rfl; (focus (exact dec_false (by omega); done)))
   | (apply WL.lit tOk; (iterate 6 exact rfl); (kernel_rfl); exact rfl; intro gb w' hb hge hc hx; have hO := Own.of_block ([((some ⟨gl, 0, none⟩, c.lat.2.2.length, F.1) : RowV Int)]) encRow_ok hb hge rfl; (obtain ⟨gz, rfl⟩ : ∃ x, x = gb := ⟨_, rfl⟩; obtain ⟨wz, rfl⟩ : ∃ x, x = w' := ⟨_, rfl⟩; obtain ⟨hxz, rfl⟩ : ∃ x, x = hx := ⟨_, rfl⟩; obtain ⟨hOz, rfl⟩ : ∃ x, x = hO := ⟨_, rfl⟩; obtain ⟨hgez, rfl⟩ : ∃ x, x = hge := ⟨_, rfl⟩))
   | (apply WL.nilc; (iterate 3 exact rfl))
   | ((apply WL.storeF (w0 := w2) tOk; (iterate 4 exact rfl); exact hb9; exact extA; (iterate 4 exact rfl); exact extA; exact hgf; intro w10 hb10 hX10 hU10))
   | (show WL _ _ _ _ _ _ _; first | apply WL.nil | (refine WL.au (k := ?_)))
   | (show Z _ _ _ _ _; first | apply Z.then_normal | apply Z.then_exit | apply Z.block_exit)
   | (show W _ _ _ _ _ _; first | apply W.seq | apply W.region | apply W.ret | apply W.exit)
   | fail)
  have hdm : m.d = d := by rw [hm]
  have hS1 := Sep.newRow (s := 1) (enc := encRow) (el := 22) hS hxz (hOz.base (Below.size hX9)) (fun k hk => by cases hk; exact hgez) (Below.size hX9)
  have hS2 := Sep.updCell (i := 4) rfl hU10 hb10 hS1 (Ext.refl _) (Below.size (hX9.trans hxz))
  have hS3 := Sep.newRow (s := 2) (enc := encUF) (el := 107) (a := none) (cap := 0) (l := []) hS2 (Ext.refl _) Own.nil (fun k hk => by cases hk) (Below.size hX10)
  have hS4 : Lt.Sep w2.heap.size w10 (unP w2.heap.size m F.2 a cp none 0 [] (some ⟨gz, 0, none⟩) 1 [(some ⟨gl, 0, none⟩, c.lat.2.2.length, F.1)] (prow 1 encI 3 w2.heap.size (some ⟨gl, 0, none⟩) c.lat.2.2.length F.1 :: Lt.frz w4.heap.size w5) ++ []) := by
   have h9 := Sep.unOrd2 hS3
   rw [List.append_nil, hm]
   rw [hm] at h9
   exact h9
  have hkn : UKn w2 m (newU c.t free) [] [(some ⟨gl, 0, none⟩, c.lat.2.2.length, F.1)] (prow 1 encI 3 w2.heap.size (some ⟨gl, 0, none⟩) c.lat.2.2.length F.1 :: Lt.frz w4.heap.size w5) := by
   refine ⟨rfl, rfl, by rw [hF]; rfl, fun s hs hn => (by rw [List.mem_singleton.1 hs] at hn; cases hn), fun w9' hX' hR => ?_⟩
   have k1 := (Known.frz (w0 := w2) encN_ok hON).more (prow 1 encI 3 w2.heap.size (some ⟨gl, 0, none⟩) c.lat.2.2.length F.1) w9' hX' hR
   have k2 := (Known.frz (w0 := w2) encI_ok hOA).more (prow 1 encI 3 w2.heap.size (some ⟨gl, 0, none⟩) c.lat.2.2.length F.1) w9' hX' hR
   have k3 : Own 1 encI 3 w2.heap.size w9' (some ⟨gl, 0, none⟩) c.lat.2.2.length F.1 := hR _ (List.mem_cons_self ..)
   rw [hdn] at k1 k2
   exact ⟨by rw [hdm]; exact hOC.at.ext hX', by rw [hm]; exact k1, by rw [hm]; exact k2, fun f hf => (by cases hf), fun f hf => (by cases hf), fun s hs => (by rw [List.mem_singleton.1 hs]; exact Own.row encI_ok k3)⟩
  have hN : (newU c.t free).N = F.2 := by rw [hF]; rfl
  exact Z.body2 Tryz.results17 rfl rfl fun m' => ⟨w2, m, ⟨a, cp, none, 0, [], some ⟨gz, 0, none⟩, 1, [(some ⟨gl, 0, none⟩, c.lat.2.2.length, F.1)], prow 1 encI 3 w2.heap.size (some ⟨gl, 0, none⟩) c.lat.2.2.length F.1 :: Lt.frz w4.heap.size w5⟩, (hxc.trans hx).trans hx2, by rw [hm], by rw [hdm, hdt], hX10.at m', by rw [hN]; exact hS4.ext ((Ext.refl _).at m'), hkn⟩
end Go.Proofs.YteidpnpbfagaeaaGreat
namespace Go.Lt
open Go.RowKit
set_option linter.unusedVariables false
set_option linter.unusedSimpArgs false
section
variable {P : Program} {N : Nat} {e : Env} {w : World} {Q : Exit → Act → World → Prop} {C : World → Prop} {Kf : Act → Prop} {ops : List Oper} {l : List Oper} {T T' : Tab}
 {d : Nat} {tt t ty : TypeId} {ps : String} {af : Array Edge} {g : Option (Nat × Bool)} {x y : Operand} {ti ei : TI} {el : TypeId} {n : Nat}
theorem ybuildA (hT : OkTab P T) (hT' : OkTab P T') {parts : List (Nat × Operand)} {pvs : List (Nat × Value)} {cs : List Value} {dd : Option Tmp} (ht : tget T t = some ti) (htd : ti.desc = .array n el) (he : tget T' el = some ei)
  (hp : evp e parts = some pvs) (hfill : Instr.fill (fun i : Nat => some (i * ei.size, ei.size)) ti.zero.cells pvs = some cs.toArray) : YieldsIn P e C ⟨dd, .build t ⟨parts⟩, tt, ps, af, g⟩ (.agg cs.toArray) := by
 intro ρ hρ w' _
 have h1 := run_underlying' (hT.at ht); rw [htd] at h1
 have h2 := run_sizeOf' (hT'.at he)
 have h3 := run_zeroValue' (hT.at ht)
 have h4 := evp_map hρ hp
 have h5 : (Instr.build t ⟨pvs⟩).run P w' = .ok (.agg cs.toArray) w' := by
  unfold Instr.build
  simp only [Sem.run_bind, h3, Result.andThen_ok, Sem.run_pure, h1, h2]
  rw [hfill]
  rfl
 simp [execOp, h4, h5]
theorem WL.buildA (hT : OkTab P T) (hT' : OkTab P T') {parts : List (Nat × Operand)} {pvs : List (Nat × Value)} {cs : List Value} (hg : gate ops e g = some true) (hd : Nat.blt d N = true) (ht : tget T t = some ti) (htd : ti.desc = .array n el) (he : tget T' el = some ei)
  (hp : evp e parts = some pvs) (hfill : Instr.fill (fun i : Nat => some (i * ei.size, ei.size)) ti.zero.cells pvs = some cs.toArray)
  (k : WL P N ops.toArray l ((d, .agg cs.toArray) :: e) w Q) : WL P N ops.toArray (⟨some d, .build t ⟨parts⟩, tt, ps, af, g⟩ :: l) e w Q :=
 WL.step hg hd (ybuildA hT hT' ht htd he hp hfill) k
end
end Go.Lt
namespace Go.Proofs.YteidpnpbfagaeaaGreat
open Go Go.Lt Go.RowKit
set_option linter.unusedVariables false
set_option linter.unusedSimpArgs false
set_option maxRecDepth 20000

theorem Sep.back62 {B : Nat} {w : World} {p q a b c d e f : Piece} {rs : List Piece} (hS : Lt.Sep B w (q :: p :: a :: b :: c :: d :: e :: f :: rs)) : Lt.Sep B w (a :: b :: c :: d :: e :: f :: p :: q :: rs) :=
 Sep.ofPerm (List.Perm.append_right rs (l₁ := [q, p, a, b, c, d, e, f]) (l₂ := [a, b, c, d, e, f, p, q]) ((List.Perm.swap p q _).trans (List.perm_append_comm (l₁ := [p, q]) (l₂ := [a, b, c, d, e, f])))) hS
theorem WL.xorZ {P : Program} {N : Nat} {e : Env} {w : World} {Q : Exit → Act → World → Prop} {ops : List Oper} {l : List Oper} {d : Nat} {tt t ty : TypeId} {ps : String} {af : Array Edge} {g : Option (Nat × Bool)} {x y : Operand} {a b : Int} (hg : gate ops e g = some true) (hd : Nat.blt d N = true) (hx : ev e x = some (.int .i64 a)) (hy : ev e y = some (.int .i64 b)) (h : 0 ≤ a ∧ a ≤ 9223372036854775807) (hb : b = 0)
  (k : WL P N ops.toArray l ((d, .int .i64 a) :: e) w Q) : WL P N ops.toArray (⟨some d, .binOp .xor t x y ty, tt, ps, af, g⟩ :: l) e w Q :=
 WL.xorI hg hd hx hy h (.inl hb) (by rw [show Lt.xorI a b = a by unfold Lt.xorI; rw [hb]; rfl]; exact k)
theorem fillG {α : Type} {l : List α} {k L : Nat} (d : α) (hl : l.length = k) (hk : k < L) (z : α) : (l ++ List.replicate (L - k) d).set k z = l ++ [z] ++ List.replicate (L - (k + 1)) d := by
 rw [show L - k = (L - (k + 1)) + 1 by omega, List.replicate_succ, List.set_append_right _ _ (by omega), hl, Nat.sub_self]; simp
theorem fillG2 {α : Type} {l r : List α} {k : Nat} (hl : l.length = k) (y z : α) : (l ++ [y] ++ r).set k z = l ++ [z] ++ r := by
 rw [List.append_assoc, List.set_append_right _ _ (by omega), hl, Nat.sub_self]; simp
theorem fillG_get {α : Type} {l r : List α} {k : Nat} (hl : l.length = k) (y : α) : (l ++ [y] ++ r)[k]? = some y := by
 rw [List.append_assoc, List.getElem?_append_right (by omega), hl, Nat.sub_self]; rfl
section cls
variable {P : Program} {T : Tab} {N d : Nat} {e : Env} {w : World} {C : World → Prop} {ops l : List Oper} {Kf : Act → Prop} {tt t : TypeId} {ps : String} {af : Array Edge} {g : Option (Nat × Bool)} {x : Operand}
theorem FL.loadK {p : Addr} {v : Value} {i : TI} (hT : OkTab P T) (hg : gate ops e g = some true) (hd : Nat.blt d N = true) (hx : ev e x = some (.pointer (some p))) (ht : tget T t = some i) (ha : isAggD i.desc = false) (hv : ∀ w', C w' → w'.cell? p = some v)
  (k : FL P N ops.toArray C l ((d, v) :: e) w Kf) : FL P N ops.toArray C (⟨some d, .load t x, tt, ps, af, g⟩ :: l) e w Kf := by
 refine FL.step hg hd ?_ k
 intro ρ hρ w' hw'
 have h1 := run_isAgg' (hT.at ht); rw [ha] at h1
 have h2 := hv w' hw'
 simp [execOp, hρ _ _ hx, Instr.loadAt, Instr.sureAddr, loadVar, h1, h2]
theorem FL.loadAK {b off : Nat} {vs : List Value} {i : TI} (hT : OkTab P T) (hg : gate ops e g = some true) (hd : Nat.blt d N = true) (hx : ev e x = some (.pointer (some ⟨b, off, none⟩))) (ht : tget T t = some i) (ha : isAggD i.desc = true) (hv : ∀ w', C w' → Cells w' b off vs) (hs : i.size = vs.length)
  (k : FL P N ops.toArray C l ((d, .agg vs.toArray) :: e) w Kf) : FL P N ops.toArray C (⟨some d, .load t x, tt, ps, af, g⟩ :: l) e w Kf := by
 refine FL.step hg hd ?_ k
 intro ρ hρ w' hw'
 have h1 := run_isAgg' (hT.at ht); rw [ha] at h1
 have h3 := run_sizeOf' (hT.at ht); rw [hs] at h3
 have h2 := Go.Lt.run_loadCellsFrom (P := P) (acc := #[]) (off := off) (i := 0) (hv w' hw')
 simp [execOp, hρ _ _ hx, Instr.loadAt, Instr.sureAddr, loadVar, h1, h3, loadCells, h2]
end cls
structure GrC (gf gx : Nat) (v12 v13 u0 u1 : Value) (w : World) : Prop where
 c12 : w.cell? ⟨gf, 0 + 12, none⟩ = some v12
 c13 : w.cell? ⟨gf, 0 + 13, none⟩ = some v13
 g : Cells w gx 0 [u0, u1]
theorem GrC.ext {gf gx : Nat} {v12 v13 u0 u1 : Value} {w w' : World} (h : GrC gf gx v12 v13 u0 u1 w) (hx : Ext w w') : GrC gf gx v12 v13 u0 u1 w' := ⟨hx.cell h.c12, hx.cell h.c13, h.g.ext hx⟩
theorem GrC.at {gf gx : Nat} {v12 v13 u0 u1 : Value} {w : World} (h : GrC gf gx v12 v13 u0 u1 w) (q : Nat) : GrC gf gx v12 v13 u0 u1 (at' w q) := h.ext ((Ext.refl w).at q)
theorem GrC.of {B : Nat} {w : World} {ps : List Piece} {m : UM} {gx i j nf cf ns cs : Nat} {af as' : Option Addr} {u0 u1 : Value} (hS : Lt.Sep B w ps) (hi : ps[i]? = some (pcell m.gf (m.vals af nf cf as' ns cs).toArray 100)) (hj : ps[j]? = some (pcell gx #[u0, u1] 107)) : GrC m.gf gx (.slice af nf cf) (.slice as' ns cs) u0 u1 w :=
 ⟨(UC.of (cells_heap (hS.cell hi))).frames, (UC.of (cells_heap (hS.cell hi))).states, cells_heap (hS.cell hj)⟩
theorem Sep.pickL {B : Nat} {w : World} {pre tl : List Piece} (L : List Nat) (d : Piece) (hS : Lt.Sep B w (pre ++ tl)) (hok : (L.all (fun i => Nat.blt i pre.length) && decide L.Nodup) = true) : Lt.Sep B w (L.map (fun i => pre.getD i d) ++ tl) := by
 simp only [Bool.and_eq_true, List.all_eq_true, decide_eq_true_eq] at hok
 obtain ⟨h1, h2⟩ := hok
 have hl : (L.map (fun i => pre.getD i d)).length = L.length := List.length_map _
 have hL : ∀ i, i < L.length → ∃ k, L[i]? = some k ∧ k < pre.length := fun i hi => by
  obtain ⟨k, hk⟩ := getI L hi
  exact ⟨k, hk, by simpa [Nat.blt_eq] using h1 k (List.mem_of_getElem? hk)⟩
 refine hS.pick (fun i => if i < L.length then L.getD i 0 else i - L.length + pre.length) (fun i x h => ?_) (fun i j hi hj hne => ?_)
 ·by_cases hi : i < L.length
  ·obtain ⟨k, hk, hkl⟩ := hL i hi
   rw [List.getElem?_append_left (by omega), List.getElem?_map, hk] at h
   obtain ⟨y, hy⟩ := getI pre hkl
   have h' : pre.getD k d = x := Option.some.inj h
   rw [getD_of hy] at h'
   show (pre ++ tl)[if i < L.length then L.getD i 0 else i - L.length + pre.length]? = some x
   rw [if_pos hi, getD_of hk, List.getElem?_append_left hkl, hy, h']
  ·rw [List.getElem?_append_right (by omega), hl] at h
   show (pre ++ tl)[if i < L.length then L.getD i 0 else i - L.length + pre.length]? = some x
   rw [if_neg hi, List.getElem?_append_right (by omega), Nat.add_sub_cancel]; exact h
 ·show (if i < L.length then L.getD i 0 else i - L.length + pre.length) ≠ (if j < L.length then L.getD j 0 else j - L.length + pre.length)
  by_cases hi' : i < L.length
  ·obtain ⟨k, hk, hkl⟩ := hL i hi'
   by_cases hj' : j < L.length
   ·obtain ⟨k2, hk2, hkl2⟩ := hL j hj'
    rw [if_pos hi', if_pos hj', getD_of hk, getD_of hk2]
    intro he
    subst he
    have := List.pairwise_iff_getElem.1 (List.nodup_iff_pairwise_ne.1 h2)
    obtain ⟨a1, a2⟩ := List.getElem?_eq_some_iff.1 hk
    obtain ⟨b1, b2⟩ := List.getElem?_eq_some_iff.1 hk2
    rcases Nat.lt_or_gt_of_ne hne with hlt | hlt
    ·exact this i j a1 b1 hlt (by rw [a2, b2])
    ·exact this j i b1 a1 hlt (by rw [a2, b2])
   ·rw [if_pos hi', if_neg hj', getD_of hk]; omega
  ·by_cases hj' : j < L.length
   ·obtain ⟨k2, hk2, hkl2⟩ := hL j hj'
    rw [if_neg hi', if_pos hj', getD_of hk2]; omega
   ·rw [if_neg hi', if_neg hj']; omega
def pnone : Piece := ⟨none, fun _ => True, fun _ _ => trivial⟩
theorem un_growKn {w0 w : World} {m : UM} {u : UnV} {x : UX} {rest : List Piece} (h : UAt w0 w m u x rest) {C I : List Int × List (Int × Int)} (hC : C = cpU m.d.t u) (hI : I = uinTo u.N m.d.ins.2.2.length) {gV gX cp : Nat} {bI : Option Addr} {fN : Fr} {sN : RowV Int} {RN : List Piece}
  (hfN : fN = ((some ⟨gV, 0, none⟩, (cNet m.d.t).2.length, signsL m.d.t C.1), (bI, cp, I.1))) (hsN : sN = (some ⟨gX, 0, none⟩, m.d.lat.2.2.length, nextU m.d.t C.1))
  (hRN : RN = prow 2 encN 127 w0.heap.size (some ⟨gV, 0, none⟩) (cNet m.d.t).2.length (signsL m.d.t C.1) :: prow 1 encI 3 w0.heap.size bI cp I.1 :: prow 1 encI 3 w0.heap.size (some ⟨gX, 0, none⟩) m.d.lat.2.2.length (nextU m.d.t C.1) :: x.R) :
  UKn w0 m (growU m.d.t u) (x.fr ++ [fN]) (x.st ++ [sN]) RN := by
 refine ⟨?_, ?_, ?_, fun s hs hn => ?_, fun w9 hX hR => ?_⟩
 ·rw [List.map_append, h.kn.hv]; unfold growU; dsimp only; rw [List.map_append, hfN, ← hC]; rfl
 ·rw [List.map_append, h.kn.hi]; unfold growU; dsimp only; rw [hfN, hI]; rfl
 ·rw [List.map_append, h.kn.hs]; unfold growU; dsimp only; rw [hsN, ← hC]; rfl
 ·rcases List.mem_append.1 hs with hs | hs
  ·exact h.kn.sn s hs hn
  ·rw [List.mem_singleton.1 hs, hsN] at hn; cases hn
 ·have hR' : ∀ p ∈ x.R, p.P w9 := fun p hp => hR p (by rw [hRN]; exact List.mem_cons_of_mem _ (List.mem_cons_of_mem _ (List.mem_cons_of_mem _ hp)))
  obtain ⟨k1, k2, k3, k4, k5, k6⟩ := h.kn.rows w9 hX hR'
  have p1 : Own 2 encN 127 w0.heap.size w9 (some ⟨gV, 0, none⟩) (cNet m.d.t).2.length (signsL m.d.t C.1) := hR (prow 2 encN 127 w0.heap.size (some ⟨gV, 0, none⟩) (cNet m.d.t).2.length (signsL m.d.t C.1)) (by rw [hRN]; exact List.mem_cons_self ..)
  have p2 : Own 1 encI 3 w0.heap.size w9 bI cp I.1 := hR (prow 1 encI 3 w0.heap.size bI cp I.1) (by rw [hRN]; exact List.mem_cons_of_mem _ (List.mem_cons_self ..))
  have p3 : Own 1 encI 3 w0.heap.size w9 (some ⟨gX, 0, none⟩) m.d.lat.2.2.length (nextU m.d.t C.1) := hR (prow 1 encI 3 w0.heap.size (some ⟨gX, 0, none⟩) m.d.lat.2.2.length (nextU m.d.t C.1)) (by rw [hRN]; exact List.mem_cons_of_mem _ (List.mem_cons_of_mem _ (List.mem_cons_self ..)))
  refine ⟨k1, k2, k3, fun f hf => ?_, fun f hf => ?_, fun s hs => ?_⟩
  ·rcases List.mem_append.1 hf with hf | hf
   ·exact k4 f hf
   ·rw [List.mem_singleton.1 hf, hfN]; exact Own.row encN_ok p1
  ·rcases List.mem_append.1 hf with hf | hf
   ·exact k5 f hf
   ·rw [List.mem_singleton.1 hf, hfN]; exact Own.row encI_ok p2
  ·rcases List.mem_append.1 hs with hs | hs
   ·exact k6 s hs
   ·rw [List.mem_singleton.1 hs, hsN]; exact Own.row encI_ok p3
set_option maxHeartbeats 32000000 in
theorem un_Grow {w0 w : World} {m : UM} {u : UnV} {x : UX} {rest : List Piece} (h : UAt w0 w m u x rest) (hg : GoodC' m.d.t) (hz : SzC m.d.t 100000) (hU : UOk m.d.t u) (hN : u.N.length ≤ 600000) (hF : u.own.length ≤ 100000) :
  Lt.Spec Tryz.prog 44 [.pointer (some ⟨m.gf, 0, none⟩)] w (fun v w' => v = .int .i64 0 ∧ ∃ x', UAt w0 w' m (growU m.d.t u) x' rest) := by
 have z1 : m.d.ins.2.2.length ≤ 100000 := hz.1
 have z2 : m.d.lat.2.2.length ≤ 100000 := hz.2.1
 have z6 : m.d.gates.2.2.length ≤ 100000 := hz.2.2.2.2.2
 obtain ⟨c1, c2, c4, c5, c6, c9, c10, c11, c12, c13⟩ := UC.of h.cells
 have hs0 := h.sep.cell (i := 0) rfl
 refine Spec.of _ Tryz.func44 rfl Tryz.ntmps44 (by kernel_rfl) rfl ?_
 repeat' (first
  | (apply WL.nilc; (iterate 3 exact rfl))
  | (apply QL.nilc; (iterate 3 exact rfl))
  | (apply QL.eqNil tOk; (iterate 6 exact rfl))
  | ((show QL _ _ _ _ (⟨_, .call ⟨.value (.func 102), _, _⟩, _, _, _, _⟩ :: _) _ _); apply QL.callS; (iterate 4 exact rfl); exact aig_Len m.gs x.cap x.a u.N.length _ _ hs0)
  | (apply QL.gF; exact rfl; exact rfl; (focus (exact dec_false (fun h => by cases h))))
  | (apply W.condKF; exact rfl; (focus (exact dec_false (by omega); done)))
  | (apply WL.alloc tOk; (iterate 3 exact rfl); intro gb w' hb hge hx; (obtain ⟨gx, rfl⟩ : ∃ x, x = gb := ⟨_, rfl⟩; obtain ⟨w1, rfl⟩ : ∃ x, x = w' := ⟨_, rfl⟩; obtain ⟨hb1, rfl⟩ : ∃ x, x = hb := ⟨_, rfl⟩; obtain ⟨hge1, rfl⟩ : ∃ x, x = hge := ⟨_, rfl⟩; obtain ⟨hx1, rfl⟩ : ∃ x, x = hx := ⟨_, rfl⟩))
  | (show WL _ _ _ _ _ _ _; first | apply WL.nil | (refine WL.au (k := ?_)))
  | (show QL _ _ _ _ _ _ _; first | apply QL.nil | (refine QL.au (k := ?_)))
  | (show Z _ _ _ _ _; apply Z.then_normal)
  | (show W _ _ _ _ _ _; first | apply W.seq | apply W.region | apply W.block | apply W.skip | (apply W.regionD tMix; kernel_rfl))
  | fail)
 have hX1 : Ext w0 w1 := h.ext.trans hx1
 have hb1' : w1.heap[gx]? = some (.cells #[.slice none 0 0, .slice none 0 0] 107 (0, 0)) := hb1
 have hS1 := Sep.newCell h.sep hx1 hb1' hge1 (Below.size h.ext)
 have hS2 := Sep.newRow (s := 1) (enc := encI) (el := 3) (a := none) (cap := 0) (l := []) hS1 (Ext.refl _) Own.nil (fun k hk => by cases hk) (Below.size hX1)
 have hS3 := Sep.back62 hS2
 clear hb1 hb1' hS1 hS2 hs0
 have RI := h.rows.c.ins.row
 have RL := h.rows.c.lat.row
 have hgx0 : w0.heap.size ≤ gx := Nat.le_trans (Below.size h.ext) hge1
 refine W.loopO m.d.ins.2.2.length (fun k b cp w' => k ≤ m.d.ins.2.2.length ∧ Ext w0 w' ∧ ∃ a' cap', Lt.Sep w0.heap.size w' (stN w0.heap.size m.gs a' cap' m.r (uinTo u.N k).2 ++ (pcell m.gf (m.vals x.af x.fr.length x.cf x.as' x.st.length x.cs).toArray 100 :: prow 2 encUF 107 w0.heap.size x.af x.cf x.fr :: prow 1 encRow 22 w0.heap.size x.as' x.cs x.st :: pcell gx #[.slice none 0 0, .slice b (uinTo u.N k).1.length cp] 107 :: prow 1 encI 3 w0.heap.size b cp (uinTo u.N k).1 :: (x.R ++ rest))))
  (fun k b cp => [(0, .pointer (some ⟨m.gf, 0, none⟩)), (3, .pointer (some ⟨gx, 0, none⟩)), (40, rowVal m.d.ins), (41, .int .i64 m.d.ins.2.2.length), (42, .int .i64 k)]) none 0 ⟨Nat.zero_le _, hX1, x.a, x.cap, hS3⟩ (fun k a cp w' h => h.1) (by repeat' first | exact trivial | (refine And.intro ?_ ?_) | exact rfl) ?_
 clear hS3 c1 c2 c4 c5 c6 c9 c10 c11 c12 c13
 rintro k bI cp w9 ⟨hk, hX9, a9, cap9, hS9⟩
 obtain ⟨i1, i2, i3, i4⟩ := uinTo_inv u.N k
 have hsz9 := Below.size hX9
 obtain ⟨c1, c2, c4, c5, c6, c9, c10, c11, c12, c13⟩ := UC.of (m := m) (af := x.af) (nf := x.fr.length) (cf := x.cf) (as' := x.as') (ns := x.st.length) (cs := x.cs) (cells_heap (hS9.cell (i := 3) rfl))
 obtain ⟨g1, g2, _⟩ := cells_heap (hS9.cell (i := 6) (gb := gx) rfl)
 by_cases hlt : k < m.d.ins.2.2.length
 ·have e1 : uinTo u.N (k + 1) = ((uinTo u.N k).1 ++ [2 * (((uinTo u.N k).2.length : Int) + 1)], (uinTo u.N k).2 ++ [(-1, 0)]) := rfl
  repeat' (first
   | (apply W.condKT; exact rfl; (focus (exact dec_true (by omega); done)))
   | (show W _ _ (.region 6 _ _) _ _ _; apply W.regionG (.fl true 0 (.fl true 2 (.fl true 3 (.fl true 4 (.br 1 (.br 5 (.br 6 (.br 7 (.br 8 (.fl true 9 (.br 10 .done .stop)) .stop) .stop) .stop) .stop) (.br 5 (.br 1 (.br 6 (.br 7 (.br 8 (.fl true 9 (.br 10 .done .stop)) .stop) .stop) .stop) (.br 6 (.br 1 (.br 7 (.br 8 (.fl true 9 (.br 10 .done .stop)) .stop) .stop) (.br 7 (.br 1 (.br 8 (.fl true 9 (.br 10 .done .stop)) .stop) .stop) .stop)) .stop)) .stop)))))) [] (Ext w0) tMix; kernel_rfl)
   | (apply FL.nilc; (iterate 3 exact rfl))
   | (((show WL _ _ _ (⟨_, .call ⟨.value (.func 50), _, _⟩, _, _, _, _⟩ :: _) _ _ _); apply WL.call; (iterate 4 exact rfl); exact aig_InputV m.gs m.r _ _ (uinTo u.N k).2 _ _ w0 hX9 hS9 (by omega); rintro v' w8 ⟨hX8, a8, cap8, rfl, hS8⟩; obtain ⟨g3, g4, _⟩ := cells_heap (hS8.cell (i := 6) (gb := gx) rfl); have hO8 : Own 1 encI 3 w0.heap.size w8 bI cp (uinTo u.N k).1 := hS8.row (i := 7) rfl))
   | (apply WL.lit tOk; (iterate 6 exact rfl); (kernel_rfl); exact rfl; intro gb w' hb hge hc hx; (obtain ⟨wL, rfl⟩ : ∃ x, x = w' := ⟨_, rfl⟩; obtain ⟨hxL, rfl⟩ : ∃ x, x = hx := ⟨_, rfl⟩))
   | (apply WL.append1 (z := (2 * (((uinTo u.N k).2.length : Int) + 1))) tOk encI_ok; (iterate 10 exact rfl); assumption; (exact extA); (exact rfl); (assumption); exact rfl; exact rfl; (exact extA); (omega); intro a' cap' w' hO hX' hU hF; (obtain ⟨wA, rfl⟩ : ∃ x, x = w' := ⟨_, rfl⟩; obtain ⟨hOA, rfl⟩ : ∃ x, x = hO := ⟨_, rfl⟩; obtain ⟨hXA, rfl⟩ : ∃ x, x = hX' := ⟨_, rfl⟩; obtain ⟨hFA, rfl⟩ : ∃ x, x = hF := ⟨_, rfl⟩; obtain ⟨hUA, rfl⟩ : ∃ x, x = hU := ⟨_, rfl⟩; obtain ⟨bA, rfl⟩ : ∃ x, x = a' := ⟨_, rfl⟩; obtain ⟨cA, rfl⟩ : ∃ x, x = cap' := ⟨_, rfl⟩; have hSA := Sep.updRow (i := 7) rfl hUA hOA hFA hS8 hxL (Nat.le_trans (Below.size hX8) (Below.size hxL)); have hbA := hSA.cell (i := 6) (gb := gx) rfl))
   | ((apply WL.storeF (w0 := w0) tOk; (iterate 4 exact rfl); exact hbA; exact Ext.refl _; (iterate 4 exact rfl); exact extA; exact hgx0; intro wB hbB hXB hUB))
   | (show WL _ _ _ _ _ _ _; first | apply WL.nil | (refine WL.au (k := ?_)))
   | (show SG _ _ _ _ _ _ _ _ _; first | apply SG.done | (apply SG.fl0; exact rfl) | (apply SG.br1; exact rfl) | (apply SG.br; exact rfl))
   | (show FL _ _ _ _ _ _ _ _; first | apply FL.nilS | (refine FL.au (k := ?_)))
   | (show Z _ _ _ _ _; (apply Z.sgL; exact rfl))
   | (show Z _ _ _ _ _; first | apply Z.then_normal | apply Z.block_normal)
   | (show W _ _ _ _ _ _; first | apply W.seq | apply W.region | apply W.block | apply W.skip)
   | fail)
  all_goals
   have hSB := Sep.updCell (i := 6) rfl hUB hbB hSA (Ext.refl _) (Below.size hXA)
   exact Z.againO bA cA ⟨by omega, hXB, a8, cap8, by rw [e1]; exact hSB⟩ (by repeat' first | exact trivial | (refine And.intro ?_ ?_) | exact rfl | (rw [e1]; exact rfl))
 obtain rfl : k = m.d.ins.2.2.length := by omega
 obtain ⟨I, hI⟩ : ∃ I, I = uinTo u.N m.d.ins.2.2.length := ⟨_, rfl⟩
 rw [← hI] at hS9 i1 i2 i3 i4 g2
 have hR9 : URows m x.fr x.st w9 := h.kn.rows.sep hX9 hS9 (fun p hp => List.mem_append_right _ (List.mem_cons_of_mem _ (List.mem_cons_of_mem _ (List.mem_cons_of_mem _ (List.mem_cons_of_mem _ (List.mem_cons_of_mem _ (List.mem_append_left _ hp)))))))
 have hOx : Own 1 encI 3 w0.heap.size w9 bI cp I.1 := hS9.row (i := 7) rfl
 have Rx := hOx.row encI_ok
 have hOst : Own 1 encRow 22 w0.heap.size w9 x.as' x.cs x.st := hS9.row (i := 5) rfl
 have Rst := Own.row encRow_ok hOst
 have hlf := h.lf
 have hls := hU.ls
 obtain ⟨ul1, ul2, ul3⟩ := hU.last
 obtain ⟨s, hs⟩ := getI x.st (show x.st.length - 1 < x.st.length by omega)
 have hsz : ((x.st.length : Int) - 1).toNat = x.st.length - 1 := by omega
 have hs' : x.st[((x.st.length : Int) - 1).toNat]? = some s := by rw [hsz]; exact hs
 have hsl : s.2.2 = u.last := by
  have h1 := map_get' h.kn.hs hs
  rw [hlf.2.2, ul1] at h1
  exact (Option.some.inj h1).symm
 have Rs : Row 1 encI w9 s.1 s.2.2 := hR9.st s (List.mem_of_getElem? hs)
 have hsn : s.2.2.length = m.d.lat.2.2.length := by rw [hsl]; exact ul2
 have nsn : s.1 = none → s.2.1 = 0 := h.kn.sn s (List.mem_of_getElem? hs)
 repeat' (first
  | (apply W.condKF; exact rfl; (focus (exact dec_false (by omega); done)))
  | (show W _ _ (.region 8 _ _) _ _ _; apply W.regionGX (.fl true 1 (.fl true 4 (.fl true 5 (.fl true 6 (.fl true 8 (.fl true 9 (.fl true 10 (.fl false 2 (.fl false 7 (.fl false 11 (.fl true 12 (.fl true 13 (.fl true 14 (.fl false 15 (.br 0 (.br 3 (.br 16 (.fl true 17 .done) .stop) .stop) .stop))))))))))))))) [0, 3, 7, 11, 12, 13, 14, 15, 16] tMix; kernel_rfl)
  | (apply FL.nilc; (iterate 3 exact rfl))
  | (apply WL.lit tOk; (iterate 6 exact rfl); (kernel_rfl); exact rfl; intro gb w' hb hge hc hx; (obtain ⟨gL, rfl⟩ : ∃ x, x = gb := ⟨_, rfl⟩; obtain ⟨hbL, rfl⟩ : ∃ x, x = hb := ⟨_, rfl⟩; obtain ⟨hgeL, rfl⟩ : ∃ x, x = hge := ⟨_, rfl⟩; obtain ⟨wL, rfl⟩ : ∃ x, x = w' := ⟨_, rfl⟩; obtain ⟨hxL, rfl⟩ : ∃ x, x = hx := ⟨_, rfl⟩))
  | ((apply WL.append0 (B := w9.heap.size) tOk encI_ok; (iterate 10 exact rfl); exact hbL; exact Nat.le_trans (Below.size extA) hgeL; exact extA; exact Rx; exact extA; exact rfl; exact Own.noneCap hOx; omega; intro aT cT wT hOT hxT hfT))
  | ((apply WL.appendS (w0 := w9) tOk encI_ok; (iterate 10 exact rfl); exact hOT; exact extA; exact rfl; exact Rs; exact extA; exact rfl; exact nsn; exact rfl; exact extA; omega; intro aI cI wI hOI hXI hUI hFI))
  | (show SX _ _ _ _ _ _ _ _ _; first | (apply SX.done; intro w' hx) | (apply SX.fl0; exact rfl) | (apply SX.fl1; exact rfl; (exact extA)) | (apply SX.br1; exact rfl; intro w' hx))
  | (show FL _ _ _ _ _ _ _ _; first | apply FL.nilX | (apply FL.loadE tOk; (iterate 5 exact rfl); (assumption)) | (apply FL.indexE tOk; (iterate 8 exact rfl); assumption; exact rfl; omega; assumption; intro b off h; have hcc := h; first | (obtain ⟨h1, h2, h3, h4, h5, h6, _⟩ := h) | (obtain ⟨h1, h2, h3, _⟩ := h) | (obtain ⟨h1, h2, _⟩ := h) | (obtain ⟨h1, _⟩ := h)))
  | (show FL _ _ _ _ _ _ _ _; (refine FL.au (k := ?_)))
  | (show Z _ _ _ _ _; (apply Z.sxE; (exact extA)))
  | (show WL _ _ _ _ _ _ _; first | apply WL.nil | (refine WL.au (k := ?_)))
  | (show Z _ _ _ _ _; first | apply Z.then_normal | apply Z.then_exit | apply Z.block_exit)
  | (show W _ _ _ _ _ _; first | apply W.seq | apply W.region | apply W.exit)
  | fail)
 obtain ⟨wJ, rfl⟩ : ∃ x, x = w' := ⟨_, rfl⟩; obtain ⟨hxJ, rfl⟩ : ∃ x, x = hx := ⟨_, rfl⟩
 have hXI9 : Ext w9 wJ := hXI.trans hxJ
 have hX0I : Ext w0 wJ := hX9.trans hXI9
 have hlI : I.1 ++ s.2.2 = I.1 ++ u.last := by rw [hsl]
 have hSI := Sep.newRow' hS9 hXI9 (hOI.ext hxJ) (Below.size hX9)
 have hSI8 : Lt.Sep w0.heap.size wJ (stN w0.heap.size m.gs a9 cap9 m.r I.2 ++ (pcell m.gf (m.vals x.af x.fr.length x.cf x.as' x.st.length x.cs).toArray 100 :: prow 2 encUF 107 w0.heap.size x.af x.cf x.fr :: prow 1 encRow 22 w0.heap.size x.as' x.cs x.st :: pcell gx #[.slice none 0 0, .slice bI I.1.length cp] 107 :: prow 1 encI 3 w0.heap.size bI cp I.1 :: prow 1 encI 3 w0.heap.size aI cI (I.1 ++ s.2.2) :: (x.R ++ rest))) :=
  Sep.ofPerm (List.perm_middle (l₁ := [_, _, _, _, _, _, _, _])).symm hSI
 rw [hlI] at hSI8
 obtain ⟨restI, hrI⟩ : ∃ l : List Piece, l = (pcell m.gf (m.vals x.af x.fr.length x.cf x.as' x.st.length x.cs).toArray 100 :: prow 2 encUF 107 w0.heap.size x.af x.cf x.fr :: prow 1 encRow 22 w0.heap.size x.as' x.cs x.st :: pcell gx #[.slice none 0 0, .slice bI I.1.length cp] 107 :: prow 1 encI 3 w0.heap.size bI cp I.1 :: prow 1 encI 3 w0.heap.size aI cI (I.1 ++ u.last) :: (x.R ++ rest)) := ⟨_, rfl⟩
 rw [← hrI] at hSI8
 have hsub : ∀ p ∈ x.R, p ∈ restI := fun p hp => by rw [hrI]; exact List.mem_cons_of_mem _ (List.mem_cons_of_mem _ (List.mem_cons_of_mem _ (List.mem_cons_of_mem _ (List.mem_cons_of_mem _ (List.mem_cons_of_mem _ (List.mem_append_left _ hp))))))
 have hnl := net_len hg hz
 have hcl : (I.1 ++ u.last).length ≤ cI := by
  have h9 := hSI8
  rw [hrI] at h9
  exact Own.capLe (h9.row (i := 8) (s := 1) (enc := encI) (el := 3) rfl)
 have eC : cpU m.d.t u = copyV I.2 (cNet m.d.t).1 (I.1 ++ u.last) := by unfold cpU; rw [hI]
 have hcp : Lt.Spec Tryz.prog 103 [.pointer (some ⟨m.gs, 0, none⟩), .slice m.aN (cNet m.d.t).1.length m.cN, .slice aI (I.1 ++ s.2.2).length cI] wJ (AtCopy w0 m.gs m.r restI (cpU m.d.t u)) := by
  rw [eC, hlI]
  exact aig_CopyV m.gs m.r cap9 m.cN cI a9 m.aN aI I.2 (cNet m.d.t).1 (I.1 ++ u.last) restI wJ w0 hX0I hSI8 (by omega) (cNet_ok hg).2 hcl (fun w' a' cap' N' h1 h2 => (h.kn.rows.sep h1 h2 (fun p hp => List.mem_append_right _ (hsub p hp))).n) (fun w' a' cap' N' h1 h2 => by rw [hrI] at h2; exact Own.row encI_ok (h2.row (i := 8) rfl))
 obtain ⟨_, q1, q2, q3, q4, q5⟩ := cpU_ok hg hU
 have hal := at_len hg
 have hmx := hg.max
 have hA9 : (cNet m.d.t).2.length ≤ 16777217 := by have : (m.d.t.max : Int) ≤ 16777216 := hmx.2; omega
 repeat' (first
  | (apply W.regionQS 9 tMix; kernel_rfl; exact rfl; kernel_rfl; kernel_rfl)
  | (apply WL.nilc; (iterate 3 exact rfl))
  | (apply QL.nilc; (iterate 3 exact rfl))
  | (((show WL _ _ _ (⟨_, .call ⟨.value (.func 103), _, _⟩, _, _, _, _⟩ :: _) _ _ _); apply WL.call; (iterate 4 exact rfl); exact hcp; rintro v' w8 ⟨hX8, a8, cap8, aL, cL, rfl, hS8⟩; have hS8' := hS8; rw [hrI] at hS8'; obtain ⟨d1, d2, d4, d5, d6, d9, d10, d11, d12, d13⟩ := UC.of (m := m) (af := x.af) (nf := x.fr.length) (cf := x.cf) (as' := x.as') (ns := x.st.length) (cs := x.cs) (cells_heap (hS8'.cell (i := 4) rfl)); have hbX := hS8'.cell (i := 7) (gb := gx) rfl))
  | ((apply WL.makeC (w0 := w0) (z := ((0, 0) : Int × Int)) tOk; (iterate 9 exact rfl); exact encN_ok; exact rfl; exact rfl; exact extA; omega; intro gV wV hOV hgeV hxV))
  | ((apply WL.storeF (w0 := w0) tOk; (iterate 4 exact rfl); exact hbX; exact extA; (iterate 4 exact rfl); exact extA; exact hgx0; intro w10 hb10 hX10 hU10; have hSVt := Sep.newRow hS8' hxV hOV (fun k hk => by cases hk; exact hgeV) (Below.size hX8); have hSWt := Sep.updCell (i := 8) rfl hU10 hb10 hSVt (Ext.refl _) (Below.size (hX8.trans hxV)); have hat10 := (UC.of (m := m) (af := x.af) (nf := x.fr.length) (cf := x.cf) (as' := x.as') (ns := x.st.length) (cs := x.cs) (cells_heap (hSWt.cell (i := 5) rfl))).at_; clear hSVt hSWt))
  | (show WL _ _ _ _ _ _ _; first | apply WL.nil | (refine WL.au (k := ?_)))
  | (show QL _ _ _ _ _ _ _; first | apply QL.nil | (refine QL.au (k := ?_)))
  | (show Z _ _ _ _ _; first | apply Z.tail | apply Z.then_normal)
  | (show W _ _ _ _ _ _; first | apply W.seq | apply W.region | apply W.block)
  | fail)
 have hAt : ((cNet m.d.t).2.length : Int).toNat = (cNet m.d.t).2.length := Int.toNat_natCast _
 obtain ⟨C, hC⟩ : ∃ C, C = cpU m.d.t u := ⟨_, rfl⟩
 rw [← hC] at hS8' q1 q2 q3 q4 q5
 have hX8V : Ext w0 wV := hX8.trans hxV
 have hSV := Sep.newRow hS8' hxV hOV (fun k hk => by cases hk; exact hgeV) (Below.size hX8)
 have hSW := Sep.updCell (i := 8) rfl hU10 hb10 hSV (Ext.refl _) (Below.size hX8V)
 rw [hAt] at hSW
 obtain ⟨tl, htl⟩ : ∃ tl : List Piece, tl = (stN w0.heap.size m.gs a8 cap8 m.r C.2 ++ (prow 1 encI 3 w0.heap.size aL cL C.1 :: pcell m.gf (m.vals x.af x.fr.length x.cf x.as' x.st.length x.cs).toArray 100 :: prow 2 encUF 107 w0.heap.size x.af x.cf x.fr :: prow 1 encRow 22 w0.heap.size x.as' x.cs x.st :: pcell gx #[.slice (some ⟨gV, 0, none⟩) (cNet m.d.t).2.length (cNet m.d.t).2.length, .slice bI I.1.length cp] 107 :: prow 1 encI 3 w0.heap.size bI cp I.1 :: prow 1 encI 3 w0.heap.size aI cI (I.1 ++ u.last) :: (x.R ++ rest))) := ⟨_, rfl⟩
 have hSW' : Lt.Sep w0.heap.size w10 ([prow 2 encN 127 w0.heap.size (some ⟨gV, 0, none⟩) (cNet m.d.t).2.length (List.replicate (cNet m.d.t).2.length (0, 0))] ++ tl) := by
  rw [List.length_replicate] at hSW
  rw [htl]; exact hSW
 have hT : ∀ (w9 : World) (qs : List Piece), Ext w0 w9 → Lt.Sep w0.heap.size w9 (qs ++ tl) → UC w9 m x.af x.fr.length x.cf x.as' x.st.length x.cs ∧ Cells w9 gx 0 [.slice (some ⟨gV, 0, none⟩) (cNet m.d.t).2.length (cNet m.d.t).2.length, .slice bI I.1.length cp] ∧ Row 1 encI w9 aL C.1 ∧ URows m x.fr x.st w9 := fun w9 qs hX hS => by
  have h9 := hS.drop qs.length
  rw [List.drop_left, htl] at h9
  exact ⟨UC.of (cells_heap (h9.cell (i := 4) rfl)), cells_heap (h9.cell (i := 7) (gb := gx) rfl), Own.row encI_ok (h9.row (i := 3) rfl), h.kn.rows.sep hX h9 (fun p hp => List.mem_append_right [_, _, _, _, _, _, _, _, _, _] (List.mem_append_left _ hp))⟩
 refine W.loopW (cNet m.d.t).2.length (fun k w' => k ≤ (cNet m.d.t).2.length ∧ Ext w0 w' ∧ Lt.Sep w0.heap.size w' ([prow 2 encN 127 w0.heap.size (some ⟨gV, 0, none⟩) (cNet m.d.t).2.length (((cNet m.d.t).2.take k).map (signs C.1) ++ List.replicate ((cNet m.d.t).2.length - k) (0, 0))] ++ tl))
  (fun k => [(0, .pointer (some ⟨m.gf, 0, none⟩)), (3, .pointer (some ⟨gx, 0, none⟩)), (5, .slice aL C.1.length cL), (92, .slice m.aA (cNet m.d.t).2.length m.cA), (93, .int .i64 (cNet m.d.t).2.length), (94, .int .i64 k)]) ⟨Nat.zero_le _, hX10, hSW'⟩ (fun k w' h => h.1) (by repeat' first | exact trivial | (refine And.intro ?_ ?_) | exact rfl | (rw [hC]; exact rfl)) ?_
 clear hSW hSW' hSV hS8 hS8' hbX hb10 hU10 hOV hS9 hSI hSI8 hOI hOT hXI hUI hFI d1 d2 d4 d5 d6 d9 d10 d11 d12 d13 c1 c2 c4 c5 c6 c9 c10 c11 c12 c13 g1 g2 hcp hOx Rx hOst Rst Rs hR9
 rintro k wk ⟨hk', hXk, hSk⟩
 obtain ⟨t1, t2, t3, t4⟩ := hT wk _ hXk hSk
 obtain ⟨c1, c2, c4, c5, c6, c9, c10, c11, c12, c13⟩ := t1
 obtain ⟨g1, g2, _⟩ := t2
 have hOv : Own 2 encN 127 w0.heap.size wk (some ⟨gV, 0, none⟩) (cNet m.d.t).2.length (((cNet m.d.t).2.take k).map (signs C.1) ++ List.replicate ((cNet m.d.t).2.length - k) (0, 0)) := hSk.row (i := 0) rfl
 have hvl : (((cNet m.d.t).2.take k).map (signs C.1)).length = k := by rw [List.length_map, List.length_take]; omega
 have RA := t4.a
 by_cases hlt : k < (cNet m.d.t).2.length
 ·obtain ⟨y, hy⟩ := getI (cNet m.d.t).2 hlt
  have hgy : (((cNet m.d.t).2.take k).map (signs C.1) ++ List.replicate ((cNet m.d.t).2.length - k) ((0, 0) : Int × Int))[(k : Int).toNat]? = some (0, 0) := by
   rw [Int.toNat_natCast, show (cNet m.d.t).2.length - k = ((cNet m.d.t).2.length - (k + 1)) + 1 by omega, List.replicate_succ, List.getElem?_append_right (by omega), hvl, Nat.sub_self]; rfl
  have e1 : ((cNet m.d.t).2.take (k + 1)).map (signs C.1) = ((cNet m.d.t).2.take k).map (signs C.1) ++ [signs C.1 y] := by rw [take_succ' hy, List.map_append]; rfl
  rcases at_is hg hy with q0 | ⟨q0, q6, q7⟩
  ·have es : signs C.1 y = (-1, -1) := by unfold signs; rw [if_neg (by omega)]
   repeat' (first
    | (apply W.condKT; exact rfl; (focus (exact dec_true (by omega))))
    | (apply W.condKF; exact rfl; (focus (exact dec_false (by omega); done)))
    | ((apply WL.buildA tOk tOk; (iterate 6 exact rfl); kernel_rfl))
    | (apply WL.indexO tOk; (iterate 8 exact rfl); assumption; (exact extA); exact encN_ok; ((focus (simp [*]; done))); omega; assumption; intro gb ha hc; cases ha; have hcc := hc; first | (obtain ⟨h1, h2, h3, _⟩ := hc) | (obtain ⟨h1, h2, _⟩ := hc) | (obtain ⟨h1, _⟩ := hc))
    | (apply WL.storeO (z' := ((-1, -1))) tOk; (iterate 4 exact rfl); assumption; (exact extA); (iterate 3 exact rfl); exact encN_ok; assumption; exact rfl; (exact extA); intro w' hO hX' hU)
    | (show WL _ _ _ _ _ _ _; first | apply WL.nil | (refine WL.au (k := ?_)) | (apply WL.index tOk; (iterate 8 exact rfl); assumption; (exact extA); exact rfl; omega; assumption; intro b off h; have hcc := h; first | (obtain ⟨h1, h2, h3, h4, h5, h6, _⟩ := h) | (obtain ⟨h1, h2, h3, _⟩ := h) | (obtain ⟨h1, h2, _⟩ := h) | (obtain ⟨h1, _⟩ := h)))
    | (show Z _ _ _ _ _; first | apply Z.then_normal | apply Z.block_normal)
    | (show W _ _ _ _ _ _; first | apply W.seq | apply W.region | apply W.block | apply W.skip)
    | fail)
   rw [Int.toNat_natCast, fillG (0, 0) hvl hlt, ← es, ← e1] at hO
   exact Z.againW ⟨by omega, hX', Sep.updRow (i := 0) rfl hU hO (.inl rfl) hSk (Ext.refl _) (Below.size hXk)⟩ (by repeat' first | exact trivial | (refine And.intro ?_ ?_) | exact rfl)
  ·obtain ⟨z, hz⟩ := getI C.1 (show (y / 2).toNat < C.1.length by omega)
   have hzh := q2 z (List.mem_of_getElem? hz)
   have hz9 : 0 ≤ z ∧ z ≤ 9223372036854775806 := by unfold hasL at hzh; omega
   have es : signs C.1 y = (z, Lt.xor1 z) := by unfold signs; rw [if_pos q0, getD_of hz]
   have hgy2 : ((((cNet m.d.t).2.take k).map (signs C.1) ++ List.replicate ((cNet m.d.t).2.length - k) ((0, 0) : Int × Int)).set (k : Int).toNat (-1, -1))[(k : Int).toNat]? = some (-1, -1) := by rw [Int.toNat_natCast, fillG (0, 0) hvl hlt, fillG_get hvl]
   repeat' (first
    | (apply W.condKT; exact rfl; (focus (exact dec_true (by omega))))
    | ((apply WL.buildA tOk tOk; (iterate 6 exact rfl); kernel_rfl))
    | (apply WL.indexO tOk; (iterate 8 exact rfl); assumption; (exact extA); exact encN_ok; ((focus (simp [*]; done))); omega; assumption; intro gb ha hc; cases ha; have hcc := hc; first | (obtain ⟨h1, h2, h3, _⟩ := hc) | (obtain ⟨h1, h2, _⟩ := hc) | (obtain ⟨h1, _⟩ := hc))
    | ((first | (have h_0 := hSk1; clear h_0; apply WL.storeO (z' := (z, Lt.xor1 z)) tOk; (iterate 4 exact rfl); exact hO1; exact extA; (iterate 3 exact rfl); exact encN_ok; exact hgy2; exact rfl; exact extA; intro wS2 hO2 hXS2 hU2) | (apply WL.storeO (z' := ((-1, -1) : Int × Int)) tOk; (iterate 4 exact rfl); exact hOv; exact extA; (iterate 3 exact rfl); exact encN_ok; exact hgy; exact rfl; exact extA; intro wS1 hO1 hXS1 hU1; have hSk1 := Sep.updRow (i := 0) rfl hU1 hO1 (.inl rfl) hSk (Ext.refl _) (Below.size hXk); obtain ⟨_, ⟨v1, v2, _⟩, v3, _⟩ := hT wS1 [_] hXS1 hSk1)))
    | (apply WL.and1; (iterate 4 exact rfl); omega)
    | (apply WL.xorA; (iterate 4 exact rfl); omega)
    | ((apply WL.xorZ; (iterate 4 exact rfl); omega; omega))
    | (show WL _ _ _ _ _ _ _; first | apply WL.nil | (refine WL.au (k := ?_)) | (apply WL.index tOk; (iterate 8 exact rfl); assumption; (exact extA); exact rfl; omega; assumption; intro b off h; have hcc := h; first | (obtain ⟨h1, h2, h3, h4, h5, h6, _⟩ := h) | (obtain ⟨h1, h2, h3, _⟩ := h) | (obtain ⟨h1, h2, _⟩ := h) | (obtain ⟨h1, _⟩ := h)))
    | (show Z _ _ _ _ _; first | apply Z.then_normal | apply Z.block_normal)
    | (show W _ _ _ _ _ _; first | apply W.seq | apply W.region | apply W.block | apply W.skip)
    | fail)
   rw [Int.toNat_natCast, fillG (0, 0) hvl hlt, fillG2 hvl, ← es, ← e1] at hO2
   exact Z.againW ⟨by omega, hXS2, Sep.updRow (i := 0) rfl hU2 hO2 (.inl rfl) hSk1 (Ext.refl _) (Below.size hXS1)⟩ (by repeat' first | exact trivial | (refine And.intro ?_ ?_) | exact rfl)
 obtain rfl : k = (cNet m.d.t).2.length := by omega
 have eV : ((cNet m.d.t).2.take (cNet m.d.t).2.length).map (signs C.1) ++ List.replicate ((cNet m.d.t).2.length - (cNet m.d.t).2.length) ((0, 0) : Int × Int) = signsL m.d.t C.1 := by rw [List.take_length, Nat.sub_self, List.replicate_zero, List.append_nil]; rfl
 rw [eV] at hSk hOv
 have RV := Own.row encN_ok hOv
 have hsl9 := signsL_len m.d.t C.1
 have hcl : ∀ t ∈ m.d.lat.2.2, t.2.1 ≤ 9223372036854775807 := fun t ht => by
  have h1 := hg.used t.2.1 (used_next ht)
  omega
 repeat' (first
  | (apply W.condKF; exact rfl; (focus (exact dec_false (by omega); done)))
  | (apply WL.nilc; (iterate 3 exact rfl))
  | ((apply WL.makeC (w0 := w0) (z := (0 : Int)) tOk; (iterate 9 exact rfl); exact encI_ok; exact rfl; exact rfl; exact extA; omega; intro gX wX hOX hgeX hxX))
  | (show WL _ _ _ _ _ _ _; first | apply WL.nil | (refine WL.au (k := ?_)))
  | (show Z _ _ _ _ _; first | apply Z.then_normal | apply Z.then_exit | apply Z.block_exit)
  | (show W _ _ _ _ _ _; first | apply W.seq | apply W.region | apply W.block | apply W.exit)
  | fail)
 have hLt : (m.d.lat.2.2.length : Int).toNat = m.d.lat.2.2.length := Int.toNat_natCast _
 have hLt2 : (List.replicate (m.d.lat.2.2.length : Int).toNat (0 : Int)).length = m.d.lat.2.2.length := by rw [List.length_replicate, hLt]
 have hX0X : Ext w0 wX := hXk.trans hxX
 have hSX := Sep.newRow hSk hxX hOX (fun k hk => by cases hk; exact hgeX) (Below.size hXk)
 rw [hLt] at hSX
 have hSX' : Lt.Sep w0.heap.size wX ([prow 1 encI 3 w0.heap.size (some ⟨gX, 0, none⟩) m.d.lat.2.2.length (List.replicate m.d.lat.2.2.length 0), prow 2 encN 127 w0.heap.size (some ⟨gV, 0, none⟩) (cNet m.d.t).2.length (signsL m.d.t C.1)] ++ tl) := hSX
 have hff : ∀ n : Nat, (m.d.lat.2.2.take n).map (fun t => uLit m.d.t C.1 t.2.1) = (nextU m.d.t C.1).take n := fun n => by unfold nextU; rw [List.map_take]
 refine W.loopW m.d.lat.2.2.length (fun k w' => k ≤ m.d.lat.2.2.length ∧ Ext w0 w' ∧ Lt.Sep w0.heap.size w' ([prow 1 encI 3 w0.heap.size (some ⟨gX, 0, none⟩) m.d.lat.2.2.length ((m.d.lat.2.2.take k).map (fun t => uLit m.d.t C.1 t.2.1) ++ List.replicate (m.d.lat.2.2.length - k) 0), prow 2 encN 127 w0.heap.size (some ⟨gV, 0, none⟩) (cNet m.d.t).2.length (signsL m.d.t C.1)] ++ tl))
  (fun k => [(0, .pointer (some ⟨m.gf, 0, none⟩)), (3, .pointer (some ⟨gx, 0, none⟩)), (9, .slice (some ⟨gX, 0, none⟩) m.d.lat.2.2.length m.d.lat.2.2.length), (134, rowVal m.d.lat), (135, .int .i64 m.d.lat.2.2.length), (136, .int .i64 k)]) ⟨Nat.zero_le _, hX0X, hSX'⟩ (fun k w' h => h.1) (by repeat' first | exact trivial | (refine And.intro ?_ ?_) | exact rfl | (rw [hLt2]; exact rfl)) ?_
 clear hSX hSX' hSk hOv hOX c1 c2 c4 c5 c6 c9 c10 c11 c12 c13 g1 g2 t3 t4 RV RA
 rintro k wn ⟨hk3, hXn, hSn⟩
 obtain ⟨t1, t2, t3, t4⟩ := hT wn [_, _] hXn hSn
 obtain ⟨c1, c2, c4, c5, c6, c9, c10, c11, c12, c13⟩ := t1
 have hgg := t2
 obtain ⟨g1, g2, _⟩ := t2
 have hOn : Own 1 encI 3 w0.heap.size wn (some ⟨gX, 0, none⟩) m.d.lat.2.2.length ((m.d.lat.2.2.take k).map (fun t => uLit m.d.t C.1 t.2.1) ++ List.replicate (m.d.lat.2.2.length - k) 0) := hSn.row (i := 0) rfl
 have hOv : Own 2 encN 127 w0.heap.size wn (some ⟨gV, 0, none⟩) (cNet m.d.t).2.length (signsL m.d.t C.1) := hSn.row (i := 1) rfl
 have RV := Own.row encN_ok hOv
 have RLk := t4.c.lat.row
 have hvl : ((m.d.lat.2.2.take k).map (fun t => uLit m.d.t C.1 t.2.1)).length = k := by rw [List.length_map, List.length_take]; omega
 by_cases hlt : k < m.d.lat.2.2.length
 ·obtain ⟨t, ht⟩ := getI m.d.lat.2.2 hlt
  have ht9 := hcl t (List.mem_of_getElem? ht)
  have hgy : ((m.d.lat.2.2.take k).map (fun t => uLit m.d.t C.1 t.2.1) ++ List.replicate (m.d.lat.2.2.length - k) (0 : Int))[(k : Int).toNat]? = some 0 := by
   rw [Int.toNat_natCast, show m.d.lat.2.2.length - k = (m.d.lat.2.2.length - (k + 1)) + 1 by omega, List.replicate_succ, List.getElem?_append_right (by omega), hvl, Nat.sub_self]; rfl
  have e1 : (m.d.lat.2.2.take (k + 1)).map (fun t => uLit m.d.t C.1 t.2.1) = (m.d.lat.2.2.take k).map (fun t => uLit m.d.t C.1 t.2.1) ++ [uLit m.d.t C.1 t.2.1] := by rw [take_succ' ht, List.map_append]; rfl
  have hlt9 := fun (w9 : World) (h9 : Ext wn w9) => un_lit m.d.t hg (some ⟨gV, 0, none⟩) (cNet m.d.t).2.length (.slice bI I.1.length cp) rfl C.1 t.2.1 w9 (RV.ext h9) ht9
  rw [signsL_len] at hlt9
  repeat' (first
   | (apply W.condKT; exact rfl; (focus (exact dec_true (by omega); done)))
   | (apply WL.alloc tOk; (iterate 3 exact rfl); intro gb w' hb hge hx; (obtain ⟨gt, rfl⟩ : ∃ x, x = gb := ⟨_, rfl⟩; obtain ⟨wa, rfl⟩ : ∃ x, x = w' := ⟨_, rfl⟩; obtain ⟨hba, rfl⟩ : ∃ x, x = hb := ⟨_, rfl⟩; obtain ⟨hgea, rfl⟩ : ∃ x, x = hge := ⟨_, rfl⟩; obtain ⟨hxa, rfl⟩ : ∃ x, x = hx := ⟨_, rfl⟩))
   | ((apply WL.storeB (w0 := wn) tOk; (iterate 4 exact rfl); exact hba; exact Ext.refl _; kernel_rfl; kernel_rfl; kernel_rfl; exact hxa; exact hgea; intro wb hbb hcb hXb hUb; obtain ⟨e1', e2', e3', _⟩ := hcb))
   | (((show WL _ _ _ (⟨_, .call ⟨.value (.func 104), _, _⟩, _, _, _, _⟩ :: _) _ _ _); apply WL.callP; (iterate 4 exact rfl); exact hlt9 _ hXb; intro wc hxc))
   | ((apply WL.indexO tOk; (iterate 8 exact rfl); exact hOn; exact extA; exact encI_ok; (rw [List.length_append, hvl, List.length_replicate]; omega); omega; exact hgy; intro gb ha hc; cases ha))
   | ((apply WL.storeO (z' := uLit m.d.t C.1 t.2.1) tOk; (iterate 4 exact rfl); exact hOn; exact extA; (iterate 3 exact rfl); exact encI_ok; exact hgy; exact rfl; exact extA; intro wd hOd hXd hUd))
   | (show WL _ _ _ _ _ _ _; first | apply WL.nil | (refine WL.au (k := ?_)) | (apply WL.index tOk; (iterate 8 exact rfl); assumption; (exact extA); exact rfl; omega; assumption; intro b off h; have hcc := h; first | (obtain ⟨h1, h2, h3, h4, h5, h6, _⟩ := h) | (obtain ⟨h1, h2, h3, _⟩ := h) | (obtain ⟨h1, h2, _⟩ := h) | (obtain ⟨h1, _⟩ := h)))
   | (show Z _ _ _ _ _; first | apply Z.then_normal | apply Z.block_normal)
   | (show W _ _ _ _ _ _; first | apply W.seq | apply W.region | apply W.block | apply W.skip)
   | fail)
  have hXnc : Ext wn wc := hXb.trans hxc
  rw [Int.toNat_natCast, fillG 0 hvl hlt, ← e1] at hOd
  exact Z.againW ⟨by omega, hXd, Sep.updRow (i := 0) rfl hUd hOd (.inl rfl) hSn hXnc (Below.size (hXn.trans hXnc))⟩ (by repeat' first | exact trivial | (refine And.intro ?_ ?_) | exact rfl)
 obtain rfl : k = m.d.lat.2.2.length := by omega
 have eX : (m.d.lat.2.2.take m.d.lat.2.2.length).map (fun t => uLit m.d.t C.1 t.2.1) ++ List.replicate (m.d.lat.2.2.length - m.d.lat.2.2.length) (0 : Int) = nextU m.d.t C.1 := by rw [List.take_length, Nat.sub_self, List.replicate_zero, List.append_nil]; rfl
 rw [eX] at hSn hOn
 have hnx : (nextU m.d.t C.1).length = m.d.lat.2.2.length := nextU_len _ _
 have hgg' : Cells wn gx 0 [.slice (some ⟨gV, 0, none⟩) (signsL m.d.t C.1).length (cNet m.d.t).2.length, .slice bI I.1.length cp] := by rw [signsL_len]; exact hgg
 clear hgg g1 g2
 rw [htl] at hSn
 have hSn' : Lt.Sep w0.heap.size wn ([prow 1 encI 3 w0.heap.size (some ⟨gX, 0, none⟩) m.d.lat.2.2.length (nextU m.d.t C.1), prow 2 encN 127 w0.heap.size (some ⟨gV, 0, none⟩) (cNet m.d.t).2.length (signsL m.d.t C.1)] ++ _) := hSn
 have hOfr : Own 2 encUF 107 w0.heap.size wn x.af x.cf x.fr := hSn.row (i := 7) rfl
 have hne1 : blk x.af ≠ some m.gf := fun hh => by
  rcases hSn.apart 7 6 _ _ rfl rfl (by decide) with h1 | h1
  ·rw [show (prow 2 encUF 107 w0.heap.size x.af x.cf x.fr).b = blk x.af from rfl] at h1; rw [h1] at hh; cases hh
  ·exact h1 hh
 have hne2 : blk x.af ≠ some gx := fun hh => by
  rcases hSn.apart 7 9 _ _ rfl rfl (by decide) with h1 | h1
  ·rw [show (prow 2 encUF 107 w0.heap.size x.af x.cf x.fr).b = blk x.af from rfl] at h1; rw [h1] at hh; cases hh
  ·exact h1 hh
 have hBn : w0.heap.size ≤ wn.heap.size := Below.size hXn
 obtain ⟨fN, hfN⟩ : ∃ f : Fr, f = ((some ⟨gV, 0, none⟩, (cNet m.d.t).2.length, signsL m.d.t C.1), (bI, cp, I.1)) := ⟨_, rfl⟩
 obtain ⟨sN, hsN⟩ : ∃ s : RowV Int, s = (some ⟨gX, 0, none⟩, m.d.lat.2.2.length, nextU m.d.t C.1) := ⟨_, rfl⟩
 have hgf0 : w0.heap.size ≤ m.gf := (hSn.lt (i := 6) rfl rfl).1
 refine W.sub [(0, .pointer (some ⟨m.gf, 0, none⟩)), (3, .pointer (some ⟨gx, 0, none⟩)), (9, .slice (some ⟨gX, 0, none⟩) (nextU m.d.t C.1).length m.d.lat.2.2.length), (135, .int .i64 m.d.lat.2.2.length), (136, .int .i64 m.d.lat.2.2.length)] ⟨rfl, rfl, by rw [hnx]; rfl, rfl, rfl, trivial⟩ ?_
 have hC0 : GrC m.gf gx (.slice x.af x.fr.length x.cf) (.slice x.as' x.st.length x.cs) (.slice (some ⟨gV, 0, none⟩) (signsL m.d.t C.1).length (cNet m.d.t).2.length) (.slice bI I.1.length cp) wn := ⟨c12, c13, hgg'⟩
 repeat' (first
  | (apply W.condKF; exact rfl; (focus (exact dec_false (by omega); done)))
  | (show W _ _ (.region 25 _ _) _ _ _; apply W.regionG (.fl true 0 (.fl true 1 (.fl true 2 (.fl true 3 (.fl true 4 (.fl true 9 (.fl true 10 (.fl true 11 (.fl true 13 (.fl false 5 (.fl false 6 (.fl false 12 (.br 7 (.br 8 (.br 14 (.br 15 (.fl true 16 (.fl true 17 (.br 18 (.fl true 19 (.fl true 20 (.br 21 .done .stop))) .stop))) .stop) .stop) (.br 14 (.br 8 (.br 15 (.fl true 16 (.fl true 17 (.br 18 (.fl true 19 (.fl true 20 (.br 21 .done .stop))) .stop))) .stop) .stop) .stop)) (.br 14 (.br 7 (.br 8 (.br 15 (.fl true 16 (.fl true 17 (.br 18 (.fl true 19 (.fl true 20 (.br 21 .done .stop))) .stop))) .stop) .stop) .stop) .stop)))))))))))))) [6, 7, 8, 12, 14, 15] (GrC m.gf gx (.slice x.af x.fr.length x.cf) (.slice x.as' x.st.length x.cs) (.slice (some ⟨gV, 0, none⟩) (signsL m.d.t C.1).length (cNet m.d.t).2.length) (.slice bI I.1.length cp)) tMix; kernel_rfl)
  | (apply FL.nilc; (iterate 3 exact rfl))
  | ((show FL _ _ _ _ _ _ _ _; apply FL.loadK tOk; (iterate 5 exact rfl); (first | exact fun w9 h9 => h9.c12 | exact fun w9 h9 => h9.c13)))
  | ((show FL _ _ _ _ _ _ _ _; apply FL.loadAK tOk; (iterate 5 exact rfl); exact fun w9 h9 => h9.g; exact rfl))
  | ((show WL _ _ _ (⟨some 156, _, _, _, _, _⟩ :: _) _ _ _; apply WL.lit tOk; (iterate 6 exact rfl); (kernel_rfl); exact rfl; intro g56 w56 hb56 hge56 hc56 hx56; have hn56 : Ext wn w56 := (by first | exact hx56 | exact Ext.trans (by assumption) hx56); have h056 : Ext w0 w56 := hXn.trans hn56; have hC56 := hC0.ext hn56))
  | ((show WL _ _ _ (⟨some 163, _, _, _, _, _⟩ :: _) _ _ _; apply WL.lit tOk; (iterate 6 exact rfl); (kernel_rfl); exact rfl; intro g63 w63 hb63 hge63 hc63 hx63; first | (have h063 : Ext w0 w63 := hXF.trans hx63; have hC63 := hC57.ext hx63) | (have hn63 : Ext wn w63 := (by first | exact hx63 | exact Ext.trans (by assumption) hx63); have h063 : Ext w0 w63 := hXn.trans hn63; have hC63 := hC0.ext hn63; have hk63 : wn.heap.size ≤ g63 := (by first | exact hge63 | exact Nat.le_trans (Below.size (by assumption)) hge63))))
  | ((show WL _ _ _ (⟨some 157, _, _, _, _, _⟩ :: _) _ _ _; apply WL.append1 (z := fN) tOk encUF_ok; (iterate 10 exact rfl); exact hOfr; assumption; exact rfl; (refine Cells.ext ?_ hc56; first | exact Ext.refl _ | assumption); (rw [hfN]; exact rfl); exact rfl; assumption; (rw [hlf.1]; omega); intro aF cF wF hOF hXF hUF hFF; have hSF := Sep.updRow (i := 7) rfl hUF hOF hFF hSn' (by assumption) (Below.size (by assumption)); have hOs := hSF.row (i := 8) (s := 1) (enc := encRow) (el := 22) rfl; have hC57 : GrC m.gf gx (.slice x.af x.fr.length x.cf) (.slice x.as' x.st.length x.cs) (.slice (some ⟨gV, 0, none⟩) (signsL m.d.t C.1).length (cNet m.d.t).2.length) (.slice bI I.1.length cp) wF := (by rw [signsL_len]; exact GrC.of hSF (m := m) (i := 6) (j := 9) rfl rfl); (first | (have hc63' := cells_heap ((hUF.grown.block g63 (heap_lt (Ext.heap (by first | exact Ext.refl _ | assumption) hb63)) (fun he => by have := (hOfr.blk_lt g63 he.symm).2; omega)).trans (Ext.heap (by first | exact Ext.refl _ | assumption) hb63))) | skip)))
  | ((show WL _ _ _ (⟨some 164, _, _, _, _, _⟩ :: _) _ _ _; apply WL.append1 (z := sN) tOk encRow_ok; (iterate 10 exact rfl); exact hOs; (first | exact Ext.refl _ | assumption); exact rfl; (first | exact hc63' | exact hc63); (rw [hsN]; exact rfl); exact rfl; assumption; (rw [hlf.2.2]; omega); intro aS cS wS hOS hXS hUS hFS; have hSS := Sep.updRow (i := 8) rfl hUS hOS hFS hSF (by first | exact Ext.refl _ | assumption) (Below.size (by assumption)); have hbf := hSS.cell (i := 6) (gb := m.gf) rfl; have hC64 : GrC m.gf gx (.slice x.af x.fr.length x.cf) (.slice x.as' x.st.length x.cs) (.slice (some ⟨gV, 0, none⟩) (signsL m.d.t C.1).length (cNet m.d.t).2.length) (.slice bI I.1.length cp) wS := (by rw [signsL_len]; exact GrC.of hSS (m := m) (i := 6) (j := 9) rfl rfl)))
  | ((first | (have h_0 := hU31; clear h_0; apply WL.storeF (w0 := w0) tOk; (iterate 4 exact rfl); exact hb31; exact Ext.refl _; (iterate 4 exact rfl); assumption; exact hgf0; intro w32 hb32 hX32 hU32) | (apply WL.storeF (w0 := w0) tOk; (iterate 4 exact rfl); exact hbf; exact Ext.refl _; (iterate 4 exact rfl); assumption; exact hgf0; intro w31 hb31 hX31 hU31)))
  | ((show SG _ _ _ _ _ _ _ _ _; apply SG.fl1; exact rfl; intro q; first | exact hC64.at q | exact hC57.at q | exact hC63.at q | exact hC56.at q | exact hC0.at q))
  | ((show Z _ _ _ _ _; apply Z.sgE; intro q; first | exact hC64.at q | exact hC57.at q | exact hC63.at q | exact hC56.at q))
  | (show WL _ _ _ _ _ _ _; first | apply WL.nil | (refine WL.au (k := ?_)))
  | (show SG _ _ _ _ _ _ _ _ _; first | apply SG.done | (apply SG.fl0; exact rfl) | (apply SG.br1; exact rfl) | (apply SG.br; exact rfl))
  | (show FL _ _ _ _ _ _ _ _; first | apply FL.nilS | (refine FL.au (k := ?_)))
  | (show Z _ _ _ _ _; (apply Z.sgL; exact rfl))
  | (show Z _ _ _ _ _; first | apply Z.then_normal | apply Z.then_exit | apply Z.block_exit)
  | (show W _ _ _ _ _ _; first | apply W.seq | apply W.region | apply W.ret | apply W.exit)
  | fail)
 all_goals
  have hS31 := Sep.updCell (i := 6) rfl hU31 hb31 hSS (Ext.refl _) (Below.size hXS)
  have hS32 := Sep.updCell (i := 6) rfl hU32 hb32 hS31 (Ext.refl _) (Below.size hX31)
  have hS33 := Sep.pickL (pre := [_, _, _, _, _, _, _, _, _, _, _, _]) [2, 3, 4, 6, 7, 8, 1, 10, 0] pnone hS32 rfl
  obtain ⟨RN, hRN⟩ : ∃ l : List Piece, l = prow 2 encN 127 w0.heap.size (some ⟨gV, 0, none⟩) (cNet m.d.t).2.length (signsL m.d.t C.1) :: prow 1 encI 3 w0.heap.size bI cp I.1 :: prow 1 encI 3 w0.heap.size (some ⟨gX, 0, none⟩) m.d.lat.2.2.length (nextU m.d.t C.1) :: x.R := ⟨_, rfl⟩
  have hSf : Lt.Sep w0.heap.size w32 (unP w0.heap.size m C.2 a8 cap8 aF cF (x.fr ++ [fN]) aS cS (x.st ++ [sN]) RN ++ rest) := by rw [hRN]; exact hS33
  have hkn : UKn w0 m (growU m.d.t u) (x.fr ++ [fN]) (x.st ++ [sN]) RN := un_growKn h hC hI hfN hsN hRN
  exact Z.body1 Tryz.results44 rfl fun q => ⟨rfl, ⟨a8, cap8, aF, cF, x.fr ++ [fN], aS, cS, x.st ++ [sN], RN⟩, hX32.at q, by rw [show (growU m.d.t u).N = C.2 by rw [hC]; rfl]; exact hSf.ext ((Ext.refl _).at q), hkn⟩
end Go.Proofs.YteidpnpbfagaeaaGreat
namespace Go.Proofs.YteidpnpbfagaeaaGreat
open Go Go.Lt Go.RowKit
set_option linter.unusedVariables false
set_option linter.unusedSimpArgs false
set_option maxRecDepth 20000

theorem bit_and (u : BitVec 64) (n : Nat) : dec ((((u >>> n) &&& BitVec.ofInt 64 1).toNat : Int) = 1) = u.getLsbD n := by
 have h : ((u >>> n) &&& BitVec.ofInt 64 1).toNat = (u >>> n).toNat % 2 := by
  rw [BitVec.toNat_and, show (BitVec.ofInt 64 1).toNat = 1 from rfl, Nat.and_one_is_mod]
 rw [h, dec_decide]
 rw [show u.getLsbD n = (u >>> n).getLsbD 0 by simp, BitVec.getLsbD, Nat.testBit_zero]
 congr 1
 simp only [eq_iff_iff]; omega
end Go.Proofs.YteidpnpbfagaeaaGreat
namespace Go.Proofs.YteidpnpbfagaeaaGreat
open Go Go.Lt Go.RowKit
set_option linter.unusedVariables false
set_option linter.unusedSimpArgs false
set_option maxRecDepth 20000

def wordOf (v : List (BitVec 64)) (l : Int) : BitVec 64 :=
 if l < 0 ∨ (v.length ≤ l / 2 ∧ 0 < l / 2) then 0#64
 else if l % 2 = 1 then ~~~ (if 0 < l / 2 then v.getD (l / 2).toNat 0#64 else 0#64) else (if 0 < l / 2 then v.getD (l / 2).toNat 0#64 else 0#64)
def litB (v : List Bool) (l : Int) : Bool :=
 if l = 0 ∨ l = 1 then decide (l = 1) else if l < 0 ∨ v.length ≤ l / 2 then false else v.getD (l / 2).toNat false != decide (l % 2 = 1)

theorem sim_Word (a : Option Addr) (cap : Nat) (v : List (BitVec 64)) (l : Int) (w : World) (R : Row 1 encV w a v) (hl : inI64 l) : Still Tryz.prog 159 [.slice a v.length cap, .int .i64 l] w (u64 (wordOf v l)) := by
 unfold inI64 at hl
 have hlen := R.len
 by_cases h0 : l < 0
 ·refine Spec.of _ Tryz.func159 rfl Tryz.ntmps159 (by kernel_rfl) rfl ?_
  repeat' (first
   | (apply WL.gT; exact rfl; exact rfl; (focus (exact dec_true (by omega))))
   | (apply WL.quow; (iterate 4 exact rfl); unfold inI64; omega)
   | (show WL _ _ _ _ _ _ _; first | apply WL.nil | (refine WL.au (k := ?_)) | (apply WL.guardF; exact rfl; exact rfl))
   | (show Z _ _ _ _ _; first | apply Z.then_normal | apply Z.then_ret | apply Z.block_ret)
   | (show W _ _ _ _ _ _; first | apply W.seq | apply W.region | apply W.block | apply W.ret | (apply W.condT; exact rfl))
   | fail)
  all_goals (refine Z.body1 Tryz.results159 rfl fun m => ⟨?_, m, rfl⟩; rw [wordOf, if_pos (.inl h0)]; rfl)
 by_cases h1 : v.length ≤ l / 2 ∧ 0 < l / 2
 ·refine Spec.of _ Tryz.func159 rfl Tryz.ntmps159 (by kernel_rfl) rfl ?_
  repeat' (first
   | (apply WL.gT; exact rfl; exact rfl; (focus (exact dec_true (by omega))))
   | (apply WL.gF; exact rfl; exact rfl; (focus (exact dec_false (by omega); done)))
   | (apply W.condKT; exact rfl; (focus (exact dec_true (by omega))))
   | (show WL _ _ _ _ _ _ _; first | apply WL.nil | (refine WL.au (k := ?_)))
   | (show Z _ _ _ _ _; first | apply Z.then_normal | apply Z.then_ret | apply Z.block_ret)
   | (show W _ _ _ _ _ _; first | apply W.seq | apply W.region | apply W.block | apply W.ret)
   | fail)
  exact Z.body1 Tryz.results159 rfl fun m => ⟨by rw [wordOf, if_pos (.inr h1)]; rfl, m, rfl⟩
 by_cases h2 : 0 < l / 2
 ·obtain ⟨z, hz⟩ := getI v (show (l / 2).toNat < v.length by omega)
  refine Spec.of _ Tryz.func159 rfl Tryz.ntmps159 (by kernel_rfl) rfl ?_
  repeat' (first
   | (apply WL.gF; exact rfl; exact rfl; (focus (exact dec_false (by omega); done)))
   | (apply W.condKT; exact rfl; (focus (exact dec_true (by omega))))
   | (apply WL.unot; (iterate 3 exact rfl); (exact rfl))
   | (apply WL.and1; (iterate 4 exact rfl); omega)
   | (show WL _ _ _ _ _ _ _; first | apply WL.nil | (refine WL.au (k := ?_)) | (apply WL.index tOk; (iterate 8 exact rfl); assumption; (exact extA); exact rfl; omega; assumption; intro b off h; have hcc := h; first | (obtain ⟨h1, h2, h3, h4, h5, h6, _⟩ := h) | (obtain ⟨h1, h2, h3, _⟩ := h) | (obtain ⟨h1, h2, _⟩ := h) | (obtain ⟨h1, _⟩ := h)) | (apply WL.guardF; exact rfl; exact rfl))
   | (show Z _ _ _ _ _; first | apply Z.then_normal | apply Z.block_normal | apply Z.then_ret)
   | (show W _ _ _ _ _ _; first | apply W.seq | apply W.region | apply W.block | apply W.skip | apply W.ret | (apply W.condF; exact rfl) | (apply W.condD; exact rfl; all_goals intro _))
   | fail)
  all_goals (refine Z.body1 Tryz.results159 rfl fun m => ⟨?_, m, rfl⟩; rw [wordOf, if_neg (by omega)]; (first | rw [if_pos (by assumption)] | rw [if_neg (by assumption)]); rw [if_pos h2, getD_of hz])
 ·refine Spec.of _ Tryz.func159 rfl Tryz.ntmps159 (by kernel_rfl) rfl ?_
  repeat' (first
   | (apply WL.gF; exact rfl; exact rfl; (focus (exact dec_false (by omega); done)))
   | (apply W.condKF; exact rfl; (focus (exact dec_false (by omega); done)))
   | (apply WL.unot; (iterate 3 exact rfl); (exact u64_lit _ (by omega)))
   | (apply WL.and1; (iterate 4 exact rfl); omega)
   | (show WL _ _ _ _ _ _ _; first | apply WL.nil | (refine WL.au (k := ?_)) | (apply WL.guardF; exact rfl; exact rfl) | (apply WL.gD; exact rfl; exact rfl; all_goals intro _))
   | (show Z _ _ _ _ _; first | apply Z.then_normal | apply Z.block_normal | apply Z.then_ret)
   | (show W _ _ _ _ _ _; first | apply W.seq | apply W.region | apply W.block | apply W.skip | apply W.ret | (apply W.condF; exact rfl) | (apply W.condD; exact rfl; all_goals intro _))
   | fail)
  all_goals (refine Z.body1 Tryz.results159 rfl fun m => ⟨?_, m, rfl⟩; rw [wordOf, if_neg (by omega)]; (first | rw [if_pos (by assumption)] | rw [if_neg (by assumption)]); rw [if_neg h2]; rfl)

theorem sim_Lit (a : Option Addr) (cap : Nat) (v : List Bool) (l : Int) (w : World) (R : Row 1 encB w a v) (hl : inI64 l) : Still Tryz.prog 71 [.slice a v.length cap, .int .i64 l] w (.bool (litB v l)) := by
 have hlen := R.len
 unfold inI64 at hl
 by_cases h0 : l < 0
 ·refine Spec.of _ Tryz.func71 rfl Tryz.ntmps71 (by kernel_rfl) rfl ?_
  repeat' (first
   | (apply WL.gT; exact rfl; exact rfl; (focus (exact dec_true (by omega))))
   | (apply WL.quow; (iterate 4 exact rfl); unfold inI64; omega)
   | (show WL _ _ _ _ _ _ _; first | apply WL.nil | (refine WL.au (k := ?_)) | (apply WL.guardF; exact rfl; exact rfl))
   | (show Z _ _ _ _ _; first | apply Z.then_normal | apply Z.block_ret)
   | (show W _ _ _ _ _ _; first | apply W.seq | apply W.region | apply W.block | apply W.ret | (apply W.condT; exact rfl))
   | fail)
  all_goals (refine Z.body1 Tryz.results71 rfl fun m => ⟨congrArg Value.bool ?_, m, rfl⟩; rw [litB, if_neg (by omega), if_pos (by omega)])
 by_cases h1 : l = 0 ∨ l = 1
 ·refine Spec.of _ Tryz.func71 rfl Tryz.ntmps71 (by kernel_rfl) rfl ?_
  repeat' (first
   | (apply WL.gF; exact rfl; exact rfl; (focus (exact dec_false (by omega); done)))
   | (apply W.condKT; exact rfl; (focus (exact dec_true (by omega))))
   | (apply W.condKF; exact rfl; (focus (exact dec_false (by omega); done)))
   | (show WL _ _ _ _ _ _ _; first | apply WL.nil | (refine WL.au (k := ?_)) | (apply WL.guardF; exact rfl; exact rfl) | (apply WL.gD; exact rfl; exact rfl; all_goals intro _))
   | (show Z _ _ _ _ _; first | apply Z.then_normal | apply Z.block_ret)
   | (show W _ _ _ _ _ _; first | apply W.seq | apply W.region | apply W.block | apply W.ret | (apply W.condF; exact rfl))
   | fail)
  all_goals (refine Z.body1 Tryz.results71 rfl fun m => ⟨congrArg Value.bool ?_, m, rfl⟩; rw [litB, if_pos h1, ← dec_decide])
 by_cases h2 : v.length ≤ l / 2
 ·refine Spec.of _ Tryz.func71 rfl Tryz.ntmps71 (by kernel_rfl) rfl ?_
  repeat' (first
   | (apply WL.gT; exact rfl; exact rfl; (focus (exact dec_true (by omega))))
   | (apply WL.gF; exact rfl; exact rfl; (focus (exact dec_false (by omega); done)))
   | (apply W.condKT; exact rfl; (focus (exact dec_true (by omega))))
   | (show WL _ _ _ _ _ _ _; first | apply WL.nil | (refine WL.au (k := ?_)))
   | (show Z _ _ _ _ _; first | apply Z.then_normal | apply Z.block_ret)
   | (show W _ _ _ _ _ _; first | apply W.seq | apply W.region | apply W.block | apply W.ret)
   | fail)
  all_goals (refine Z.body1 Tryz.results71 rfl fun m => ⟨congrArg Value.bool ?_, m, rfl⟩; rw [litB, if_neg h1, if_pos (by omega)])
 ·obtain ⟨z, hz⟩ := getI v (show (l / 2).toNat < v.length by omega)
  refine Spec.of _ Tryz.func71 rfl Tryz.ntmps71 (by kernel_rfl) rfl ?_
  repeat' (first
   | (apply WL.gF; exact rfl; exact rfl; (focus (exact dec_false (by omega); done)))
   | (apply W.condKF; exact rfl; (focus (exact dec_false (by omega); done)))
   | (apply WL.and1; (iterate 4 exact rfl); omega)
   | (show WL _ _ _ _ _ _ _; first | apply WL.nil | (refine WL.au (k := ?_)) | (apply WL.index tOk; (iterate 8 exact rfl); assumption; (exact extA); exact rfl; omega; assumption; intro b off h; have hcc := h; first | (obtain ⟨h1, h2, h3, h4, h5, h6, _⟩ := h) | (obtain ⟨h1, h2, h3, _⟩ := h) | (obtain ⟨h1, h2, _⟩ := h) | (obtain ⟨h1, _⟩ := h)) | (apply WL.guardF; exact rfl; exact rfl))
   | (show Z _ _ _ _ _; first | apply Z.then_normal | apply Z.block_ret)
   | (show W _ _ _ _ _ _; first | apply W.seq | apply W.region | apply W.block | apply W.ret | (apply W.condF; exact rfl))
   | fail)
  all_goals (refine Z.body1 Tryz.results71 rfl fun m => ⟨congrArg Value.bool ?_, m, rfl⟩; rw [litB, if_neg (by assumption), if_neg (by omega), getD_of hz, dec_ne_dec])

def laneOf (v : List (BitVec 64)) (i : Int) : List Bool := if i < 0 ∨ 63 < i then [] else v.map (fun u => u.getLsbD i.toNat)
theorem map_snoc {α β : Type} (f : α → β) {l : List α} {k : Nat} {x : α} (h : l[k]? = some x) : (l.take (k + 1)).map f = (l.take k).map f ++ [f x] := by rw [take_succ' h]; simp
def laneTo (v : List (BitVec 64)) (i : Int) (k : Nat) : List Bool := (v.take k).map (fun u => u.getLsbD i.toNat) ++ List.replicate (v.length - k) false
theorem laneTo_set {v : List (BitVec 64)} {i : Int} {k : Nat} {u : BitVec 64} (hu : v[k]? = some u) : (laneTo v i k).set k (u.getLsbD i.toNat) = laneTo v i (k + 1) := by
 have hk := lt_of_get hu
 have hl : ((v.take k).map (fun u => u.getLsbD i.toNat)).length = k := by simp; omega
 unfold laneTo
 rw [map_snoc _ hu, List.set_append_right _ _ (by omega), hl, Nat.sub_self, show v.length - k = (v.length - (k + 1)) + 1 by omega, List.replicate_succ, List.set_cons_zero]
 simp
theorem laneTo_len (v : List (BitVec 64)) (i : Int) (k : Nat) (h : k ≤ v.length) : (laneTo v i k).length = v.length := by
 simp [laneTo]; omega
theorem laneTo_get {v : List (BitVec 64)} {i : Int} {k : Nat} (h : k < v.length) : (laneTo v i k)[k]? = some false := by
 have hl : ((v.take k).map (fun u => u.getLsbD i.toNat)).length = k := by simp; omega
 rw [laneTo, List.getElem?_append_right (by omega), hl, Nat.sub_self, List.getElem?_replicate, if_pos (by omega)]
theorem sim_Lane (a : Option Addr) (cap : Nat) (v : List (BitVec 64)) (i : Int) (w : World) (R : Row 1 encV w a v) (hn : v.length ≤ 1048576) :
  Lt.Spec Tryz.prog 128 [.slice a v.length cap, .int .i64 i] w (IsFresh 1 encB 4 w (laneOf v i)) := by
 have hlen := R.len
 by_cases hi : i < 0 ∨ 63 < i
 ·refine Spec.of _ Tryz.func128 rfl Tryz.ntmps128 (by kernel_rfl) rfl ?_
  repeat' (first
   | (apply W.condKT; exact rfl; (focus (exact dec_true (by omega))))
   | (show WL _ _ _ _ _ _ _; first | apply WL.nil | (refine WL.au (k := ?_)) | (apply WL.guardF; exact rfl; exact rfl) | (apply WL.gD; exact rfl; exact rfl; all_goals intro _))
   | (show Z _ _ _ _ _; first | apply Z.then_normal | apply Z.then_ret)
   | (show W _ _ _ _ _ _; first | apply W.seq | apply W.region | apply W.ret | (apply W.condT; exact rfl))
   | fail)
  all_goals first
   | (exfalso; omega)
   | (refine Z.body1 Tryz.results128 rfl fun m => ⟨(Ext.refl w).at m, none, 0, ?_, ?_⟩; (rw [laneOf, if_pos hi]; rfl); (rw [laneOf, if_pos hi]; exact Own.nil))
 ·refine Spec.of _ Tryz.func128 rfl Tryz.ntmps128 (by kernel_rfl) rfl ?_
  repeat' (first
   | (apply WL.gF; exact rfl; exact rfl; (focus (exact dec_false (by omega); done)))
   | (apply W.condKF; exact rfl; (focus (exact dec_false (by omega); done)))
   | (apply WL.make (w0 := w) tOk; (iterate 9 exact rfl); exact encB_ok; exact rfl; exact rfl; (exact extA); (omega); intro gb w' hO hge hx)
   | (show WL _ _ _ _ _ _ _; first | apply WL.nil | (refine WL.au (k := ?_)))
   | (show Z _ _ _ _ _; apply Z.then_normal)
   | (show W _ _ _ _ _ _; first | apply W.seq | apply W.region | apply W.block | apply W.skip)
   | fail)
  have e0 : List.replicate ((v.length : Int)).toNat false = laneTo v i 0 := by simp [laneTo]
  rw [e0] at hO
  have e0l : (laneTo v i 0).length = v.length := laneTo_len v i 0 (by omega)
  refine W.loopW v.length (fun k w' => k ≤ v.length ∧ Ext w w' ∧ Own 1 encB 4 w.heap.size w' (some ⟨gb, 0, none⟩) v.length (laneTo v i k))
   (fun k => [(0, .slice a v.length cap), (1, .int .i64 i), (5, .slice (some ⟨gb, 0, none⟩) v.length v.length), (17, .slice a v.length cap), (18, .int .i64 v.length), (19, .int .i64 k)]) ⟨by omega, hx, hO⟩ (fun k w' h => h.1) ⟨rfl, rfl, by rw [e0, e0l]; rfl, rfl, rfl, rfl, trivial⟩ ?_
  rintro k w' ⟨hk, hx', hO'⟩
  have hll := laneTo_len v i k hk
  by_cases hlt : k < v.length
  ·obtain ⟨u, hu⟩ := getI v hlt
   have hz := laneTo_get (i := i) hlt
   repeat' (first
    | (apply W.condKT; exact rfl; (focus (exact dec_true (by omega))))
    | (apply WL.uand; (iterate 4 exact rfl); (exact rfl); (exact u64_lit _ (by omega)))
    | (apply WL.ushr; (iterate 4 exact rfl); (exact rfl); omega)
    | (apply WL.indexO tOk; (iterate 8 exact rfl); assumption; (exact extA); exact encB_ok; ((focus (simp [*]; done))); omega; assumption; intro gb ha hc; cases ha; have hcc := hc; first | (obtain ⟨h1, h2, h3, _⟩ := hc) | (obtain ⟨h1, h2, _⟩ := hc) | (obtain ⟨h1, _⟩ := hc))
    | (apply WL.storeO tOk; (iterate 4 exact rfl); assumption; (exact extA); (iterate 3 exact rfl); exact encB_ok; assumption; exact rfl; (exact extA); intro w' hO hX' hU)
    | (show WL _ _ _ _ _ _ _; first | apply WL.nil | (refine WL.au (k := ?_)) | (apply WL.index tOk; (iterate 8 exact rfl); assumption; (exact extA); exact rfl; omega; assumption; intro b off h; have hcc := h; first | (obtain ⟨h1, h2, h3, h4, h5, h6, _⟩ := h) | (obtain ⟨h1, h2, h3, _⟩ := h) | (obtain ⟨h1, h2, _⟩ := h) | (obtain ⟨h1, _⟩ := h)))
    | (show Z _ _ _ _ _; first | apply Z.then_normal | apply Z.block_normal)
    | (show W _ _ _ _ _ _; first | apply W.seq | apply W.region | apply W.block | apply W.skip)
    | fail)
   rw [bit_and, Int.toNat_natCast, laneTo_set hu] at hO
   exact Z.againW ⟨by omega, hX', hO⟩ ⟨rfl, rfl, rfl, rfl, rfl, rfl, trivial⟩
  ·repeat' (first
    | (apply W.condKF; exact rfl; (focus (exact dec_false (by omega); done)))
    | (show WL _ _ _ _ _ _ _; first | apply WL.nil | (refine WL.au (k := ?_)))
    | (show Z _ _ _ _ _; first | apply Z.then_normal | apply Z.then_exit | apply Z.block_exit)
    | (show W _ _ _ _ _ _; first | apply W.seq | apply W.region | apply W.ret | apply W.exit)
    | fail)
   obtain rfl : k = v.length := by omega
   have e2 : laneTo v i v.length = laneOf v i := by rw [laneOf, if_neg hi, laneTo]; simp
   rw [e2] at hO' hll
   refine Z.body1 Tryz.results128 rfl fun m => ⟨hx'.at m, some ⟨gb, 0, none⟩, v.length, ?_, hO'⟩
   rw [hll]
end Go.Proofs.YteidpnpbfagaeaaGreat
namespace Go.Proofs.YteidpnpbfagaeaaGreat
open Go Go.Lt Go.RowKit
set_option linter.unusedVariables false
set_option linter.unusedSimpArgs false
set_option maxRecDepth 20000

def wstep (ins : List (BitVec 64)) (s : List (BitVec 64) × Nat) (x : Int × Int) : List (BitVec 64) × Nat :=
 if 0 ≤ x.1 then (s.1 ++ [wordOf s.1 x.1 &&& wordOf s.1 x.2], s.2) else (s.1 ++ [ins.getD s.2 0#64], s.2 + 1)
def wto (n : List (Int × Int)) (ins : List (BitVec 64)) (k : Nat) : List (BitVec 64) × Nat := (n.take k).foldl (wstep ins) ([0#64], 0)
def wvalues (n : List (Int × Int)) (ins : List (BitVec 64)) : List (BitVec 64) := (wto n ins n.length).1
theorem wto_succ {n : List (Int × Int)} {k : Nat} {x : Int × Int} (ins : List (BitVec 64)) (h : n[k]? = some x) : wto n ins (k + 1) = wstep ins (wto n ins k) x := by
 unfold wto; rw [take_succ' h, List.foldl_append]; rfl
theorem wto_len (n : List (Int × Int)) (ins : List (BitVec 64)) : ∀ k, k ≤ n.length → (wto n ins k).1.length = k + 1 ∧ (wto n ins k).2 ≤ k
 | 0, _ => by simp [wto]
 | k + 1, h => by
  obtain ⟨x, hx⟩ := getI n (show k < n.length by omega)
  have ih := wto_len n ins k (by omega)
  rw [wto_succ ins hx]; unfold wstep
  split <;> simp <;> omega

theorem sim_Words (a b : Option Addr) (cap cb : Nat) (n : List (Int × Int)) (ins : List (BitVec 64)) (w : World) (R : Row 2 encN w a n) (Rb : Row 1 encV w b ins) (hcb : ins.length ≤ cb) (hg : GoodNet n) (hn : n.length ≤ 1048576) :
  Lt.Spec Tryz.prog 129 [.slice a n.length cap, .slice b ins.length cb] w (IsFresh 1 encV 158 w (wvalues n ins)) := by
 have hlen := Rb.len
 refine Spec.of _ Tryz.func129 rfl Tryz.ntmps129 (by kernel_rfl) rfl ?_
 repeat' (first
  | (apply WL.makeC (w0 := w) (z := 0#64) tOk; (iterate 9 exact rfl); exact encV_ok; exact rfl; exact rfl; (exact extA); (omega); intro gb w' hO hge hx)
  | (show WL _ _ _ _ _ _ _; first | apply WL.nil | (refine WL.au (k := ?_)))
  | (show Z _ _ _ _ _; apply Z.then_normal)
  | (show W _ _ _ _ _ _; first | apply W.seq | apply W.region | apply W.block)
  | fail)
 refine W.loopO2 n.length (fun k c cp b dp w' => k ≤ n.length ∧ Ext w w' ∧ Own 1 encV 158 w.heap.size w' c cp (wto n ins k).1 ∧ Row 1 encV w b (ins.drop (wto n ins k).2) ∧ (ins.drop (wto n ins k).2).length ≤ dp)
  (fun k c cp b dp => [(0, .slice a n.length cap), (1, .slice b (ins.drop (wto n ins k).2).length dp), (5, .slice c (wto n ins k).1.length cp), (13, .slice a n.length cap), (14, .int .i64 n.length), (15, .int .i64 k)])
  (some ⟨gb, 0, none⟩) _ b cb ⟨by omega, hx, hO, Rb, hcb⟩ (fun k c cp b dp w' h => h.1) ⟨rfl, rfl, rfl, rfl, rfl, rfl, trivial⟩ ?_
 rintro k c cp ba dp w' ⟨hk, hx', hO', Rb', hdp⟩
 have hvl := wto_len n ins k hk
 by_cases hlt : k < n.length
 ·obtain ⟨x, hxn⟩ := getI n hlt
  have hs := wto_succ ins hxn
  by_cases hin : 0 ≤ x.1
  ·have hgt := hg.gate hxn hin
   have e2 : (wto n ins (k + 1)).2 = (wto n ins k).2 := by rw [hs, wstep, if_pos hin]
   have e1 : (wto n ins (k + 1)).1 = (wto n ins k).1 ++ [wordOf (wto n ins k).1 x.1 &&& wordOf (wto n ins k).1 x.2] := by rw [hs, wstep, if_pos hin]
   repeat' (first
    | (apply W.condKT; exact rfl; (focus (exact dec_true (by omega))))
    | (apply QL.uand; (iterate 4 exact rfl); (exact rfl); (exact rfl))
    | (apply WL.alloc tOk; (iterate 3 exact rfl); intro gb w' hb hge hx)
    | (apply WL.storeB (w0 := w) tOk; (iterate 4 exact rfl); assumption; (exact extA); (iterate 3 exact rfl); (exact extA); ((focus (apply Nat.le_trans; rotate_left; assumption; exact Below.size extA; done))); intro w' hb hc hX' hU; have hcc := hc; obtain ⟨h1, h2, _⟩ := hc; have hO3 := Upd.own hU (Own.ext hO' hx) (Own.blk_ne hO' hge))
    | ((show QL _ _ _ _ (⟨_, .call ⟨.value (.func 159), _, _⟩, _, _, _, _⟩ :: _) _ _); apply QL.callS; (iterate 4 exact rfl); exact sim_Word _ _ _ _ _ (Own.row encV_ok (by assumption)) (by unfold inI64; omega))
    | (apply WL.lit tOk; (iterate 6 exact rfl); (kernel_rfl); exact rfl; intro gb w' hb hge hc hx)
    | (apply WL.append1 tOk encV_ok; (iterate 10 exact rfl); assumption; (exact extA); (exact rfl); assumption; (exact rfl); exact rfl; (exact extA); (omega); intro a' cap' w' hO hX' hU hF)
    | (show WL _ _ _ _ _ _ _; first | apply WL.nil | (refine WL.au (k := ?_)) | (apply WL.index tOk; (iterate 8 exact rfl); assumption; (exact extA); exact rfl; omega; assumption; intro b off h; have hcc := h; first | (obtain ⟨h1, h2, h3, h4, h5, h6, _⟩ := h) | (obtain ⟨h1, h2, h3, _⟩ := h) | (obtain ⟨h1, h2, _⟩ := h) | (obtain ⟨h1, _⟩ := h)))
    | (show QL _ _ _ _ _ _ _; first | apply QL.nil | (refine QL.au (k := ?_)))
    | (show Z _ _ _ _ _; first | apply Z.then_normal | apply Z.block_normal)
    | (show W _ _ _ _ _ _; first | apply W.seq | apply W.region | apply W.block | apply W.skip | (apply W.regionD tMix; kernel_rfl))
    | fail)
   exact Z.againO2 a' cap' ba dp ⟨by omega, hX', by rw [e1]; exact hO, by rw [e2]; exact Rb', by rw [e2]; exact hdp⟩ (by repeat' first | exact trivial | (refine And.intro ?_ ?_) | exact rfl | (rw [e1]; exact rfl) | (rw [e2]; exact rfl))
  ·have e2 : (wto n ins (k + 1)).2 = (wto n ins k).2 + 1 := by rw [hs, wstep, if_neg hin]
   have e1 : (wto n ins (k + 1)).1 = (wto n ins k).1 ++ [ins.getD (wto n ins k).2 0#64] := by rw [hs, wstep, if_neg hin]
   by_cases hki : (wto n ins k).2 < ins.length
   ·obtain ⟨z, hz⟩ := getI ins hki
    have hz' : (ins.drop (wto n ins k).2)[0]? = some z := by rw [List.getElem?_drop]; exact hz
    have hdl : 0 < (ins.drop (wto n ins k).2).length := by rw [List.length_drop]; omega
    rw [getD_of hz] at e1
    have e3 : (ins.drop (wto n ins k).2).drop 1 = ins.drop (wto n ins (k + 1)).2 := by rw [e2, List.drop_drop]
    repeat' (first
     | (apply W.condKT; exact rfl; (focus (exact dec_true (by omega))))
     | (apply W.condKF; exact rfl; (focus (exact dec_false (by omega); done)))
     | (apply WL.alloc tOk; (iterate 3 exact rfl); intro gb w' hb hge hx)
     | (apply WL.storeB (w0 := w) tOk; (iterate 4 exact rfl); assumption; (exact extA); (iterate 3 exact rfl); (exact extA); ((focus (apply Nat.le_trans; rotate_left; assumption; exact Below.size extA; done))); intro w' hb hc hX' hU; have hcc := hc; obtain ⟨h1, h2, _⟩ := hc; have hO3 := Upd.own hU (Own.ext hO' hx) (Own.blk_ne hO' hge))
     | (apply QL.sliceL tOk; (iterate 8 exact rfl); assumption; (exact rfl); (assumption); (omega); intro as' cs' hR hcs)
     | (apply WL.lit tOk; (iterate 6 exact rfl); (kernel_rfl); exact rfl; intro gb w' hb hge hc hx)
     | (apply WL.append1 tOk encV_ok; (iterate 10 exact rfl); assumption; (exact extA); (exact rfl); assumption; (exact rfl); exact rfl; (exact extA); (omega); intro a' cap' w' hO hX' hU hF)
     | (show WL _ _ _ _ _ _ _; first | apply WL.nil | (refine WL.au (k := ?_)) | (apply WL.index tOk; (iterate 8 exact rfl); assumption; (exact extA); exact rfl; omega; assumption; intro b off h; have hcc := h; first | (obtain ⟨h1, h2, h3, h4, h5, h6, _⟩ := h) | (obtain ⟨h1, h2, h3, _⟩ := h) | (obtain ⟨h1, h2, _⟩ := h) | (obtain ⟨h1, _⟩ := h)))
     | (show QL _ _ _ _ _ _ _; first | apply QL.nil | (refine QL.au (k := ?_)) | (apply QL.index tOk; (iterate 8 exact rfl); assumption; (exact extA); exact rfl; omega; assumption; intro b off h; have hcc := h; first | (obtain ⟨h1, h2, h3, h4, h5, h6, _⟩ := h) | (obtain ⟨h1, h2, h3, _⟩ := h) | (obtain ⟨h1, h2, _⟩ := h) | (obtain ⟨h1, _⟩ := h)))
     | (show Z _ _ _ _ _; first | apply Z.then_normal | apply Z.block_normal)
     | (show W _ _ _ _ _ _; first | apply W.seq | apply W.region | apply W.block | apply W.skip | (apply W.regionD tMix; kernel_rfl))
     | fail)
    exact Z.againO2 a' cap' as' cs' ⟨by omega, hX', by rw [e1]; exact hO, by rw [← e3]; exact hR, by rw [← e3]; exact hcs⟩ (by repeat' first | exact trivial | (refine And.intro ?_ ?_) | exact rfl | (rw [e1]; exact rfl) | (rw [←e3]; exact rfl))
   ·have hd0 : (ins.drop (wto n ins k).2).length = 0 := by rw [List.length_drop]; omega
    have e4 : ins.drop (wto n ins (k + 1)).2 = ins.drop (wto n ins k).2 := by rw [e2, List.drop_eq_nil_of_le (by omega), List.drop_eq_nil_of_le (by omega)]
    have e5 : ins.getD (wto n ins k).2 0#64 = 0#64 := by rw [List.getD, List.getElem?_eq_none (by omega)]; rfl
    rw [e5] at e1
    repeat' (first
     | (apply W.condKT; exact rfl; (focus (exact dec_true (by omega))))
     | (apply W.condKF; exact rfl; (focus (exact dec_false (by omega); done)))
     | (apply WL.alloc tOk; (iterate 3 exact rfl); intro gb w' hb hge hx)
     | (apply WL.storeB (w0 := w) tOk; (iterate 4 exact rfl); assumption; (exact extA); (iterate 3 exact rfl); (exact extA); ((focus (apply Nat.le_trans; rotate_left; assumption; exact Below.size extA; done))); intro w' hb hc hX' hU; have hcc := hc; obtain ⟨h1, h2, _⟩ := hc; have hO3 := Upd.own hU (Own.ext hO' hx) (Own.blk_ne hO' hge))
     | (apply WL.lit tOk; (iterate 6 exact rfl); (kernel_rfl); exact rfl; intro gb w' hb hge hc hx)
     | ((apply WL.append1 (z := 0#64) tOk encV_ok; (iterate 10 exact rfl); assumption; (assumption); (exact rfl); assumption; exact rfl; exact rfl; (exact Ext.trans (by assumption) (by assumption)); omega; intro a' cap' w' hO hX' hU hF))
     | (show WL _ _ _ _ _ _ _; first | apply WL.nil | (refine WL.au (k := ?_)) | (apply WL.index tOk; (iterate 8 exact rfl); assumption; (exact extA); exact rfl; omega; assumption; intro b off h; have hcc := h; first | (obtain ⟨h1, h2, h3, h4, h5, h6, _⟩ := h) | (obtain ⟨h1, h2, h3, _⟩ := h) | (obtain ⟨h1, h2, _⟩ := h) | (obtain ⟨h1, _⟩ := h)))
     | (show Z _ _ _ _ _; first | apply Z.then_normal | apply Z.block_normal)
     | (show W _ _ _ _ _ _; first | apply W.seq | apply W.region | apply W.block | apply W.skip)
     | fail)
    exact Z.againO2 a' cap' ba dp ⟨by omega, hX', by rw [e1]; exact hO, by rw [e4]; exact Rb', by rw [e4]; exact hdp⟩ (by repeat' first | exact trivial | (refine And.intro ?_ ?_) | exact rfl | (rw [e1]; exact rfl) | (rw [e4]; exact rfl))
 ·repeat' (first
   | (apply W.condKF; exact rfl; (focus (exact dec_false (by omega); done)))
   | (show WL _ _ _ _ _ _ _; first | apply WL.nil | (refine WL.au (k := ?_)))
   | (show Z _ _ _ _ _; first | apply Z.then_normal | apply Z.then_exit | apply Z.block_exit)
   | (show W _ _ _ _ _ _; first | apply W.seq | apply W.region | apply W.ret | apply W.exit)
   | fail)
  obtain rfl : k = n.length := by omega
  exact Z.body1 Tryz.results129 rfl fun m => ⟨hx'.at m, c, cp, rfl, hO'⟩
end Go.Proofs.YteidpnpbfagaeaaGreat
namespace Go.Proofs.YteidpnpbfagaeaaGreat
open Go Go.Lt Go.RowKit
set_option linter.unusedVariables false
set_option linter.unusedSimpArgs false
set_option maxRecDepth 20000

abbrev BRow := Option Addr × Nat × List Bool
abbrev encR : BRow → List Value := fun r => [.slice r.1 r.2.2.length r.2.1]
theorem encR_ok : Enc 1 encR := ⟨fun _ => rfl, fun x u hu => by simp at hu; subst hu; rfl, by decide⟩
def RowsIn (w : World) (rs : List BRow) : Prop := ∀ r ∈ rs, Row 1 encB w r.1 r.2.2 ∧ r.2.2.length ≤ r.2.1

def growW (v : List (BitVec 64)) (m : Nat) : List (BitVec 64) := v ++ List.replicate (m - v.length) 0#64
def rowTo (v : List (BitVec 64)) (i : Nat) (row : List Bool) : Nat → List (BitVec 64)
 | 0 => v
 | k + 1 => if row.getD k false then (rowTo v i row k).set k ((rowTo v i row k).getD k 0#64 ||| (1#64 <<< i)) else rowTo v i row k
def packTo (rs : List BRow) : Nat → List (BitVec 64)
 | 0 => []
 | i + 1 => rowTo (growW (packTo rs i) (rs.getD i (none, 0, [])).2.2.length) i (rs.getD i (none, 0, [])).2.2 (rs.getD i (none, 0, [])).2.2.length
def pack (rs : List BRow) : List (BitVec 64) := packTo rs (min rs.length 64)
theorem rowTo_len (v : List (BitVec 64)) (i : Nat) (row : List Bool) (k : Nat) : (rowTo v i row k).length = v.length := by
 induction k with
 | zero => rfl
 | succ k ih => unfold rowTo; split <;> simp [ih]
theorem growW_len (v : List (BitVec 64)) (m : Nat) : (growW v m).length = max v.length m := by simp [growW]; omega

theorem sim_Pack (a : Option Addr) (cap : Nat) (rs : List BRow) (w : World) (R : Row 1 encR w a rs) (hc : rs.length ≤ cap) (hRs : RowsIn w rs) (hb : ∀ r ∈ rs, r.2.2.length ≤ 1048576) :
  Lt.Spec Tryz.prog 130 [.slice a rs.length cap] w (IsFresh 1 encV 158 w (pack rs)) := by
 have hlen := R.len
 have hmm : (min (rs.length : Int) 64).toNat = min rs.length 64 := by omega
 refine Spec.of _ Tryz.func130 rfl Tryz.ntmps130 (by kernel_rfl) rfl ?_
 repeat' (first
  | (apply WL.sliceH tOk; (iterate 7 exact rfl); assumption; (exact rfl); (assumption); (omega); intro hR hc)
  | (apply WL.min; (iterate 4 exact rfl))
  | (show WL _ _ _ _ _ _ _; first | apply WL.nil | (refine WL.au (k := ?_)))
  | (show Z _ _ _ _ _; apply Z.then_normal)
  | (show W _ _ _ _ _ _; first | apply W.seq | apply W.region | apply W.block)
  | fail)
 rw [hmm] at hR hc
 have hm : (rs.take (min rs.length 64)).length = min rs.length 64 := by rw [List.length_take]; omega
 refine W.loopO (min rs.length 64) (fun i c cp w' => i ≤ min rs.length 64 ∧ Ext w w' ∧ Own 1 encV 158 w.heap.size w' c cp (packTo rs i))
  (fun i c cp => [(3, .slice c (packTo rs i).length cp), (12, .slice a (rs.take (min rs.length 64)).length cap), (13, .int .i64 (rs.take (min rs.length 64)).length), (14, .int .i64 i)]) none 0 ⟨by omega, Ext.refl w, Own.nil⟩ (fun k c cp w' h => h.1) ⟨rfl, by rw [hmm]; rfl, by rw [hmm]; rfl, rfl, trivial⟩ ?_
 rintro i c cp w' ⟨hi, hx', hO'⟩
 by_cases hlt : i < min rs.length 64
 ·obtain ⟨r, hr⟩ := getI rs (show i < rs.length by omega)
  have hrt : (rs.take (min rs.length 64))[i]? = some r := by rw [List.getElem?_take, if_pos hlt]; exact hr
  have hrr := hRs r (List.mem_of_getElem? hr)
  have hrl := hb r (List.mem_of_getElem? hr)
  have Rr := hrr.1
  have hrd : rs.getD i (none, 0, []) = r := getD_of hr
  have hnext : packTo rs (i + 1) = rowTo (growW (packTo rs i) r.2.2.length) i r.2.2 r.2.2.length := by rw [packTo, hrd]
  generalize packTo rs i = v at *
  repeat' (first
   | (apply W.condKT; exact rfl; (focus (exact dec_true (by omega))))
   | (show WL _ _ _ _ _ _ _; first | apply WL.nil | (refine WL.au (k := ?_)) | (apply WL.index tOk; (iterate 8 exact rfl); assumption; (exact extA); exact rfl; omega; assumption; intro b off h; have hcc := h; first | (obtain ⟨h1, h2, h3, h4, h5, h6, _⟩ := h) | (obtain ⟨h1, h2, h3, _⟩ := h) | (obtain ⟨h1, h2, _⟩ := h) | (obtain ⟨h1, _⟩ := h)))
   | (show Z _ _ _ _ _; apply Z.then_normal)
   | (show W _ _ _ _ _ _; first | apply W.seq | apply W.region | apply W.block | apply W.skip)
   | fail)
  refine W.loopO (r.2.2.length - v.length) (fun j c cp w' => j ≤ r.2.2.length - v.length ∧ Ext w w' ∧ Own 1 encV 158 w.heap.size w' c cp (v ++ List.replicate j 0#64))
   (fun j c cp => [(3, .slice c (v ++ List.replicate j 0#64).length cp), (4, .int .i64 i), (5, .slice r.1 r.2.2.length r.2.1), (12, .slice a (rs.take (min rs.length 64)).length cap), (13, .int .i64 (rs.take (min rs.length 64)).length), (14, .int .i64 i)]) c cp ⟨by omega, hx', by simpa using hO'⟩ (fun k c cp w' h => h.1) ⟨by rw [List.replicate_zero, List.append_nil]; rfl, rfl, rfl, rfl, rfl, rfl, trivial⟩ ?_
  rintro j c cp w' ⟨hj, hx', hO'⟩
  have hjl : (v ++ List.replicate j 0#64).length = v.length + j := by simp
  by_cases hjt : j < r.2.2.length - v.length
  ·have e1 : v ++ List.replicate (j + 1) 0#64 = (v ++ List.replicate j 0#64) ++ [0#64] := by rw [List.append_assoc, List.replicate_succ']
   repeat' (first
    | (apply W.condKT; exact rfl; (focus (exact dec_true (by omega))))
    | (apply WL.lit tOk; (iterate 6 exact rfl); (kernel_rfl); exact rfl; intro gb w' hb hge hc hx)
    | ((apply WL.append1 (z := 0#64) tOk encV_ok; (iterate 10 exact rfl); assumption; (assumption); (exact rfl); assumption; exact rfl; exact rfl; (exact Ext.trans (by assumption) (by assumption)); omega; intro a' cap' w' hO hX' hU hF))
    | (show WL _ _ _ _ _ _ _; first | apply WL.nil | (refine WL.au (k := ?_)))
    | (show Z _ _ _ _ _; first | apply Z.then_normal | apply Z.block_normal)
    | (show W _ _ _ _ _ _; first | apply W.seq | apply W.region | apply W.block | apply W.skip)
    | fail)
   exact Z.againO a' cap' ⟨by omega, hX', by rw [e1]; exact hO⟩ (by repeat' first | exact trivial | (refine And.intro ?_ ?_) | exact rfl | (rw [e1]; exact rfl))
  ·repeat' (first
    | (apply W.condKF; exact rfl; (focus (exact dec_false (by omega); done)))
    | (show WL _ _ _ _ _ _ _; first | apply WL.nil | (refine WL.au (k := ?_)))
    | (show Z _ _ _ _ _; first | apply Z.then_normal | apply Z.then_exit | apply Z.block_exit)
    | (show W _ _ _ _ _ _; first | apply W.seq | apply W.region | apply W.block | apply W.exit)
    | fail)
   obtain rfl : j = r.2.2.length - v.length := by omega
   have hgw : v ++ List.replicate (r.2.2.length - v.length) 0#64 = growW v r.2.2.length := rfl
   rw [hgw] at hO' hjl ⊢
   have hgl := growW_len v r.2.2.length
   refine W.loopW r.2.2.length (fun k w' => k ≤ r.2.2.length ∧ Ext w w' ∧ Own 1 encV 158 w.heap.size w' c cp (rowTo (growW v r.2.2.length) i r.2.2 k))
    (fun k => [(3, .slice c (rowTo (growW v r.2.2.length) i r.2.2 k).length cp), (4, .int .i64 i), (27, .slice r.1 r.2.2.length r.2.1), (28, .int .i64 r.2.2.length), (29, .int .i64 k), (12, .slice a (rs.take (min rs.length 64)).length cap), (13, .int .i64 (rs.take (min rs.length 64)).length), (14, .int .i64 i)]) ⟨by omega, hx', hO'⟩ (fun k w' h => h.1) ⟨rfl, rfl, rfl, rfl, rfl, rfl, rfl, rfl, trivial⟩ ?_
   rintro k w' ⟨hk, hx', hO'⟩
   have hrlen := rowTo_len (growW v r.2.2.length) i r.2.2 k
   by_cases hkt : k < r.2.2.length
   ·obtain ⟨z, hz⟩ := getI r.2.2 hkt
    obtain ⟨u, hu⟩ := getI (rowTo (growW v r.2.2.length) i r.2.2 k) (show k < _ by omega)
    have e0 : rowTo (growW v r.2.2.length) i r.2.2 (k + 1) = if z then (rowTo (growW v r.2.2.length) i r.2.2 k).set k (u ||| (1#64 <<< i)) else rowTo (growW v r.2.2.length) i r.2.2 k := by rw [rowTo, getD_of hz, getD_of hu]
    have e5 : (rowTo (growW v r.2.2.length) i r.2.2 (k + 1)).length = (rowTo (growW v r.2.2.length) i r.2.2 k).length := by rw [rowTo_len, rowTo_len]
    repeat' (first
     | (apply W.condKT; exact rfl; (focus (exact dec_true (by omega))))
     | (apply QL.uor; (iterate 4 exact rfl); (exact rfl); (exact rfl))
     | (apply QL.ushl; (iterate 4 exact rfl); (exact u64_lit _ (by omega)); omega)
     | (apply W.regionQS 8 tMix; kernel_rfl; exact rfl; kernel_rfl; kernel_rfl)
     | (apply QL.indexO tOk; (iterate 8 exact rfl); assumption; (exact extA); exact encV_ok; (exact rfl); omega; assumption; intro gb ha hc; cases ha; have hcc := hc; first | (obtain ⟨h1, h2, h3, _⟩ := hc) | (obtain ⟨h1, h2, _⟩ := hc) | (obtain ⟨h1, _⟩ := hc))
     | (apply WL.storeO tOk; (iterate 4 exact rfl); assumption; (exact extA); (iterate 3 exact rfl); exact encV_ok; assumption; exact rfl; (exact extA); intro w' hO hX' hU)
     | (show WL _ _ _ _ _ _ _; first | apply WL.nil | (refine WL.au (k := ?_)) | (apply WL.index tOk; (iterate 8 exact rfl); assumption; (exact extA); exact rfl; omega; assumption; intro b off h; have hcc := h; first | (obtain ⟨h1, h2, h3, h4, h5, h6, _⟩ := h) | (obtain ⟨h1, h2, h3, _⟩ := h) | (obtain ⟨h1, h2, _⟩ := h) | (obtain ⟨h1, _⟩ := h)))
     | (show QL _ _ _ _ _ _ _; first | apply QL.nil | (refine QL.au (k := ?_)))
     | (show Z _ _ _ _ _; first | apply Z.tail | apply Z.then_normal | apply Z.block_normal)
     | (show W _ _ _ _ _ _; first | apply W.seq | apply W.region | apply W.block | apply W.skip | (apply W.condB; exact rfl; all_goals intro _))
     | fail)
    ·have hz1 : z = true := by assumption
     rw [hz1, if_pos rfl] at e0
     simp only [Int.toNat_natCast, show BitVec.ofInt 64 1 = 1#64 from rfl] at hO
     rw [← e0] at hO
     exact Z.againW ⟨by omega, hX', hO⟩ (by repeat' first | exact trivial | (refine And.intro ?_ ?_) | exact rfl | (rw [e5]; exact rfl))
    ·have hz1 : z = false := by assumption
     rw [hz1, if_neg (by decide)] at e0
     exact Z.againW ⟨by omega, hx', by rw [e0]; exact hO'⟩ (by repeat' first | exact trivial | (refine And.intro ?_ ?_) | exact rfl | (rw [e5]; exact rfl))
   ·repeat' (first
     | (apply W.condKF; exact rfl; (focus (exact dec_false (by omega); done)))
     | (show WL _ _ _ _ _ _ _; first | apply WL.nil | (refine WL.au (k := ?_)))
     | (show Z _ _ _ _ _; first | apply Z.then_normal | apply Z.block_normal | apply Z.then_exit | apply Z.block_exit)
     | (show W _ _ _ _ _ _; first | apply W.seq | apply W.region | apply W.exit)
     | fail)
    obtain rfl : k = r.2.2.length := by omega
    exact Z.againO c cp ⟨by omega, hx', by rw [hnext]; exact hO'⟩ (by repeat' first | exact trivial | (refine And.intro ?_ ?_) | exact rfl | (rw [hnext]; exact rfl))
 ·repeat' (first
   | (apply W.condKF; exact rfl; (focus (exact dec_false (by omega); done)))
   | (show WL _ _ _ _ _ _ _; first | apply WL.nil | (refine WL.au (k := ?_)))
   | (show Z _ _ _ _ _; first | apply Z.then_normal | apply Z.then_exit | apply Z.block_exit)
   | (show W _ _ _ _ _ _; first | apply W.seq | apply W.region | apply W.ret | apply W.exit)
   | fail)
  obtain rfl : i = min rs.length 64 := by omega
  exact Z.body1 Tryz.results130 rfl fun m => ⟨hx'.at m, c, cp, rfl, hO'⟩
end Go.Proofs.YteidpnpbfagaeaaGreat
namespace Go.Proofs.YteidpnpbfagaeaaGreat
open Go Go.Lt Go.RowKit
set_option linter.unusedVariables false
set_option linter.unusedSimpArgs false
set_option maxRecDepth 20000

abbrev bitsOf (v : List (BitVec 64)) (i : Nat) : List Bool := v.map (fun u => u.getLsbD i)
theorem getD_bits (v : List (BitVec 64)) (i k : Nat) : (bitsOf v i).getD k false = (v.getD k 0#64).getLsbD i := by
 simp only [List.getD, bitsOf, List.getElem?_map]
 cases v[k]? <;> simp
theorem bit_wordOf {v : List (BitVec 64)} {l : Int} {i : Nat} (hv : v.getD 0 0#64 = 0#64) (h0 : 0 ≤ l) (h1 : l / 2 < v.length) (hi : i < 64) : (wordOf v l).getLsbD i = ofL (bitsOf v i) l := by
 rw [wordOf, if_neg (by omega), ofL, getD_bits]
 have hw : (if 0 < l / 2 then v.getD (l / 2).toNat 0#64 else 0#64) = v.getD (l / 2).toNat 0#64 := by
  split
  ·rfl
  ·rw [show (l / 2).toNat = 0 by omega, hv]
 rw [hw]
 split
 ·simp [*]
 ·simp [*]
theorem wto_head (n : List (Int × Int)) (W : List (BitVec 64)) : ∀ k, k ≤ n.length → (wto n W k).1.getD 0 0#64 = 0#64
 | 0, _ => by simp [wto]
 | k + 1, h => by
  obtain ⟨x, hx⟩ := getI n (show k < n.length by omega)
  have ih := wto_head n W k (by omega)
  have hl := wto_len n W k (by omega)
  rw [wto_succ W hx]; unfold wstep
  have happ : ∀ y : BitVec 64, ((wto n W k).1 ++ [y]).getD 0 0#64 = (wto n W k).1.getD 0 0#64 := fun y => by
   simp only [List.getD]
   rw [List.getElem?_append_left (by omega)]
  split <;> simp only [happ, ih]
theorem bits_to {n : List (Int × Int)} (hg : GoodNet n) (W : List (BitVec 64)) {i : Nat} (hi : i < 64) : ∀ k, k ≤ n.length → bitsOf (wto n W k).1 i = (vto n (bitsOf W i) k).1 ∧ (wto n W k).2 = (vto n (bitsOf W i) k).2
 | 0, _ => by simp [wto, vto, bitsOf]
 | k + 1, h => by
  obtain ⟨x, hx⟩ := getI n (show k < n.length by omega)
  obtain ⟨ih1, ih2⟩ := bits_to hg W hi k (by omega)
  have hl := wto_len n W k (by omega)
  have hh := wto_head n W k (by omega)
  rw [wto_succ W hx, vto_succ (bitsOf W i) hx]; unfold wstep vstep
  by_cases h0 : 0 ≤ x.1
  ·have hgt := hg.gate hx h0
   rw [if_pos h0, if_neg (by omega)]
   refine ⟨?_, ih2⟩
   show bitsOf ((wto n W k).1 ++ [_]) i = _
   rw [bitsOf, List.map_append, List.map_cons, List.map_nil, ← bitsOf, ih1, BitVec.getLsbD_and, bit_wordOf hh h0 (by omega) hi, bit_wordOf hh (by omega) (by omega) hi, ih1]
  ·rw [if_neg h0, if_pos (by omega)]
   refine ⟨?_, by show _ + 1 = _ + 1; rw [ih2]⟩
   show bitsOf ((wto n W k).1 ++ [_]) i = _
   rw [bitsOf, List.map_append, List.map_cons, List.map_nil, ← bitsOf, ih1, ← ih2, ← getD_bits]
theorem bits_wvalues {n : List (Int × Int)} (hg : GoodNet n) (W : List (BitVec 64)) {i : Nat} (hi : i < 64) : bitsOf (wvalues n W) i = values n (bitsOf W i) := (bits_to hg W hi n.length (Nat.le_refl _)).1

theorem getD_set {α : Type} (l : List α) (k q : Nat) (y d : α) : (l.set k y).getD q d = if q = k ∧ q < l.length then y else l.getD q d := by
 simp only [List.getD, List.getElem?_set]
 by_cases h : k = q
 ·subst h
  by_cases h2 : k < l.length
  ·simp [h2]
  ·simp [h2]
 ·rw [if_neg h, if_neg (fun hh => h hh.1.symm)]
theorem bit_pow (u : BitVec 64) (i t : Nat) (hi : i < 64) : (u ||| (1#64 <<< i)).getLsbD t = (u.getLsbD t || decide (t = i)) := by
 have h : (1#64 <<< i).getLsbD t = decide (t = i) := by
  show (BitVec.twoPow 64 i).getLsbD t = _
  rw [BitVec.getLsbD_twoPow]
  simp [hi, eq_comm]
 rw [BitVec.getLsbD_or, h]
theorem rowTo_bit (v : List (BitVec 64)) (i : Nat) (row : List Bool) (q t : Nat) (hi : i < 64) (ht : t < 64) : ∀ k, ((rowTo v i row k).getD q 0#64).getLsbD t = ((v.getD q 0#64).getLsbD t || (decide (t = i ∧ q < k ∧ q < v.length) && row.getD q false))
 | 0 => by simp [rowTo]
 | k + 1 => by
  have ih := rowTo_bit v i row q t hi ht k
  have hl := rowTo_len v i row k
  unfold rowTo
  by_cases hr : row.getD k false = true
  ·rw [if_pos hr, getD_set]
   by_cases hqk : q = k ∧ q < (rowTo v i row k).length
   ·obtain ⟨rfl, hq⟩ := hqk
    rw [if_pos ⟨rfl, hq⟩, bit_pow _ _ _ hi, ih, hr]
    rw [hl] at hq
    simp [hq]
   ·rw [if_neg hqk, ih]
    congr 2
    rw [decide_eq_decide]
    rw [hl] at hqk
    omega
  ·rw [if_neg hr, ih]
   by_cases hqk : q = k
   ·subst hqk
    have : row.getD q false = false := by simpa using hr
    rw [this]; simp
   ·congr 2
    rw [decide_eq_decide]
    omega
theorem grow_get (v : List (BitVec 64)) (m q : Nat) : (growW v m).getD q 0#64 = v.getD q 0#64 := by
 simp only [growW, List.getD, List.getElem?_append]
 split
 ·rfl
 ·rename_i h
  rw [List.getElem?_eq_none (l := v) (by omega), List.getElem?_replicate]
  split <;> rfl
theorem pack_bit (rs : List BRow) (q t : Nat) (ht : t < 64) : ∀ i, i ≤ 64 → ((packTo rs i).getD q 0#64).getLsbD t = (decide (t < i) && (rs.getD t (none, 0, [])).2.2.getD q false)
 | 0, _ => by simp [packTo]
 | i + 1, h => by
  rw [packTo, rowTo_bit _ _ _ _ _ (by omega) ht, grow_get, pack_bit rs q t ht i (by omega), growW_len]
  by_cases hti : t = i
  ·subst hti
   by_cases hq : q < (rs.getD t (none, 0, [])).2.2.length
   ·have : q < max (packTo rs t).length (rs.getD t (none, 0, [])).2.2.length := by omega
    rw [decide_eq_true (show t = t ∧ q < _ ∧ q < _ from ⟨rfl, hq, this⟩), decide_eq_true (Nat.lt_succ_self t)]
    simp
   ·have : (rs.getD t (none, 0, [])).2.2.getD q false = false := by rw [List.getD, List.getElem?_eq_none (by omega)]; rfl
    rw [this]; simp
  ·have h1 : decide (t < i + 1) = decide (t < i) := by rw [decide_eq_decide]; omega
   rw [h1]; simp [hti]

theorem sim_Eval (a b : Option Addr) (cap cb : Nat) (n : List (Int × Int)) (ins : List Bool) (w : World) (R : Row 2 encN w a n) (Rb : Row 1 encB w b ins) (hcb : ins.length ≤ cb) (hg : GoodNet n) (hn : n.length ≤ 1000000) (hi : ins.length ≤ 1048576) :
  Lt.Spec Tryz.prog 69 [.slice a n.length cap, .slice b ins.length cb] w (IsFresh 1 encB 4 w (values n ins)) := by
 have hpk : (pack [(b, cb, ins)]).length = ins.length := by
  show (rowTo (growW [] ins.length) 0 ins ins.length).length = _
  rw [rowTo_len, growW_len]; simp
 have hpb : bitsOf (pack [(b, cb, ins)]) 0 = ins := by
  apply List.ext_getElem?
  intro q
  by_cases hq : q < ins.length
  ·have h1 := pack_bit [(b, cb, ins)] q 0 (by omega) 1 (by omega)
   have h2 : ((pack [(b, cb, ins)]).getD q 0#64).getLsbD 0 = ins.getD q false := by
    show ((packTo [(b, cb, ins)] 1).getD q 0#64).getLsbD 0 = _
    rw [h1]; rfl
   rw [← getD_bits] at h2
   have hbl : (bitsOf (pack [(b, cb, ins)]) 0).length = ins.length := by rw [bitsOf, List.length_map, hpk]
   obtain ⟨x, hx⟩ := getI (bitsOf (pack [(b, cb, ins)]) 0) (show q < _ by omega)
   obtain ⟨y, hy⟩ := getI ins hq
   rw [getD_of hx, getD_of hy] at h2
   rw [hx, hy, h2]
  ·rw [List.getElem?_eq_none (by rw [bitsOf, List.length_map, hpk]; omega), List.getElem?_eq_none (by omega)]
 have hwl : (wvalues n (pack [(b, cb, ins)])).length = n.length + 1 := (wto_len n _ n.length (Nat.le_refl _)).1
 refine Spec.of _ Tryz.func69 rfl Tryz.ntmps69 (by kernel_rfl) rfl ?_
 repeat' (first
  | (apply WL.lit tOk; (iterate 6 exact rfl); (first | exact rfl | kernel_rfl | (simp [Instr.fill, catCells]; done)); exact rfl; intro gb w' hb hge hc hx; have hO := Own.of_block ([(b, cb, ins)]) encR_ok hb hge rfl)
  | (show WL _ _ _ _ _ _ _; first | apply WL.nil | (refine WL.au (k := ?_)))
  | (show Z _ _ _ _ _; apply Z.then_normal)
  | (show W _ _ _ _ _ _; first | apply W.seq | apply W.region)
  | fail)
 have hrs : RowsIn w' [(b, cb, ins)] := fun r hr => by
  have : r = (b, cb, ins) := by simpa using hr
  subst this; exact ⟨Rb.ext hx, hcb⟩
 have hbs : ∀ r ∈ [((b, cb, ins) : BRow)], r.2.2.length ≤ 1048576 := fun r hr => by
  have : r = (b, cb, ins) := by simpa using hr
  subst this; exact hi
 have R1 := R.ext hx
 have hx2 := hx
 repeat' (first
  | ((show WL _ _ _ (⟨_, .call ⟨.value (.func 130), _, _⟩, _, _, _, _⟩ :: _) _ _ _); apply WL.call; (iterate 4 exact rfl); exact sim_Pack _ _ [(b, cb, ins)] _ (Own.row encR_ok (by assumption)) (Nat.le_refl _) hrs hbs; rintro v' w' ⟨hx, a', cap', rfl, hO⟩)
  | fail)
 have hO1 := hO
 have hx1 := hx
 repeat' (first
  | ((show WL _ _ _ (⟨_, .call ⟨.value (.func 129), _, _⟩, _, _, _, _⟩ :: _) _ _ _); apply WL.call; (iterate 4 exact rfl); exact sim_Words _ _ _ _ _ (pack [(b, cb, ins)]) _ (R1.ext hx1) (Own.row encV_ok hO1) hO1.capLe hg (by omega); rintro v' w' ⟨hx, a', cap', rfl, hO⟩)
  | fail)
 have hx3 := hx
 repeat' (first
  | ((show WL _ _ _ (⟨_, .call ⟨.value (.func 128), _, _⟩, _, _, _, _⟩ :: _) _ _ _); apply WL.call; (iterate 4 exact rfl); exact sim_Lane _ _ (wvalues n (pack [(b, cb, ins)])) _ _ (Own.row encV_ok (by assumption)) (by omega); rintro v' w' ⟨hx, a', cap', rfl, hO⟩)
  | (show WL _ _ _ _ _ _ _; first | apply WL.nil | (refine WL.au (k := ?_)))
  | (show Z _ _ _ _ _; apply Z.then_normal)
  | (show W _ _ _ _ _ _; apply W.ret)
  | fail)
 have hl : laneOf (wvalues n (pack [(b, cb, ins)])) 0 = values n ins := by
  rw [laneOf, if_neg (by omega)]
  show bitsOf _ 0 = _
  rw [bits_wvalues hg _ (by omega), hpb]
 rw [hl] at hO
 refine Z.body1 Tryz.results69 rfl fun m => ⟨(hx2.trans (hx1.trans (hx3.trans hx))).at m, a', cap', by rw [hl], hO.base (Nat.le_trans hx2.size (Nat.le_trans hx1.size hx3.size))⟩
end Go.Proofs.YteidpnpbfagaeaaGreat
namespace Go.Proofs.YteidpnpbfagaeaaGreat
open Go Go.Lt Go.RowKit
set_option linter.unusedVariables false
set_option linter.unusedSimpArgs false
set_option maxRecDepth 20000

structure MAt (w : World) (gm : Nat) (c : Circ) (rn : RowV (Int × Int)) (ra : RowV Int) : Prop where
 cells : Cells w gm 0 (c.vals ++ [rowVal rn, rowVal ra])
 cat : CAt w c
 net : Row 2 encN w rn.1 rn.2.2
 at_ : Row 1 encI w ra.1 ra.2.2
 en : rn.2.2 = (cNet c.t).1
 ea : ra.2.2 = (cNet c.t).2
 good : GoodC' c.t
 size : SzC c.t 100000
theorem MAt.ext {w w' : World} {gm : Nat} {c : Circ} {rn : RowV (Int × Int)} {ra : RowV Int} (h : MAt w gm c rn ra) (hx : Ext w w') : MAt w' gm c rn ra :=
 ⟨h.cells.ext hx, h.cat.ext hx, h.net.ext hx, h.at_.ext hx, h.en, h.ea, h.good, h.size⟩

end Go.Proofs.YteidpnpbfagaeaaGreat
namespace Go.Lt
open Go.RowKit
set_option linter.unusedVariables false

theorem OwnRR.nil {α : Type} {s : Nat} {enc : α → List Value} {el elO B : Nat} {w : World} {a : Option Addr} {cap : Nat} (h : Own 1 encRow elO B w a cap ([] : List (RowV α))) : OwnRR s enc el elO B w a cap [] :=
 ⟨h, fun i r hr => by simp at hr, fun i r hr => by simp at hr, fun i j r q hr => by simp at hr⟩
structure RR1 {α : Type} (s : Nat) (enc : α → List Value) (el elO B : Nat) (w : World) (a : Option Addr) (cap : Nat) (rs : List (RowV α)) (b : Option Addr) (dp : Nat) (S : List α) : Prop where
 rr : OwnRR s enc el elO B w a cap rs
 own : Own s enc el B w b dp S
 apartO : blk b = none ∨ blk b ≠ blk a
 apart : ∀ (i : Nat) (q : RowV α), rs[i]? = some q → blk q.1 = none ∨ blk q.1 ≠ blk b
section
variable {α : Type} {s : Nat} {enc : α → List Value} {el elO B : Nat} {w w1 w2 w3 : World} {a a' b : Option Addr} {cap cap' dp : Nat} {rs : List (RowV α)} {S : List α}
theorem RR1.ext (h : RR1 s enc el elO B w a cap rs b dp S) (hx : Ext w w1) : RR1 s enc el elO B w1 a cap rs b dp S := ⟨h.rr.ext hx, h.own.ext hx, h.apartO, h.apart⟩
theorem RR1.new (h : OwnRR s enc el elO B w1 a cap rs) (hx : Ext w1 w2) (hO : Own s enc el w1.heap.size w2 b dp S) (hB : B ≤ w1.heap.size) : RR1 s enc el elO B w2 a cap rs b dp S := by
 refine ⟨h.ext hx, hO.base hB, ?_, fun i q hq => ?_⟩
 ·cases hb : blk b with
  | none => exact .inl rfl
  | some k =>
   refine .inr fun he => ?_
   have h1 := (hO.blk_lt k hb).1
   have h2 := (h.outer.blk_lt k he.symm).2
   omega
 ·cases hb : blk q.1 with
  | none => exact .inl rfl
  | some k =>
   refine .inr fun he => ?_
   have h1 := ((h.inner i q hq).blk_lt k hb).2
   have h2 := (hO.blk_lt k he.symm).1
   omega
theorem RR1.first {g c0 : Nat} (hO : Own s enc el B w b dp S) (h : Own 1 encRow elO B w (some ⟨g, 0, none⟩) c0 ([] : List (RowV α))) (hg : ∀ k, blk b = some k → k ≠ g) : RR1 s enc el elO B w (some ⟨g, 0, none⟩) c0 [] b dp S := by
 refine ⟨OwnRR.nil h, hO, ?_, fun i q hq => by simp at hq⟩
 cases hb : blk b with
 | none => exact .inl rfl
 | some k =>
  refine .inr fun he => hg k hb ?_
  simp only [blk, Option.map_some, Option.some.injEq] at he; exact he
theorem RR1.push (h : RR1 s enc el elO B w2 a cap rs b dp S) (hU : Upd B a w2 w3) (hO : Own 1 encRow elO B w3 a' cap' (rs ++ [(b, dp, S)])) (hF : blk a' = blk a ∨ ∃ k, blk a' = some k ∧ w2.heap.size ≤ k) : OwnRR s enc el elO B w3 a' cap' (rs ++ [(b, dp, S)]) := by
 obtain ⟨hr, ho, hA, hI⟩ := h
 have get : ∀ (i : Nat) (q : RowV α), (rs ++ [(b, dp, S)])[i]? = some q → (i < rs.length ∧ rs[i]? = some q) ∨ (i = rs.length ∧ q = (b, dp, S)) := fun i q hq => by
  by_cases hi : i < rs.length
  ·rw [List.getElem?_append_left hi] at hq; exact .inl ⟨hi, hq⟩
  ·rw [List.getElem?_append_right (by omega)] at hq
   have h0 := lt_of_get hq
   simp at h0
   have h1 : i - rs.length = 0 := by omega
   rw [h1] at hq
   simp at hq
   exact .inr ⟨by omega, hq.symm⟩
 have lt2 : ∀ (i : Nat) (q : RowV α) (k : Nat), (rs ++ [(b, dp, S)])[i]? = some q → blk q.1 = some k → k < w2.heap.size := fun i q k hq hk => by
  rcases get i q hq with ⟨_, hq⟩ | ⟨_, rfl⟩
  ·exact ((hr.inner i q hq).blk_lt k hk).2
  ·exact (ho.blk_lt k hk).2
 have apA : ∀ (i : Nat) (q : RowV α), (rs ++ [(b, dp, S)])[i]? = some q → blk q.1 = none ∨ blk q.1 ≠ blk a := fun i q hq => by
  rcases get i q hq with ⟨_, hq⟩ | ⟨_, rfl⟩
  ·exact hr.apartO i q hq
  ·exact hA
 refine ⟨hO, fun i q hq => ?_, fun i q hq => ?_, fun i j q p h1 h2 hne => ?_⟩
 ·rcases get i q hq with ⟨_, hq'⟩ | ⟨_, rfl⟩
  ·exact hU.own (hr.inner i q hq') (hr.apartO i q hq')
  ·exact hU.own ho hA
 ·rcases hF with hF | ⟨k, hk, hle⟩
  ·rw [hF]; exact apA i q hq
  ·cases hb : blk q.1 with
   | none => exact .inl rfl
   | some b =>
    refine .inr fun he => ?_
    have := lt2 i q b hq hb
    rw [hk] at he
    have := Option.some.inj he
    omega
 ·rcases get i q h1 with ⟨_, h1'⟩ | ⟨rfl, rfl⟩
  ·rcases get j p h2 with ⟨_, h2'⟩ | ⟨rfl, rfl⟩
   ·exact hr.apart i j q p h1' h2' hne
   ·exact hI i q h1'
  ·rcases get j p h2 with ⟨_, h2'⟩ | ⟨rfl, rfl⟩
   ·show blk b = none ∨ blk b ≠ blk p.1
    cases hb : blk b with
    | none => exact .inl rfl
    | some k =>
     refine .inr fun he => ?_
     rcases hI j p h2' with h3 | h3
     ·rw [h3] at he; cases he
     ·exact h3 (by rw [hb]; exact he.symm)
   ·exact absurd rfl hne
end
theorem OwnRR.base {α : Type} {s : Nat} {enc : α → List Value} {el elO B C : Nat} {w : World} {a : Option Addr} {cap : Nat} {rs : List (RowV α)} (h : OwnRR s enc el elO C w a cap rs) (hB : B ≤ C) : OwnRR s enc el elO B w a cap rs := ⟨h.outer.base hB, fun i r hr => (h.inner i r hr).base hB, h.apartO, h.apart⟩
theorem OwnRR.row {α : Type} {s : Nat} {enc : α → List Value} {el elO B : Nat} {w : World} {a : Option Addr} {cap : Nat} {rs : List (RowV α)} (h : OwnRR s enc el elO B w a cap rs) (hE : Enc s enc) {i : Nat} {r : RowV α} (hr : rs[i]? = some r) : Row s enc w r.1 r.2.2 := (h.inner i r hr).row hE
theorem OwnRR.at {α : Type} {s : Nat} {enc : α → List Value} {el elO B : Nat} {w : World} {a : Option Addr} {cap : Nat} {rs : List (RowV α)} (h : OwnRR s enc el elO B w a cap rs) (m : Nat) : OwnRR s enc el elO B (at' w m) a cap rs := h.ext ((Ext.refl w).at m)
end Go.Lt
namespace Go.Proofs.YteidpnpbfagaeaaGreat
open Go Go.Lt Go.RowKit
set_option linter.unusedVariables false
set_option linter.unusedSimpArgs false
set_option maxRecDepth 20000

abbrev encRB : RowV Bool → List Value := encRow
theorem encRB_ok : Enc 1 encRB := encRow_ok
structure RunV where
 st : RowV Bool
 ins : RowV (RowV Bool)
abbrev RunV.val (r : RunV) : Value := .agg #[rowVal r.st, rowVal r.ins]
abbrev RunV.s (r : RunV) : List Bool := r.st.2.2
abbrev RunV.i (r : RunV) : List (List Bool) := r.ins.2.2.map (·.2.2)
structure RAt (w : World) (r : RunV) : Prop where
 st : Row 1 encB w r.st.1 r.st.2.2
 ins : Row 1 encRB w r.ins.1 r.ins.2.2
 each : ∀ x ∈ r.ins.2.2, Row 1 encB w x.1 x.2.2
theorem RAt.ext {w w' : World} {r : RunV} (h : RAt w r) (hx : Ext w w') : RAt w' r := ⟨h.st.ext hx, h.ins.ext hx, fun x h1 => (h.each x h1).ext hx⟩
end Go.Proofs.YteidpnpbfagaeaaGreat
namespace Go.Proofs.YteidpnpbfagaeaaGreat
open Go Go.Lt Go.RowKit
set_option linter.unusedVariables false
set_option linter.unusedSimpArgs false
set_option maxRecDepth 20000

theorem litB_ofU {v : List Bool} {l : Int} (h : 0 ≤ l) (hl : (l / 2).toNat < v.length) (h0 : v.getD 0 false = false) : litB v l = ofL v l := by
 unfold litB ofL
 by_cases h1 : l = 0 ∨ l = 1
 ·rw [if_pos h1]
  rcases h1 with rfl | rfl
  ·rw [show ((0 : Int) / 2).toNat = 0 from rfl, h0]; rfl
  ·rw [show ((1 : Int) / 2).toNat = 0 from rfl, h0]; rfl
 ·rw [if_neg h1, if_neg (by omega)]
theorem values_0 (N : List (Int × Int)) (ins : List Bool) : (values N ins).getD 0 false = false := by
 have h := vto_of N ins (k := 0) (l := 0) (by omega) (Nat.zero_le _)
 have h2 : ofL (values N ins) 0 = false := by rw [← h]; rfl
 unfold ofL at h2
 simpa using h2
def IsRunV (w : World) (q : List Bool × List (List Bool)) (v : Value) (w' : World) : Prop := Ext w w' ∧ ∃ r : RunV, v = r.val ∧ RAt w' r ∧ r.s = q.1 ∧ r.i = q.2
set_option maxHeartbeats 4000000 in
theorem un_Run1 (gv cv cl : Nat) (av al : Option Addr) (V : List Bool) (l : List Int) (w : World) (hc : w.cell? ⟨gv, 0, none⟩ = some (.slice av V.length cv)) (RV : Row 1 encB w av V) (RL : Row 1 encI w al l) (h0 : V.getD 0 false = false) (hl : ∀ x ∈ l, 0 ≤ x ∧ x ≤ 9223372036854775807 ∧ (x / 2).toNat < V.length) (hn : l.length ≤ 1048576) :
  Lt.Spec Tryz.prog 70 ([.slice al l.length cl] ++ [.pointer (some ⟨gv, 0, none⟩)]) w (IsFresh 1 encB 4 w (l.map (ofL V))) := by
 refine Spec.of _ Tryz.func70 rfl Tryz.ntmps70 (by kernel_rfl) rfl ?_
 repeat' (first
  | (apply WL.makeC (w0 := w) (z := false) tOk; (iterate 9 exact rfl); exact encB_ok; exact rfl; exact rfl; (exact extA); (first | omega | (simp; omega) | (simp at *; omega)); intro gb w' hO hge hx; (obtain ⟨go, rfl⟩ : ∃ x, x = gb := ⟨_, rfl⟩; obtain ⟨w1, rfl⟩ : ∃ x, x = w' := ⟨_, rfl⟩; obtain ⟨hO1, rfl⟩ : ∃ x, x = hO := ⟨_, rfl⟩; obtain ⟨hge1, rfl⟩ : ∃ x, x = hge := ⟨_, rfl⟩; obtain ⟨hx1, rfl⟩ : ∃ x, x = hx := ⟨_, rfl⟩))
  | (show WL _ _ _ _ _ _ _; first | apply WL.nil | (refine WL.au (k := ?_)))
  | (show Z _ _ _ _ _; apply Z.then_normal)
  | (show W _ _ _ _ _ _; first | apply W.seq | apply W.region | apply W.block)
  | fail)
 have hLt : (l.length : Int).toNat = l.length := Int.toNat_natCast _
 have hLt2 : (List.replicate (l.length : Int).toNat false).length = l.length := by rw [List.length_replicate, hLt]
 rw [hLt] at hO1
 refine W.loopW l.length (fun k w' => k ≤ l.length ∧ Ext w w' ∧ Own 1 encB 4 w.heap.size w' (some ⟨go, 0, none⟩) l.length ((l.take k).map (ofL V) ++ List.replicate (l.length - k) false))
  (fun k => [(1, .pointer (some ⟨gv, 0, none⟩)), (4, .slice (some ⟨go, 0, none⟩) l.length l.length), (10, .slice al l.length cl), (11, .int .i64 l.length), (12, .int .i64 k)]) ⟨Nat.zero_le _, hx1, hO1⟩ (fun k w' h => h.1) (by repeat' first | exact trivial | (refine And.intro ?_ ?_) | exact rfl | (rw [hLt2]; exact rfl)) ?_
 rintro k wk ⟨hk, hXk, hOk⟩
 have hvl : ((l.take k).map (ofL V)).length = k := by rw [List.length_map, List.length_take]; omega
 have RLk := RL.ext hXk
 by_cases hlt : k < l.length
 ·obtain ⟨x, hx⟩ := getI l hlt
  obtain ⟨x1, x2, x3⟩ := hl x (List.mem_of_getElem? hx)
  have hgy : ((l.take k).map (ofL V) ++ List.replicate (l.length - k) false)[(k : Int).toNat]? = some false := by
   rw [Int.toNat_natCast, show l.length - k = (l.length - (k + 1)) + 1 by omega, List.replicate_succ, List.getElem?_append_right (by omega), hvl, Nat.sub_self]; rfl
  have hlit := sim_Lit av cv V x wk (RV.ext hXk) (show inI64 x from ⟨by omega, x2⟩)
  rw [litB_ofU x1 x3 h0] at hlit
  have e1 : (l.take (k + 1)).map (ofL V) = (l.take k).map (ofL V) ++ [ofL V x] := by rw [take_succ' hx, List.map_append]; rfl
  repeat' (first
   | (apply W.condKT; exact rfl; (focus (exact dec_true (by omega); done)))
   | (((show WL _ _ _ (⟨_, .call ⟨.value (.func 71), _, _⟩, _, _, _, _⟩ :: _) _ _ _); apply WL.callS; (iterate 4 exact rfl); exact hlit))
   | ((apply WL.indexO tOk; (iterate 8 exact rfl); exact hOk; exact extA; exact encB_ok; (rw [List.length_append, hvl, List.length_replicate]; omega); omega; exact hgy; intro gb ha hc; cases ha))
   | ((apply WL.storeO (z' := ofL V x) tOk; (iterate 4 exact rfl); exact hOk; exact extA; (iterate 3 exact rfl); exact encB_ok; exact hgy; exact rfl; exact extA; intro wd hOd hXd hUd))
   | (show WL _ _ _ _ _ _ _; first | apply WL.nil | (refine WL.au (k := ?_)) | (apply WL.index tOk; (iterate 8 exact rfl); assumption; (exact extA); exact rfl; omega; assumption; intro b off h; have hcc := h; first | (obtain ⟨h1, h2, h3, h4, h5, h6, _⟩ := h) | (obtain ⟨h1, h2, h3, _⟩ := h) | (obtain ⟨h1, h2, _⟩ := h) | (obtain ⟨h1, _⟩ := h)))
   | (show Z _ _ _ _ _; first | apply Z.then_normal | apply Z.block_normal)
   | (show W _ _ _ _ _ _; first | apply W.seq | apply W.region | apply W.block | apply W.skip)
   | fail)
  rw [Int.toNat_natCast, fillG false hvl hlt, ← e1] at hOd
  exact Z.againW ⟨by omega, hXd, hOd⟩ (by repeat' first | exact trivial | (refine And.intro ?_ ?_) | exact rfl)
 ·obtain rfl : k = l.length := by omega
  have e9 : (l.take l.length).map (ofL V) ++ List.replicate (l.length - l.length) false = l.map (ofL V) := by rw [List.take_length, Nat.sub_self, List.replicate_zero, List.append_nil]
  rw [e9] at hOk
  repeat' (first
   | (apply W.condKF; exact rfl; (focus (exact dec_false (by omega); done)))
   | (show WL _ _ _ _ _ _ _; first | apply WL.nil | (refine WL.au (k := ?_)))
   | (show Z _ _ _ _ _; first | apply Z.then_normal | apply Z.then_exit | apply Z.block_exit)
   | (show W _ _ _ _ _ _; first | apply W.seq | apply W.region | apply W.ret | apply W.exit)
   | fail)
  exact Z.body1 Tryz.results70 rfl fun q => ⟨hXk.at q, some ⟨go, 0, none⟩, l.length, by rw [List.length_map], hOk.ext ((Ext.refl _).at q)⟩
end Go.Proofs.YteidpnpbfagaeaaGreat
namespace Go.Proofs.YteidpnpbfagaeaaGreat
open Go Go.Lt Go.RowKit
set_option linter.unusedVariables false
set_option linter.unusedSimpArgs false
set_option maxRecDepth 20000

theorem hasL_val {N : List (Int × Int)} (ins : List Bool) (hN : N.length ≤ 1000000) {l : List Int} (h : ∀ z ∈ l, hasL N z) : ∀ x ∈ l, 0 ≤ x ∧ x ≤ 9223372036854775807 ∧ (x / 2).toNat < (values N ins).length := fun x hx => by
 have h1 := h x hx
 have h2 := values_len' N ins
 unfold hasL at h1
 omega
theorem un_RunN {w0 w : World} {m : UM} {u : UnV} {x : UX} {rest : List Piece} (h : UAt w0 w m u x rest) (vi : Value) (ins : List Bool) (k : Int) (hk : ¬ (0 ≤ k ∧ k < (u.own.length : Int))) :
  Lt.Spec Tryz.prog 24 [.pointer (some ⟨m.gf, 0, none⟩), vi, .int .i64 k] w (IsRunV w (runU u ins k)) := by
 have e : runU u ins k = ([], []) := by unfold runU; rw [if_neg hk]
 rw [e]
 refine Spec.of _ Tryz.func24 rfl Tryz.ntmps24 (by kernel_rfl) rfl ?_
 by_cases h0 : k < 0
 ·repeat' (first
   | (apply WL.build tOk; (iterate 7 exact rfl); kernel_rfl)
   | (apply WL.alloc tOk; (iterate 3 exact rfl); intro gb w' hb hge hx)
   | (apply WL.storeB (w0 := w) tOk; (iterate 4 exact rfl); assumption; (exact extA); (iterate 3 exact rfl); (exact extA); (assumption); intro w' hb hc hX' hU; have hcc := hc; obtain ⟨h1, h2, _⟩ := hc)
   | (apply WL.gT; exact rfl; exact rfl; (focus (exact dec_true (by omega))))
   | (show WL _ _ _ _ _ _ _; first | apply WL.nil | (refine WL.au (k := ?_)) | (apply WL.guardF; exact rfl; exact rfl))
   | (show Z _ _ _ _ _; first | apply Z.then_normal | apply Z.then_ret)
   | (show W _ _ _ _ _ _; first | apply W.seq | apply W.region | apply W.ret | (apply W.condT; exact rfl))
   | fail)
  exact Z.bodyC tOk Tryz.results24 rfl rfl rfl rfl hcc fun q => ⟨Ext.at extA q, ⟨(none, 0, []), (none, 0, [])⟩, rfl, ⟨Row.nil _ _ _ _, Row.nil _ _ _ _, fun y hy => by cases hy⟩, rfl, rfl⟩
 ·repeat' (first
   | (apply WL.build tOk; (iterate 7 exact rfl); kernel_rfl)
   | (apply WL.alloc tOk; (iterate 3 exact rfl); intro gb w' hb hge hx)
   | (apply WL.storeB (w0 := w) tOk; (iterate 4 exact rfl); assumption; (exact extA); (iterate 3 exact rfl); (exact extA); (assumption); intro w' hb hc hX' hU; have hcc := hc; obtain ⟨h1, h2, _⟩ := hc)
   | ((show WL _ _ _ (⟨_, .call ⟨.value (.func 21), _, _⟩, _, _, _, _⟩ :: _) _ _ _); apply WL.callS; (iterate 4 exact rfl); exact un_Len (h.up extA))
   | (apply WL.gF; exact rfl; exact rfl; (focus (exact dec_false (by omega); done)))
   | (apply W.condKT; exact rfl; (focus (exact dec_true (by omega))))
   | (show WL _ _ _ _ _ _ _; first | apply WL.nil | (refine WL.au (k := ?_)))
   | (show Z _ _ _ _ _; first | apply Z.then_normal | apply Z.then_ret)
   | (show W _ _ _ _ _ _; first | apply W.seq | apply W.region | apply W.ret)
   | fail)
  exact Z.bodyC tOk Tryz.results24 rfl rfl rfl rfl hcc fun q => ⟨Ext.at extA q, ⟨(none, 0, []), (none, 0, [])⟩, rfl, ⟨Row.nil _ _ _ _, Row.nil _ _ _ _, fun y hy => by cases hy⟩, rfl, rfl⟩
theorem Sep.oldU {B B' g : Nat} {w w' : World} {ps : List Piece} (hS : Lt.Sep B w ps) (hU : Upd B' (some ⟨g, 0, none⟩) w w') (hg : g < B) : Lt.Sep B w' ps :=
 ⟨fun i p h => ⟨p.keep (hS.holds i p h).1 (fun k hk => hU.grown.block k ((hS.holds i p h).2 k hk).2 (fun he => by
  have h1 := ((hS.holds i p h).2 k hk).1
  simp only [blk, Option.map_some, Option.some.injEq] at he
  omega)), fun k hk => ⟨((hS.holds i p h).2 k hk).1, Nat.lt_of_lt_of_le ((hS.holds i p h).2 k hk).2 hU.grown.size⟩⟩, hS.apart⟩
set_option maxHeartbeats 16000000 in
theorem un_Run {w0 w : World} {m : UM} {u : UnV} {x : UX} {rest : List Piece} (h : UAt w0 w m u x rest) (hz : SzC m.d.t 100000) (hU : UOk m.d.t u) (hN : u.N.length ≤ 1000000) (hF : u.own.length ≤ 100000) (ab : Option Addr) (cb : Nat) (ins : List Bool) (k : Int) (Rb : Row 1 encB w ab ins) (hcb : ins.length ≤ cb) (hi : ins.length ≤ 1048576) (hk : 0 ≤ k ∧ k < (u.own.length : Int)) :
  Lt.Spec Tryz.prog 24 [.pointer (some ⟨m.gf, 0, none⟩), .slice ab ins.length cb, .int .i64 k] w (IsRunV w (runU u ins k)) := by
 have z1 : m.d.ins.2.2.length ≤ 100000 := hz.1
 have z2 : m.d.lat.2.2.length ≤ 100000 := hz.2.1
 obtain ⟨V, hV⟩ : ∃ V, V = values u.N ins := ⟨_, rfl⟩
 have hV0 : V.getD 0 false = false := by rw [hV]; exact values_0 _ _
 have e : runU u ins k = ((rowU u.st 0).map (ofL V), (u.ins.take (k.toNat + 1)).map (fun l => l.map (ofL V))) := by unfold runU; rw [if_pos hk, hV]
 rw [e]
 obtain ⟨c1, c2, c4, c5, c6, c9, c10, c11, c12, c13⟩ := UC.of h.cells
 obtain ⟨l1, l2, l3⟩ := h.lf
 have hls := hU.ls
 obtain ⟨s, hs, hse, RS0⟩ := h.state (show 0 < u.st.length by omega)
 have hst := hU.st _ (rowU_mem (show (0 : Int) ≤ ((0 : Nat) : Int) ∧ ((0 : Nat) : Int) < (u.st.length : Int) by omega)).2
 rw [← hse] at RS0 hst
 have hse' : s.2.2 = rowU u.st 0 := hse
 rw [← hse']
 have hs0 : x.st[(0 : Int).toNat]? = some s := hs
 have Rst := Own.row encRow_ok h.srow
 have Rfr := Own.row encUF_ok h.frow
 have hcf := Own.capLe h.frow
 have hnet : Lt.Spec Tryz.prog 68 [.pointer (some ⟨m.gs, 0, none⟩)] _ (IsFresh 2 encN 84 _ u.N) := aig_NetV m.gs m.r x.cap x.a u.N _ w w0 h.sep (by omega)
 have hsv := hasL_val ins hN hst.2
 rw [← hV] at hsv
 refine Spec.of _ Tryz.func24 rfl Tryz.ntmps24 (by kernel_rfl) rfl ?_
 repeat' (first
  | (apply WL.nilc; (iterate 3 exact rfl))
  | (apply WL.build tOk; (iterate 7 exact rfl); kernel_rfl)
  | (apply WL.gF; exact rfl; exact rfl; (focus (exact dec_false (by omega); done)))
  | (apply W.condKF; exact rfl; (focus (exact dec_false (by omega); done)))
  | ((show WL _ _ _ (⟨some 6, .alloc _, _, _, _, _⟩ :: _) _ _ _; apply WL.alloc tOk; (iterate 3 exact rfl); intro g6 w1 hb6 hge6 hx1; have hX1 : Ext w w1 := hx1))
  | ((show WL _ _ _ (⟨_, .call ⟨.value (.func 21), _, _⟩, _, _, _, _⟩ :: _) _ _ _); apply WL.callS; (iterate 4 exact rfl); exact un_Len (h.up extA))
  | (((show WL _ _ _ (⟨_, .call ⟨.value (.func 68), _, _⟩, _, _, _, _⟩ :: _) _ _ _); apply WL.call; (iterate 4 exact rfl); exact aig_NetV m.gs m.r x.cap x.a u.N _ w1 w0 (h.sep.ext hX1) (by omega); rintro v' w2 ⟨hx2, aN, cN, rfl, hON⟩; have hX2 : Ext w w2 := hX1.trans hx2))
  | (((show WL _ _ _ (⟨_, .call ⟨.value (.func 69), _, _⟩, _, _, _, _⟩ :: _) _ _ _); apply WL.call; (iterate 4 exact rfl); exact sim_Eval aN ab cN cb u.N ins w2 (hON.row encN_ok) (Rb.ext hX2) hcb hU.tidy.good hN hi; rintro v' w3 ⟨hx3, aV, cV, rfl, hOV⟩; rw [← hV] at hOV ⊢; have hX3 : Ext w w3 := hX2.trans hx3; have RV := hOV.row encB_ok))
  | ((show WL _ _ _ (⟨some 7, .alloc _, _, _, _, _⟩ :: _) _ _ _; apply WL.alloc tOk; (iterate 3 exact rfl); intro gv w4 hb4 hge4 hx4))
  | ((show WL _ _ _ (⟨none, .store _ (.tmp 7) _, _, _, _, _⟩ :: _) _ _ _; apply WL.storeB (w0 := w3) tOk; (iterate 4 exact rfl); exact hb4; exact Ext.refl _; kernel_rfl; kernel_rfl; kernel_rfl; exact hx4; exact hge4; intro w5 hb5 hc5 hX35 hU5; have hX5 : Ext w w5 := hX3.trans hX35; obtain ⟨v1, _⟩ := hc5))
  | ((show WL _ _ _ (⟨_, .call ⟨.value (.tmp 29), _, _⟩, _, _, _, _⟩ :: _) _ _ _; apply WL.call; (iterate 4 exact rfl); exact un_Run1 gv cV s.2.1 aV s.1 V s.2.2 w5 v1 (RV.ext hX35) (RS0.ext hX5) hV0 hsv (by omega); rintro v' w6 ⟨hx6, aS, cS, rfl, hOS⟩; have hX6 : Ext w w6 := hX5.trans hx6))
  | ((show WL _ _ _ (⟨some 9, .alloc _, _, _, _, _⟩ :: _) _ _ _; apply WL.alloc tOk; (iterate 3 exact rfl); intro g9 w7 hb7 hge7 hx7))
  | ((show WL _ _ _ (⟨none, .store _ (.tmp 9) _, _, _, _, _⟩ :: _) _ _ _; apply WL.storeB (w0 := w6) tOk; (iterate 4 exact rfl); exact hb7; exact Ext.refl _; kernel_rfl; kernel_rfl; kernel_rfl; exact hx7; exact hge7; intro w8 hb8 hc8 hX68 hU8; have hX8 : Ext w w8 := hX6.trans hX68))
  | ((apply WL.sliceH tOk; (iterate 7 exact rfl); exact Rfr; exact rfl; exact hcf; omega; intro hRt hct))
  | (show WL _ _ _ _ _ _ _; first | apply WL.nil | (refine WL.au (k := ?_)) | (apply WL.index tOk; (iterate 8 exact rfl); assumption; (exact extA); exact rfl; omega; assumption; intro b off h; have hcc := h; first | (obtain ⟨h1, h2, h3, h4, h5, h6, _⟩ := h) | (obtain ⟨h1, h2, h3, _⟩ := h) | (obtain ⟨h1, h2, _⟩ := h) | (obtain ⟨h1, _⟩ := h)))
  | (show Z _ _ _ _ _; apply Z.then_normal)
  | (show W _ _ _ _ _ _; first | apply W.seq | apply W.region | apply W.block | apply W.skip)
  | fail)
 obtain ⟨S, hSd⟩ : ∃ S, S = s.2.2.map (ofL V) := ⟨_, rfl⟩
 obtain ⟨K, hK⟩ : ∃ K, K = (k + 1).toNat := ⟨_, rfl⟩
 have hKk : k.toNat + 1 = K := by omega
 rw [← hSd] at hOS hb8
 rw [← hK] at hRt hct
 rw [hKk, ← hSd]
 have hKl : (x.fr.take K).length = K := by rw [List.length_take]; omega
 have hX15 : Ext w1 w5 := hx2.trans (hx3.trans hX35)
 have hg6 : g6 < w5.heap.size := Nat.lt_of_lt_of_le (heap_lt hb6) (Below.size hX15)
 have hX58 : Ext w5 w8 := hx6.trans hX68
 have hS6 := Sep.newRow (Sep.none' (B := w5.heap.size) (w := w5)) hx6 hOS (fun q hq => (hOS.blk_lt q hq).1) (Nat.le_refl _)
 have hS7 := Sep.newRow (s := 1) (enc := encRB) (el := 28) (a := none) (cap := 0) (l := []) hS6 (Ext.refl _) Own.nil (fun q hq => by cases hq) (Below.size hx6)
 have hS8 : Lt.Sep w5.heap.size w8 (pcell g9 #[.slice aS S.length cS, .slice none 0 0] 31 :: prow 1 encRB 28 w5.heap.size none 0 [] :: prow 1 encB 4 w5.heap.size aS cS S :: []) := Sep.newCell hS7 hX68 hb8 hge7 (Below.size hx6)
 have RV5 := RV.ext hX35
 clear hS6 hS7 hU5 hU8 hc8 hb7
 refine W.loopO K (fun j b cp w' => j ≤ K ∧ Ext w5 w' ∧ ∃ (rs : List (RowV Bool)) (R : List Piece), Lt.Sep w5.heap.size w' (pcell g9 #[.slice aS S.length cS, .slice b rs.length cp] 31 :: prow 1 encRB 28 w5.heap.size b cp rs :: prow 1 encB 4 w5.heap.size aS cS S :: R) ∧ rs.map (fun r => r.2.2) = (u.ins.take j).map (fun l => l.map (ofL V)) ∧ ∀ w9, (∀ p ∈ R, p.P w9) → ∀ r ∈ rs, Row 1 encB w9 r.1 r.2.2)
  (fun j b cp => [(6, .pointer (some ⟨g6, 0, none⟩)), (8, .func (.func 70) #[] #[.pointer (some ⟨gv, 0, none⟩)]), (9, .pointer (some ⟨g9, 0, none⟩)), (44, .slice x.af (x.fr.take K).length x.cf), (45, .int .i64 (x.fr.take K).length), (46, .int .i64 j)]) none 0 ⟨Nat.zero_le _, hX58, [], [], hS8, rfl, fun w9 _ r hr => by cases hr⟩ (fun k a cp w' h => h.1) (by repeat' first | exact trivial | (refine And.intro ?_ ?_) | exact rfl | (rw [hK]; exact rfl)) ?_
 clear hS8 hb8
 rintro j bo co w9 ⟨hj, hX9, rs, R, hS9, hrs, hRR⟩
 have hXw9 : Ext w w9 := hX5.trans hX9
 have Rt9 := hRt.ext hXw9
 have hOo : Own 1 encRB 28 w5.heap.size w9 bo co rs := hS9.row (i := 1) rfl
 obtain ⟨n0, n1, _⟩ := cells_heap (hS9.cell (i := 0) (gb := g9) rfl)
 have hg9 : w5.heap.size ≤ g9 := (hS9.lt (i := 0) rfl rfl).1
 by_cases hlt : j < K
 ·obtain ⟨f, hf, _, hfe, _, _⟩ := h.frame (show j < u.own.length by omega)
  have hfT : (x.fr.take K)[j]? = some f := by rw [List.getElem?_take, if_pos hlt]; exact hf
  have hfi := map_get' h.kn.hi hf
  have hfo := hU.ins _ (List.mem_of_getElem? hfi)
  have Ri := h.rows.ins f (List.mem_of_getElem? hf)
  have hiv := hasL_val ins hN hfo.2
  rw [← hV] at hiv
  have hfl : f.2.2.2.length ≤ 1048576 := by rw [hfo.1]; show m.d.ins.2.2.length ≤ _; omega
  have hrl : rs.length = j := by
   have := congrArg List.length hrs
   simp only [List.length_map, List.length_take] at this
   omega
  repeat' (first
   | (apply W.condKT; exact rfl; (focus (exact dec_true (by omega); done)))
   | ((show WL _ _ _ (⟨some 11, .alloc _, _, _, _, _⟩ :: _) _ _ _; apply WL.alloc tOk; (iterate 3 exact rfl); intro gk wa hba hgea hxa))
   | ((show WL _ _ _ (⟨none, .store _ (.tmp 11) _, _, _, _, _⟩ :: _) _ _ _; apply WL.storeB (w0 := w9) tOk; (iterate 4 exact rfl); exact hba; exact Ext.refl _; kernel_rfl; kernel_rfl; kernel_rfl; exact hxa; exact hgea; intro wb hbb hcb hXb hUb; obtain ⟨e1', e2', _⟩ := hcb; have hX5b : Ext w5 wb := hX9.trans hXb; have hXwb : Ext w wb := hXw9.trans hXb))
   | (show W _ _ (.region 9 _ _) _ _ _; apply W.regionGX (.fl true 0 (.fl true 2 (.fl true 3 (.fl false 1 (.br 4 (.br 5 (.br 6 (.br 7 (.fl true 8 (.br 9 .done .stop)) .stop) .stop) .stop) .stop))))) [4, 5, 6] tMix; kernel_rfl)
   | ((show WL _ _ _ (⟨_, .call ⟨.value (.tmp 52), _, _⟩, _, _, _, _⟩ :: _) _ _ _; apply WL.call; (iterate 4 exact rfl); exact un_Run1 gv cV f.2.2.1 aV f.2.1 V f.2.2.2 _ (Ext.cell (hX5b.trans extA) v1) (RV5.ext (hX5b.trans extA)) (Ri.ext (hXwb.trans extA)) hV0 hiv hfl; rintro v' wc ⟨hxc, aR, cR, rfl, hOR⟩; have hSn := Sep.newRow hS9 (hXb.trans extA) (hOR.base (Below.size (hX5b.trans extA))) (fun q hq => Nat.le_trans (Below.size (hXb.trans extA)) (hOR.blk_lt q hq).1) (Below.size hX9)))
   | (apply WL.lit tOk; (iterate 6 exact rfl); (kernel_rfl); exact rfl; intro gb w' hb hge hc hx; (obtain ⟨gl, rfl⟩ : ∃ x, x = gb := ⟨_, rfl⟩; obtain ⟨wl, rfl⟩ : ∃ x, x = w' := ⟨_, rfl⟩; obtain ⟨hcl, rfl⟩ : ∃ x, x = hc := ⟨_, rfl⟩; obtain ⟨hxl, rfl⟩ : ∃ x, x = hx := ⟨_, rfl⟩))
   | ((apply WL.append1 (z := ((aR, cR, f.2.2.2.map (ofL V)) : RowV Bool)) tOk encRB_ok; (iterate 10 exact rfl); exact hOo; exact (hXb.trans extA); exact rfl; (refine Cells.ext ?_ hcl; exact extA); exact rfl; exact rfl; exact (hX5b.trans extA); omega; intro aP cP wP hOP hXP hUP hFP; have hSu := Sep.updRow (i := 2) rfl hUP hOP hFP hSn extA (Below.size (hX5b.trans extA)); have hbu := hSu.cell (i := 1) (gb := g9) rfl))
   | ((apply WL.storeF (w0 := w5) tOk; (iterate 4 exact rfl); exact hbu; exact extA; (iterate 4 exact rfl); exact (hXP.trans extA); exact hg9; intro w31 hb31 hX31 hU31; have hSf := Sep.updCell (i := 1) rfl hU31 hb31 hSu extA (Below.size (hXP.trans extA))))
   | (show SX _ _ _ _ _ _ _ _ _; first | (apply SX.done; intro w' hx) | (apply SX.fl0; exact rfl) | (apply SX.fl1; exact rfl; (exact extA)) | (apply SX.br1; exact rfl; intro w' hx))
   | (show FL _ _ _ _ _ _ _ _; first | apply FL.nilX | (apply FL.loadE tOk; (iterate 5 exact rfl); ((focus (apply Ext.cell; rotate_left; assumption; exact extA; done)))))
   | (show FL _ _ _ _ _ _ _ _; (refine FL.au (k := ?_)))
   | (show Z _ _ _ _ _; first | (apply Z.sxL; exact rfl) | (apply Z.sxE; (exact extA)))
   | (show WL _ _ _ _ _ _ _; first | apply WL.nil | (refine WL.au (k := ?_)) | (apply WL.index tOk; (iterate 8 exact rfl); assumption; (exact extA); exact rfl; omega; assumption; intro b off h; have hcc := h; first | (obtain ⟨h1, h2, h3, h4, h5, h6, _⟩ := h) | (obtain ⟨h1, h2, h3, _⟩ := h) | (obtain ⟨h1, h2, _⟩ := h) | (obtain ⟨h1, _⟩ := h)))
   | (show Z _ _ _ _ _; first | apply Z.then_normal | apply Z.block_normal)
   | (show W _ _ _ _ _ _; first | apply W.seq | apply W.region | apply W.block | apply W.skip)
   | fail)
  have hSg := Sep.pickL (pre := [_, _, _, _]) [1, 2, 3, 0] pnone hSf rfl
  refine Z.againO aP cP ⟨by omega, Ext.trans hX31 (by assumption), rs ++ [(aR, cR, f.2.2.2.map (ofL V))], prow 1 encB 4 w5.heap.size aR cR (f.2.2.2.map (ofL V)) :: R, hSg.ext (by assumption), ?_, fun w9' hR9 r hr => ?_⟩ (by repeat' first | exact trivial | (refine And.intro ?_ ?_) | exact rfl)
  ·rw [List.map_append, hrs, take_succ' hfi, List.map_append]; rfl
  ·rcases List.mem_append.1 hr with hr | hr
   ·exact hRR w9' (fun p hp => hR9 p (List.mem_cons_of_mem _ hp)) r hr
   ·rw [List.mem_singleton.1 hr]
    have p1 : Own 1 encB 4 w5.heap.size w9' aR cR (f.2.2.2.map (ofL V)) := hR9 (prow 1 encB 4 w5.heap.size aR cR (f.2.2.2.map (ofL V))) (List.mem_cons_self ..)
    exact Own.row encB_ok p1
 ·obtain rfl : j = K := by omega
  have hcg9 : Cells w9 g9 0 [.slice aS S.length cS, .slice bo rs.length co] := cells_heap (hS9.cell (i := 0) (gb := g9) rfl)
  repeat' (first
   | (apply W.condKF; exact rfl; (focus (exact dec_false (by omega); done)))
   | ((show WL _ _ _ (⟨none, .store _ (.tmp 6) _, _, _, _, _⟩ :: _) _ _ _; apply WL.storeB (w0 := w) tOk; (iterate 4 exact rfl); exact hb6; exact (hX15.trans hX9); kernel_rfl; kernel_rfl; kernel_rfl; exact hXw9; exact hge6; intro wE hbE hcE hXE hUE))
   | (show WL _ _ _ _ _ _ _; first | apply WL.nil | (refine WL.au (k := ?_)))
   | (show Z _ _ _ _ _; first | apply Z.then_normal | apply Z.then_exit | apply Z.block_exit)
   | (show W _ _ _ _ _ _; first | apply W.seq | apply W.region | apply W.ret | apply W.exit)
   | fail)
  have hSE := Sep.oldU hS9 hUE hg6
  have hRE := hRR wE fun p hp => (hSE.holds _ p (List.mem_iff_getElem?.1 (show p ∈ _ from List.mem_cons_of_mem _ (List.mem_cons_of_mem _ (List.mem_cons_of_mem _ hp)))).choose_spec).1
  have hO1 : Own 1 encRB 28 w5.heap.size wE bo co rs := hSE.row (i := 1) rfl
  have hO2 : Own 1 encB 4 w5.heap.size wE aS cS S := hSE.row (i := 2) rfl
  exact Z.bodyC tOk Tryz.results24 rfl rfl rfl rfl hcE fun q => ⟨hXE.at q, ⟨(aS, cS, S), (bo, co, rs)⟩, rfl, (RAt.mk (Own.row encB_ok hO2) (Own.row encRB_ok hO1) hRE : RAt wE ⟨(aS, cS, S), (bo, co, rs)⟩).ext ((Ext.refl _).at q), rfl, hrs⟩
end Go.Proofs.YteidpnpbfagaeaaGreat
namespace Go.Proofs.YteidpnpbfagaeaaGreat
open Go Go.Lt Go.RowKit
set_option linter.unusedVariables false
set_option linter.unusedSimpArgs false
set_option maxRecDepth 20000

section
variable {w0 w : World} {m : RM} {u : UnV} {x : RX} {rest : List Piece}
set_option maxHeartbeats 16000000 in
theorem r19_Unlike (h : RAtU w0 w m u x rest) (hz : SzC m.d.t 100000) (hU : UOk m.d.t u) (hN : u.N.length ≤ 600000) (i k : Int) :
  Lt.Spec Tryz.prog 67 [.pointer (some ⟨m.gF, 0, none⟩), .int .i64 i, .int .i64 k] w (fun v w' => v = .int .i64 (unlikeU u i k).1 ∧ ∃ x', RAtU w0 w' m (unlikeU u i k).2 x' rest) := by
 have z2 : m.d.lat.2.2.length ≤ 100000 := hz.2.1
 obtain ⟨c0, c1, c2, c4, c5, c9, c10, c11, c12, c13, c14⟩ := RC'.of h.cells
 obtain ⟨l1, l2, l3⟩ := h.lens
 refine Spec.of _ Tryz.func67 rfl Tryz.ntmps67 (by kernel_rfl) rfl ?_
 by_cases hin : (0 ≤ i ∧ i < (u.st.length : Int)) ∧ (0 ≤ k ∧ k < (u.st.length : Int))
 rotate_left
 ·have e : unlikeU u i k = (-1, u) := by unfold unlikeU; rw [if_neg hin]
  rw [e]
  rcases (show i < 0 ∨ (0 ≤ i ∧ (u.st.length : Int) ≤ i) ∨ (0 ≤ i ∧ i < (u.st.length : Int) ∧ k < 0) ∨ (0 ≤ i ∧ i < (u.st.length : Int) ∧ 0 ≤ k ∧ (u.st.length : Int) ≤ k) by omega) with q | q | q | q
  all_goals
   repeat' (first
    | (apply WL.nilc; (iterate 3 exact rfl))
    | (apply WL.gT; exact rfl; exact rfl; (focus (exact dec_true (by omega))))
    | (apply WL.gF; exact rfl; exact rfl; (focus (exact dec_false (by omega); done)))
    | (apply W.condKT; exact rfl; (focus (exact dec_true (by omega))))
    | (show WL _ _ _ _ _ _ _; first | apply WL.nil | (refine WL.au (k := ?_)) | (apply WL.guardF; exact rfl; exact rfl))
    | (show Z _ _ _ _ _; first | apply Z.then_normal | apply Z.then_ret)
    | (show W _ _ _ _ _ _; first | apply W.seq | apply W.region | apply W.ret | (apply W.condT; exact rfl))
    | fail)
   exact Z.body1 Tryz.results67 rfl fun q => ⟨rfl, x, h.up ((Ext.refl _).at q)⟩
 obtain ⟨hi, hk⟩ := hin
 obtain ⟨s, hs, hse⟩ := row_in h.kn.hs hi
 obtain ⟨s2, hs2, hse2⟩ := row_in h.kn.hs hk
 obtain ⟨ha1, ha2⟩ := hU.st _ (rowU_mem hi).2
 obtain ⟨hb1, hb2⟩ := hU.st _ (rowU_mem hk).2
 rw [← hse] at ha1 ha2
 rw [← hse2] at hb1 hb2
 have e : unlikeU u i k = ((ulTo s.2.2 s2.2.2 u.N s.2.2.length).1, { u with N := (ulTo s.2.2 s2.2.2 u.N s.2.2.length).2 }) := by unfold unlikeU; rw [if_pos ⟨hi, hk⟩, hse, hse2]
 rw [e]
 have hla : s.2.2.length = m.d.lat.2.2.length := ha1
 have hlb : s2.2.2.length = m.d.lat.2.2.length := hb1
 have ms := List.mem_of_getElem? hs
 have ms2 := List.mem_of_getElem? hs2
 repeat' (first
  | (apply WL.nilc; (iterate 3 exact rfl))
  | (apply WL.gF; exact rfl; exact rfl; (focus (exact dec_false (by omega); done)))
  | (apply W.condKF; exact rfl; (focus (exact dec_false (by omega); done)))
  | (show WL _ _ _ _ _ _ _; first | apply WL.nil | (refine WL.au (k := ?_)))
  | (show Z _ _ _ _ _; apply Z.then_normal)
  | (show W _ _ _ _ _ _; first | apply W.seq | apply W.region | apply W.block | apply W.skip)
  | fail)
 have hS0 := h.sep
 refine W.loopO s.2.2.length (fun j b cp w' => j ≤ s.2.2.length ∧ Ext w0 w' ∧ Lt.Sep w0.heap.size w' (rvP w0.heap.size m (ulTo s.2.2 s2.2.2 u.N j).2 b cp x.ai x.ci x.is x.av x.cv x.vs x.as' x.cs x.ss x.R ++ rest))
  (fun j b cp => [(0, .pointer (some ⟨m.gF, 0, none⟩)), (1, .int .i64 i), (2, .int .i64 k), (7, .int .i64 (ulTo s.2.2 s2.2.2 u.N j).1), (8, .int .i64 j)]) x.a x.cap ⟨Nat.zero_le _, h.ext, hS0⟩ (fun k a cp w' h => h.1) (by repeat' first | exact trivial | (refine And.intro ?_ ?_) | exact rfl) ?_
 clear c0 c1 c2 c4 c5 c9 c10 c11 c12 c13 c14
 rintro j bb cp w9 ⟨hj, hX9, hS9⟩
 have hR9 : RRows m x.is x.vs x.ss w9 := h.kn.rows.sep hX9 hS9 fun p hp => List.mem_append_left _ (List.mem_append_right _ (List.mem_cons_of_mem _ (List.mem_cons_of_mem _ (List.mem_cons_of_mem _ (List.mem_cons_of_mem _ hp)))))
 obtain ⟨c0, c1, c2, c4, c5, c9, c10, c11, c12, c13, c14⟩ := RC'.of (m := m) (ai := x.ai) (ni := x.is.length) (ci := x.ci) (av := x.av) (nv := x.vs.length) (cv := x.cv) (as' := x.as') (ns := x.ss.length) (cs := x.cs) (cells_heap (hS9.cell (i := 2) rfl))
 have Rs := hR9.rs s ms
 have Rs2 := hR9.rs s2 ms2
 have RSt : Row 1 encRow w9 x.as' x.ss := Own.row encRow_ok (hS9.row (i := 5) (s := 1) (el := 22) rfl)
 obtain ⟨i1, i2, i3, i4⟩ := ulTo_inv ha2 hb2 (by rw [hla, hlb]) j hj
 by_cases hlt : j < s.2.2.length
 ·obtain ⟨y, hy⟩ := getI s.2.2 hlt
  obtain ⟨y2, hy2⟩ := getI s2.2.2 (show j < s2.2.2.length by omega)
  have hyh := hasL_mono (ha2 y (List.mem_of_getElem? hy)) i2
  have hyh2 := hasL_mono (hb2 y2 (List.mem_of_getElem? hy2)) i2
  have eS := ulTo_succ s.2.2 s2.2.2 u.N j
  obtain ⟨H, hH⟩ : ∃ H, H = ulTo s.2.2 s2.2.2 u.N j := ⟨_, rfl⟩
  rw [← hH] at hS9 i1 i2 i3 i4 eS hyh hyh2 ⊢
  have e1 : ulTo s.2.2 s2.2.2 u.N (j + 1) = orV (xorV H.2 y y2).2 H.1 (xorV H.2 y y2).1 := by rw [eS]; unfold ulStep; rw [getD_of hy, getD_of hy2]
  have k1 : H.2.length ≤ (xorV H.2 y y2).2.length ∧ (xorV H.2 y y2).2.length ≤ H.2.length + 3 := muxV_len _ _ _ _
  have k2 : hasL (xorV H.2 y y2).2 (xorV H.2 y y2).1 := muxV_has hyh (notL_has hyh2) hyh2
  have k3 := orV_len (xorV H.2 y y2).2 H.1 (xorV H.2 y y2).1
  have b1 := hasL_le hyh (by omega)
  have b2 := hasL_le hyh2 (by omega)
  have b3 := hasL_le i1 (by omega)
  have b4 := hasL_le k2 (by omega)
  repeat' (first
   | (apply W.regionQS 24 tMix; kernel_rfl; exact rfl; kernel_rfl; kernel_rfl)
   | (apply WL.nilc; (iterate 3 exact rfl))
   | (apply QL.nilc; (iterate 3 exact rfl))
   | (apply W.condKT; exact rfl; (focus (exact dec_true (by omega); done)))
   | (((show WL _ _ _ (⟨_, .call ⟨.value (.func 125), _, _⟩, _, _, _, _⟩ :: _) _ _ _); apply WL.call; (iterate 4 exact rfl); exact rs_Xor m.gs _ _ H.2 y y2 _ _ w0 hX9 hS9 (by omega) (by omega); rintro v' w8 ⟨hX8, a8, cap8, rfl, hS8⟩; have d9 := (RC'.of (m := m) (ai := x.ai) (ni := x.is.length) (ci := x.ci) (av := x.av) (nv := x.vs.length) (cv := x.cv) (as' := x.as') (ns := x.ss.length) (cs := x.cs) (cells_heap (hS8.cell (i := 2) rfl))).store))
   | (((show WL _ _ _ (⟨_, .call ⟨.value (.func 126), _, _⟩, _, _, _, _⟩ :: _) _ _ _); apply WL.call; (iterate 4 exact rfl); exact rs_Or m.gs _ _ (xorV H.2 y y2).2 H.1 (xorV H.2 y y2).1 _ _ w0 hX8 hS8 (by omega) (by omega) (by omega); rintro v' w7 ⟨hX7, a7, cap7, rfl, hS7⟩))
   | (show WL _ _ _ _ _ _ _; first | apply WL.nil | (refine WL.au (k := ?_)))
   | (show QL _ _ _ _ _ _ _; first | apply QL.nil | (refine QL.au (k := ?_)) | (apply QL.index tOk; (iterate 8 exact rfl); assumption; (exact extA); exact rfl; omega; assumption; intro b off h; have hcc := h; first | (obtain ⟨h1, h2, h3, h4, h5, h6, _⟩ := h) | (obtain ⟨h1, h2, h3, _⟩ := h) | (obtain ⟨h1, h2, _⟩ := h) | (obtain ⟨h1, _⟩ := h)))
   | (show Z _ _ _ _ _; first | apply Z.tail | apply Z.then_normal | apply Z.block_normal)
   | (show W _ _ _ _ _ _; first | apply W.seq | apply W.region | apply W.block | apply W.skip)
   | fail)
  exact Z.againO a7 cap7 ⟨by omega, hX7, by rw [e1]; exact hS7⟩ (by repeat' first | exact trivial | (refine And.intro ?_ ?_) | exact rfl | (rw [e1]; exact rfl))
 ·obtain rfl : j = s.2.2.length := by omega
  repeat' (first
   | (apply WL.nilc; (iterate 3 exact rfl))
   | (apply W.condKF; exact rfl; (focus (exact dec_false (by omega); done)))
   | (show WL _ _ _ _ _ _ _; first | apply WL.nil | (refine WL.au (k := ?_)))
   | (show Z _ _ _ _ _; first | apply Z.then_normal | apply Z.then_exit | apply Z.block_exit)
   | (show W _ _ _ _ _ _; first | apply W.seq | apply W.region | apply W.ret | apply W.exit)
   | fail)
  exact Z.body1 Tryz.results67 rfl fun q => ⟨rfl, ⟨bb, cp, x.ai, x.ci, x.is, x.av, x.cv, x.vs, x.as', x.cs, x.ss, x.R⟩, hX9.at q, hS9.ext ((Ext.refl _).at q), ⟨h.kn.hi, h.kn.hv, h.kn.hs, h.kn.sn, h.kn.rows⟩⟩
end
set_option maxHeartbeats 4000000 in
theorem ref19_values (cv cl : Nat) (av al : Option Addr) (V : List Bool) (l : List Int) (w : World) (RV : Row 1 encB w av V) (RL : Row 1 encI w al l) (hl : ∀ x ∈ l, 0 ≤ x ∧ x ≤ 9223372036854775807 ∧ (x / 2).toNat < V.length) (hn : l.length ≤ 1048576) :
  Lt.Spec Tryz.prog 73 [.slice av V.length cv, .slice al l.length cl] w (IsFresh 1 encB 4 w (l.map (ofL V))) := by
 refine Spec.of _ Tryz.func73 rfl Tryz.ntmps73 (by kernel_rfl) rfl ?_
 repeat' (first
  | (apply WL.lit (len := 0) tOk; (iterate 6 exact rfl); (kernel_rfl); exact rfl; intro gb w' hb hge hc hx; have hO0 := Own.of_block0 (enc := encB) (s := 1) hb hge)
  | (show WL _ _ _ _ _ _ _; first | apply WL.nil | (refine WL.au (k := ?_)))
  | (show Z _ _ _ _ _; apply Z.then_normal)
  | (show W _ _ _ _ _ _; first | apply W.seq | apply W.region | apply W.block)
  | fail)
 obtain ⟨w1, rfl⟩ : ∃ x, x = w' := ⟨_, rfl⟩; obtain ⟨hx1, rfl⟩ : ∃ x, x = hx := ⟨_, rfl⟩
 refine W.loopO l.length (fun j b cp w' => j ≤ l.length ∧ Ext w w' ∧ Own 1 encB 4 w.heap.size w' b cp ((l.take j).map (ofL V)))
  (fun j b cp => [(0, .slice av V.length cv), (1, .slice al l.length cl), (5, .slice b ((l.take j).map (ofL V)).length cp), (6, .int .i64 j)]) (some ⟨gb, 0, none⟩) 0 ⟨Nat.zero_le _, hx1, hO0⟩ (fun k a cp w' h => h.1) (by repeat' first | exact trivial | (refine And.intro ?_ ?_) | exact rfl) ?_
 rintro j bb cp w2 ⟨hj, hX1, hO1⟩
 have htl : ((l.take j).map (ofL V)).length = min j l.length := by rw [List.length_map, List.length_take]
 have RL1 := RL.ext hX1
 by_cases hlt : j < l.length
 ·obtain ⟨y, hy⟩ := getI l hlt
  obtain ⟨y1, y2, y3⟩ := hl y (List.mem_of_getElem? hy)
  have e1 : (l.take (j + 1)).map (ofL V) = (l.take j).map (ofL V) ++ [ofL V y] := by rw [take_succ' hy, List.map_append]; rfl
  have hof := ref07_Of av cv V y w2 (RV.ext hX1) ⟨y1, by omega, y2⟩
  repeat' (first
   | (apply W.condKT; exact rfl; (focus (exact dec_true (by omega); done)))
   | (((show WL _ _ _ (⟨_, .call ⟨.value (.func 131), _, _⟩, _, _, _, _⟩ :: _) _ _ _); apply WL.callS; (iterate 4 exact rfl); exact hof))
   | (apply WL.lit tOk; (iterate 6 exact rfl); (kernel_rfl); exact rfl; intro gb w' hb hge hc hx; (obtain ⟨wL, rfl⟩ : ∃ x, x = w' := ⟨_, rfl⟩; obtain ⟨hxL, rfl⟩ : ∃ x, x = hx := ⟨_, rfl⟩))
   | (apply WL.append1 (z := (ofL V y)) tOk encB_ok; (iterate 10 exact rfl); assumption; (exact extA); (exact rfl); (assumption); exact rfl; exact rfl; (exact extA); (omega); intro a' cap' w' hO hX' hU hF)
   | (show WL _ _ _ _ _ _ _; first | apply WL.nil | (refine WL.au (k := ?_)) | (apply WL.index tOk; (iterate 8 exact rfl); assumption; (exact extA); exact rfl; omega; assumption; intro b off h; have hcc := h; first | (obtain ⟨h1, h2, h3, h4, h5, h6, _⟩ := h) | (obtain ⟨h1, h2, h3, _⟩ := h) | (obtain ⟨h1, h2, _⟩ := h) | (obtain ⟨h1, _⟩ := h)))
   | (show Z _ _ _ _ _; first | apply Z.then_normal | apply Z.block_normal)
   | (show W _ _ _ _ _ _; first | apply W.seq | apply W.region | apply W.block | apply W.skip)
   | fail)
  exact Z.againO a' cap' ⟨by omega, hX', by rw [e1]; exact hO⟩ (by repeat' first | exact trivial | (refine And.intro ?_ ?_) | exact rfl | (rw [e1]; exact rfl))
 ·obtain rfl : j = l.length := by omega
  rw [List.take_length] at hO1
  repeat' (first
   | (apply W.condKF; exact rfl; (focus (exact dec_false (by omega); done)))
   | (show WL _ _ _ _ _ _ _; first | apply WL.nil | (refine WL.au (k := ?_)))
   | (show Z _ _ _ _ _; first | apply Z.then_normal | apply Z.then_exit | apply Z.block_exit)
   | (show W _ _ _ _ _ _; first | apply W.seq | apply W.region | apply W.ret | apply W.exit)
   | fail)
  exact Z.body1 Tryz.results73 rfl fun m => ⟨hX1.at m, bb, cp, by rw [List.take_length], hO1.ext ((Ext.refl _).at m)⟩
end Go.Proofs.YteidpnpbfagaeaaGreat
