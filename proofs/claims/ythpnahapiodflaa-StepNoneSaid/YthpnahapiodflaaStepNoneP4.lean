/- StepNone: a nil machine does nothing. No conditions. -/
import Derived.Test.YthpnahapiodflaaRows
import Derived.Lib.SmallJoins
import Derived.KernelRfl
import Derived.WalkKit
import Derived.ProofKit
import Derived.Deep.Quiet
import Derived.Deep.LoopGhost
import Derived.StillTail
import Derived.Test.YthpnahapiodflaaProg
import Derived.OpenShut
import Derived.ShutString
import Derived.ChangeOld
import Derived.Deep.Slices
import Derived.SizedLaws
import Derived.Laws.StructEq
import Derived.Laws.CopyRow
import Derived.Laws.IdiomCopy
import Derived.Test.YthpnahapiodflaaStepNoneP3
namespace Go.Proofs.Ythpnahapiodflaa
open Go Go.Lt Go.RowKit
set_option linter.unusedVariables false
set_option linter.unusedSimpArgs false
set_option maxRecDepth 20000

noncomputable abbrev okO (m x : Int) : Bool := dec (1 < x) && dec (x % 2 = 0) && dec (x ≤ 2 * m)
noncomputable abbrev okR (x : T3) : Bool := dec (x.2.2 = 0) || dec (x.2.2 = 1) || dec (x.2.2 = x.1)
theorem all_snoc {α : Type} {l : List α} {k : Nat} {x : α} (p : α → Bool) (h : l[k]? = some x) : (l.take (k + 1)).all p = ((l.take k).all p && p x) := by rw [take_succ' h, List.all_append]; simp
theorem bad_iff {c : CirT} (hm : ¬ BadMax c) : (c.own.all (okO c.max) && c.lat.all okR && c.used.all (inR c.max)) = true ↔ ¬ (BadMax c ∨ BadOwn c ∨ BadUse c ∨ BadRes c) := by
  simp only [Bool.and_eq_true, List.all_eq_true]
  constructor
  · rintro ⟨⟨h1, h2⟩, h3⟩ (h | ⟨x, hx, h⟩ | ⟨x, hx, h⟩ | ⟨x, hx, h⟩)
    · exact hm h
    · have := h1 x hx
      have h4 := of_dec this.1.1; have h5 := of_dec this.1.2; have h6 := of_dec this.2; omega
    · have := h3 x hx
      have h4 := of_dec this.1; have h5 := of_dec this.2; omega
    · have := h2 x hx
      simp only [Bool.or_eq_true] at this
      rcases this with (h4 | h4) | h4 <;> have h5 := of_dec h4 <;> omega
  · intro h
    refine ⟨⟨fun x hx => ?_, fun x hx => ?_⟩, fun x hx => ?_⟩
    · have hn : ¬ (x < 2 ∨ x % 2 = 1 ∨ 2 * c.max < x) := fun hh => h (.inr (.inl ⟨x, hx, hh⟩))
      exact ⟨⟨dec_true (by omega), dec_true (by omega)⟩, dec_true (by omega)⟩
    · have hn : ¬ (x.2.2 ≠ 0 ∧ x.2.2 ≠ 1 ∧ x.2.2 ≠ x.1) := fun hh => h (.inr (.inr (.inr ⟨x, hx, hh⟩)))
      unfold okR
      by_cases q1 : x.2.2 = 0
      · rw [dec_true q1]; rfl
      · by_cases q2 : x.2.2 = 1
        · rw [dec_true q2]; simp
        · rw [dec_true (show x.2.2 = x.1 from Classical.byContradiction fun q3 => hn ⟨q1, q2, q3⟩)]; simp
    · have hn : ¬ (x < 0 ∨ 2 * c.max + 1 < x) := fun hh => h (.inr (.inr (.inl ⟨x, hx, hh⟩)))
      exact ⟨dec_true (by omega), dec_true (by omega)⟩
theorem half_mem {l : List Int} {x : Int} (hl : ∀ y ∈ l, y % 2 = 0 ∧ 2 ≤ y) : x / 2 ∈ (0 :: l.map (· / 2) : List Int) ↔ (x / 2 = 0 ∨ x - x % 2 ∈ l) := by
  constructor
  · intro h
    rcases List.mem_cons.1 h with h | h
    · exact .inl h
    · obtain ⟨y, hy, he⟩ := List.mem_map.1 h
      have := hl y hy
      exact .inr (by rw [show x - x % 2 = y by omega]; exact hy)
  · rintro (h | h)
    · rw [h]; simp
    · exact List.mem_cons_of_mem _ (List.mem_map.2 ⟨_, h, by omega⟩)
theorem none_iff {c : CirT} {m : Int} (hown : ∀ x ∈ c.own, 2 ≤ x ∧ x % 2 = 0 ∧ x ≤ 2 * m) (hused : ∀ x ∈ c.used, 0 ≤ x ∧ x ≤ 2 * m + 1) : (true && c.used.all (inK (0 :: c.own.map (· / 2)))) = true ↔ ¬ NoneC c := by
  rw [Bool.true_and, List.all_eq_true]
  have hev : ∀ y ∈ c.own, y % 2 = 0 ∧ 2 ≤ y := fun y hy => by have := hown y hy; omega
  constructor
  · rintro h ⟨x, hx, h1, h2⟩
    have := of_dec (h x hx)
    rcases (half_mem hev).1 this with h3 | h3
    · omega
    · exact h2 h3
  · intro h x hx
    refine dec_true ((half_mem hev).2 ?_)
    by_cases h1 : 1 < x
    · exact .inr (Classical.byContradiction fun h2 => h ⟨x, hx, h1, h2⟩)
    · have := hused x hx; exact .inl (by omega)
theorem once_of {c : CirT} (h : ¬ Twice c) (hown : ∀ x ∈ c.own, x % 2 = 0) : Once c.gates := by
  have hn : c.own.Nodup := nodup_take fun i x hx hm => h ⟨i, x, hx, hm⟩
  rw [List.nodup_append] at hn
  have hp := List.pairwise_iff_getElem.1 (List.nodup_iff_pairwise_ne.1 hn.2.1)
  intro i j x y hi hj he
  have h1 := hown x.1 (List.mem_append_right _ (List.mem_map.2 ⟨x, List.mem_of_getElem? hi, rfl⟩))
  have h2 := hown y.1 (List.mem_append_right _ (List.mem_map.2 ⟨y, List.mem_of_getElem? hj, rfl⟩))
  have ei : (c.gates.map (·.1))[i]? = some x.1 := by rw [List.getElem?_map, hi]; rfl
  have ej : (c.gates.map (·.1))[j]? = some y.1 := by rw [List.getElem?_map, hj]; rfl
  obtain ⟨li, gi⟩ := List.getElem?_eq_some_iff.1 ei
  obtain ⟨lj, gj⟩ := List.getElem?_eq_some_iff.1 ej
  refine Classical.byContradiction fun hne => ?_
  rcases Nat.lt_or_gt_of_ne hne with h3 | h3
  · exact hp i j li lj h3 (by rw [gi, gj]; omega)
  · exact hp j i lj li h3 (by rw [gi, gj]; omega)
set_option maxHeartbeats 32000000 in
theorem circ_Check (c : Circ) (w : World) (hC : CAt w c) (hz : SzC c.t 100000) :
    Pure Try.prog 119 [c.val] w (.int .i64 (chkC c.t)) := by
  have hcm : c.t.max = c.max := rfl
  have z1 : c.ins.2.2.length ≤ 100000 := hz.1
  have z2 : c.lat.2.2.length ≤ 100000 := hz.2.1
  have z6 : c.gates.2.2.length ≤ 100000 := hz.2.2.2.2.2
  have hol : c.t.own.length ≤ 300000 := by
    show (c.ins.2.2 ++ c.lat.2.2.map (·.1) ++ c.gates.2.2.map (·.1)).length ≤ _
    simp; omega
  by_cases hmax : BadMax c.t
  · rw [chk_5 (.inl hmax)]
    have hmax' : c.max < 0 ∨ 16777216 < c.max := hmax
    refine Spec.of _ Try.func119 rfl Try.ntmps119 (by kernel_rfl) rfl ?_
    repeat' (first
      | (apply WL.box; exact rfl; exact rfl; exact rfl; intro gb w' hb hge hc hx; have hcc := hc; (first | (obtain ⟨h1, h2, h3, _⟩ := hc) | (obtain ⟨h1, h2, _⟩ := hc)); (obtain ⟨y0, _⟩ := hcc; obtain ⟨gc, rfl⟩ : ∃ x, x = gb := ⟨_, rfl⟩; obtain ⟨wc, rfl⟩ : ∃ x, x = w' := ⟨_, rfl⟩; obtain ⟨hxc, rfl⟩ : ∃ x, x = hx := ⟨_, rfl⟩))
      | (show WL _ _ _ _ _ _ _; first | apply WL.nil | (refine WL.au (k := ?_)) | (apply WL.guardF; exact rfl; exact rfl) | (apply WL.gD; exact rfl; exact rfl; all_goals intro _))
      | (show Z _ _ _ _ _; first | apply Z.then_normal | apply Z.then_ret)
      | (show W _ _ _ _ _ _; first | apply W.seq | apply W.region | apply W.skip | apply W.ret | (apply W.condT; exact rfl) | (apply W.condD; exact rfl; all_goals intro _)))
    all_goals first
      | exact Z.body1 Try.results119 rfl fun m => ⟨rfl, Ext.at (by (exact extA)) m⟩
      | (exfalso; omega)
      | skip
  have hm0 : ¬ (c.max < 0 ∨ 16777216 < c.max) := hmax
  refine Spec.of _ Try.func119 rfl Try.ntmps119 (by kernel_rfl) rfl ?_
  repeat' (first
    | (apply WL.box; exact rfl; exact rfl; exact rfl; intro gb w' hb hge hc hx; have hcc := hc; (first | (obtain ⟨h1, h2, h3, _⟩ := hc) | (obtain ⟨h1, h2, _⟩ := hc)); (have hcells := hcc; obtain ⟨y0, y1, y2, y3, y4, y5, y6, _⟩ := hcc; obtain ⟨gc, rfl⟩ : ∃ x, x = gb := ⟨_, rfl⟩; obtain ⟨wc, rfl⟩ : ∃ x, x = w' := ⟨_, rfl⟩; obtain ⟨hxc, rfl⟩ : ∃ x, x = hx := ⟨_, rfl⟩))
    | (apply WL.gF; exact rfl; exact rfl; (focus (exact dec_false (by omega); done)))
    | (show WL _ _ _ _ _ _ _; first | apply WL.nil | (refine WL.au (k := ?_)))
    | (show Z _ _ _ _ _; apply Z.then_normal)
    | (show W _ _ _ _ _ _; first | apply W.seq | apply W.region))
  have hgc := heap_lt hb
  refine W.condKF rfl (dec_false (by omega)) ?_
  repeat' (first
    | ((show WL _ _ _ (⟨_, .call ⟨.value (.func 154), _, _⟩, _, _, _, _⟩ :: _) _ _ _); apply WL.call; exact rfl; exact rfl; exact rfl; exact rfl; exact circ_defined c _ (hC.ext (by (exact extA))) hz; rintro v' w' ⟨hx, a', cap', rfl, hO⟩; (obtain ⟨hOo, rfl⟩ : ∃ x, x = hO := ⟨_, rfl⟩; obtain ⟨hxo, rfl⟩ : ∃ x, x = hx := ⟨_, rfl⟩; obtain ⟨wo, rfl⟩ : ∃ x, x = w' := ⟨_, rfl⟩; obtain ⟨ao, rfl⟩ : ∃ x, x = a' := ⟨_, rfl⟩; obtain ⟨co, rfl⟩ : ∃ x, x = cap' := ⟨_, rfl⟩))
    | (apply WL.alloc tOk; exact rfl; exact rfl; exact rfl; intro gb w' hb hge hx; (obtain ⟨g3, rfl⟩ : ∃ x, x = gb := ⟨_, rfl⟩; obtain ⟨w3, rfl⟩ : ∃ x, x = w' := ⟨_, rfl⟩; obtain ⟨hx3, rfl⟩ : ∃ x, x = hx := ⟨_, rfl⟩; obtain ⟨hb3, rfl⟩ : ∃ x, x = hb := ⟨_, rfl⟩; obtain ⟨hge3, rfl⟩ : ∃ x, x = hge := ⟨_, rfl⟩))
    | (apply WL.storeB (w0 := wo) tOk; exact rfl; exact rfl; exact rfl; exact rfl; assumption; (exact extA); exact rfl; exact rfl; exact rfl; (exact extA); (first | assumption | omega | (focus (apply Nat.le_trans; rotate_left; assumption; exact Below.size (by (exact extA)); done))); intro w' hb hc hX' hU; have hcc := hc; obtain ⟨h1, h2, _⟩ := hc; (obtain ⟨w4, rfl⟩ : ∃ x, x = w' := ⟨_, rfl⟩; obtain ⟨hb4, rfl⟩ : ∃ x, x = hb := ⟨_, rfl⟩; obtain ⟨hU4, rfl⟩ : ∃ x, x = hU := ⟨_, rfl⟩; obtain ⟨hX4, rfl⟩ : ∃ x, x = hX' := ⟨_, rfl⟩))
    | (show WL _ _ _ _ _ _ _; first | apply WL.nil | (refine WL.au (k := ?_)))
    | (show Z _ _ _ _ _; apply Z.then_normal)
    | (show W _ _ _ _ _ _; first | apply W.seq | apply W.region | apply W.block | apply W.skip))
  have Ro := Own.row encI_ok hOo
  have hXo : Ext wc wo := hxo
  have hlb : wo.heap.size ≤ g3 := hge3
  refine W.loopW c.t.own.length (fun k w' => k ≤ c.t.own.length ∧ Ext wo w' ∧ w'.heap[g3]? = some (.cells (okV ((c.t.own.take k).all (okO c.max))) 4 (0, 0))) (fun k => [(1, .pointer (some ⟨gc, 0, none⟩)), (3, .pointer (some ⟨g3, 0, none⟩)), (4, .slice ao c.t.own.length co), (22, .slice ao c.t.own.length co), (23, .int .i64 (c.t.own.length : Nat)), (24, .int .i64 k)]) ⟨Nat.zero_le _, hX4, hb4⟩ (fun k w' h => h.1) ⟨rfl, rfl, rfl, rfl, rfl, rfl, trivial⟩ ?_
  clear hb4 hX4 hU4 hcc h1 hb3 hx3
  rintro k w5 ⟨hk, hX5, hc5⟩
  have hcb := (cells_heap hc5).1
  by_cases hlt : k < c.t.own.length
  · obtain ⟨x, hx⟩ := getI c.t.own hlt
    have hso := all_snoc (okO c.max) hx
    obtain ⟨bb, hbb⟩ : ∃ bb, (c.t.own.take k).all (okO c.max) = bb := ⟨_, rfl⟩
    rw [hbb] at hcb hc5 hso
    cases bb with
    | false =>
      repeat' (first
        | (apply W.condKT; exact rfl; (focus (exact dec_true (by omega); done)))
        | (apply WL.storeB (w0 := wo) tOk; exact rfl; exact rfl; exact rfl; exact rfl; assumption; (exact extA); exact rfl; exact rfl; exact rfl; (exact extA); (first | assumption | omega | (focus (apply Nat.le_trans; rotate_left; assumption; exact Below.size (by (exact extA)); done))); intro w' hb hc hX' hU; have hcc := hc; obtain ⟨h1, h2, _⟩ := hc)
        | (show WL _ _ _ _ _ _ _; first | apply WL.nil | (refine WL.au (k := ?_)) | (apply WL.index tOk; exact rfl; exact rfl; exact rfl; exact rfl; exact rfl; exact rfl; exact rfl; exact rfl; assumption; (exact extA); exact rfl; omega; assumption; intro b off h; have hcc := h; first | (obtain ⟨h1, h2, h3, h4, h5, h6, _⟩ := h) | (obtain ⟨h1, h2, h3, _⟩ := h) | (obtain ⟨h1, h2, _⟩ := h) | (obtain ⟨h1, _⟩ := h)) | (apply WL.guardF; exact rfl; exact rfl))
        | (show Z _ _ _ _ _; first | apply Z.then_normal | apply Z.block_normal)
        | (show W _ _ _ _ _ _; first | apply W.seq | apply W.region | apply W.block | apply W.skip))
      exact Z.againW ⟨by omega, (by (exact extA)), by rw [hso]; exact hb⟩ ⟨rfl, rfl, rfl, rfl, rfl, rfl, trivial⟩
    | true =>
      have hlt' : ((k : Nat) : Int) < (c.t.own.length : Int) := by omega
      by_cases f1 : 1 < x
      rotate_left
      · skip
        have e : okO c.max x = false := by unfold okO; rw [dec_false f1]; rfl
        rw [e] at hso
        repeat' (first
          | (apply WL.gF; exact rfl; exact rfl; (focus (first | exact dec_true hlt' | exact dec_false f1; done)))
          | (apply W.condKT; exact rfl; (focus (first | exact dec_true hlt' | exact dec_false f1; done)))
          | (apply WL.storeB (w0 := wo) tOk; exact rfl; exact rfl; exact rfl; exact rfl; assumption; (exact extA); exact rfl; exact rfl; exact rfl; (exact extA); (first | assumption | omega | (focus (apply Nat.le_trans; rotate_left; assumption; exact Below.size (by (exact extA)); done))); intro w' hb hc hX' hU; have hcc := hc; obtain ⟨h1, h2, _⟩ := hc)
          | (show WL _ _ _ _ _ _ _; first | apply WL.nil | (refine WL.au (k := ?_)) | (apply WL.index tOk; exact rfl; exact rfl; exact rfl; exact rfl; exact rfl; exact rfl; exact rfl; exact rfl; assumption; (exact extA); exact rfl; omega; assumption; intro b off h; have hcc := h; first | (obtain ⟨h1, h2, h3, h4, h5, h6, _⟩ := h) | (obtain ⟨h1, h2, h3, _⟩ := h) | (obtain ⟨h1, h2, _⟩ := h) | (obtain ⟨h1, _⟩ := h)) | (apply WL.guardF; exact rfl; exact rfl))
          | (show Z _ _ _ _ _; first | apply Z.then_normal | apply Z.block_normal)
          | (show W _ _ _ _ _ _; first | apply W.seq | apply W.region | apply W.block | apply W.skip))
        exact Z.againW ⟨by omega, (by (exact extA)), by rw [hso]; exact hb⟩ ⟨rfl, rfl, rfl, rfl, rfl, rfl, trivial⟩
      by_cases f2 : x % 2 = 0
      rotate_left
      · skip
        have e : okO c.max x = false := by unfold okO; rw [dec_false f2]; simp
        rw [e] at hso
        repeat' (first
          | (apply WL.gT; exact rfl; exact rfl; (focus (first | exact dec_true hlt' | exact dec_true f1 | exact dec_false f2; done)))
          | (apply WL.gF; exact rfl; exact rfl; (focus (first | exact dec_true hlt' | exact dec_true f1 | exact dec_false f2; done)))
          | (apply W.condKT; exact rfl; (focus (first | exact dec_true hlt' | exact dec_true f1 | exact dec_false f2; done)))
          | (apply WL.andA; exact rfl; exact rfl; exact rfl; exact rfl)
          | (apply WL.storeB (w0 := wo) tOk; exact rfl; exact rfl; exact rfl; exact rfl; assumption; (exact extA); exact rfl; exact rfl; exact rfl; (exact extA); (first | assumption | omega | (focus (apply Nat.le_trans; rotate_left; assumption; exact Below.size (by (exact extA)); done))); intro w' hb hc hX' hU; have hcc := hc; obtain ⟨h1, h2, _⟩ := hc)
          | (show WL _ _ _ _ _ _ _; first | apply WL.nil | (refine WL.au (k := ?_)) | (apply WL.index tOk; exact rfl; exact rfl; exact rfl; exact rfl; exact rfl; exact rfl; exact rfl; exact rfl; assumption; (exact extA); exact rfl; omega; assumption; intro b off h; have hcc := h; first | (obtain ⟨h1, h2, h3, h4, h5, h6, _⟩ := h) | (obtain ⟨h1, h2, h3, _⟩ := h) | (obtain ⟨h1, h2, _⟩ := h) | (obtain ⟨h1, _⟩ := h)) | (apply WL.guardF; exact rfl; exact rfl))
          | (show Z _ _ _ _ _; first | apply Z.then_normal | apply Z.block_normal)
          | (show W _ _ _ _ _ _; first | apply W.seq | apply W.region | apply W.block | apply W.skip))
        exact Z.againW ⟨by omega, (by (exact extA)), by rw [hso]; exact hb⟩ ⟨rfl, rfl, rfl, rfl, rfl, rfl, trivial⟩
      have e : okO c.max x = dec (x ≤ 2 * c.max) := by unfold okO; rw [dec_true f1, dec_true f2]; rfl
      rw [e] at hso
      repeat' (first
        | (apply WL.gT; exact rfl; exact rfl; (focus (first | exact dec_true hlt' | exact dec_true f1 | exact dec_true f2; done)))
        | (apply W.condKT; exact rfl; (focus (first | exact dec_true hlt' | exact dec_true f1 | exact dec_true f2; done)))
        | (apply WL.andA; exact rfl; exact rfl; exact rfl; exact rfl)
        | (apply WL.storeB (w0 := wo) tOk; exact rfl; exact rfl; exact rfl; exact rfl; assumption; (exact extA); exact rfl; exact rfl; exact rfl; (exact extA); (first | assumption | omega | (focus (apply Nat.le_trans; rotate_left; assumption; exact Below.size (by (exact extA)); done))); intro w' hb hc hX' hU; have hcc := hc; obtain ⟨h1, h2, _⟩ := hc)
        | (show WL _ _ _ _ _ _ _; first | apply WL.nil | (refine WL.au (k := ?_)) | (apply WL.index tOk; exact rfl; exact rfl; exact rfl; exact rfl; exact rfl; exact rfl; exact rfl; exact rfl; assumption; (exact extA); exact rfl; omega; assumption; intro b off h; have hcc := h; first | (obtain ⟨h1, h2, h3, h4, h5, h6, _⟩ := h) | (obtain ⟨h1, h2, h3, _⟩ := h) | (obtain ⟨h1, h2, _⟩ := h) | (obtain ⟨h1, _⟩ := h)))
        | (show Z _ _ _ _ _; first | apply Z.then_normal | apply Z.block_normal)
        | (show W _ _ _ _ _ _; first | apply W.seq | apply W.region | apply W.block | apply W.skip))
      exact Z.againW ⟨by omega, (by (exact extA)), by rw [hso]; exact hb⟩ ⟨rfl, rfl, rfl, rfl, rfl, rfl, trivial⟩
  obtain rfl : k = c.t.own.length := by omega
  rw [List.take_length] at hc5
  obtain ⟨b1, hb1⟩ : ∃ b1, c.t.own.all (okO c.max) = b1 := ⟨_, rfl⟩
  rw [hb1] at hc5
  have Rl := hC.lat.row.ext hxc
  repeat' (first
    | (apply W.condKF; exact rfl; (focus (exact dec_false (by omega); done)))
    | (show WL _ _ _ _ _ _ _; first | apply WL.nil | (refine WL.au (k := ?_)))
    | (show Z _ _ _ _ _; first | apply Z.then_normal | apply Z.then_exit | apply Z.block_exit)
    | (show W _ _ _ _ _ _; first | apply W.seq | apply W.region | apply W.block | apply W.exit))
  clear hcb
  have hX5' := hX5
  refine W.loopW c.lat.2.2.length (fun k w' => k ≤ c.lat.2.2.length ∧ Ext wo w' ∧ w'.heap[g3]? = some (.cells (okV (b1 && (c.lat.2.2.take k).all okR)) 4 (0, 0))) (fun k => [(1, .pointer (some ⟨gc, 0, none⟩)), (3, .pointer (some ⟨g3, 0, none⟩)), (4, .slice ao c.t.own.length co), (47, rowVal c.lat), (48, .int .i64 (c.lat.2.2.length : Nat)), (49, .int .i64 k)]) ⟨Nat.zero_le _, hX5, by rw [List.take_zero]; simpa using hc5⟩ (fun k w' h => h.1) ⟨rfl, rfl, rfl, rfl, rfl, rfl, trivial⟩ ?_
  clear hc5 hX5 hX5'
  rintro k w5 ⟨hk, hX5, hc5⟩
  have hcb := (cells_heap hc5).1
  by_cases hlt : k < c.lat.2.2.length
  · obtain ⟨x, hx⟩ := getI c.lat.2.2 hlt
    have hso := all_snoc okR hx
    have hlt' : ((k : Nat) : Int) < (c.lat.2.2.length : Int) := by omega
    obtain ⟨bb, hbb⟩ : ∃ bb, (b1 && (c.lat.2.2.take k).all okR) = bb := ⟨_, rfl⟩
    have hso' : (b1 && (c.lat.2.2.take (k + 1)).all okR) = (bb && okR x) := by rw [hso, ← hbb, Bool.and_assoc]
    rw [hbb] at hcb hc5
    clear hso
    repeat' (first
      | (show WL _ _ _ _ _ _ _; first | apply WL.nil | (refine WL.au (k := ?_)))
      | (show Z _ _ _ _ _; apply Z.then_normal)
      | (show W _ _ _ _ _ _; first | apply W.seq | apply W.region))
    refine W.condKT rfl (dec_true hlt') ?_
    repeat' (first
      | (apply WL.alloc tOk; exact rfl; exact rfl; exact rfl; intro gb w' hb hge hx; (obtain ⟨g8, rfl⟩ : ∃ x, x = gb := ⟨_, rfl⟩; obtain ⟨w6, rfl⟩ : ∃ x, x = w' := ⟨_, rfl⟩; obtain ⟨hx6, rfl⟩ : ∃ x, x = hx := ⟨_, rfl⟩; obtain ⟨hb6, rfl⟩ : ∃ x, x = hb := ⟨_, rfl⟩; obtain ⟨hge6, rfl⟩ : ∃ x, x = hge := ⟨_, rfl⟩))
      | (apply WL.storeB (w0 := w5) tOk; exact rfl; exact rfl; exact rfl; exact rfl; assumption; (exact extA); exact rfl; exact rfl; exact rfl; (exact extA); (first | assumption | omega | (focus (apply Nat.le_trans; rotate_left; assumption; exact Below.size (by (exact extA)); done))); intro w' hb hc hX' hU; have hcc := hc; obtain ⟨h1, h2, _⟩ := hc; (obtain ⟨w7, rfl⟩ : ∃ x, x = w' := ⟨_, rfl⟩; obtain ⟨hX7, rfl⟩ : ∃ x, x = hX' := ⟨_, rfl⟩; obtain ⟨hb7, rfl⟩ : ∃ x, x = hb := ⟨_, rfl⟩; have hC7 := cells_heap hb7; obtain ⟨i0, i1, i2, _⟩ := hC7))
      | (show WL _ _ _ _ _ _ _; first | apply WL.nil | (refine WL.au (k := ?_)) | (apply WL.index tOk; exact rfl; exact rfl; exact rfl; exact rfl; exact rfl; exact rfl; exact rfl; exact rfl; assumption; (exact extA); exact rfl; omega; assumption; intro b off h; have hcc := h; first | (obtain ⟨h1, h2, h3, h4, h5, h6, _⟩ := h) | (obtain ⟨h1, h2, h3, _⟩ := h) | (obtain ⟨h1, h2, _⟩ := h) | (obtain ⟨h1, _⟩ := h)) | (apply WL.guardF; exact rfl; exact rfl) | (apply WL.gD; exact rfl; exact rfl; all_goals intro _) | (apply WL.gB; exact rfl; exact rfl; all_goals intro _))
      | (show Z _ _ _ _ _; apply Z.then_normal)
      | (show W _ _ _ _ _ _; first | apply W.seq | apply W.region | apply W.block | apply W.skip))
    all_goals
      repeat' (first
        | (apply WL.storeB (w0 := wo) tOk; exact rfl; exact rfl; exact rfl; exact rfl; assumption; (exact extA); exact rfl; exact rfl; exact rfl; (exact extA); (first | assumption | omega | (focus (apply Nat.le_trans; rotate_left; assumption; exact Below.size (by (exact extA)); done))); intro w' hb hc hX' hU; have hcc := hc; obtain ⟨h1, h2, _⟩ := hc)
        | (show WL _ _ _ _ _ _ _; first | apply WL.nil | (refine WL.au (k := ?_)))
        | (show Z _ _ _ _ _; first | apply Z.then_normal | apply Z.block_normal)
        | (show W _ _ _ _ _ _; apply W.region))
      refine Z.againW ⟨by omega, (by (exact extA)), ?_⟩ ⟨rfl, rfl, rfl, rfl, rfl, rfl, trivial⟩
      rw [hso']
      clear hcells hcc hcb hc5 hC hz
      first
        | (rw [show (bb && okR x) = false by simp [okR, dec_true, dec_false, *]]; exact hb)
        | (rw [show (bb && okR x) = true by simp [okR, dec_true, dec_false, *]]; exact hb)
        | (rw [show (bb && okR x) = dec (x.2.2 = x.1) by simp [okR, dec_true, dec_false, *]]; exact hb)
  obtain rfl : k = c.lat.2.2.length := by omega
  rw [List.take_length] at hc5
  repeat' (first
    | (show WL _ _ _ _ _ _ _; first | apply WL.nil | (refine WL.au (k := ?_)))
    | (show Z _ _ _ _ _; apply Z.then_normal)
    | (show W _ _ _ _ _ _; first | apply W.seq | apply W.region))
  refine W.condKF rfl (dec_false (by omega)) ?_
  have hX5w : Ext wc w5 := (by (exact extA))
  have huse := circ_uses c wc w5 156 g3 [.pointer (some ⟨g3, 0, none⟩), .pointer (some ⟨gc, 0, none⟩)] (inR c.max) (b1 && c.lat.2.2.all okR) (hC.ext hxc) hz hX5w (Nat.le_trans (Below.size hXo) hlb) hc5 (fun x hx w9 b hbt hc9 => circ_Check1 w9 g3 gc c.max x b hc9 (But.cell hbt (Ext.cell hX5w y0) (fun he => by have h9 := Option.some.inj he; have h8 := Below.size hXo; simp only at h9; omega)) (by omega))
  repeat' (first
    | (((show WL _ _ _ (⟨_, .call ⟨.value (.func 155), _, _⟩, _, _, _, _⟩ :: _) _ _ _); apply WL.call; exact rfl; exact rfl; exact rfl; exact rfl; exact huse; rintro v' w6 ⟨rfl, hb6, hc6⟩))
    | (show WL _ _ _ _ _ _ _; first | apply WL.nil | (refine WL.au (k := ?_)))
    | (show Z _ _ _ _ _; first | apply Z.then_normal | apply Z.then_exit | apply Z.block_exit)
    | (show W _ _ _ _ _ _; first | apply W.seq | apply W.region | apply W.exit))
  have hU6 : Upd g3 (some ⟨g3, 0, none⟩) w5 w6 := ⟨hb6, fun k hk => by have h9 : g3 = k := Option.some.inj hk; omega⟩
  have hX6 : Ext wo w6 := hU6.ext hX5 hlb
  have hcb := (cells_heap hc6).1
  have hbad := bad_iff (c := c.t) hmax
  rw [show c.t.own.all (okO c.t.max) = b1 from hb1] at hbad
  obtain ⟨b2, hb2⟩ : ∃ b2, (b1 && c.lat.2.2.all okR && c.t.used.all (inR c.max)) = b2 := ⟨_, rfl⟩
  rw [hb2] at hc6 hcb
  have hbad2 : b2 = true ↔ ¬ (BadMax c.t ∨ BadOwn c.t ∨ BadUse c.t ∨ BadRes c.t) := by rw [← hb2]; exact hbad
  clear hbad huse
  cases b2 with
  | false =>
    have h5 : BadMax c.t ∨ BadOwn c.t ∨ BadUse c.t ∨ BadRes c.t := Classical.byContradiction fun h => by have := hbad2.2 h; cases this
    repeat' (first
      | (show WL _ _ _ _ _ _ _; first | apply WL.nil | (refine WL.au (k := ?_)))
      | (show Z _ _ _ _ _; apply Z.then_normal))
    refine W.condKT rfl rfl ?_
    repeat' (first
      | (show WL _ _ _ _ _ _ _; first | apply WL.nil | (refine WL.au (k := ?_)))
      | (show Z _ _ _ _ _; first | apply Z.then_normal | apply Z.then_ret)
      | (show W _ _ _ _ _ _; first | apply W.seq | apply W.region | apply W.ret))
    exact Z.body1 Try.results119 rfl fun m => ⟨by rw [chk_5 h5], Ext.at (by (exact extA)) m⟩
  | true =>
    have h5 := hbad2.1 rfl
    have hown : ∀ x ∈ c.t.own, 2 ≤ x ∧ x % 2 = 0 ∧ x ≤ 2 * c.max := fun x hx => by
      have hn : ¬ (x < 2 ∨ x % 2 = 1 ∨ 2 * c.t.max < x) := fun hh => h5 (.inr (.inl ⟨x, hx, hh⟩))
      rw [hcm] at hn; omega
    have hused : ∀ x ∈ c.t.used, 0 ≤ x ∧ x ≤ 2 * c.max + 1 := fun x hx => by
      have hn : ¬ (x < 0 ∨ 2 * c.t.max + 1 < x) := fun hh => h5 (.inr (.inr (.inl ⟨x, hx, hh⟩)))
      rw [hcm] at hn; omega
    repeat' (first
      | (show WL _ _ _ _ _ _ _; first | apply WL.nil | (refine WL.au (k := ?_)))
      | (show Z _ _ _ _ _; apply Z.then_normal))
    refine W.condKF rfl rfl ?_
    repeat' (first
      | ((apply WL.makeMap (kv := encK) (vv := isB); exact rfl; exact rfl; intro rm w7 hM7 hge7 hx7))
      | ((apply WL.insertF (B := 0) (w0 := w6) (vv := isB) tOk keyI; exact rfl; exact rfl; exact rfl; exact rfl; exact rfl; exact rfl; exact hM7; exact (by (exact extA)); exact hge7; intro w8 hM8 hX8 hU8))
      | (apply WL.alloc tOk; exact rfl; exact rfl; exact rfl; intro gb w' hb hge hx; (obtain ⟨g9, rfl⟩ : ∃ x, x = gb := ⟨_, rfl⟩; obtain ⟨w9, rfl⟩ : ∃ x, x = w' := ⟨_, rfl⟩; obtain ⟨hx9, rfl⟩ : ∃ x, x = hx := ⟨_, rfl⟩; obtain ⟨hb9, rfl⟩ : ∃ x, x = hb := ⟨_, rfl⟩; obtain ⟨hge9, rfl⟩ : ∃ x, x = hge := ⟨_, rfl⟩))
      | (apply WL.storeB (w0 := w8) tOk; exact rfl; exact rfl; exact rfl; exact rfl; assumption; (exact extA); exact rfl; exact rfl; exact rfl; (exact extA); (first | assumption | omega | (focus (apply Nat.le_trans; rotate_left; assumption; exact Below.size (by (exact extA)); done))); intro w' hb hc hX' hU; have hcc := hc; obtain ⟨h1, h2, _⟩ := hc; (obtain ⟨w10, rfl⟩ : ∃ x, x = w' := ⟨_, rfl⟩; obtain ⟨hb10, rfl⟩ : ∃ x, x = hb := ⟨_, rfl⟩; obtain ⟨hU10, rfl⟩ : ∃ x, x = hU := ⟨_, rfl⟩; obtain ⟨hX10, rfl⟩ : ∃ x, x = hX' := ⟨_, rfl⟩))
      | (show WL _ _ _ _ _ _ _; first | apply WL.nil | (refine WL.au (k := ?_)))
      | (show Z _ _ _ _ _; apply Z.then_normal)
      | (show W _ _ _ _ _ _; first | apply W.seq | apply W.region | apply W.block | apply W.skip))
    have hS : Lt.Sep w6.heap.size w10 [pcell g9 #[.map (some rm)] 125, pmap encK isB rm (keysL true (0 :: (c.t.own.take 0).map (· / 2)))] := Sep.newCell (Sep.newMap Sep.none' hX8 hM8 hge7 (Nat.le_refl _)) hX10 hb10 hge9 (Below.size hX8)
    clear hM7 hM8 hb9 hb10 hU10 hU8 hcc h1 hx9
    have hX10w : Ext w6 w10 := (by (exact extA))
    have hXw6 : Ext wc w6 := (by (exact extA))
    have hev : ∀ k, ∀ y ∈ c.t.own.take k, y % 2 = 0 ∧ 2 ≤ y := fun k y hy => by have := hown y (List.mem_of_mem_take hy); omega
    clear hX10 hX8 hx7
    refine W.loopW c.t.own.length (fun k w' => k ≤ c.t.own.length ∧ Ext w6 w' ∧ Lt.Sep w6.heap.size w' [pcell g9 #[.map (some rm)] 125, pmap encK isB rm (keysL true (0 :: (c.t.own.take k).map (· / 2)))] ∧ ∀ i x, i < k → c.t.own[i]? = some x → x ∉ c.t.own.take i) (fun k => [(1, .pointer (some ⟨gc, 0, none⟩)), (3, .pointer (some ⟨g3, 0, none⟩)), (9, .pointer (some ⟨g9, 0, none⟩)), (79, .slice ao c.t.own.length co), (80, .int .i64 (c.t.own.length : Nat)), (81, .int .i64 k)]) ⟨Nat.zero_le _, hX10w, hS, fun i x h => absurd h (Nat.not_lt_zero _)⟩ (fun k w' h => h.1) ⟨rfl, rfl, rfl, rfl, rfl, rfl, trivial⟩ ?_
    clear hS hX10w
    rintro k w11 ⟨hk, hX11, hS, hno⟩
    have hg9 := (cells_heap (hS.cell (i := 0) rfl)).1
    have hMp := hS.map (i := 1) rfl
    have hrm := (hS.lt (i := 1) rfl rfl).1
    have hX11o : Ext wo w11 := (by (exact extA))
    by_cases hlt : k < c.t.own.length
    · obtain ⟨x, hx⟩ := getI c.t.own hlt
      have hxo := hown x (List.mem_of_getElem? hx)
      have hhm := half_mem (x := x) (hev k)
      rw [show x - x % 2 = x by omega] at hhm
      by_cases hin : x ∈ c.t.own.take k
      · have htw : Twice c.t := ⟨k, x, hx, hin⟩
        repeat' (first
          | (show WL _ _ _ _ _ _ _; first | apply WL.nil | (refine WL.au (k := ?_)))
          | (show Z _ _ _ _ _; apply Z.then_normal)
          | (show W _ _ _ _ _ _; first | apply W.seq | apply W.region))
        refine W.condKT rfl (dec_true (by omega)) ?_
        repeat' (first
          | ((apply WL.lookKeys tOk keyI; exact rfl; exact rfl; exact rfl; exact rfl; exact rfl; exact rfl; exact rfl; exact rfl; exact hMp))
          | (show WL _ _ _ _ _ _ _; first | apply WL.nil | (refine WL.au (k := ?_)) | (apply WL.index tOk; exact rfl; exact rfl; exact rfl; exact rfl; exact rfl; exact rfl; exact rfl; exact rfl; assumption; (exact extA); exact rfl; omega; assumption; intro b off h; have hcc := h; first | (obtain ⟨h1, h2, h3, h4, h5, h6, _⟩ := h) | (obtain ⟨h1, h2, h3, _⟩ := h) | (obtain ⟨h1, h2, _⟩ := h) | (obtain ⟨h1, _⟩ := h)))
          | (show Z _ _ _ _ _; apply Z.then_normal)
          | (show W _ _ _ _ _ _; first | apply W.seq | apply W.region | apply W.block | apply W.skip))
        refine W.condKT rfl (dec_true (hhm.2 (.inr hin))) ?_
        repeat' (first
          | (show WL _ _ _ _ _ _ _; first | apply WL.nil | (refine WL.au (k := ?_)))
          | (show Z _ _ _ _ _; first | apply Z.then_normal | apply Z.then_ret | apply Z.block_ret)
          | (show W _ _ _ _ _ _; first | apply W.seq | apply W.region | apply W.ret))
        exact Z.body1 Try.results119 rfl fun m => ⟨by rw [chk_7 h5 htw], Ext.at (by (exact extA)) m⟩
      · have hnm : ¬ x / 2 ∈ (0 :: (c.t.own.take k).map (· / 2) : List Int) := fun h => by
          rcases hhm.1 h with h | h
          · omega
          · exact hin h
        repeat' (first
          | (show WL _ _ _ _ _ _ _; first | apply WL.nil | (refine WL.au (k := ?_)))
          | (show Z _ _ _ _ _; apply Z.then_normal)
          | (show W _ _ _ _ _ _; first | apply W.seq | apply W.region))
        refine W.condKT rfl (dec_true (by omega)) ?_
        repeat' (first
          | ((apply WL.lookKeys tOk keyI; exact rfl; exact rfl; exact rfl; exact rfl; exact rfl; exact rfl; exact rfl; exact rfl; exact hMp))
          | (show WL _ _ _ _ _ _ _; first | apply WL.nil | (refine WL.au (k := ?_)) | (apply WL.index tOk; exact rfl; exact rfl; exact rfl; exact rfl; exact rfl; exact rfl; exact rfl; exact rfl; assumption; (exact extA); exact rfl; omega; assumption; intro b off h; have hcc := h; first | (obtain ⟨h1, h2, h3, h4, h5, h6, _⟩ := h) | (obtain ⟨h1, h2, h3, _⟩ := h) | (obtain ⟨h1, h2, _⟩ := h) | (obtain ⟨h1, _⟩ := h)))
          | (show Z _ _ _ _ _; apply Z.then_normal)
          | (show W _ _ _ _ _ _; first | apply W.seq | apply W.region | apply W.block | apply W.skip))
        refine W.condKF rfl (dec_false hnm) ?_
        repeat' (first
          | ((apply WL.mapPutF (B := 0) (w0 := w6) (vv := isB) tOk keyI; exact rfl; exact rfl; exact rfl; exact rfl; exact rfl; exact rfl; exact hMp; exact (by (exact extA)); assumption; intro w' hM' hX' hU))
          | (show WL _ _ _ _ _ _ _; first | apply WL.nil | (refine WL.au (k := ?_)))
          | (show Z _ _ _ _ _; first | apply Z.then_normal | apply Z.block_normal)
          | (show W _ _ _ _ _ _; first | apply W.region | apply W.skip))
        rw [mget_keys, dec_false hnm] at hM'
        have hS4 := Sep.updMap (i := 1) rfl hU hM' hS (by (exact extA)) (Below.size (by (exact extA)))
        refine Z.againW ⟨by omega, (by (exact extA)), ?_, fun i z hi hz => ?_⟩ ⟨rfl, rfl, rfl, rfl, rfl, rfl, trivial⟩
        · rw [take_succ' hx, List.map_append, ← List.cons_append, List.map_singleton, keysL_snoc]; exact hS4
        · by_cases hik : i = k
          · subst hik; rw [hx] at hz; cases hz; exact hin
          · exact hno i z (by omega) hz
    obtain rfl : k = c.t.own.length := by omega
    rw [List.take_length] at hS hMp
    have h7 : ¬ Twice c.t := fun ⟨i, x, a1, a2⟩ => hno i x (lt_of_get a1) a1 a2
    repeat' (first
      | (show WL _ _ _ _ _ _ _; first | apply WL.nil | (refine WL.au (k := ?_)))
      | (show Z _ _ _ _ _; apply Z.then_normal)
      | (show W _ _ _ _ _ _; first | apply W.seq | apply W.region))
    refine W.condKF rfl (dec_false (by omega)) ?_
    have hc11 : w11.heap[g3]? = some (.cells (okV true) 4 (0, 0)) := by rw [hX11.block g3 (heap_lt hc6)]; exact hc6
    have hgm : ∀ g ∈ c.gates.2.2, g.1 ∈ c.t.own ∧ g.2.1 ∈ c.t.used ∧ g.2.2 ∈ c.t.used := fun g hg =>
      ⟨List.mem_append.2 (.inr (List.mem_map.2 ⟨g, hg, rfl⟩)), List.mem_append.2 (.inr (List.mem_flatMap.2 ⟨g, hg, by simp⟩)), List.mem_append.2 (.inr (List.mem_flatMap.2 ⟨g, hg, by simp⟩))⟩
    have hok : gsOk c.gates.2.2 := fun g hg => by
      obtain ⟨r1, r2, r3⟩ := hgm g hg
      have := hown _ r1
      have := hused _ r2
      have := hused _ r3
      omega
    have honce : Once c.gates.2.2 := once_of (c := c.t) h7 fun x hx => (hown x hx).2.1
    have hn9 := none_iff (c := c.t) hown hused
    obtain ⟨ks, hks⟩ : ∃ ks, (0 :: c.t.own.map (· / 2) : List Int) = ks := ⟨_, rfl⟩
    rw [hks] at hMp hn9
    have hXc11 : Ext wc w11 := (by (exact extA))
    have hne3 : g9 ≠ g3 := fun he => by have h1 := heap_lt hc6; have h2 := (hS.lt (i := 0) rfl rfl).1; omega
    have hne4 : rm ≠ g3 := fun he => by have h1 := heap_lt hc6; omega
    have huse := circ_uses c wc w11 157 g3 [.pointer (some ⟨g3, 0, none⟩), .pointer (some ⟨g9, 0, none⟩)] (inK ks) true (hC.ext hxc) hz hXc11 (Nat.le_trans (Below.size hXo) hlb) hc11 (fun x hx w9 b hbt hc9 => circ_Check2 w9 g3 g9 rm ks x b hc9 (But.cell hbt hg9 (fun he => hne3 (by have h9 := Option.some.inj he; simp only at h9; omega))) (hMp.keep (hbt.block rm hMp.lt (fun he => hne4 (by have h9 := Option.some.inj he; omega)))) (by have := hused x hx; omega))
    repeat' (first
      | (((show WL _ _ _ (⟨_, .call ⟨.value (.func 155), _, _⟩, _, _, _, _⟩ :: _) _ _ _); apply WL.call; exact rfl; exact rfl; exact rfl; exact rfl; exact huse; rintro v' w12 ⟨rfl, hb12, hc12⟩))
      | (show WL _ _ _ _ _ _ _; first | apply WL.nil | (refine WL.au (k := ?_)))
      | (show Z _ _ _ _ _; first | apply Z.then_normal | apply Z.then_exit | apply Z.block_exit)
      | (show W _ _ _ _ _ _; first | apply W.seq | apply W.region | apply W.block | apply W.exit))
    have hU12 : Upd g3 (some ⟨g3, 0, none⟩) w11 w12 := ⟨hb12, fun k hk => by have h9 : g3 = k := Option.some.inj hk; omega⟩
    have hX12 : Ext wo w12 := hU12.ext hX11o hlb
    have hcb := (cells_heap hc12).1
    obtain ⟨b3, hb3⟩ : ∃ b3, (true && c.t.used.all (inK ks)) = b3 := ⟨_, rfl⟩
    rw [hb3] at hc12 hcb hn9
    cases b3 with
    | false =>
      have h9 : NoneC c.t := Classical.byContradiction fun h => by have := hn9.2 h; cases this
      repeat' (first
        | (show WL _ _ _ _ _ _ _; first | apply WL.nil | (refine WL.au (k := ?_)))
        | (show Z _ _ _ _ _; apply Z.then_normal))
      refine W.condKT rfl rfl ?_
      repeat' (first
        | (show WL _ _ _ _ _ _ _; first | apply WL.nil | (refine WL.au (k := ?_)))
        | (show Z _ _ _ _ _; first | apply Z.then_normal | apply Z.then_ret | apply Z.block_ret)
        | (show W _ _ _ _ _ _; first | apply W.seq | apply W.region | apply W.ret))
      exact Z.body1 Try.results119 rfl fun m => ⟨by rw [chk_9 h5 h7 h9], Ext.at (by (exact extA)) m⟩
    | true =>
      have h9 := hn9.1 rfl
      repeat' (first
        | (show WL _ _ _ _ _ _ _; first | apply WL.nil | (refine WL.au (k := ?_)))
        | (show Z _ _ _ _ _; apply Z.then_normal))
      refine W.condKF rfl rfl ?_
      have hX12w : Ext w w12 := (by (exact extA))
      have Rg := hC.gates.row.ext hX12w
      have hcu := hcells.ext (show Ext wc w12 from (by (exact extA)))
      have x0 : Cells w12 gc 0 c.vals := hcu
      have x6 : w12.cell? ⟨gc, 0 + 1 + 1 + 1 + 1 + 1 + 1, none⟩ = some (rowVal c.gates) := hcu.2.2.2.2.2.2.1
      repeat' (first
        | (show W _ _ (.region 28 _ _) _ _ _; apply W.regionGX (.fl true 3 (.fl false 0 (.fl false 4 (.fl true 5 (.br 1 (.fl true 2 (.fl true 6 (.fl true 7 .done))) .stop))))) [1, 2, 4, 5, 6, 7] tMix; kernel_rfl)
        | ((show WL _ _ _ (⟨_, .call ⟨.value (.func 111), _, _⟩, _, _, _, _⟩ :: _) _ _ _); apply WL.call; exact rfl; exact rfl; exact rfl; exact rfl; exact circ_Order c _ (Rg.ext (by (exact extA))) hok (by omega) honce; rintro v' w' ⟨hx, a', cap', rfl, hO⟩; (obtain ⟨hOd, rfl⟩ : ∃ x, x = hO := ⟨_, rfl⟩; obtain ⟨hxd, rfl⟩ : ∃ x, x = hx := ⟨_, rfl⟩; obtain ⟨wd, rfl⟩ : ∃ x, x = w' := ⟨_, rfl⟩; obtain ⟨ad, rfl⟩ : ∃ x, x = a' := ⟨_, rfl⟩; obtain ⟨cd, rfl⟩ : ∃ x, x = cap' := ⟨_, rfl⟩))
        | (show SX _ _ _ _ _ _ _ _ _; first | (apply SX.done; intro w' hx) | (apply SX.fl0; exact rfl) | (apply SX.fl1; exact rfl; (exact extA)) | (apply SX.br1; exact rfl; intro w' hx))
        | (show FL _ _ _ _ _ _ _ _; first | apply FL.nilX | (apply FL.loadE tOk; exact rfl; exact rfl; exact rfl; exact rfl; exact rfl; assumption) | (apply FL.loadAE tOk; exact rfl; exact rfl; exact rfl; exact rfl; exact rfl; assumption; exact rfl))
        | (show FL _ _ _ _ _ _ _ _; (refine FL.au (k := ?_)))
        | (show Z _ _ _ _ _; (apply Z.sxE; (exact extA)))
        | (show WL _ _ _ _ _ _ _; first | apply WL.nil | (refine WL.au (k := ?_)))
        | (show Z _ _ _ _ _; first | apply Z.then_normal | apply Z.block_normal | apply Z.then_ret | apply Z.block_ret)
        | (show W _ _ _ _ _ _; first | apply W.seq | apply W.region | apply W.skip | apply W.ret | (apply W.condD; exact rfl; all_goals intro _)))
      all_goals (rename_i hlen; rw [show (natI (ordL c.gates.2.2)).length = (ordL c.t.gates).length from List.length_map _] at hlen)
      · exact Z.body1 Try.results119 rfl fun m => ⟨by rw [chk_8 h5 h7 h9 (show (ordL c.t.gates).length < c.t.gates.length by have : c.t.gates = c.gates.2.2 := rfl; rw [this] at hlen ⊢; omega)], Ext.at (by (exact extA)) m⟩
      · exact Z.body1 Try.results119 rfl fun m => ⟨by rw [chk_0 h5 h7 h9 (show ¬ (ordL c.t.gates).length < c.t.gates.length by have : c.t.gates = c.gates.2.2 := rfl; rw [this] at hlen ⊢; omega)], Ext.at (by (exact extA)) m⟩
end Go.Proofs.Ythpnahapiodflaa
namespace Go.Proofs.Ythpnahapiodflaa
open Go Go.Lt Go.RowKit
set_option linter.unusedVariables false
set_option linter.unusedSimpArgs false
set_option maxRecDepth 20000

abbrev netP (B g4 g5 : Nat) (an : Option Addr) (cn : Nat) (aa : Option Addr) (ca : Nat) (s : NA) : List Piece :=
  [pcell g4 #[.slice an s.1.length cn] 50, pcell g5 #[.slice aa s.2.length ca] 23, prow 2 encN 104 B an cn s.1, prow 1 encI 3 B aa ca s.2]
theorem circ_Net2 (w : World) (g5 : Nat) (aa : Option Addr) (ca : Nat) (A : List Int) (l z : Int) (hc : w.cell? ⟨g5, 0, none⟩ = some (.slice aa A.length ca)) (R : Row 1 encI w aa A) (h0 : 0 ≤ l) (hl9 : l ≤ 4294967296) (hz : A[(l / 2).toNat]? = some z) (hz0 : 0 ≤ z ∧ z ≤ 4294967296) :
    Still Try.prog 138 [.int .i64 l, .pointer (some ⟨g5, 0, none⟩)] w (.int .i64 (litI A l)) := by
  have hlt := lt_of_get hz
  have hl := R.len
  have e0 : litI A l = xorI z (l % 2) := litI_some hz
  refine Spec.of _ Try.func138 rfl Try.ntmps138 (by kernel_rfl) rfl ?_
  repeat' (first
    | (apply WL.andA; exact rfl; exact rfl; exact rfl; exact rfl)
    | (apply WL.xorI; exact rfl; exact rfl; exact rfl; exact rfl; omega; omega)
    | (show WL _ _ _ _ _ _ _; first | apply WL.nil | (refine WL.au (k := ?_)) | (apply WL.index tOk; exact rfl; exact rfl; exact rfl; exact rfl; exact rfl; exact rfl; exact rfl; exact rfl; assumption; (exact extA); exact rfl; omega; assumption; intro b off h; have hcc := h; first | (obtain ⟨h1, h2, h3, h4, h5, h6, _⟩ := h) | (obtain ⟨h1, h2, h3, _⟩ := h) | (obtain ⟨h1, h2, _⟩ := h) | (obtain ⟨h1, _⟩ := h)))
    | (show Z _ _ _ _ _; apply Z.then_normal)
    | (show W _ _ _ _ _ _; first | apply W.seq | apply W.region | apply W.ret))
  exact Z.body1 Try.results138 rfl fun m => ⟨by rw [e0], m, rfl⟩
set_option maxHeartbeats 8000000 in
theorem circ_Net1 (w0 w : World) (g4 g5 : Nat) (an : Option Addr) (cn : Nat) (aa : Option Addr) (ca : Nat) (s : NA) (rest : List Piece) (l : Int) (x : Int × Int) (hX : Ext w0 w) (hS : Lt.Sep w0.heap.size w (netP w0.heap.size g4 g5 an cn aa ca s ++ rest)) (hl : 0 ≤ l ∧ (l / 2).toNat < s.2.length) (hl2 : l ≤ 4294967296) (hs : s.1.length ≤ 1000000) :
    Lt.Spec Try.prog 137 [.int .i64 l, .agg (encN x).toArray, .pointer (some ⟨g4, 0, none⟩), .pointer (some ⟨g5, 0, none⟩)] w (fun v w' => v = .tuple #[] ∧ Ext w0 w' ∧ ∃ an' cn', Lt.Sep w0.heap.size w' (netP w0.heap.size g4 g5 an' cn' aa ca (cput s l x) ++ rest)) := by
  obtain ⟨N, A⟩ := s
  dsimp only at hs hl
  have k0 := (cells_heap (hS.cell (i := 0) rfl)).1
  have k1 := (cells_heap (hS.cell (i := 1) rfl)).1
  have hg4 := (hS.lt (i := 0) rfl rfl).1
  have hN := hS.row (i := 2) rfl
  obtain ⟨zz, hzz⟩ := getI A hl.2
  refine Spec.of _ Try.func137 rfl Try.ntmps137 (by kernel_rfl) rfl ?_
  repeat' (first
    | (apply WL.box; exact rfl; exact rfl; exact rfl; intro gb w' hb hge hc hx; have hcc := hc; (first | (obtain ⟨h1, h2, h3, _⟩ := hc) | (obtain ⟨h1, h2, _⟩ := hc)); (have hcells := hcc; obtain ⟨y0, y1, _⟩ := hcc; obtain ⟨w1, rfl⟩ : ∃ x, x = w' := ⟨_, rfl⟩; obtain ⟨hx1, rfl⟩ : ∃ x, x = hx := ⟨_, rfl⟩))
    | (apply WL.lit tOk; exact rfl; exact rfl; exact rfl; exact rfl; exact rfl; exact rfl; (first | exact rfl | kernel_rfl | (simp [Instr.fill, catCells]; done)); exact rfl; intro gb w' hb hge hc hx; (obtain ⟨w2, rfl⟩ : ∃ x, x = w' := ⟨_, rfl⟩; obtain ⟨hx2, rfl⟩ : ∃ x, x = hx := ⟨_, rfl⟩))
    | (apply WL.append1 (z := (x)) tOk encN_ok; exact rfl; exact rfl; exact rfl; exact rfl; exact rfl; exact rfl; exact rfl; exact rfl; exact rfl; exact rfl; assumption; (exact extA); (first | exact rfl | (focus (simp only [List.length_set]; done)) | (focus (simp; done)) | (focus (simp [*]; done)) | omega | (focus (simp only [List.length_set]; omega))); assumption; exact rfl; exact rfl; (exact extA); (first | omega | (simp; omega) | (simp at *; omega)); intro a' cap' w' hO hX' hU hF)
    | (show WL _ _ _ _ _ _ _; first | apply WL.nil | (refine WL.au (k := ?_)))
    | (show Z _ _ _ _ _; apply Z.then_normal)
    | (show W _ _ _ _ _ _; first | apply W.seq | apply W.region))
  obtain ⟨w3, rfl⟩ : ∃ x, x = w' := ⟨_, rfl⟩; obtain ⟨an2, rfl⟩ : ∃ x, x = a' := ⟨_, rfl⟩; obtain ⟨cn2, rfl⟩ : ∃ x, x = cap' := ⟨_, rfl⟩
  have hS1 : Lt.Sep w0.heap.size w3 ([pcell g4 #[.slice an N.length cn] 50, pcell g5 #[.slice aa A.length ca] 23, prow 2 encN 104 w0.heap.size an2 cn2 (N ++ [x]), prow 1 encI 3 w0.heap.size aa ca A] ++ rest) := Sep.updRow (i := 2) rfl hU hO hF hS (by (exact extA)) (Below.size (by (exact extA)))
  have hX3 : Ext w0 w3 := (by (exact extA))
  have hc4 := hS1.cell (i := 0) rfl
  repeat' (first
    | (apply WL.storeB (w0 := w0) tOk; exact rfl; exact rfl; exact rfl; exact rfl; assumption; (exact extA); exact rfl; exact rfl; exact rfl; (exact extA); (first | assumption | omega | (focus (apply Nat.le_trans; rotate_left; assumption; exact Below.size (by (exact extA)); done))); intro w' hb hc hX' hU; have hcc := hc; obtain ⟨h1, h2, _⟩ := hc; (obtain ⟨w4, rfl⟩ : ∃ x, x = w' := ⟨_, rfl⟩; obtain ⟨hb4, rfl⟩ : ∃ x, x = hb := ⟨_, rfl⟩; obtain ⟨hU4, rfl⟩ : ∃ x, x = hU := ⟨_, rfl⟩; obtain ⟨hX4, rfl⟩ : ∃ x, x = hX' := ⟨_, rfl⟩; have hS2 : Lt.Sep w0.heap.size w4 ([pcell g4 #[.slice an2 (N ++ [x]).length cn2] 50, pcell g5 #[.slice aa A.length ca] 23, prow 2 encN 104 w0.heap.size an2 cn2 (N ++ [x]), prow 1 encI 3 w0.heap.size aa ca A] ++ rest) := Sep.updCell (i := 0) rfl hU4 hb4 hS1 (Ext.refl _) (Below.size hX3); have p0 := (cells_heap (hS2.cell (i := 0) rfl)).1; have p1 := (cells_heap (hS2.cell (i := 1) rfl)).1; have hA4 := hS2.row (i := 3) rfl; have hnl : (N ++ [x]).length = N.length + 1 := by simp))
    | (apply WL.indexO tOk; exact rfl; exact rfl; exact rfl; exact rfl; exact rfl; exact rfl; exact rfl; exact rfl; assumption; (exact extA); exact encI_ok; (first | exact rfl | (focus (simp only [List.length_set]; done)) | (focus (simp; done)) | (focus (simp [*]; done)) | omega | (focus (simp only [List.length_set]; omega))); omega; assumption; intro gb ha hc; cases ha; have hcc := hc; first | (obtain ⟨h1, h2, h3, _⟩ := hc) | (obtain ⟨h1, h2, _⟩ := hc) | (obtain ⟨h1, _⟩ := hc))
    | (apply WL.storeO (z' := (2 * ((N ++ [x]).length : Int))) tOk; exact rfl; exact rfl; exact rfl; exact rfl; assumption; (exact extA); exact rfl; exact rfl; exact rfl; exact encI_ok; assumption; exact rfl; (exact extA); intro w' hO hX' hU)
    | (show WL _ _ _ _ _ _ _; first | apply WL.nil | (refine WL.au (k := ?_)))
    | (show Z _ _ _ _ _; apply Z.then_normal)
    | (show W _ _ _ _ _ _; apply W.region))
  refine Z.body0n Try.results137 fun m => ⟨rfl, hX'.at m, an2, cn2, ?_⟩
  have hS3 := Sep.updRow (i := 3) rfl hU hO (.inl rfl) hS2 (Ext.refl _) (Below.size hX4)
  have e1 : cput (N, A) l x = (N ++ [x], A.set (l / 2).toNat (2 * ((N ++ [x]).length : Int))) := by unfold cput; rw [hnl]; rfl
  rw [e1]
  refine Sep.ext (w := w') ?_ ((Ext.refl _).at m)
  show Lt.Sep _ _ ([pcell g4 #[.slice an2 (N ++ [x]).length cn2] 50, pcell g5 #[.slice _ (A.set (l / 2).toNat (2 * ((N ++ [x]).length : Int))).length ca] 23, prow 2 encN 104 w0.heap.size an2 cn2 (N ++ [x]), prow 1 encI 3 w0.heap.size _ ca (A.set (l / 2).toNat (2 * ((N ++ [x]).length : Int)))] ++ rest)
  rw [List.length_set]
  exact hS3
end Go.Proofs.Ythpnahapiodflaa
namespace Go.Proofs.Ythpnahapiodflaa
open Go Go.Lt Go.RowKit
set_option linter.unusedVariables false
set_option linter.unusedSimpArgs false
set_option maxRecDepth 20000

/-- Up to a place all is -1, behind the first. -/
structure AtK (m k : Nat) (A : List Int) : Prop where
  len : A.length = m + 1
  zero : A[0]? = some 0
  neg : ∀ u : Nat, 1 ≤ u → u < k → A[u]? = some (-1)
theorem AtK.all {m : Nat} {A : List Int} (h : AtK m (m + 1) A) : A = cAt0 (m : Int) := by
  apply List.ext_getElem?
  intro u
  have hr := PutOk.start m
  by_cases hu : u < m + 1
  · cases u with
    | zero => rw [h.zero]; exact hr.zero.symm
    | succ u => rw [h.neg (u + 1) (by omega) hu]; exact (hr.not (u + 1) (by omega) (by omega) (fun l hl => by cases hl)).symm
  · rw [List.getElem?_eq_none (by have := h.len; omega)]
    have h2 : (cAt0 (m : Int)).length = m + 1 := hr.len2
    exact (List.getElem?_eq_none (by omega)).symm
theorem Sep.perm4 {B : Nat} {w : World} {p q r s : Piece} (hS : Lt.Sep B w [p, q, r, s]) : Lt.Sep B w [r, p, s, q] := by
  refine hS.pick (fun i => match i with | 0 => 2 | 1 => 0 | 2 => 3 | _ => 1) (fun i x h => ?_) (fun i j hi hj hne => ?_)
  · match i, h with
    | 0, h => exact h
    | 1, h => exact h
    | 2, h => exact h
    | 3, h => exact h
  · have hi' : i < 4 := hi
    have hj' : j < 4 := hj
    match i, j, hi', hj', hne with
    | 0, 1, _, _, _ => decide
    | 0, 2, _, _, _ => decide
    | 0, 3, _, _, _ => decide
    | 1, 0, _, _, _ => decide
    | 1, 2, _, _, _ => decide
    | 1, 3, _, _, _ => decide
    | 2, 0, _, _, _ => decide
    | 2, 1, _, _, _ => decide
    | 2, 3, _, _, _ => decide
    | 3, 0, _, _, _ => decide
    | 3, 1, _, _, _ => decide
    | 3, 2, _, _, _ => decide
    | 0, 0, _, _, h => exact absurd rfl h
    | 1, 1, _, _, h => exact absurd rfl h
    | 2, 2, _, _, h => exact absurd rfl h
    | 3, 3, _, _, h => exact absurd rfl h
set_option maxHeartbeats 32000000 in
theorem circ_Net (c : Circ) (w : World) (hC : CAt w c) (hg : GoodC' c.t) (hz : SzC c.t 100000) :
    Lt.Spec Try.prog 87 [c.val] w (IsFresh2 2 encN 104 1 encI 3 w (cNet c.t).1 (cNet c.t).2) := by
  have z1 : c.ins.2.2.length ≤ 100000 := hz.1
  have z2 : c.lat.2.2.length ≤ 100000 := hz.2.1
  have z6 : c.gates.2.2.length ≤ 100000 := hz.2.2.2.2.2
  have hm : 0 ≤ c.max ∧ c.max ≤ 16777216 := hg.max
  have hcm : c.t.max = c.max := rfl
  obtain ⟨m, hmm⟩ : ∃ m : Nat, c.max = (m : Int) := ⟨c.max.toNat, by omega⟩
  have hmt : c.max.toNat = m := by omega
  have hown : ∀ x ∈ c.t.own, 2 ≤ x ∧ x % 2 = 0 ∧ x ≤ 2 * c.max := hg.own
  have hused : ∀ x ∈ c.t.used, 0 ≤ x ∧ x ≤ 2 * c.max + 1 := hg.used
  refine Spec.of _ Try.func87 rfl Try.ntmps87 (by kernel_rfl) rfl ?_
  repeat' (first
    | (apply WL.box; exact rfl; exact rfl; exact rfl; intro gb w' hb hge hc hx; have hcc := hc; (first | (obtain ⟨h1, h2, h3, _⟩ := hc) | (obtain ⟨h1, h2, _⟩ := hc)); (have hcells := hcc; obtain ⟨y0, y1, y2, y3, y4, y5, y6, _⟩ := hcc; obtain ⟨gc, rfl⟩ : ∃ x, x = gb := ⟨_, rfl⟩; obtain ⟨wc, rfl⟩ : ∃ x, x = w' := ⟨_, rfl⟩; obtain ⟨hxc, rfl⟩ : ∃ x, x = hx := ⟨_, rfl⟩; have hS : Lt.Sep wc.heap.size wc [prow 2 encN 104 wc.heap.size none 0 []] := Sep.newRow Sep.none' (Ext.refl _) Own.nil (fun k hk => by cases hk) (Nat.le_refl _)))
    | (apply WL.alloc tOk; exact rfl; exact rfl; exact rfl; intro gb w' hb hge hx; replace hS := Sep.newCell (Sep.ext hS (by (exact extA))) hx hb hge (by (first | exact Nat.le_refl _ | exact Below.size (by (exact extA)))); (try simp only [List.set_cons_zero, List.set_cons_succ] at hS); (try have hR0 := hS.row (i := 0) rfl); (try have hR1 := hS.row (i := 1) rfl); (try have hR2 := hS.row (i := 2) rfl); (try have hR3 := hS.row (i := 3) rfl); (try have hR4 := hS.row (i := 4) rfl); (try have hC0 := hS.cell (i := 0) rfl); (try have hD0 := (cells_heap hC0).1); (try have hE0 := (cells_heap hC0).2.1); (try have hF0 := (cells_heap hC0).2.2.1); (try have hG0 := (cells_heap hC0).2.2.2.1); (try have hC1 := hS.cell (i := 1) rfl); (try have hD1 := (cells_heap hC1).1); (try have hE1 := (cells_heap hC1).2.1); (try have hF1 := (cells_heap hC1).2.2.1); (try have hG1 := (cells_heap hC1).2.2.2.1); (try have hC2 := hS.cell (i := 2) rfl); (try have hD2 := (cells_heap hC2).1); (try have hE2 := (cells_heap hC2).2.1); (try have hF2 := (cells_heap hC2).2.2.1); (try have hG2 := (cells_heap hC2).2.2.2.1); (try have hC3 := hS.cell (i := 3) rfl); (try have hD3 := (cells_heap hC3).1); (try have hE3 := (cells_heap hC3).2.1); (try have hF3 := (cells_heap hC3).2.2.1); (try have hG3 := (cells_heap hC3).2.2.2.1); (try have hC4 := hS.cell (i := 4) rfl); (try have hD4 := (cells_heap hC4).1); (try have hE4 := (cells_heap hC4).2.1); (try have hF4 := (cells_heap hC4).2.2.1); (try have hG4 := (cells_heap hC4).2.2.2.1); (try have hM0 := hS.map (i := 0) rfl); (try have hM1 := hS.map (i := 1) rfl); (try have hM2 := hS.map (i := 2) rfl); (try have hM3 := hS.map (i := 3) rfl); (try have hM4 := hS.map (i := 4) rfl); (first | (have h_0 := g4; clear h_0) | (obtain ⟨g4, rfl⟩ : ∃ x, x = gb := ⟨_, rfl⟩)))
    | (apply WL.make (w0 := wc) (z := (0:Int)) tOk; exact rfl; exact rfl; exact rfl; exact rfl; exact rfl; exact rfl; exact rfl; exact rfl; exact rfl; exact encI_ok; exact rfl; exact rfl; (exact extA); (first | omega | (simp; omega) | (simp at *; omega)); intro gb w' hO hge hx; replace hS := Sep.newRow (Sep.ext hS (by (exact extA))) hx hO (fun k hk => by cases hk; exact hge) (by (first | exact Nat.le_refl _ | exact Below.size (by (exact extA)))); (try simp only [List.set_cons_zero, List.set_cons_succ] at hS); (try have hR0 := hS.row (i := 0) rfl); (try have hR1 := hS.row (i := 1) rfl); (try have hR2 := hS.row (i := 2) rfl); (try have hR3 := hS.row (i := 3) rfl); (try have hR4 := hS.row (i := 4) rfl); (try have hC0 := hS.cell (i := 0) rfl); (try have hD0 := (cells_heap hC0).1); (try have hE0 := (cells_heap hC0).2.1); (try have hF0 := (cells_heap hC0).2.2.1); (try have hG0 := (cells_heap hC0).2.2.2.1); (try have hC1 := hS.cell (i := 1) rfl); (try have hD1 := (cells_heap hC1).1); (try have hE1 := (cells_heap hC1).2.1); (try have hF1 := (cells_heap hC1).2.2.1); (try have hG1 := (cells_heap hC1).2.2.2.1); (try have hC2 := hS.cell (i := 2) rfl); (try have hD2 := (cells_heap hC2).1); (try have hE2 := (cells_heap hC2).2.1); (try have hF2 := (cells_heap hC2).2.2.1); (try have hG2 := (cells_heap hC2).2.2.2.1); (try have hC3 := hS.cell (i := 3) rfl); (try have hD3 := (cells_heap hC3).1); (try have hE3 := (cells_heap hC3).2.1); (try have hF3 := (cells_heap hC3).2.2.1); (try have hG3 := (cells_heap hC3).2.2.2.1); (try have hC4 := hS.cell (i := 4) rfl); (try have hD4 := (cells_heap hC4).1); (try have hE4 := (cells_heap hC4).2.1); (try have hF4 := (cells_heap hC4).2.2.1); (try have hG4 := (cells_heap hC4).2.2.2.1); (try have hM0 := hS.map (i := 0) rfl); (try have hM1 := hS.map (i := 1) rfl); (try have hM2 := hS.map (i := 2) rfl); (try have hM3 := hS.map (i := 3) rfl); (try have hM4 := hS.map (i := 4) rfl); (obtain ⟨ga, rfl⟩ : ∃ x, x = gb := ⟨_, rfl⟩))
    | (apply WL.storeB (w0 := wc) tOk; exact rfl; exact rfl; exact rfl; exact rfl; assumption; (exact extA); exact rfl; exact rfl; exact rfl; (exact extA); (first | assumption | omega | (focus (apply Nat.le_trans; rotate_left; assumption; exact Below.size (by (exact extA)); done))); intro w' hb hc hX' hU; have hcc := hc; obtain ⟨h1, h2, _⟩ := hc; (first | replace hS := Sep.updCell (i := 0) rfl hU hb hS (by (exact extA)) (by (first | exact Nat.le_refl _ | exact Below.size (by (exact extA)))) | replace hS := Sep.updCell (i := 1) rfl hU hb hS (by (exact extA)) (by (first | exact Nat.le_refl _ | exact Below.size (by (exact extA)))) | replace hS := Sep.updCell (i := 2) rfl hU hb hS (by (exact extA)) (by (first | exact Nat.le_refl _ | exact Below.size (by (exact extA)))) | replace hS := Sep.updCell (i := 3) rfl hU hb hS (by (exact extA)) (by (first | exact Nat.le_refl _ | exact Below.size (by (exact extA))))); (try simp only [List.set_cons_zero, List.set_cons_succ] at hS); (try have hR0 := hS.row (i := 0) rfl); (try have hR1 := hS.row (i := 1) rfl); (try have hR2 := hS.row (i := 2) rfl); (try have hR3 := hS.row (i := 3) rfl); (try have hR4 := hS.row (i := 4) rfl); (try have hC0 := hS.cell (i := 0) rfl); (try have hD0 := (cells_heap hC0).1); (try have hE0 := (cells_heap hC0).2.1); (try have hF0 := (cells_heap hC0).2.2.1); (try have hG0 := (cells_heap hC0).2.2.2.1); (try have hC1 := hS.cell (i := 1) rfl); (try have hD1 := (cells_heap hC1).1); (try have hE1 := (cells_heap hC1).2.1); (try have hF1 := (cells_heap hC1).2.2.1); (try have hG1 := (cells_heap hC1).2.2.2.1); (try have hC2 := hS.cell (i := 2) rfl); (try have hD2 := (cells_heap hC2).1); (try have hE2 := (cells_heap hC2).2.1); (try have hF2 := (cells_heap hC2).2.2.1); (try have hG2 := (cells_heap hC2).2.2.2.1); (try have hC3 := hS.cell (i := 3) rfl); (try have hD3 := (cells_heap hC3).1); (try have hE3 := (cells_heap hC3).2.1); (try have hF3 := (cells_heap hC3).2.2.1); (try have hG3 := (cells_heap hC3).2.2.2.1); (try have hC4 := hS.cell (i := 4) rfl); (try have hD4 := (cells_heap hC4).1); (try have hE4 := (cells_heap hC4).2.1); (try have hF4 := (cells_heap hC4).2.2.1); (try have hG4 := (cells_heap hC4).2.2.2.1); (try have hM0 := hS.map (i := 0) rfl); (try have hM1 := hS.map (i := 1) rfl); (try have hM2 := hS.map (i := 2) rfl); (try have hM3 := hS.map (i := 3) rfl); (try have hM4 := hS.map (i := 4) rfl))
    | (show WL _ _ _ _ _ _ _; first | apply WL.nil | (refine WL.au (k := ?_)))
    | (show Z _ _ _ _ _; apply Z.then_normal)
    | (show W _ _ _ _ _ _; first | apply W.seq | apply W.region | apply W.block))
  obtain ⟨g5, rfl⟩ : ∃ x, x = gb := ⟨_, rfl⟩
  have e1 : (c.max + 1).toNat = m + 1 := by omega
  rw [e1, List.length_replicate] at hS
  have hS2 : Lt.Sep wc.heap.size w' (netP wc.heap.size g4 g5 none 0 (some ⟨ga, 0, none⟩) (m + 1) ([], List.replicate (m + 1) 0)) := by
    have := Sep.perm4 hS
    unfold netP
    rw [List.length_replicate]
    exact this
  have hA0 : AtK m 1 (List.replicate (m + 1) 0) := ⟨by simp, rfl, fun u h1 h2 => by omega⟩
  have hX1 : Ext wc w' := (by (exact extA))
  refine W.loopW (m + 1) (fun k w' => k ≤ m ∧ Ext wc w' ∧ ∃ A, AtK m (k + 1) A ∧ Lt.Sep wc.heap.size w' (netP wc.heap.size g4 g5 none 0 (some ⟨ga, 0, none⟩) (m + 1) ([], A))) (fun k => [(1, .pointer (some ⟨gc, 0, none⟩)), (4, .pointer (some ⟨g4, 0, none⟩)), (5, .pointer (some ⟨g5, 0, none⟩)), (6, .int .i64 ((k : Int) + 1))]) ⟨Nat.zero_le _, hX1, _, hA0, hS2⟩ (fun k w' h => by have := h.1; omega) ⟨rfl, rfl, rfl, rfl, trivial⟩ ?_
  clear hS hS2 hA0 hX1
  rintro k w3 ⟨hk, hX3, A, hA, hS⟩
  have hlA := hA.len
  have hlA2 : (([], A) : NA).2.length = m + 1 := hA.len
  have k1 := (cells_heap (hS.cell (i := 1) rfl)).1
  have hAo := hS.row (i := 3) rfl
  by_cases hlt : k < m
  · obtain ⟨yv, hyv⟩ := getI A (show ((k : Int) + 1).toNat < A.length by omega)
    repeat' (first
      | (show WL _ _ _ _ _ _ _; first | apply WL.nil | (refine WL.au (k := ?_)))
      | (show Z _ _ _ _ _; apply Z.then_normal)
      | (show W _ _ _ _ _ _; first | apply W.seq | apply W.region))
    refine W.condKT rfl (dec_true (by omega)) ?_
    repeat' (first
      | (apply WL.indexO tOk; exact rfl; exact rfl; exact rfl; exact rfl; exact rfl; exact rfl; exact rfl; exact rfl; assumption; (exact extA); exact encI_ok; (first | exact rfl | (focus (simp only [List.length_set]; done)) | (focus (simp; done)) | (focus (simp [*]; done)) | omega | (focus (simp only [List.length_set]; omega))); omega; assumption; intro gb ha hc; cases ha; have hcc := hc; first | (obtain ⟨h1, h2, h3, _⟩ := hc) | (obtain ⟨h1, h2, _⟩ := hc) | (obtain ⟨h1, _⟩ := hc))
      | (apply WL.storeO (z' := ((-1 : Int))) tOk; exact rfl; exact rfl; exact rfl; exact rfl; assumption; (exact extA); exact rfl; exact rfl; exact rfl; exact encI_ok; assumption; exact rfl; (exact extA); intro w' hO hX' hU)
      | (show WL _ _ _ _ _ _ _; first | apply WL.nil | (refine WL.au (k := ?_)))
      | (show Z _ _ _ _ _; first | apply Z.then_normal | apply Z.block_normal)
      | (show W _ _ _ _ _ _; first | apply W.seq | apply W.region | apply W.block | apply W.skip))
    have hS3 := Sep.updRow (i := 3) rfl hU hO (.inl rfl) hS (Ext.refl _) (Below.size hX3)
    refine Z.againW ⟨by omega, (by (exact extA)), A.set ((k : Int) + 1).toNat (-1), ⟨by simp [hlA], ?_, fun u h1 h2 => ?_⟩, ?_⟩ ⟨rfl, rfl, rfl, rfl, trivial⟩
    · rw [List.getElem?_set_ne (by omega)]; exact hA.zero
    · by_cases hu : u = k + 1
      · subst hu; rw [show ((k : Int) + 1).toNat = k + 1 by omega, List.getElem?_set_self (by omega)]
      · rw [List.getElem?_set_ne (by omega)]; exact hA.neg u h1 (by omega)
    · unfold netP
      rw [List.length_set]
      exact hS3
  obtain rfl : k = m := by omega
  obtain rfl := hA.all
  repeat' (first
    | (show WL _ _ _ _ _ _ _; first | apply WL.nil | (refine WL.au (k := ?_)))
    | (show Z _ _ _ _ _; apply Z.then_normal)
    | (show W _ _ _ _ _ _; first | apply W.seq | apply W.region))
  refine W.condKF rfl (dec_false (by omega)) ?_
  repeat' (first
    | (show WL _ _ _ _ _ _ _; first | apply WL.nil | (refine WL.au (k := ?_)))
    | (show Z _ _ _ _ _; first | apply Z.then_normal | apply Z.then_exit | apply Z.block_exit)
    | (show W _ _ _ _ _ _; first | apply W.seq | apply W.region | apply W.block | apply W.exit))
  have Ri := hC.ins.row.ext hxc
  have Rl := hC.lat.row.ext hxc
  have Rg := hC.gates.row.ext hxc
  have hown1 : ∀ x ∈ c.ins.2.2, 2 ≤ x ∧ x % 2 = 0 ∧ x ≤ 2 * c.max := fun x hx => hown x (List.mem_append_left _ (List.mem_append_left _ hx))
  have hown2 : ∀ x ∈ c.lat.2.2, 2 ≤ x.1 ∧ x.1 % 2 = 0 ∧ x.1 ≤ 2 * c.max := fun x hx => hown x.1 (List.mem_append_left _ (List.mem_append_right _ (List.mem_map.2 ⟨x, hx, rfl⟩)))
  have e10 : cS1 c.t 0 = ([], cAt0 (k : Int)) := by rw [cS1_0, hcm, hmm]
  refine W.loopW c.ins.2.2.length (fun j w' => j ≤ c.ins.2.2.length ∧ Ext wc w' ∧ ∃ an cn, Lt.Sep wc.heap.size w' (netP wc.heap.size g4 g5 an cn (some ⟨ga, 0, none⟩) (k + 1) (cS1 c.t j) ++ [])) (fun j => [(1, .pointer (some ⟨gc, 0, none⟩)), (4, .pointer (some ⟨g4, 0, none⟩)), (5, .pointer (some ⟨g5, 0, none⟩)), (7, .func (.func 137) #[] #[.pointer (some ⟨g4, 0, none⟩), .pointer (some ⟨g5, 0, none⟩)]), (31, rowVal c.ins), (32, .int .i64 (c.ins.2.2.length : Nat)), (33, .int .i64 j)]) ⟨Nat.zero_le _, hX3, none, 0, by rw [e10]; exact hS⟩ (fun k w' h => h.1) ⟨rfl, rfl, rfl, rfl, rfl, rfl, rfl, trivial⟩ ?_
  clear hS hAo k1 hX3 hlA hlA2 hA
  rintro j w4 ⟨hj, hX4, an, cn, hS⟩
  have hl1 : (cS1 c.t j).1.length = j ∧ (cS1 c.t j).2.length = c.max.toNat + 1 := cS1_len c.t hj
  by_cases hlt : j < c.ins.2.2.length
  · obtain ⟨x, hgx⟩ := getI c.ins.2.2 hlt
    have hxo := hown1 x (List.mem_of_getElem? hgx)
    have e1 := cS1_s (c := c.t) hgx
    have hcall := circ_Net1 wc w4 g4 g5 an cn (some ⟨ga, 0, none⟩) (k + 1) (cS1 c.t j) [] x (-1, 0) hX4 hS (by omega) (by omega) (by omega)
    repeat' (first
      | (show WL _ _ _ _ _ _ _; first | apply WL.nil | (refine WL.au (k := ?_)))
      | (show Z _ _ _ _ _; apply Z.then_normal)
      | (show W _ _ _ _ _ _; first | apply W.seq | apply W.region))
    refine W.condKT rfl (dec_true (by omega)) ?_
    repeat' (first
      | (apply WL.build tOk; exact rfl; exact rfl; exact rfl; exact rfl; exact rfl; exact rfl; exact rfl; kernel_rfl)
      | ((show WL _ _ _ (⟨_, .call ⟨.value (.tmp _), _, _⟩, _, _, _, _⟩ :: _) _ _ _; apply WL.call; exact rfl; exact rfl; exact rfl; exact rfl; exact hcall; rintro v' w5 ⟨rfl, hX5, an2, cn2, hS5⟩))
      | (show WL _ _ _ _ _ _ _; first | apply WL.nil | (refine WL.au (k := ?_)) | (apply WL.index tOk; exact rfl; exact rfl; exact rfl; exact rfl; exact rfl; exact rfl; exact rfl; exact rfl; assumption; (exact extA); exact rfl; omega; assumption; intro b off h; have hcc := h; first | (obtain ⟨h1, h2, h3, h4, h5, h6, _⟩ := h) | (obtain ⟨h1, h2, h3, _⟩ := h) | (obtain ⟨h1, h2, _⟩ := h) | (obtain ⟨h1, _⟩ := h)))
      | (show Z _ _ _ _ _; first | apply Z.then_normal | apply Z.block_normal)
      | (show W _ _ _ _ _ _; first | apply W.seq | apply W.region | apply W.block | apply W.skip))
    exact Z.againW ⟨by omega, hX5, an2, cn2, by rw [e1]; exact hS5⟩ ⟨rfl, rfl, rfl, rfl, rfl, rfl, rfl, trivial⟩
  obtain rfl : j = c.ins.2.2.length := by omega
  repeat' (first
    | (show WL _ _ _ _ _ _ _; first | apply WL.nil | (refine WL.au (k := ?_)))
    | (show Z _ _ _ _ _; apply Z.then_normal)
    | (show W _ _ _ _ _ _; first | apply W.seq | apply W.region))
  refine W.condKF rfl (dec_false (by omega)) ?_
  repeat' (first
    | (show WL _ _ _ _ _ _ _; first | apply WL.nil | (refine WL.au (k := ?_)))
    | (show Z _ _ _ _ _; first | apply Z.then_normal | apply Z.then_exit | apply Z.block_exit)
    | (show W _ _ _ _ _ _; first | apply W.seq | apply W.region | apply W.block | apply W.exit))
  have e20 : cS2 c.t 0 = cS1 c.t c.ins.2.2.length := cS2_0 c.t
  refine W.loopW c.lat.2.2.length (fun j w' => j ≤ c.lat.2.2.length ∧ Ext wc w' ∧ ∃ an cn, Lt.Sep wc.heap.size w' (netP wc.heap.size g4 g5 an cn (some ⟨ga, 0, none⟩) (k + 1) (cS2 c.t j) ++ [])) (fun j => [(1, .pointer (some ⟨gc, 0, none⟩)), (4, .pointer (some ⟨g4, 0, none⟩)), (5, .pointer (some ⟨g5, 0, none⟩)), (7, .func (.func 137) #[] #[.pointer (some ⟨g4, 0, none⟩), .pointer (some ⟨g5, 0, none⟩)]), (43, rowVal c.lat), (44, .int .i64 (c.lat.2.2.length : Nat)), (45, .int .i64 j)]) ⟨Nat.zero_le _, hX4, an, cn, by rw [e20]; exact hS⟩ (fun k w' h => h.1) ⟨rfl, rfl, rfl, rfl, rfl, rfl, rfl, trivial⟩ ?_
  clear hS hX4 hl1 hj hlt
  rintro j w4 ⟨hj, hX4, an, cn, hS⟩
  have hl1 : (cS2 c.t j).1.length = c.ins.2.2.length + j ∧ (cS2 c.t j).2.length = c.max.toNat + 1 := cS2_len c.t hj
  by_cases hlt : j < c.lat.2.2.length
  · obtain ⟨x, hgx⟩ := getI c.lat.2.2 hlt
    have hxo := hown2 x (List.mem_of_getElem? hgx)
    have e1 := cS2_s (c := c.t) hgx
    have hcall := fun (w9 : World) (h9 : Ext w4 w9) => circ_Net1 wc w9 g4 g5 an cn (some ⟨ga, 0, none⟩) (k + 1) (cS2 c.t j) [] x.1 (-1, 0) (hX4.trans h9) (hS.ext h9) (by omega) (by omega) (by omega)
    repeat' (first
      | (show WL _ _ _ _ _ _ _; first | apply WL.nil | (refine WL.au (k := ?_)))
      | (show Z _ _ _ _ _; apply Z.then_normal)
      | (show W _ _ _ _ _ _; first | apply W.seq | apply W.region))
    refine W.condKT rfl (dec_true (by omega)) ?_
    repeat' (first
      | (apply WL.alloc tOk; exact rfl; exact rfl; exact rfl; intro gb w' hb hge hx)
      | (apply WL.storeB (w0 := w4) tOk; exact rfl; exact rfl; exact rfl; exact rfl; assumption; (exact extA); exact rfl; exact rfl; exact rfl; (exact extA); (first | assumption | omega | (focus (apply Nat.le_trans; rotate_left; assumption; exact Below.size (by (exact extA)); done))); intro w' hb hc hX' hU; have hcc := hc; obtain ⟨h1, h2, _⟩ := hc; (have hC8 := cells_heap hb; obtain ⟨i0, i1, i2, _⟩ := hC8))
      | (apply WL.build tOk; exact rfl; exact rfl; exact rfl; exact rfl; exact rfl; exact rfl; exact rfl; kernel_rfl)
      | ((show WL _ _ _ (⟨_, .call ⟨.value (.tmp _), _, _⟩, _, _, _, _⟩ :: _) _ _ _; apply WL.call; exact rfl; exact rfl; exact rfl; exact rfl; exact hcall _ (by (exact extA)); rintro v' w5 ⟨rfl, hX5, an2, cn2, hS5⟩))
      | (show WL _ _ _ _ _ _ _; first | apply WL.nil | (refine WL.au (k := ?_)) | (apply WL.index tOk; exact rfl; exact rfl; exact rfl; exact rfl; exact rfl; exact rfl; exact rfl; exact rfl; assumption; (exact extA); exact rfl; omega; assumption; intro b off h; have hcc := h; first | (obtain ⟨h1, h2, h3, h4, h5, h6, _⟩ := h) | (obtain ⟨h1, h2, h3, _⟩ := h) | (obtain ⟨h1, h2, _⟩ := h) | (obtain ⟨h1, _⟩ := h)))
      | (show Z _ _ _ _ _; first | apply Z.then_normal | apply Z.block_normal)
      | (show W _ _ _ _ _ _; first | apply W.seq | apply W.region | apply W.block | apply W.skip))
    exact Z.againW ⟨by omega, hX5, an2, cn2, by rw [e1]; exact hS5⟩ ⟨rfl, rfl, rfl, rfl, rfl, rfl, rfl, trivial⟩
  obtain rfl : j = c.lat.2.2.length := by omega
  repeat' (first
    | (show WL _ _ _ _ _ _ _; first | apply WL.nil | (refine WL.au (k := ?_)))
    | (show Z _ _ _ _ _; apply Z.then_normal)
    | (show W _ _ _ _ _ _; first | apply W.seq | apply W.region))
  refine W.condKF rfl (dec_false (by omega)) ?_
  have hgm : ∀ g ∈ c.gates.2.2, g.1 ∈ c.t.own ∧ g.2.1 ∈ c.t.used ∧ g.2.2 ∈ c.t.used := fun g hg =>
    ⟨List.mem_append.2 (.inr (List.mem_map.2 ⟨g, hg, rfl⟩)), List.mem_append.2 (.inr (List.mem_flatMap.2 ⟨g, hg, by simp⟩)), List.mem_append.2 (.inr (List.mem_flatMap.2 ⟨g, hg, by simp⟩))⟩
  have hok : gsOk c.gates.2.2 := fun g hg => by
    obtain ⟨r1, r2, r3⟩ := hgm g hg
    have := hown _ r1
    have := hused _ r2
    have := hused _ r3
    omega
  have h7 : ¬ Twice c.t := fun ⟨i, x, a1, a2⟩ => by
    have h3 := List.pairwise_iff_getElem.1 (List.nodup_iff_pairwise_ne.1 hg.once)
    obtain ⟨j, hj, he⟩ := List.mem_take_iff_getElem.1 a2
    obtain ⟨hi, he2⟩ := List.getElem?_eq_some_iff.1 a1
    exact h3 j i (by omega) hi (by omega) (by rw [he, he2])
  have honce : Once c.gates.2.2 := once_of (c := c.t) h7 fun x hx => (hown x hx).2.1
  have hcells4 := hcells.ext hX4
  have x0 : Cells w4 gc 0 c.vals := hcells4
  repeat' (first
    | ((show WL _ _ _ (⟨_, .call ⟨.value (.func 111), _, _⟩, _, _, _, _⟩ :: _) _ _ _); apply WL.call; exact rfl; exact rfl; exact rfl; exact rfl; exact circ_Order c _ (Rg.ext (by (exact extA))) hok (by omega) honce; rintro v' w' ⟨hx, a', cap', rfl, hO⟩; (obtain ⟨hOd, rfl⟩ : ∃ x, x = hO := ⟨_, rfl⟩; obtain ⟨hxd, rfl⟩ : ∃ x, x = hx := ⟨_, rfl⟩; obtain ⟨wd, rfl⟩ : ∃ x, x = w' := ⟨_, rfl⟩; obtain ⟨ad, rfl⟩ : ∃ x, x = a' := ⟨_, rfl⟩; obtain ⟨cd, rfl⟩ : ∃ x, x = cap' := ⟨_, rfl⟩))
    | (show WL _ _ _ _ _ _ _; first | apply WL.nil | (refine WL.au (k := ?_)))
    | (show Z _ _ _ _ _; first | apply Z.then_normal | apply Z.then_exit | apply Z.block_exit)
    | (show W _ _ _ _ _ _; first | apply W.seq | apply W.region | apply W.block | apply W.exit))
  have hS0 : Lt.Sep wc.heap.size wd (netP wc.heap.size g4 g5 an cn (some ⟨ga, 0, none⟩) (k + 1) (cS2 c.t c.lat.2.2.length) ++ [prow 1 encI 3 wc.heap.size ad cd (natI (ordL c.gates.2.2))]) := by
    have h1 := hS.newRow' hxd hOd (Below.size hX4)
    rw [List.append_nil] at h1
    exact Sep.comm (ps := [prow 1 encI 3 wc.heap.size ad cd (natI (ordL c.gates.2.2))]) h1
  have hXd : Ext wc wd := (by (exact extA))
  have e30 : cS3 c.t 0 = cS2 c.t c.lat.2.2.length := cS3_0 c.t
  have hnl : (natI (ordL c.gates.2.2)).length = (ordL c.gates.2.2).length := by simp [natI]
  have hol : (ordL c.gates.2.2).length ≤ c.gates.2.2.length := (ordL_is c.gates.2.2).1.le
  refine W.loopW (ordL c.gates.2.2).length (fun j w' => j ≤ (ordL c.gates.2.2).length ∧ Ext wc w' ∧ ∃ an cn, Lt.Sep wc.heap.size w' (netP wc.heap.size g4 g5 an cn (some ⟨ga, 0, none⟩) (k + 1) (cS3 c.t j) ++ [prow 1 encI 3 wc.heap.size ad cd (natI (ordL c.gates.2.2))])) (fun j => [(1, .pointer (some ⟨gc, 0, none⟩)), (4, .pointer (some ⟨g4, 0, none⟩)), (5, .pointer (some ⟨g5, 0, none⟩)), (7, .func (.func 137) #[] #[.pointer (some ⟨g4, 0, none⟩), .pointer (some ⟨g5, 0, none⟩)]), (12, .func (.func 138) #[] #[.pointer (some ⟨g5, 0, none⟩)]), (57, .slice ad (natI (ordL c.gates.2.2)).length cd), (58, .int .i64 (natI (ordL c.gates.2.2)).length), (59, .int .i64 j)]) ⟨Nat.zero_le _, hXd, an, cn, by rw [e30]; exact hS0⟩ (fun k w' h => h.1) ⟨rfl, rfl, rfl, rfl, rfl, rfl, rfl, rfl, trivial⟩ ?_
  clear hS hS0 hX4 hl1 hj hlt hcells4 x0 hXd
  rintro j w4 ⟨hj, hX4, an, cn, hS⟩
  have hl1 : (cS3 c.t j).1.length = c.ins.2.2.length + c.lat.2.2.length + j ∧ (cS3 c.t j).2.length = c.max.toNat + 1 := cS3_len c.t hj
  by_cases hlt : j < (ordL c.gates.2.2).length
  · obtain ⟨i, hi⟩ := getI (ordL c.gates.2.2) hlt
    obtain ⟨g, za, zb, hgg, hza, hzb, ka, kb⟩ := cS3_get hg (c := c.t) hi
    have hgg : c.gates.2.2[i]? = some g := hgg
    have hgi : c.gates.2.2[((i : Nat) : Int).toNat]? = some g := by rw [Int.toNat_natCast]; exact hgg
    have hgo := hok g (List.mem_of_getElem? hgg)
    have hgw := hown g.1 (hgm g (List.mem_of_getElem? hgg)).1
    have hgl := lt_of_get hgg
    have hni : (natI (ordL c.gates.2.2))[((j : Nat) : Int).toNat]? = some (i : Int) := by rw [Int.toNat_natCast, natI, List.getElem?_map, hi]; rfl
    have e1 : cS3 c.t (j + 1) = cput (cS3 c.t j) g.1 (litI (cS3 c.t j).2 g.2.1, litI (cS3 c.t j).2 g.2.2) := by rw [cS3_s (c := c.t) hi]; unfold cGate; rw [gAt_of hgg]
    have k1 := (cells_heap (hS.cell (i := 1) rfl)).1
    have RA := (hS.row (i := 3) rfl).row encI_ok
    have RO := (hS.row (i := 4) rfl).row encI_ok
    have hcall := fun (w9 : World) (h9 : Ext w4 w9) => circ_Net1 wc w9 g4 g5 an cn (some ⟨ga, 0, none⟩) (k + 1) (cS3 c.t j) [prow 1 encI 3 wc.heap.size ad cd (natI (ordL c.gates.2.2))] g.1 (litI (cS3 c.t j).2 g.2.1, litI (cS3 c.t j).2 g.2.2) (hX4.trans h9) (hS.ext h9) (by omega) (by omega) (by omega)
    repeat' (first
      | (show WL _ _ _ _ _ _ _; first | apply WL.nil | (refine WL.au (k := ?_)))
      | (show Z _ _ _ _ _; apply Z.then_normal)
      | (show W _ _ _ _ _ _; first | apply W.seq | apply W.region))
    refine W.condKT rfl (dec_true (by omega)) ?_
    repeat' (first
      | (apply WL.alloc tOk; exact rfl; exact rfl; exact rfl; intro gb w' hb hge hx)
      | (apply WL.storeB (w0 := w4) tOk; exact rfl; exact rfl; exact rfl; exact rfl; assumption; (exact extA); exact rfl; exact rfl; exact rfl; (exact extA); (first | assumption | omega | (focus (apply Nat.le_trans; rotate_left; assumption; exact Below.size (by (exact extA)); done))); intro w' hb hc hX' hU; have hcc := hc; obtain ⟨h1, h2, _⟩ := hc; (obtain ⟨w6, rfl⟩ : ∃ x, x = w' := ⟨_, rfl⟩; obtain ⟨hX6, rfl⟩ : ∃ x, x = hX' := ⟨_, rfl⟩; have hC8 := cells_heap hb; obtain ⟨i0, i1, i2, _⟩ := hC8))
      | (show WL _ _ _ _ _ _ _; first | apply WL.nil | (refine WL.au (k := ?_)) | (apply WL.index tOk; exact rfl; exact rfl; exact rfl; exact rfl; exact rfl; exact rfl; exact rfl; exact rfl; assumption; (exact extA); exact rfl; omega; assumption; intro b off h; have hcc := h; first | (obtain ⟨h1, h2, h3, h4, h5, h6, _⟩ := h) | (obtain ⟨h1, h2, h3, _⟩ := h) | (obtain ⟨h1, h2, _⟩ := h) | (obtain ⟨h1, _⟩ := h)))
      | (show Z _ _ _ _ _; apply Z.then_normal)
      | (show W _ _ _ _ _ _; first | apply W.seq | apply W.region | apply W.block | apply W.skip))
    have k1' := hX6.cell k1
    have RA' := RA.ext hX6
    repeat' (first
      | (apply W.regionQS 12 tMix; kernel_rfl; exact rfl; kernel_rfl; kernel_rfl)
      | (apply QL.build tOk; exact rfl; exact rfl; exact rfl; exact rfl; exact rfl; exact rfl; exact rfl; kernel_rfl)
      | ((show QL _ _ _ _ (⟨_, .call ⟨.value (.tmp _), _, _⟩, _, _, _, _⟩ :: _) _ _); apply QL.callS; exact rfl; exact rfl; exact rfl; exact rfl; exact circ_Net2 _ g5 _ _ (cS3 c.t j).2 g.2.1 za k1' RA' (by omega) (by omega) hza (by omega))
      | ((show QL _ _ _ _ (⟨_, .call ⟨.value (.tmp _), _, _⟩, _, _, _, _⟩ :: _) _ _); apply QL.callS; exact rfl; exact rfl; exact rfl; exact rfl; exact circ_Net2 _ g5 _ _ (cS3 c.t j).2 g.2.2 zb k1' RA' (by omega) (by omega) hzb (by omega))
      | ((show WL _ _ _ (⟨_, .call ⟨.value (.tmp _), _, _⟩, _, _, _, _⟩ :: _) _ _ _; apply WL.call; exact rfl; exact rfl; exact rfl; exact rfl; exact hcall _ (by (exact extA)); rintro v' w5 ⟨rfl, hX5, an2, cn2, hS5⟩))
      | (show WL _ _ _ _ _ _ _; first | apply WL.nil | (refine WL.au (k := ?_)))
      | (show QL _ _ _ _ _ _ _; first | apply QL.nil | (refine QL.au (k := ?_)))
      | (show Z _ _ _ _ _; first | apply Z.tail | apply Z.then_normal | apply Z.block_normal)
      | (show W _ _ _ _ _ _; apply W.region))
    exact Z.againW ⟨by omega, hX5, an2, cn2, by rw [e1]; exact hS5⟩ ⟨rfl, rfl, rfl, rfl, rfl, rfl, rfl, rfl, trivial⟩
  obtain rfl : j = (ordL c.gates.2.2).length := by omega
  repeat' (first
    | (show WL _ _ _ _ _ _ _; first | apply WL.nil | (refine WL.au (k := ?_)))
    | (show Z _ _ _ _ _; apply Z.then_normal)
    | (show W _ _ _ _ _ _; first | apply W.seq | apply W.region))
  refine W.condKF rfl (dec_false (by omega)) ?_
  have e39 : cS3 c.t (ordL c.gates.2.2).length = cNet c.t := cS3_all c.t
  rw [e39] at hS
  have k0 := (cells_heap (hS.cell (i := 0) rfl)).1
  have k1 := (cells_heap (hS.cell (i := 1) rfl)).1
  have hwc := Below.size hxc
  repeat' (first
    | (show QL _ _ _ _ _ _ _; first | apply QL.nil | (refine QL.au (k := ?_)))
    | (show Z _ _ _ _ _; first | apply Z.then_normal | apply Z.then_exit | apply Z.block_exit)
    | (show W _ _ _ _ _ _; first | apply W.seq | apply W.ret | apply W.exit | (apply W.regionD tMix; kernel_rfl)))
  exact Z.body2 Try.results87 rfl rfl fun q => ⟨Ext.at (by (exact extA)) q, an, cn, some ⟨ga, 0, none⟩, k + 1, rfl, ((hS.row (i := 2) rfl).base hwc).ext ((Ext.refl _).at q), ((hS.row (i := 3) rfl).base hwc).ext ((Ext.refl _).at q)⟩
end Go.Proofs.Ythpnahapiodflaa
namespace Go.Proofs.Ythpnahapiodflaa
open Go Go.Lt Go.RowKit
set_option linter.unusedVariables false
set_option linter.unusedSimpArgs false
set_option maxRecDepth 20000

theorem ordL_nil : ordL [] = [] := (IsOrd.ord (gs := []) (L := []) ⟨PreOrd.nil _, fun i ⟨g, hg, _⟩ => by simp at hg⟩).symm
/-- The example. -/
abbrev exT : CirT := ⟨1, [], [(2, 3, 0)], [], [2], [], [], [], ⟨#[]⟩⟩
theorem exT_good : GoodC' exT := by
  refine ⟨by decide, fun x hx => ?_, fun x hx => ?_, fun x hx => ?_, ?_, fun x hx h => ?_, ?_⟩
  · have : x = 2 := by simpa using hx
    subst this; decide
  · have : x = 2 ∨ x = 3 := by simpa using hx
    rcases this with rfl | rfl <;> decide
  · have : x = (2, 3, 0) := by simpa using hx
    subst this; exact .inl rfl
  · simp
  · have : x = 2 ∨ x = 3 := by simpa using hx
    rcases this with rfl | rfl <;> simp
  · show (ordL []).length = 0
    rw [ordL_nil]; rfl
theorem exT_net : cNet exT = ([(-1, 0)], [0, 2]) := by
  unfold cNet
  rw [show exT.gates = [] from rfl, ordL_nil]
  rfl
end Go.Proofs.Ythpnahapiodflaa
namespace Go.Proofs.Ythpnahapiodflaa
open Go Go.Lt Go.RowKit
set_option linter.unusedVariables false
set_option linter.unusedSimpArgs false
set_option maxRecDepth 20000

theorem clone_L (a : Option Addr) (cap : Nat) (l : List T3) (w : World) (R : Row 3 enc3 w a l) (hna : a = none → cap = 0) (hl : l.length ≤ 1048576) :
    Lt.Spec Try.prog 140 [.slice a l.length cap] w (IsFresh 3 enc3 69 w l) := by
  by_cases ha : a = none
  · subst ha
    have hl0 : l = [] := by
      cases l with
      | nil => rfl
      | cons x r => obtain ⟨b, off, h1, _⟩ := R.elem 0 x rfl; cases h1
    subst hl0
    refine Spec.of _ Try.func140 rfl Try.ntmps140 (by kernel_rfl) rfl ?_
    repeat' (first
      | (apply WL.eqSl tOk; exact rfl; exact rfl; exact rfl; exact rfl; exact rfl; exact rfl)
      | (apply W.condKT; exact rfl; (focus (exact dec_true rfl; done)))
      | (show WL _ _ _ _ _ _ _; first | apply WL.nil | (refine WL.au (k := ?_)))
      | (show Z _ _ _ _ _; first | apply Z.then_normal | apply Z.then_ret)
      | (show W _ _ _ _ _ _; first | apply W.seq | apply W.region | apply W.ret))
    exact Z.body1 Try.results140 rfl fun m => ⟨(Ext.refl _).at m, none, 0, rfl, Own.nil⟩
  · refine Spec.of _ Try.func140 rfl Try.ntmps140 (by kernel_rfl) rfl ?_
    repeat' (first
      | (apply WL.eqSl tOk; exact rfl; exact rfl; exact rfl; exact rfl; exact rfl; exact rfl)
      | (apply W.condKF; exact rfl; (focus (exact dec_false ha; done)))
      | (apply WL.lit (len := 0) tOk; exact rfl; exact rfl; exact rfl; exact rfl; exact rfl; exact rfl; (first | exact rfl | kernel_rfl | (simp [Instr.fill, catCells]; done)); exact rfl; intro gb w' hb hge hc hx; have hO0 := Own.of_block0 (enc := enc3) (s := 3) hb hge)
      | (apply WL.appendS tOk enc3_ok; exact rfl; exact rfl; exact rfl; exact rfl; exact rfl; exact rfl; exact rfl; exact rfl; exact rfl; exact rfl; assumption; (exact extA); (first | exact rfl | (focus (simp only [List.length_set]; done)) | (focus (simp; done)) | (focus (simp [*]; done)) | omega | (focus (simp only [List.length_set]; omega))); assumption; (exact extA); (first | exact rfl | (focus (simp only [List.length_set]; done)) | (focus (simp; done)) | (focus (simp [*]; done)) | omega | (focus (simp only [List.length_set]; omega))); (first | assumption | (intro h; cases h) | exact Own.noneCap (by assumption)); exact rfl; (exact extA); (first | omega | (simp; omega) | (simp at *; omega)); intro a' cap' w' hO hX' hU hF)
      | (show WL _ _ _ _ _ _ _; first | apply WL.nil | (refine WL.au (k := ?_)))
      | (show Z _ _ _ _ _; apply Z.then_normal)
      | (show W _ _ _ _ _ _; first | apply W.seq | apply W.region | apply W.skip | apply W.ret))
    exact Z.body1 Try.results140 rfl fun m => ⟨Ext.at (by (exact extA)) m, a', cap', by rw [List.nil_append], by rw [List.nil_append] at hO; exact hO⟩
theorem clone_G (a : Option Addr) (cap : Nat) (l : List T3) (w : World) (R : Row 3 enc3 w a l) (hna : a = none → cap = 0) (hl : l.length ≤ 1048576) :
    Lt.Spec Try.prog 141 [.slice a l.length cap] w (IsFresh 3 enc3 106 w l) := by
  by_cases ha : a = none
  · subst ha
    have hl0 : l = [] := by
      cases l with
      | nil => rfl
      | cons x r => obtain ⟨b, off, h1, _⟩ := R.elem 0 x rfl; cases h1
    subst hl0
    refine Spec.of _ Try.func141 rfl Try.ntmps141 (by kernel_rfl) rfl ?_
    repeat' (first
      | (apply WL.eqSl tOk; exact rfl; exact rfl; exact rfl; exact rfl; exact rfl; exact rfl)
      | (apply W.condKT; exact rfl; (focus (exact dec_true rfl; done)))
      | (show WL _ _ _ _ _ _ _; first | apply WL.nil | (refine WL.au (k := ?_)))
      | (show Z _ _ _ _ _; first | apply Z.then_normal | apply Z.then_ret)
      | (show W _ _ _ _ _ _; first | apply W.seq | apply W.region | apply W.ret))
    exact Z.body1 Try.results141 rfl fun m => ⟨(Ext.refl _).at m, none, 0, rfl, Own.nil⟩
  · refine Spec.of _ Try.func141 rfl Try.ntmps141 (by kernel_rfl) rfl ?_
    repeat' (first
      | (apply WL.eqSl tOk; exact rfl; exact rfl; exact rfl; exact rfl; exact rfl; exact rfl)
      | (apply W.condKF; exact rfl; (focus (exact dec_false ha; done)))
      | (apply WL.lit (len := 0) tOk; exact rfl; exact rfl; exact rfl; exact rfl; exact rfl; exact rfl; (first | exact rfl | kernel_rfl | (simp [Instr.fill, catCells]; done)); exact rfl; intro gb w' hb hge hc hx; have hO0 := Own.of_block0 (enc := enc3) (s := 3) hb hge)
      | (apply WL.appendS tOk enc3_ok; exact rfl; exact rfl; exact rfl; exact rfl; exact rfl; exact rfl; exact rfl; exact rfl; exact rfl; exact rfl; assumption; (exact extA); (first | exact rfl | (focus (simp only [List.length_set]; done)) | (focus (simp; done)) | (focus (simp [*]; done)) | omega | (focus (simp only [List.length_set]; omega))); assumption; (exact extA); (first | exact rfl | (focus (simp only [List.length_set]; done)) | (focus (simp; done)) | (focus (simp [*]; done)) | omega | (focus (simp only [List.length_set]; omega))); (first | assumption | (intro h; cases h) | exact Own.noneCap (by assumption)); exact rfl; (exact extA); (first | omega | (simp; omega) | (simp at *; omega)); intro a' cap' w' hO hX' hU hF)
      | (show WL _ _ _ _ _ _ _; first | apply WL.nil | (refine WL.au (k := ?_)))
      | (show Z _ _ _ _ _; apply Z.then_normal)
      | (show W _ _ _ _ _ _; first | apply W.seq | apply W.region | apply W.skip | apply W.ret))
    exact Z.body1 Try.results141 rfl fun m => ⟨Ext.at (by (exact extA)) m, a', cap', by rw [List.nil_append], by rw [List.nil_append] at hO; exact hO⟩
theorem clone_Y (a : Option Addr) (cap : Nat) (l : List Sy) (w : World) (R : Row 3 encY w a l) (hna : a = none → cap = 0) (hl : l.length ≤ 1048576) :
    Lt.Spec Try.prog 142 [.slice a l.length cap] w (IsFresh 3 encY 110 w l) := by
  by_cases ha : a = none
  · subst ha
    have hl0 : l = [] := by
      cases l with
      | nil => rfl
      | cons x r => obtain ⟨b, off, h1, _⟩ := R.elem 0 x rfl; cases h1
    subst hl0
    refine Spec.of _ Try.func142 rfl Try.ntmps142 (by kernel_rfl) rfl ?_
    repeat' (first
      | (apply WL.eqSl tOk; exact rfl; exact rfl; exact rfl; exact rfl; exact rfl; exact rfl)
      | (apply W.condKT; exact rfl; (focus (exact dec_true rfl; done)))
      | (show WL _ _ _ _ _ _ _; first | apply WL.nil | (refine WL.au (k := ?_)))
      | (show Z _ _ _ _ _; first | apply Z.then_normal | apply Z.then_ret)
      | (show W _ _ _ _ _ _; first | apply W.seq | apply W.region | apply W.ret))
    exact Z.body1 Try.results142 rfl fun m => ⟨(Ext.refl _).at m, none, 0, rfl, Own.nil⟩
  · refine Spec.of _ Try.func142 rfl Try.ntmps142 (by kernel_rfl) rfl ?_
    repeat' (first
      | (apply WL.eqSl tOk; exact rfl; exact rfl; exact rfl; exact rfl; exact rfl; exact rfl)
      | (apply W.condKF; exact rfl; (focus (exact dec_false ha; done)))
      | (apply WL.lit (len := 0) tOk; exact rfl; exact rfl; exact rfl; exact rfl; exact rfl; exact rfl; (first | exact rfl | kernel_rfl | (simp [Instr.fill, catCells]; done)); exact rfl; intro gb w' hb hge hc hx; have hO0 := Own.of_block0 (enc := encY) (s := 3) hb hge)
      | (apply WL.appendS tOk encY_ok; exact rfl; exact rfl; exact rfl; exact rfl; exact rfl; exact rfl; exact rfl; exact rfl; exact rfl; exact rfl; assumption; (exact extA); (first | exact rfl | (focus (simp only [List.length_set]; done)) | (focus (simp; done)) | (focus (simp [*]; done)) | omega | (focus (simp only [List.length_set]; omega))); assumption; (exact extA); (first | exact rfl | (focus (simp only [List.length_set]; done)) | (focus (simp; done)) | (focus (simp [*]; done)) | omega | (focus (simp only [List.length_set]; omega))); (first | assumption | (intro h; cases h) | exact Own.noneCap (by assumption)); exact rfl; (exact extA); (first | omega | (simp; omega) | (simp at *; omega)); intro a' cap' w' hO hX' hU hF)
      | (show WL _ _ _ _ _ _ _; first | apply WL.nil | (refine WL.au (k := ?_)))
      | (show Z _ _ _ _ _; apply Z.then_normal)
      | (show W _ _ _ _ _ _; first | apply W.seq | apply W.region | apply W.skip | apply W.ret))
    exact Z.body1 Try.results142 rfl fun m => ⟨Ext.at (by (exact extA)) m, a', cap', by rw [List.nil_append], by rw [List.nil_append] at hO; exact hO⟩
end Go.Proofs.Ythpnahapiodflaa
namespace Go.Lt
open Go.RowKit
set_option linter.unusedVariables false
theorem Z.invFresh {N : Nat} {α : Type} {s : Nat} {enc : α → List Value} {d el B cap : Nat} {l : List α} {a : Option Addr} {w w' : World} {E : Env} (hx : Ext w w') (hB : B ≤ w.heap.size) (hO : Own s enc el w.heap.size w' a cap l) :
    Z N (postI N d (prRow s enc el B l) w E) .normal ((d, .slice a l.length cap) :: E) w' :=
  Z.invRow hx (hO.base hB) (.inr fun k hk => (hO.blk_lt k hk).1)
end Go.Lt
namespace Go.Proofs.Ythpnahapiodflaa
open Go Go.Lt Go.RowKit
set_option linter.unusedVariables false
set_option linter.unusedSimpArgs false
set_option maxRecDepth 20000

theorem Sep.perm7 {B : Nat} {w : World} {a b c d e f g : Piece} {rest : List Piece} (hS : Lt.Sep B w (a :: b :: c :: d :: e :: f :: g :: rest)) : Lt.Sep B w [d, e, f, a, b, c, g] := by
  refine hS.pick (fun i => if i < 3 then i + 3 else if i < 6 then i - 3 else i) (fun i x h => ?_) (fun i j hi hj hne => ?_)
  · match i, h with
    | 0, h => exact h
    | 1, h => exact h
    | 2, h => exact h
    | 3, h => exact h
    | 4, h => exact h
    | 5, h => exact h
    | 6, h => exact h
  · show (if i < 3 then i + 3 else if i < 6 then i - 3 else i) ≠ (if j < 3 then j + 3 else if j < 6 then j - 3 else j)
    have hi' : i < 7 := hi
    have hj' : j < 7 := hj
    repeat' split
    all_goals omega
set_option maxHeartbeats 16000000 in
theorem circ_Clone (c : Circ) (w : World) (hC : CAt w c) (hz : SzC c.t 100000) (hz2 : c.t.syms.length ≤ 100000) :
    Lt.Spec Try.prog 89 [c.val] w (fun v w' => Ext w w' ∧ ∃ d : Circ, v = d.val ∧ d.t = c.t ∧ OwnC w.heap.size w' d) := by
  have z1 : c.ins.2.2.length ≤ 100000 := hz.1
  have z2 : c.lat.2.2.length ≤ 100000 := hz.2.1
  have z3 : c.outs.2.2.length ≤ 100000 := hz.2.2.1
  have z4 : c.bads.2.2.length ≤ 100000 := hz.2.2.2.1
  have z5 : c.cons.2.2.length ≤ 100000 := hz.2.2.2.2.1
  have z6 : c.gates.2.2.length ≤ 100000 := hz.2.2.2.2.2
  have z7 : c.syms.2.2.length ≤ 100000 := hz2
  have Ri := hC.ins.row
  have Ro := hC.outs.row
  have Rb := hC.bads.row
  have Rn := hC.cons.row
  have Rl := hC.lat.row
  have Rg := hC.gates.row
  have Ry := hC.syms.row
  have ni := hC.ins.none
  have no := hC.outs.none
  have nb := hC.bads.none
  have nn := hC.cons.none
  have nl := hC.lat.none
  have ng := hC.gates.none
  have ny := hC.syms.none
  refine Spec.of _ Try.func89 rfl Try.ntmps89 (by kernel_rfl) rfl ?_
  repeat' (first
    | (apply WL.box; exact rfl; exact rfl; exact rfl; intro gb w' hb hge hc hx; have hcc := hc; (first | (obtain ⟨h1, h2, h3, _⟩ := hc) | (obtain ⟨h1, h2, _⟩ := hc)); (obtain ⟨gc, rfl⟩ : ∃ x, x = gb := ⟨_, rfl⟩; obtain ⟨wc, rfl⟩ : ∃ x, x = w' := ⟨_, rfl⟩; obtain ⟨hxc, rfl⟩ : ∃ x, x = hx := ⟨_, rfl⟩; have hS : Lt.Sep w.heap.size wc [pcell gc c.vals.toArray 28] := Sep.newCell Sep.none' hxc hb hge (Nat.le_refl _)))
    | (apply WL.alloc tOk; exact rfl; exact rfl; exact rfl; intro gb w' hb hge hx; replace hS := Sep.newCell (Sep.ext hS (by (exact extA))) hx hb hge (by (first | exact Nat.le_refl _ | exact Below.size (by (exact extA)))); (try simp only [List.set_cons_zero, List.set_cons_succ] at hS); (try have hR0 := hS.row (i := 0) rfl); (try have hR1 := hS.row (i := 1) rfl); (try have hR2 := hS.row (i := 2) rfl); (try have hR3 := hS.row (i := 3) rfl); (try have hR4 := hS.row (i := 4) rfl); (try have hC0 := hS.cell (i := 0) rfl); (try have hD0 := (cells_heap hC0).1); (try have hE0 := (cells_heap hC0).2.1); (try have hF0 := (cells_heap hC0).2.2.1); (try have hG0 := (cells_heap hC0).2.2.2.1); (try have hC1 := hS.cell (i := 1) rfl); (try have hD1 := (cells_heap hC1).1); (try have hE1 := (cells_heap hC1).2.1); (try have hF1 := (cells_heap hC1).2.2.1); (try have hG1 := (cells_heap hC1).2.2.2.1); (try have hC2 := hS.cell (i := 2) rfl); (try have hD2 := (cells_heap hC2).1); (try have hE2 := (cells_heap hC2).2.1); (try have hF2 := (cells_heap hC2).2.2.1); (try have hG2 := (cells_heap hC2).2.2.2.1); (try have hC3 := hS.cell (i := 3) rfl); (try have hD3 := (cells_heap hC3).1); (try have hE3 := (cells_heap hC3).2.1); (try have hF3 := (cells_heap hC3).2.2.1); (try have hG3 := (cells_heap hC3).2.2.2.1); (try have hC4 := hS.cell (i := 4) rfl); (try have hD4 := (cells_heap hC4).1); (try have hE4 := (cells_heap hC4).2.1); (try have hF4 := (cells_heap hC4).2.2.1); (try have hG4 := (cells_heap hC4).2.2.2.1); (try have hM0 := hS.map (i := 0) rfl); (try have hM1 := hS.map (i := 1) rfl); (try have hM2 := hS.map (i := 2) rfl); (try have hM3 := hS.map (i := 3) rfl); (try have hM4 := hS.map (i := 4) rfl))
    | (show WL _ _ _ _ _ _ _; apply WL.nil)
    | (show Z _ _ _ _ _; apply Z.then_normal)
    | (show W _ _ _ _ _ _; first | apply W.seq | apply W.region))
  obtain ⟨w1, rfl⟩ : ∃ x, x = w' := ⟨_, rfl⟩; obtain ⟨g2, rfl⟩ : ∃ x, x = gb := ⟨_, rfl⟩
  have hX2 : Ext w w1 := (by (exact extA))
  have hw1 : w.heap.size ≤ w1.heap.size := Below.size hX2
  have hgc : w.heap.size ≤ gc := (hS.lt (i := 1) rfl rfl).1
  have hcl := cells_heap (hS.cell (i := 1) rfl)
  obtain ⟨y0, y1, y2, y3, y4, y5, y6, y7, y8, _⟩ := hcl
  repeat' (first
    | (show W _ _ (.region 1 _ _) _ _ _; apply W.regionI 13 [.is (.pointer (some ⟨gc, 0 + 1, none⟩)), .is (rowVal c.ins), prRow 1 encI 3 w1.heap.size c.ins.2.2, .is (.pointer (some ⟨gc, 0 + 1 + 1, none⟩)), .is (rowVal c.lat), prRow 3 enc3 69 w1.heap.size c.lat.2.2, .is (.pointer (some ⟨gc, 0 + 1 + 1 + 1 + 1 + 1 + 1, none⟩)), .is (rowVal c.gates), prRow 3 enc3 106 w1.heap.size c.gates.2.2, .is (.pointer (some ⟨gc, 0 + 1 + 1 + 1 + 1 + 1 + 1 + 1, none⟩)), .is (rowVal c.syms), prRow 3 encY 110 w1.heap.size c.syms.2.2, .is (.pointer (some ⟨gc, 0 + 1, none⟩))] tMix; kernel_rfl; exact rfl; kernel_rfl; kernel_rfl; exact rfl; exact rfl)
    | (show OBL _ _ _ _ _ _ _ _; apply OBL.nil)
    | (show OBL _ _ _ _ _ _ 0 _; apply OBL.cons (ds := []); exact rfl; exact rfl; exact rfl; kernel_rfl; intro w8 hw8 rest8)
    | (show OBL _ _ _ _ _ _ 1 _; apply OBL.cons (ds := [0]); exact rfl; exact rfl; exact rfl; kernel_rfl; intro w8 hw8 rest8)
    | (show OBL _ _ _ _ _ _ 2 _; apply OBL.cons (ds := [1]); exact rfl; exact rfl; exact rfl; kernel_rfl; intro w8 hw8 rest8)
    | (show OBL _ _ _ _ _ _ 3 _; apply OBL.cons (ds := []); exact rfl; exact rfl; exact rfl; kernel_rfl; intro w8 hw8 rest8)
    | (show OBL _ _ _ _ _ _ 4 _; apply OBL.cons (ds := [3]); exact rfl; exact rfl; exact rfl; kernel_rfl; intro w8 hw8 rest8)
    | (show OBL _ _ _ _ _ _ 5 _; apply OBL.cons (ds := [4, 2]); exact rfl; exact rfl; exact rfl; kernel_rfl; intro w8 hw8 rest8)
    | (show OBL _ _ _ _ _ _ 6 _; apply OBL.cons (ds := []); exact rfl; exact rfl; exact rfl; kernel_rfl; intro w8 hw8 rest8)
    | (show OBL _ _ _ _ _ _ 7 _; apply OBL.cons (ds := [6]); exact rfl; exact rfl; exact rfl; kernel_rfl; intro w8 hw8 rest8)
    | (show OBL _ _ _ _ _ _ 8 _; apply OBL.cons (ds := [7, 5]); exact rfl; exact rfl; exact rfl; kernel_rfl; intro w8 hw8 rest8)
    | (show OBL _ _ _ _ _ _ 9 _; apply OBL.cons (ds := []); exact rfl; exact rfl; exact rfl; kernel_rfl; intro w8 hw8 rest8)
    | (show OBL _ _ _ _ _ _ 10 _; apply OBL.cons (ds := [9]); exact rfl; exact rfl; exact rfl; kernel_rfl; intro w8 hw8 rest8)
    | (show OBL _ _ _ _ _ _ 11 _; apply OBL.cons (ds := [10, 8]); exact rfl; exact rfl; exact rfl; kernel_rfl; intro w8 hw8 rest8)
    | (show OBL _ _ _ _ _ _ 12 _; apply OBL.cons (ds := [0, 1, 2, 3, 4, 6, 7, 9, 10]); exact rfl; exact rfl; exact rfl; kernel_rfl; intro w8 hw8 rest8)
    | (show NO _ _ _ _ _ _ _ _ _ _; first | apply NO.nil | (apply NO.is; exact rfl; exact rfl) | (apply NO.ex; exact rfl; exact rfl; (first | (rintro _ ⟨gl, rfl, hlb, hlge⟩) | (rintro _ ⟨ar, cr, rfl, hOr⟩))))
    | (intro w8 hw8; show NF _ _ _ _ _ _ _ _ _)
    | (show NF _ _ _ _ _ _ _ _ _; first | (apply NF.nilT; intro hap; replace hS := Sep.news [prowZ 3 encY 110 w.heap.size ar1_11 cr1_11 c.syms.2.2, prowZ 3 enc3 106 w.heap.size ar1_8 cr1_8 c.gates.2.2, prowZ 3 enc3 69 w.heap.size ar1_5 cr1_5 c.lat.2.2, prowZ 1 encI 3 w.heap.size ar1_2 cr1_2 c.ins.2.2] hS hw8 (by rintro q hq; simp only [List.mem_cons, List.not_mem_nil, or_false] at hq; rcases hq with rfl | rfl | rfl | rfl <;> exact prowZ_new (by assumption) hw1) (apartS hap) hw1; simp only [List.cons_append, List.nil_append] at hS; (try simp only [List.set_cons_zero, List.set_cons_succ] at hS); (try have hR0 := hS.row (i := 0) rfl); (try have hR1 := hS.row (i := 1) rfl); (try have hR2 := hS.row (i := 2) rfl); (try have hR3 := hS.row (i := 3) rfl); (try have hR4 := hS.row (i := 4) rfl); (try have hC0 := hS.cell (i := 0) rfl); (try have hD0 := (cells_heap hC0).1); (try have hE0 := (cells_heap hC0).2.1); (try have hF0 := (cells_heap hC0).2.2.1); (try have hG0 := (cells_heap hC0).2.2.2.1); (try have hC1 := hS.cell (i := 1) rfl); (try have hD1 := (cells_heap hC1).1); (try have hE1 := (cells_heap hC1).2.1); (try have hF1 := (cells_heap hC1).2.2.1); (try have hG1 := (cells_heap hC1).2.2.2.1); (try have hC2 := hS.cell (i := 2) rfl); (try have hD2 := (cells_heap hC2).1); (try have hE2 := (cells_heap hC2).2.1); (try have hF2 := (cells_heap hC2).2.2.1); (try have hG2 := (cells_heap hC2).2.2.2.1); (try have hC3 := hS.cell (i := 3) rfl); (try have hD3 := (cells_heap hC3).1); (try have hE3 := (cells_heap hC3).2.1); (try have hF3 := (cells_heap hC3).2.2.1); (try have hG3 := (cells_heap hC3).2.2.2.1); (try have hC4 := hS.cell (i := 4) rfl); (try have hD4 := (cells_heap hC4).1); (try have hE4 := (cells_heap hC4).2.1); (try have hF4 := (cells_heap hC4).2.2.1); (try have hG4 := (cells_heap hC4).2.2.2.1); (try have hM0 := hS.map (i := 0) rfl); (try have hM1 := hS.map (i := 1) rfl); (try have hM2 := hS.map (i := 2) rfl); (try have hM3 := hS.map (i := 3) rfl); (try have hM4 := hS.map (i := 4) rfl) ; have hC5 := hS.cell (i := 5) rfl) | (apply NF.is; exact rfl; exact rfl))
    | (show NF _ _ _ _ _ _ (2 :: _) _ _; apply NF.ex; exact rfl; exact rfl; rintro _ ⟨ar1_2, cr1_2, rfl, hOr1_2⟩)
    | (show NF _ _ _ _ _ _ (5 :: _) _ _; apply NF.ex; exact rfl; exact rfl; rintro _ ⟨ar1_5, cr1_5, rfl, hOr1_5⟩)
    | (show NF _ _ _ _ _ _ (8 :: _) _ _; apply NF.ex; exact rfl; exact rfl; rintro _ ⟨ar1_8, cr1_8, rfl, hOr1_8⟩)
    | (show NF _ _ _ _ _ _ (11 :: _) _ _; apply NF.ex; exact rfl; exact rfl; rintro _ ⟨ar1_11, cr1_11, rfl, hOr1_11⟩)
    | (show Z _ _ _ _ _; first | (apply Z.invIs; (exact extA)) | (apply Z.invFresh; (exact extA); (first | omega | exact Below.size (by (exact extA))); assumption))
    | ((show WL _ _ _ (⟨_, .call ⟨.value (.func 139), _, _⟩, _, _, _, _⟩ :: _) _ _ _); apply WL.call; exact rfl; exact rfl; exact rfl; exact rfl; exact slices_CloneI _ _ c.ins.2.2 _ (Ri.ext (by (exact extA))) ni (by omega); rintro v' w' ⟨hx, a', cap', rfl, hO⟩)
    | ((show WL _ _ _ (⟨_, .call ⟨.value (.func 140), _, _⟩, _, _, _, _⟩ :: _) _ _ _); apply WL.call; exact rfl; exact rfl; exact rfl; exact rfl; exact clone_L _ _ c.lat.2.2 _ (Rl.ext (by (exact extA))) nl (by omega); rintro v' w' ⟨hx, a', cap', rfl, hO⟩)
    | ((show WL _ _ _ (⟨_, .call ⟨.value (.func 141), _, _⟩, _, _, _, _⟩ :: _) _ _ _); apply WL.call; exact rfl; exact rfl; exact rfl; exact rfl; exact clone_G _ _ c.gates.2.2 _ (Rg.ext (by (exact extA))) ng (by omega); rintro v' w' ⟨hx, a', cap', rfl, hO⟩)
    | ((show WL _ _ _ (⟨_, .call ⟨.value (.func 142), _, _⟩, _, _, _, _⟩ :: _) _ _ _); apply WL.call; exact rfl; exact rfl; exact rfl; exact rfl; exact clone_Y _ _ c.syms.2.2 _ (Ry.ext (by (exact extA))) ny (by omega); rintro v' w' ⟨hx, a', cap', rfl, hO⟩)
    | (apply WL.storeF (w0 := w) tOk; exact rfl; exact rfl; exact rfl; exact rfl; assumption; (exact extA); exact rfl; exact rfl; exact rfl; exact rfl; (exact extA); (first | assumption | omega | (focus (apply Nat.le_trans; rotate_left; assumption; exact Below.size (by (exact extA))))); intro w' hb hX' hU; replace hS := Sep.updCell (i := 5) rfl hU hb hS (by (exact extA)) (by (first | exact Nat.le_refl _ | exact Below.size (by (exact extA)))); (try simp only [List.set_cons_zero, List.set_cons_succ] at hS); (try have hR0 := hS.row (i := 0) rfl); (try have hR1 := hS.row (i := 1) rfl); (try have hR2 := hS.row (i := 2) rfl); (try have hR3 := hS.row (i := 3) rfl); (try have hR4 := hS.row (i := 4) rfl); (try have hC0 := hS.cell (i := 0) rfl); (try have hD0 := (cells_heap hC0).1); (try have hE0 := (cells_heap hC0).2.1); (try have hF0 := (cells_heap hC0).2.2.1); (try have hG0 := (cells_heap hC0).2.2.2.1); (try have hC1 := hS.cell (i := 1) rfl); (try have hD1 := (cells_heap hC1).1); (try have hE1 := (cells_heap hC1).2.1); (try have hF1 := (cells_heap hC1).2.2.1); (try have hG1 := (cells_heap hC1).2.2.2.1); (try have hC2 := hS.cell (i := 2) rfl); (try have hD2 := (cells_heap hC2).1); (try have hE2 := (cells_heap hC2).2.1); (try have hF2 := (cells_heap hC2).2.2.1); (try have hG2 := (cells_heap hC2).2.2.2.1); (try have hC3 := hS.cell (i := 3) rfl); (try have hD3 := (cells_heap hC3).1); (try have hE3 := (cells_heap hC3).2.1); (try have hF3 := (cells_heap hC3).2.2.1); (try have hG3 := (cells_heap hC3).2.2.2.1); (try have hC4 := hS.cell (i := 4) rfl); (try have hD4 := (cells_heap hC4).1); (try have hE4 := (cells_heap hC4).2.1); (try have hF4 := (cells_heap hC4).2.2.1); (try have hG4 := (cells_heap hC4).2.2.2.1); (try have hM0 := hS.map (i := 0) rfl); (try have hM1 := hS.map (i := 1) rfl); (try have hM2 := hS.map (i := 2) rfl); (try have hM3 := hS.map (i := 3) rfl); (try have hM4 := hS.map (i := 4) rfl))
    | (show WL _ _ _ _ _ _ _; first | apply WL.nil | (refine WL.au (k := ?_)))
    | (show Z _ _ _ _ _; apply Z.then_normal)
    | (show W _ _ _ _ _ _; apply W.seq))
  obtain ⟨w2, rfl⟩ : ∃ x, x = w' := ⟨_, rfl⟩
  have hX3 : Ext w w2 := (by (exact extA))
  have hw2 : w.heap.size ≤ w2.heap.size := Below.size hX3
  replace hS : Lt.Sep w.heap.size w2 [prowZ 3 encY 110 w.heap.size ar1_11 cr1_11 c.syms.2.2, prowZ 3 enc3 106 w.heap.size ar1_8 cr1_8 c.gates.2.2, prowZ 3 enc3 69 w.heap.size ar1_5 cr1_5 c.lat.2.2, prowZ 1 encI 3 w.heap.size ar1_2 cr1_2 c.ins.2.2, pcell g2 (Value.cells (.agg #[.int .i64 0, .slice none 0 0, .slice none 0 0, .slice none 0 0, .slice none 0 0, .slice none 0 0, .slice none 0 0, .slice none 0 0, .string ⟨#[]⟩])) 28, pcell gc ([.int .i64 c.max, .slice ar1_2 c.ins.2.2.length cr1_2, .slice ar1_5 c.lat.2.2.length cr1_5, rowVal c.outs, rowVal c.bads, rowVal c.cons, .slice ar1_8 c.gates.2.2.length cr1_8, .slice ar1_11 c.syms.2.2.length cr1_11, .string c.com] : List Value).toArray 28] := hS
  have hcl := cells_heap (hS.cell (i := 5) rfl)
  clear y0 y1 y2 y3 y4 y5 y6 y7 y8
  obtain ⟨y0, y1, y2, y3, y4, y5, y6, y7, y8, _⟩ := hcl
  repeat' (first
    | (show W _ _ (.region 2 _ _) _ _ _; apply W.regionI 10 [.is (.pointer (some ⟨gc, 0 + 1 + 1 + 1, none⟩)), .is (rowVal c.outs), prRow 1 encI 3 w2.heap.size c.outs.2.2, .is (.pointer (some ⟨gc, 0 + 1 + 1 + 1 + 1, none⟩)), .is (rowVal c.bads), prRow 1 encI 3 w2.heap.size c.bads.2.2, .is (.pointer (some ⟨gc, 0 + 1 + 1 + 1 + 1 + 1, none⟩)), .is (rowVal c.cons), prRow 1 encI 3 w2.heap.size c.cons.2.2, .is (.pointer (some ⟨gc, 0 + 1 + 1 + 1, none⟩))] tMix; kernel_rfl; exact rfl; kernel_rfl; kernel_rfl; exact rfl; exact rfl)
    | (show OBL _ _ _ _ _ _ _ _; apply OBL.nil)
    | (show OBL _ _ _ _ _ _ 0 _; apply OBL.cons (ds := []); exact rfl; exact rfl; exact rfl; kernel_rfl; intro w8 hw8 rest8)
    | (show OBL _ _ _ _ _ _ 1 _; apply OBL.cons (ds := [0]); exact rfl; exact rfl; exact rfl; kernel_rfl; intro w8 hw8 rest8)
    | (show OBL _ _ _ _ _ _ 2 _; apply OBL.cons (ds := [1]); exact rfl; exact rfl; exact rfl; kernel_rfl; intro w8 hw8 rest8)
    | (show OBL _ _ _ _ _ _ 3 _; apply OBL.cons (ds := []); exact rfl; exact rfl; exact rfl; kernel_rfl; intro w8 hw8 rest8)
    | (show OBL _ _ _ _ _ _ 4 _; apply OBL.cons (ds := [3]); exact rfl; exact rfl; exact rfl; kernel_rfl; intro w8 hw8 rest8)
    | (show OBL _ _ _ _ _ _ 5 _; apply OBL.cons (ds := [4, 2]); exact rfl; exact rfl; exact rfl; kernel_rfl; intro w8 hw8 rest8)
    | (show OBL _ _ _ _ _ _ 6 _; apply OBL.cons (ds := []); exact rfl; exact rfl; exact rfl; kernel_rfl; intro w8 hw8 rest8)
    | (show OBL _ _ _ _ _ _ 7 _; apply OBL.cons (ds := [6]); exact rfl; exact rfl; exact rfl; kernel_rfl; intro w8 hw8 rest8)
    | (show OBL _ _ _ _ _ _ 8 _; apply OBL.cons (ds := [7, 5]); exact rfl; exact rfl; exact rfl; kernel_rfl; intro w8 hw8 rest8)
    | (show OBL _ _ _ _ _ _ 9 _; apply OBL.cons (ds := [0, 1, 2, 3, 4, 6, 7]); exact rfl; exact rfl; exact rfl; kernel_rfl; intro w8 hw8 rest8)
    | (show NO _ _ _ _ _ _ _ _ _ _; first | apply NO.nil | (apply NO.is; exact rfl; exact rfl) | (apply NO.ex; exact rfl; exact rfl; (first | (rintro _ ⟨gl, rfl, hlb, hlge⟩) | (rintro _ ⟨ar, cr, rfl, hOr⟩))))
    | (intro w8 hw8; show NF _ _ _ _ _ _ _ _ _)
    | (show NF _ _ _ _ _ _ _ _ _; first | (apply NF.nilT; intro hap; replace hS := Sep.news [prowZ 1 encI 3 w.heap.size ar2_8 cr2_8 c.cons.2.2, prowZ 1 encI 3 w.heap.size ar2_5 cr2_5 c.bads.2.2, prowZ 1 encI 3 w.heap.size ar2_2 cr2_2 c.outs.2.2] hS hw8 (by rintro q hq; simp only [List.mem_cons, List.not_mem_nil, or_false] at hq; rcases hq with rfl | rfl | rfl <;> exact prowZ_new (by assumption) hw2) (apartS hap) hw2; simp only [List.cons_append, List.nil_append] at hS; have hC8 := hS.cell (i := 8) rfl) | (apply NF.is; exact rfl; exact rfl))
    | (show NF _ _ _ _ _ _ (2 :: _) _ _; apply NF.ex; exact rfl; exact rfl; rintro _ ⟨ar2_2, cr2_2, rfl, hOr2_2⟩)
    | (show NF _ _ _ _ _ _ (5 :: _) _ _; apply NF.ex; exact rfl; exact rfl; rintro _ ⟨ar2_5, cr2_5, rfl, hOr2_5⟩)
    | (show NF _ _ _ _ _ _ (8 :: _) _ _; apply NF.ex; exact rfl; exact rfl; rintro _ ⟨ar2_8, cr2_8, rfl, hOr2_8⟩)
    | (show Z _ _ _ _ _; first | (apply Z.invIs; (exact extA)) | (apply Z.invFresh; (exact extA); (first | omega | exact Below.size (by (exact extA))); assumption))
    | ((show WL _ _ _ (⟨_, .call ⟨.value (.func 139), _, _⟩, _, _, _, _⟩ :: _) _ _ _); apply WL.call; exact rfl; exact rfl; exact rfl; exact rfl; exact slices_CloneI _ _ c.outs.2.2 _ (Ro.ext (by (exact extA))) no (by omega); rintro v' w' ⟨hx, a', cap', rfl, hO⟩)
    | ((show WL _ _ _ (⟨_, .call ⟨.value (.func 139), _, _⟩, _, _, _, _⟩ :: _) _ _ _); apply WL.call; exact rfl; exact rfl; exact rfl; exact rfl; exact slices_CloneI _ _ c.bads.2.2 _ (Rb.ext (by (exact extA))) nb (by omega); rintro v' w' ⟨hx, a', cap', rfl, hO⟩)
    | ((show WL _ _ _ (⟨_, .call ⟨.value (.func 139), _, _⟩, _, _, _, _⟩ :: _) _ _ _); apply WL.call; exact rfl; exact rfl; exact rfl; exact rfl; exact slices_CloneI _ _ c.cons.2.2 _ (Rn.ext (by (exact extA))) nn (by omega); rintro v' w' ⟨hx, a', cap', rfl, hO⟩)
    | (apply WL.storeF (w0 := w) tOk; exact rfl; exact rfl; exact rfl; exact rfl; assumption; (exact extA); exact rfl; exact rfl; exact rfl; exact rfl; (exact extA); (first | assumption | omega | (focus (apply Nat.le_trans; rotate_left; assumption; exact Below.size (by (exact extA))))); intro w' hb hX' hU; replace hS := Sep.updCell (i := 8) rfl hU hb hS (by (exact extA)) (by (first | exact Nat.le_refl _ | exact Below.size (by (exact extA)))); (try simp only [List.set_cons_zero, List.set_cons_succ] at hS); (try have hR0 := hS.row (i := 0) rfl); (try have hR1 := hS.row (i := 1) rfl); (try have hR2 := hS.row (i := 2) rfl); (try have hR3 := hS.row (i := 3) rfl); (try have hR4 := hS.row (i := 4) rfl); (try have hC0 := hS.cell (i := 0) rfl); (try have hD0 := (cells_heap hC0).1); (try have hE0 := (cells_heap hC0).2.1); (try have hF0 := (cells_heap hC0).2.2.1); (try have hG0 := (cells_heap hC0).2.2.2.1); (try have hC1 := hS.cell (i := 1) rfl); (try have hD1 := (cells_heap hC1).1); (try have hE1 := (cells_heap hC1).2.1); (try have hF1 := (cells_heap hC1).2.2.1); (try have hG1 := (cells_heap hC1).2.2.2.1); (try have hC2 := hS.cell (i := 2) rfl); (try have hD2 := (cells_heap hC2).1); (try have hE2 := (cells_heap hC2).2.1); (try have hF2 := (cells_heap hC2).2.2.1); (try have hG2 := (cells_heap hC2).2.2.2.1); (try have hC3 := hS.cell (i := 3) rfl); (try have hD3 := (cells_heap hC3).1); (try have hE3 := (cells_heap hC3).2.1); (try have hF3 := (cells_heap hC3).2.2.1); (try have hG3 := (cells_heap hC3).2.2.2.1); (try have hC4 := hS.cell (i := 4) rfl); (try have hD4 := (cells_heap hC4).1); (try have hE4 := (cells_heap hC4).2.1); (try have hF4 := (cells_heap hC4).2.2.1); (try have hG4 := (cells_heap hC4).2.2.2.1); (try have hM0 := hS.map (i := 0) rfl); (try have hM1 := hS.map (i := 1) rfl); (try have hM2 := hS.map (i := 2) rfl); (try have hM3 := hS.map (i := 3) rfl); (try have hM4 := hS.map (i := 4) rfl))
    | (show WL _ _ _ _ _ _ _; first | apply WL.nil | (refine WL.au (k := ?_)))
    | (show Z _ _ _ _ _; apply Z.then_normal)
    | (show W _ _ _ _ _ _; first | apply W.seq | apply W.region))
  obtain ⟨w3, rfl⟩ : ∃ x, x = w' := ⟨_, rfl⟩
  obtain ⟨d, hd⟩ : ∃ d : Circ, d = ⟨c.max, (ar1_2, cr1_2, c.ins.2.2), (ar1_5, cr1_5, c.lat.2.2), (ar2_2, cr2_2, c.outs.2.2), (ar2_5, cr2_5, c.bads.2.2), (ar2_8, cr2_8, c.cons.2.2), (ar1_8, cr1_8, c.gates.2.2), (ar1_11, cr1_11, c.syms.2.2), c.com⟩ := ⟨_, rfl⟩
  have hS' : Lt.Sep w.heap.size w3 ([prowZ 1 encI 3 w.heap.size ar2_8 cr2_8 c.cons.2.2, prowZ 1 encI 3 w.heap.size ar2_5 cr2_5 c.bads.2.2, prowZ 1 encI 3 w.heap.size ar2_2 cr2_2 c.outs.2.2, prowZ 3 encY 110 w.heap.size ar1_11 cr1_11 c.syms.2.2, prowZ 3 enc3 106 w.heap.size ar1_8 cr1_8 c.gates.2.2, prowZ 3 enc3 69 w.heap.size ar1_5 cr1_5 c.lat.2.2, prowZ 1 encI 3 w.heap.size ar1_2 cr1_2 c.ins.2.2, pcell g2 (Value.cells (.agg #[.int .i64 0, .slice none 0 0, .slice none 0 0, .slice none 0 0, .slice none 0 0, .slice none 0 0, .slice none 0 0, .slice none 0 0, .string ⟨#[]⟩])) 28, pcell gc d.vals.toArray 28]) := by rw [hd]; exact hS
  have hps : d.ps w.heap.size = [prowZ 3 encY 110 w.heap.size ar1_11 cr1_11 c.syms.2.2, prowZ 3 enc3 106 w.heap.size ar1_8 cr1_8 c.gates.2.2, prowZ 3 enc3 69 w.heap.size ar1_5 cr1_5 c.lat.2.2, prowZ 1 encI 3 w.heap.size ar2_8 cr2_8 c.cons.2.2, prowZ 1 encI 3 w.heap.size ar2_5 cr2_5 c.bads.2.2, prowZ 1 encI 3 w.heap.size ar2_2 cr2_2 c.outs.2.2, prowZ 1 encI 3 w.heap.size ar1_2 cr1_2 c.ins.2.2] := by rw [hd]; rfl
  have hcap : CapC d := by
    rw [hd]
    exact ⟨⟨hOr1_2.capLe, hOr1_2.noneCap⟩, ⟨hOr1_5.capLe, hOr1_5.noneCap⟩, ⟨hOr2_2.capLe, hOr2_2.noneCap⟩, ⟨hOr2_5.capLe, hOr2_5.noneCap⟩, ⟨hOr2_8.capLe, hOr2_8.noneCap⟩, ⟨hOr1_8.capLe, hOr1_8.noneCap⟩, ⟨hOr1_11.capLe, hOr1_11.noneCap⟩⟩
  have hdt : d.t = c.t := by rw [hd]
  have hcd : Cells w3 gc 0 d.vals := cells_heap (hS'.cell (i := 8) rfl)
  have hc7 := hS'.cell (i := 7) rfl
  have hg2 : w.heap.size ≤ g2 := (hS'.lt (i := 7) rfl rfl).1
  have hX4 : Ext w w3 := (by (exact extA))
  clear hd
  repeat' (first
    | (apply WL.storeB (w0 := w) tOk; exact rfl; exact rfl; exact rfl; exact rfl; assumption; (exact extA); exact rfl; exact rfl; exact rfl; (exact extA); (first | assumption | omega | (focus (apply Nat.le_trans; rotate_left; assumption; exact Below.size (by (exact extA)); done))); intro w' hb hc hX' hU; have hcc := hc; obtain ⟨h1, h2, _⟩ := hc)
    | (show WL _ _ _ _ _ _ _; first | apply WL.nil | (refine WL.au (k := ?_)))
    | (show Z _ _ _ _ _; apply Z.then_normal)
    | (show W _ _ _ _ _ _; apply W.ret))
  refine Z.bodyC tOk Try.results89 rfl rfl rfl rfl (cells_heap hb) fun m => ⟨Ext.at (by (exact extA)) m, d, rfl, hdt, ⟨?_, hcap⟩⟩
  have hS5 := hS'.updCell (i := 7) rfl hU hb (Ext.refl _) (Below.size hX4)
  rw [hps]
  exact (Sep.perm7 hS5).ext ((Ext.refl _).at m)
end Go.Proofs.Ythpnahapiodflaa
namespace Go.Proofs.Ythpnahapiodflaa
open Go Go.Lt Go.RowKit
set_option linter.unusedVariables false
set_option linter.unusedSimpArgs false
set_option maxRecDepth 20000

theorem Sep.join {B : Nat} {w w' : World} {ps qs : List Piece} (hS : Lt.Sep B w ps) (hx : Ext w w') (hq : Lt.Sep w.heap.size w' qs) (hB : B ≤ w.heap.size) : Lt.Sep B w' (qs ++ ps) := by
  have hS' := hS.ext hx
  refine ⟨fun i p h => ?_, fun i j p q h1 h2 hne => ?_⟩
  · rcases get_app h with h | ⟨_, h⟩
    · exact ⟨(hq.holds i p h).1, fun k hk => ⟨Nat.le_trans hB ((hq.holds i p h).2 k hk).1, ((hq.holds i p h).2 k hk).2⟩⟩
    · exact hS'.holds _ p h
  · rcases get_app h1 with h1 | ⟨l1, h1⟩
    · rcases get_app h2 with h2 | ⟨l2, h2⟩
      · exact hq.apart i j p q h1 h2 hne
      · cases hb : p.b with
        | none => exact .inl rfl
        | some k =>
          refine .inr fun he => ?_
          have e1 := ((hq.holds i p h1).2 k hb).1
          have e2 := ((hS.holds _ q h2).2 k he.symm).2
          omega
    · rcases get_app h2 with h2 | ⟨l2, h2⟩
      · cases hb : p.b with
        | none => exact .inl rfl
        | some k =>
          refine .inr fun he => ?_
          have e1 := ((hq.holds j q h2).2 k he.symm).1
          have e2 := ((hS.holds _ p h1).2 k hb).2
          omega
      · exact hS.apart _ _ p q h1 h2 (by omega)
theorem rowZ_row2 {α : Type} {s : Nat} {enc : α → List Value} {el B C cap i : Nat} {a : Option Addr} {l : List α} {w : World} {ps : List Piece} (hE : Enc s enc) (hS : Lt.Sep B w ps) (h : ps[i]? = some (prowZ s enc el C a cap l)) : Row s enc w a l := by
  by_cases hl : l = []
  · subst hl; exact Row.nil s enc w a
  · exact ((hS.holds i _ h).1 hl).row hE
theorem OwnC.at2 {B C : Nat} {w : World} {d : Circ} (hS : Lt.Sep B w (d.ps C)) (h : CapC d) : CAt w d :=
  ⟨⟨rowZ_row2 encI_ok hS (i := 6) rfl, h.ins.1, h.ins.2⟩, ⟨rowZ_row2 enc3_ok hS (i := 2) rfl, h.lat.1, h.lat.2⟩, ⟨rowZ_row2 encI_ok hS (i := 5) rfl, h.outs.1, h.outs.2⟩, ⟨rowZ_row2 encI_ok hS (i := 4) rfl, h.bads.1, h.bads.2⟩,
    ⟨rowZ_row2 encI_ok hS (i := 3) rfl, h.cons.1, h.cons.2⟩, ⟨rowZ_row2 enc3_ok hS (i := 1) rfl, h.gates.1, h.gates.2⟩, ⟨rowZ_row2 encY_ok hS (i := 0) rfl, h.syms.1, h.syms.2⟩⟩
end Go.Proofs.Ythpnahapiodflaa
namespace Go.Proofs.Ythpnahapiodflaa
open Go Go.Lt Go.RowKit
set_option linter.unusedVariables false
set_option linter.unusedSimpArgs false
set_option maxRecDepth 20000

set_option maxHeartbeats 4000000 in
theorem step_States (gm : Nat) (c : Circ) (rn : RowV (Int × Int)) (ra : RowV Int) (r : RunV) (w : World) (hM : MAt w gm c rn ra) (hR : RAt w r) (hn : r.ins.2.2.length ≤ 1048576) :
    Lt.Spec Try.prog 74 [.pointer (some ⟨gm, 0, none⟩), r.val] w (IsFreshRR 1 encB 4 22 w (statesV c.t r.s r.i)) := by
  have k2 : c.lat.2.2.length ≤ 100000 := hM.size.2.1
  refine Spec.of _ Try.func74 rfl Try.ntmps74 (by kernel_rfl) rfl ?_
  repeat' (first
    | (apply WL.box; exact rfl; exact rfl; exact rfl; intro gb w' hb hge hc hx; have hcc := hc; (first | (obtain ⟨h1, h2, h3, _⟩ := hc) | (obtain ⟨h1, h2, _⟩ := hc)); (obtain ⟨gr, rfl⟩ : ∃ x, x = gb := ⟨_, rfl⟩; obtain ⟨wr, rfl⟩ : ∃ x, x = w' := ⟨_, rfl⟩; obtain ⟨hxr, rfl⟩ : ∃ x, x = hx := ⟨_, rfl⟩))
    | (apply WL.eqNilS tOk; exact rfl; exact rfl; exact rfl; exact rfl; exact rfl; exact rfl)
    | (show WL _ _ _ _ _ _ _; first | apply WL.nil | (refine WL.au (k := ?_)))
    | (show Z _ _ _ _ _; apply Z.then_normal)
    | (show W _ _ _ _ _ _; first | apply W.seq | apply W.region))
  repeat' (first
    | (show W _ _ (.region 4 _ _) _ _ _; apply W.regionGX (.fl true 0 (.fl true 2 (.fl false 1 (.br 3 (.br 4 (.fl true 5 .done) .stop) .stop)))) [3] tMix; kernel_rfl)
    | ((show WL _ _ _ (⟨_, .call ⟨.value (.func 63), _, _⟩, _, _, _, _⟩ :: _) _ _ _); apply WL.callS; exact rfl; exact rfl; exact rfl; exact rfl; exact step_Latches gm c rn ra _ (hM.ext (by (exact extA))))
    | ((show WL _ _ _ (⟨_, .call ⟨.value (.func 127), _, _⟩, _, _, _, _⟩ :: _) _ _ _); apply WL.call; exact rfl; exact rfl; exact rfl; exact rfl; exact step_brought _ _ r.s c.lat.2.2.length _ (hR.st.ext (by (exact extA))) (by omega); rintro v' w' ⟨hx, a', cap', rfl, hO⟩)
    | (show SX _ _ _ _ _ _ _ _ _; first | (apply SX.done; intro w' hx) | (apply SX.fl0; exact rfl) | (apply SX.fl1; exact rfl; (exact extA)) | (apply SX.br1; exact rfl; intro w' hx))
    | (show FL _ _ _ _ _ _ _ _; first | apply FL.nilX | (apply FL.loadE tOk; exact rfl; exact rfl; exact rfl; exact rfl; exact rfl; assumption))
    | (show FL _ _ _ _ _ _ _ _; (refine FL.au (k := ?_)))
    | (show Z _ _ _ _ _; first | (apply Z.sxL; exact rfl) | (apply Z.sxE; (exact extA)))
    | (show WL _ _ _ _ _ _ _; first | apply WL.nil | (refine WL.au (k := ?_)))
    | (show Z _ _ _ _ _; apply Z.then_normal)
    | (show W _ _ _ _ _ _; first | apply W.seq | apply W.region | apply W.block | apply W.skip | (apply W.condF; exact rfl)))
  have hXr : Ext wr w' := (by (exact extA))
  have h0 : RR1 1 encB 4 22 wr.heap.size w' none 0 [] a' cap' (brV r.s c.lat.2.2.length) := by
    refine RR1.ext (RR1.new (OwnRR.nil Own.nil) ?_ hO ?_) ?_
    · exact (by (exact extA))
    · exact Below.size (by (exact extA))
    · exact (by (exact extA))
  obtain ⟨b0, rfl⟩ : ∃ x, x = a' := ⟨_, rfl⟩; obtain ⟨d0, rfl⟩ : ∃ x, x = cap' := ⟨_, rfl⟩; obtain ⟨w1, rfl⟩ : ∃ x, x = w' := ⟨_, rfl⟩
  clear hO
  refine W.loopO2 r.ins.2.2.length (fun k a cp b dp w' => k ≤ r.ins.2.2.length ∧ Ext wr w' ∧ ∃ rs : List (RowV Bool), rs.length = k ∧ rs.map (fun q => q.2.2) = (List.range k).map (stateV c.t r.s r.i) ∧ RR1 1 encB 4 22 wr.heap.size w' a cp rs b dp (stateV c.t r.s r.i k))
    (fun k a cp b dp => [(0, .pointer (some ⟨gm, 0, none⟩)), (17, rowVal r.ins), (18, .int .i64 r.ins.2.2.length), (5, .slice a k cp), (6, .slice b (stateV c.t r.s r.i k).length dp), (19, .int .i64 k)]) none 0 b0 d0 ⟨Nat.zero_le _, hXr, [], rfl, rfl, h0⟩ (fun k a cp b dp w' h => h.1) ⟨rfl, rfl, rfl, rfl, rfl, rfl, trivial⟩ ?_
  clear h0
  rintro k a cp sb dp w2 ⟨hk, hX2, rs, hl, he, hR1⟩
  have hsl' : (stateV c.t r.s r.i k).length = c.lat.2.2.length := stateV_len c.t r.s r.i k
  have hRi := hR.ins
  have hXw2 : Ext w w2 := hxr.trans hX2
  by_cases hlt : k < r.ins.2.2.length
  · obtain ⟨x, hxx⟩ := getI r.ins.2.2 hlt
    have hxi := runI_get hxx
    have hxr2 := hR.each x (List.mem_of_getElem? hxx)
    have e1 : stateV c.t r.s r.i (k + 1) = nextV c.t (stateV c.t r.s r.i k) x.2.2 := by
      show nextV c.t _ (r.i.getD k []) = _; rw [getD_of hxi]
    have hOo : Own 1 encRB 22 wr.heap.size w2 a cp rs := hR1.rr.outer
    have RSt := hR1.own.row encB_ok
    repeat' (first
      | (show WL _ _ _ _ _ _ _; first | apply WL.nil | (refine WL.au (k := ?_)))
      | (show Z _ _ _ _ _; apply Z.then_normal)
      | (show W _ _ _ _ _ _; first | apply W.seq | apply W.region))
    refine W.condKT rfl (dec_true (by omega)) ?_
    repeat' (first
      | (apply WL.lit tOk; exact rfl; exact rfl; exact rfl; exact rfl; exact rfl; exact rfl; (first | exact rfl | kernel_rfl | (simp [Instr.fill, catCells]; done)); exact rfl; intro gb w' hb hge hc hx)
      | (apply WL.append1 (z := (((sb, dp, stateV c.t r.s r.i k) : RowV Bool))) tOk encRB_ok; exact rfl; exact rfl; exact rfl; exact rfl; exact rfl; exact rfl; exact rfl; exact rfl; exact rfl; exact rfl; assumption; (exact extA); (first | exact rfl | (focus (simp only [List.length_set]; done)) | (focus (simp; done)) | (focus (simp [*]; done)) | omega | (focus (simp only [List.length_set]; omega))); assumption; exact rfl; exact rfl; (exact extA); (first | omega | (simp; omega) | (simp at *; omega)); intro a' cap' w' hO hX' hU hF)
      | (show WL _ _ _ _ _ _ _; first | apply WL.nil | (refine WL.au (k := ?_)) | (apply WL.index tOk; exact rfl; exact rfl; exact rfl; exact rfl; exact rfl; exact rfl; exact rfl; exact rfl; assumption; (exact extA); exact rfl; omega; assumption; intro b off h; have hcc := h; first | (obtain ⟨h1, h2, h3, h4, h5, h6, _⟩ := h) | (obtain ⟨h1, h2, h3, _⟩ := h) | (obtain ⟨h1, h2, _⟩ := h) | (obtain ⟨h1, _⟩ := h)))
      | (show Z _ _ _ _ _; apply Z.then_normal)
      | (show W _ _ _ _ _ _; first | apply W.seq | apply W.region | apply W.block | apply W.skip))
    have hXn : Ext wr w' := hX'
    have hR2 := (hR1.ext hx).push hU hO hF
    have hl2 : (rs ++ [((sb, dp, stateV c.t r.s r.i k) : RowV Bool)]).length = k + 1 := by rw [List.length_append, hl]; rfl
    have he2 : (rs ++ [((sb, dp, stateV c.t r.s r.i k) : RowV Bool)]).map (fun q => q.2.2) = (List.range (k + 1)).map (stateV c.t r.s r.i) := by rw [List.map_append, he, range_map_succ]; rfl
    have hget : (rs ++ [((sb, dp, stateV c.t r.s r.i k) : RowV Bool)])[k]? = some (sb, dp, stateV c.t r.s r.i k) := by rw [List.getElem?_append_right (by omega), hl]; simp
    have RSt2 : Row 1 encB w' sb (stateV c.t r.s r.i k) := hR2.row encB_ok hget
    clear hOo RSt hO hU hF
    obtain ⟨w3, rfl⟩ : ∃ x, x = w' := ⟨_, rfl⟩; obtain ⟨a3, rfl⟩ : ∃ x, x = a' := ⟨_, rfl⟩; obtain ⟨c3, rfl⟩ : ∃ x, x = cap' := ⟨_, rfl⟩
    have hM3 := hM.ext (hxr.trans hXn)
    have hxr3 := hxr2.ext (hxr.trans hXn)
    repeat' (first
      | ((show WL _ _ _ (⟨_, .call ⟨.value (.func 67), _, _⟩, _, _, _, _⟩ :: _) _ _ _); apply WL.call; exact rfl; exact rfl; exact rfl; exact rfl; exact step_Next gm c rn ra _ _ _ _ (stateV c.t r.s r.i k) x.2.2 _ (hM3.ext (by (exact extA))) (RSt2.ext (by (exact extA))) (hxr3.ext (by (exact extA))); rintro v' w' ⟨hx, a', cap', rfl, hO⟩)
      | (show WL _ _ _ _ _ _ _; first | apply WL.nil | (refine WL.au (k := ?_)))
      | (show Z _ _ _ _ _; first | apply Z.then_normal | apply Z.block_normal)
      | (show W _ _ _ _ _ _; apply W.region))
    rw [← e1] at hO ⊢
    exact Z.againO2 a3 c3 a' cap' ⟨by omega, hXn.trans (by (exact extA)), _, hl2, he2, RR1.new hR2 (by (exact extA)) hO (Below.size hXn)⟩ ⟨rfl, rfl, rfl, congrArg (fun z => some (Value.slice a3 z c3)) hl2, rfl, rfl, trivial⟩
  · obtain rfl : k = r.ins.2.2.length := by omega
    repeat' (first
      | (show WL _ _ _ _ _ _ _; first | apply WL.nil | (refine WL.au (k := ?_)))
      | (show Z _ _ _ _ _; apply Z.then_normal)
      | (show W _ _ _ _ _ _; first | apply W.seq | apply W.region))
    refine W.condKF rfl (dec_false (by omega)) ?_
    repeat' (first
      | (show WL _ _ _ _ _ _ _; first | apply WL.nil | (refine WL.au (k := ?_)))
      | (show Z _ _ _ _ _; first | apply Z.then_normal | apply Z.then_exit | apply Z.block_exit)
      | (show W _ _ _ _ _ _; first | apply W.seq | apply W.region | apply W.ret | apply W.exit))
    have he' : rs.map (fun q => q.2.2) = statesV c.t r.s r.i := by rw [he]; unfold statesV; rw [runI_len]
    refine Z.body1 Try.results74 rfl fun m => ⟨hXw2.at m, a, cp, rs, by rw [hl], (hR1.rr.base (Below.size hxr)).at m, he'⟩

set_option maxHeartbeats 4000000 in
theorem step_Breaks (gm : Nat) (c : Circ) (rn : RowV (Int × Int)) (ra : RowV Int) (r : RunV) (p : Int) (w : World) (hM : MAt w gm c rn ra) (hR : RAt w r) (hn : r.ins.2.2.length ≤ 1048576) :
    Pure Try.prog 76 [.pointer (some ⟨gm, 0, none⟩), r.val, .int .i64 p] w (.bool (dec (BreaksP c.t r.s r.i p))) := by
  have hM' := hM
  have hil := runI_len r
  by_cases q1 : StartsP c.t r.s
  rotate_left
  · have e : dec (BreaksP c.t r.s r.i p) = false := dec_false fun h => q1 h.1
    refine Spec.of _ Try.func76 rfl Try.ntmps76 (by kernel_rfl) rfl ?_
    repeat' (first
      | (apply WL.box; exact rfl; exact rfl; exact rfl; intro gb w' hb hge hc hx; have hcc := hc; (first | (obtain ⟨h1, h2, h3, _⟩ := hc) | (obtain ⟨h1, h2, _⟩ := hc)))
      | (apply WL.gT; exact rfl; exact rfl; (focus (first | (rw [dec_false q1]; rfl); done)))
      | ((show WL _ _ _ (⟨_, .call ⟨.value (.func 64), _, _⟩, _, _, _, _⟩ :: _) _ _ _); apply WL.callP; exact rfl; exact rfl; exact rfl; exact rfl; exact step_Starts gm c rn ra _ _ r.s _ (hM'.ext (by (exact extA))) (hR.st.ext (by (exact extA))); intro w' hx)
      | (show WL _ _ _ _ _ _ _; first | apply WL.nil | (refine WL.au (k := ?_)) | (apply WL.guardF; exact rfl; exact rfl))
      | (show Z _ _ _ _ _; first | apply Z.then_normal | apply Z.then_ret)
      | (show W _ _ _ _ _ _; first | apply W.seq | apply W.region | apply W.ret | (apply W.condT; exact rfl)))
    exact Z.body1 Try.results76 rfl fun m => ⟨by rw [e], Ext.at (by (exact extA)) m⟩
  by_cases q2 : r.ins.2.2.length = 0
  · have e : dec (BreaksP c.t r.s r.i p) = false := dec_false fun h => h.2.1 (List.eq_nil_of_length_eq_zero (by rw [hil]; exact q2))
    refine Spec.of _ Try.func76 rfl Try.ntmps76 (by kernel_rfl) rfl ?_
    repeat' (first
      | (apply WL.box; exact rfl; exact rfl; exact rfl; intro gb w' hb hge hc hx; have hcc := hc; (first | (obtain ⟨h1, h2, h3, _⟩ := hc) | (obtain ⟨h1, h2, _⟩ := hc)))
      | (apply WL.gF; exact rfl; exact rfl; (focus (first | (rw [dec_true q1]; rfl) | exact dec_true (by omega); done)))
      | (apply W.condKT; exact rfl; (focus (first | (rw [dec_true q1]; rfl) | exact dec_true (by omega); done)))
      | ((show WL _ _ _ (⟨_, .call ⟨.value (.func 64), _, _⟩, _, _, _, _⟩ :: _) _ _ _); apply WL.callP; exact rfl; exact rfl; exact rfl; exact rfl; exact step_Starts gm c rn ra _ _ r.s _ (hM'.ext (by (exact extA))) (hR.st.ext (by (exact extA))); intro w' hx)
      | (show WL _ _ _ _ _ _ _; first | apply WL.nil | (refine WL.au (k := ?_)))
      | (show Z _ _ _ _ _; first | apply Z.then_normal | apply Z.then_ret)
      | (show W _ _ _ _ _ _; first | apply W.seq | apply W.region | apply W.ret))
    exact Z.body1 Try.results76 rfl fun m => ⟨by rw [e], Ext.at (by (exact extA)) m⟩
  refine Spec.of _ Try.func76 rfl Try.ntmps76 (by kernel_rfl) rfl ?_
  repeat' (first
    | (apply WL.box; exact rfl; exact rfl; exact rfl; intro gb w' hb hge hc hx; have hcc := hc; (first | (obtain ⟨h1, h2, h3, _⟩ := hc) | (obtain ⟨h1, h2, _⟩ := hc)); (obtain ⟨gr, rfl⟩ : ∃ x, x = gb := ⟨_, rfl⟩; obtain ⟨wr, rfl⟩ : ∃ x, x = w' := ⟨_, rfl⟩; obtain ⟨hxr, rfl⟩ : ∃ x, x = hx := ⟨_, rfl⟩; have hcr : Cells wr gr 0 [rowVal r.st, rowVal r.ins] := hcc))
    | (apply WL.gF; exact rfl; exact rfl; (focus (first | (rw [dec_true q1]; rfl) | exact dec_false (by omega); done)))
    | (apply W.condKF; exact rfl; (focus (first | (rw [dec_true q1]; rfl) | exact dec_false (by omega); done)))
    | ((show WL _ _ _ (⟨_, .call ⟨.value (.func 64), _, _⟩, _, _, _, _⟩ :: _) _ _ _); apply WL.callP; exact rfl; exact rfl; exact rfl; exact rfl; exact step_Starts gm c rn ra _ _ r.s _ (hM'.ext (by (exact extA))) (hR.st.ext (by (exact extA))); intro w' hx; (obtain ⟨ws, rfl⟩ : ∃ x, x = w' := ⟨_, rfl⟩; obtain ⟨hxs, rfl⟩ : ∃ x, x = hx := ⟨_, rfl⟩; have hcs := hcr.ext hxs; obtain ⟨m1, m2, _⟩ := id hcs))
    | (show WL _ _ _ _ _ _ _; first | apply WL.nil | (refine WL.au (k := ?_)))
    | (show Z _ _ _ _ _; apply Z.then_normal)
    | (show W _ _ _ _ _ _; first | apply W.seq | apply W.region | apply W.skip))
  repeat' (first
    | (show W _ _ (.region 3 _ _) _ _ _; apply W.regionGX (.fl true 0 (.fl true 3 (.fl false 1 (.fl false 4 (.fl true 5 (.fl true 6 (.br 2 (.fl true 7 (.fl true 8 .done)) .stop))))))) [2, 4, 5, 6, 7] tMix; kernel_rfl)
    | (((show WL _ _ _ (⟨_, .call ⟨.value (.func 74), _, _⟩, _, _, _, _⟩ :: _) _ _ _); apply WL.call; exact rfl; exact rfl; exact rfl; exact rfl; exact step_States gm c rn ra r _ (hM'.ext (by (exact extA))) (hR.ext (by (exact extA))) hn; rintro v' w3 ⟨hx3, a3, c3, rs, rfl, hRR, he⟩))
    | (show SX _ _ _ _ _ _ _ _ _; first | (apply SX.done; intro w' hx) | (apply SX.fl0; exact rfl) | (apply SX.fl1; exact rfl; (exact extA)) | (apply SX.br1; exact rfl; intro w' hx))
    | (show FL _ _ _ _ _ _ _ _; first | apply FL.nilX | (apply FL.loadE tOk; exact rfl; exact rfl; exact rfl; exact rfl; exact rfl; assumption) | (apply FL.loadAE tOk; exact rfl; exact rfl; exact rfl; exact rfl; exact rfl; assumption; exact rfl))
    | (show FL _ _ _ _ _ _ _ _; (refine FL.au (k := ?_)))
    | (show Z _ _ _ _ _; (apply Z.sxE; (exact extA)))
    | (show WL _ _ _ _ _ _ _; first | apply WL.nil | (refine WL.au (k := ?_)))
    | (show Z _ _ _ _ _; apply Z.then_normal)
    | (show W _ _ _ _ _ _; first | apply W.seq | apply W.region | apply W.block))
  have hX3 : Ext wr w' := (by (exact extA))
  have hRR' : OwnRR 1 encB 4 22 _ w' a3 c3 rs := hRR.ext (by (exact extA))
  clear hRR
  obtain ⟨w4, rfl⟩ : ∃ x, x = w' := ⟨_, rfl⟩
  have hrl : rs.length = r.ins.2.2.length := by have := congrArg List.length he; rw [List.length_map, statesV_len, hil] at this; exact this
  have Rrs : Row 1 encRB w4 a3 rs := hRR'.outer.row encRB_ok
  have hcc4 := hcr.ext hX3
  have hX0 : Ext w w4 := hxr.trans hX3
  have hM4 := hM'.ext hX0
  have hR4 := hR.ext hX0
  have hnn : (r.ins.2.2.length : Int) - 1 = ((r.ins.2.2.length - 1 : Nat) : Int) := by omega
  refine W.loopW r.ins.2.2.length (fun k w' => k ≤ r.ins.2.2.length ∧ Ext w4 w' ∧ GoesP c.t r.s r.i k) (fun k => [(0, .pointer (some ⟨gm, 0, none⟩)), (2, .int .i64 p), (4, .pointer (some ⟨gr, 0, none⟩)), (7, .slice a3 rs.length c3), (8, .int .i64 ((r.ins.2.2.length : Int) - 1)), (30, rowVal r.ins), (31, .int .i64 r.ins.2.2.length), (32, .int .i64 k)]) ⟨Nat.zero_le _, Ext.refl _, fun j i h => by omega⟩ (fun k w' h => h.1) ⟨rfl, rfl, rfl, rfl, rfl, rfl, rfl, rfl, trivial⟩ ?_
  rintro k w5 ⟨hk, hX5, hgo⟩
  obtain ⟨k1, k3, _⟩ := hcc4.ext hX5
  have Rrs5 := Rrs.ext hX5
  have hRi5 := hR4.ins.ext hX5
  by_cases hlt : k < r.ins.2.2.length
  · obtain ⟨x, hxx⟩ := getI r.ins.2.2 hlt
    have hxi := runI_get hxx
    have hxr := hR4.each x (List.mem_of_getElem? hxx)
    obtain ⟨q, hq, hqe⟩ := statesV_i c.t r he hlt
    have Rq := hRR'.row encB_ok hq
    have hh := fun (w9 : World) (h9 : Ext w5 w9) => step_Holds gm c rn ra q.1 x.1 q.2.1 x.2.1 q.2.2 x.2.2 w9 (hM4.ext (hX5.trans h9)) (Rq.ext (hX5.trans h9)) (hxr.ext (hX5.trans h9))
    have hi := fun (w9 : World) (h9 : Ext w5 w9) => step_Inputs gm c rn ra w9 (hM4.ext (hX5.trans h9))
    repeat' (first
      | (show WL _ _ _ _ _ _ _; first | apply WL.nil | (refine WL.au (k := ?_)))
      | (show Z _ _ _ _ _; apply Z.then_normal)
      | (show W _ _ _ _ _ _; first | apply W.seq | apply W.region))
    refine W.condKT rfl (dec_true (by omega)) ?_
    by_cases u1 : x.2.2.length = c.ins.2.2.length
    · by_cases u2 : HoldsP c.t q.2.2 x.2.2
      · have hstep : GoesP c.t r.s r.i (k + 1) := fun j i hj hi => by
          by_cases hjk : j = k
          · subst hjk; rw [hxi] at hi; cases hi; exact ⟨u1, hqe ▸ u2⟩
          · exact hgo j i (by omega) hi
        rw [dec_true u2] at hh
        repeat' (first
          | (apply WL.callS; exact rfl; exact rfl; exact rfl; exact rfl; (apply hi _; (exact extA)))
          | (apply WL.gF; exact rfl; exact rfl; (focus (first | exact dec_true (by omega) | exact dec_false (by omega); done)))
          | (((show WL _ _ _ (⟨_, .call ⟨.value (.func 71), _, _⟩, _, _, _, _⟩ :: _) _ _ _); apply WL.callP; exact rfl; exact rfl; exact rfl; exact rfl; exact hh _ (by (exact extA)); intro w' hx))
          | (show WL _ _ _ _ _ _ _; first | apply WL.nil | (refine WL.au (k := ?_)) | (apply WL.index tOk; exact rfl; exact rfl; exact rfl; exact rfl; exact rfl; exact rfl; exact rfl; exact rfl; assumption; (exact extA); exact rfl; omega; assumption; intro b off h; have hcc := h; first | (obtain ⟨h1, h2, h3, h4, h5, h6, _⟩ := h) | (obtain ⟨h1, h2, h3, _⟩ := h) | (obtain ⟨h1, h2, _⟩ := h) | (obtain ⟨h1, _⟩ := h)))
          | (show Z _ _ _ _ _; first | apply Z.then_normal | apply Z.block_normal)
          | (show W _ _ _ _ _ _; first | apply W.seq | apply W.region | apply W.block | apply W.skip | (apply W.condF; exact rfl)))
        exact Z.againW ⟨by omega, (by (exact extA)), hstep⟩ ⟨rfl, rfl, rfl, rfl, rfl, rfl, rfl, rfl, trivial⟩
      · have e : dec (BreaksP c.t r.s r.i p) = false := dec_false fun h => u2 (by have := (h.2.2.1 k x.2.2 (by rw [hil]; exact hlt) hxi).2; rw [hqe]; exact this)
        rw [dec_false u2] at hh
        repeat' (first
          | (apply WL.callS; exact rfl; exact rfl; exact rfl; exact rfl; (apply hi _; (exact extA)))
          | (apply WL.gF; exact rfl; exact rfl; (focus (first | exact dec_true (by omega) | exact dec_false (by omega); done)))
          | (((show WL _ _ _ (⟨_, .call ⟨.value (.func 71), _, _⟩, _, _, _, _⟩ :: _) _ _ _); apply WL.callP; exact rfl; exact rfl; exact rfl; exact rfl; exact hh _ (by (exact extA)); intro w' hx))
          | (show WL _ _ _ _ _ _ _; first | apply WL.nil | (refine WL.au (k := ?_)) | (apply WL.index tOk; exact rfl; exact rfl; exact rfl; exact rfl; exact rfl; exact rfl; exact rfl; exact rfl; assumption; (exact extA); exact rfl; omega; assumption; intro b off h; have hcc := h; first | (obtain ⟨h1, h2, h3, h4, h5, h6, _⟩ := h) | (obtain ⟨h1, h2, h3, _⟩ := h) | (obtain ⟨h1, h2, _⟩ := h) | (obtain ⟨h1, _⟩ := h)))
          | (show Z _ _ _ _ _; first | apply Z.then_normal | apply Z.then_ret | apply Z.block_ret)
          | (show W _ _ _ _ _ _; first | apply W.seq | apply W.region | apply W.block | apply W.skip | apply W.ret | (apply W.condT; exact rfl)))
        exact Z.body1 Try.results76 rfl fun m => ⟨by rw [e], Ext.at (by (exact extA)) m⟩
    · have e : dec (BreaksP c.t r.s r.i p) = false := dec_false fun h => u1 (h.2.2.1 k x.2.2 (by rw [hil]; exact hlt) hxi).1
      repeat' (first
        | (apply WL.callS; exact rfl; exact rfl; exact rfl; exact rfl; (apply hi _; (exact extA)))
        | (apply WL.gT; exact rfl; exact rfl; (focus (first | exact dec_true (by omega) | exact dec_false (by omega); done)))
        | (show WL _ _ _ _ _ _ _; first | apply WL.nil | (refine WL.au (k := ?_)) | (apply WL.index tOk; exact rfl; exact rfl; exact rfl; exact rfl; exact rfl; exact rfl; exact rfl; exact rfl; assumption; (exact extA); exact rfl; omega; assumption; intro b off h; have hcc := h; first | (obtain ⟨h1, h2, h3, h4, h5, h6, _⟩ := h) | (obtain ⟨h1, h2, h3, _⟩ := h) | (obtain ⟨h1, h2, _⟩ := h) | (obtain ⟨h1, _⟩ := h)) | (apply WL.guardF; exact rfl; exact rfl))
        | (show Z _ _ _ _ _; first | apply Z.then_normal | apply Z.then_ret | apply Z.block_ret)
        | (show W _ _ _ _ _ _; first | apply W.seq | apply W.region | apply W.block | apply W.skip | apply W.ret | (apply W.condT; exact rfl)))
      exact Z.body1 Try.results76 rfl fun m => ⟨by rw [e], Ext.at (by (exact extA)) m⟩
  · obtain rfl : k = r.ins.2.2.length := by omega
    obtain ⟨x, hxx⟩ := getI r.ins.2.2 (show r.ins.2.2.length - 1 < r.ins.2.2.length by omega)
    have hxi := runI_get hxx
    have hxr := hR4.each x (List.mem_of_getElem? hxx)
    obtain ⟨q, hq, hqe⟩ := statesV_i c.t r he (show r.ins.2.2.length - 1 < r.ins.2.2.length by omega)
    have Rq := hRR'.row encB_ok hq
    have hh := fun (w9 : World) (h9 : Ext w5 w9) => step_Bad gm c rn ra q.1 x.1 q.2.1 x.2.1 q.2.2 x.2.2 p w9 (hM4.ext (hX5.trans h9)) (Rq.ext (hX5.trans h9)) (hxr.ext (hX5.trans h9))
    have e : dec (BreaksP c.t r.s r.i p) = dec (BadP c.t q.2.2 x.2.2 p) := dec_congr ⟨fun h => by
      have := h.2.2.2
      rw [hil, getD_of hxi, ← hqe] at this; exact this, fun h => ⟨q1, fun h0 => q2 (by rw [← hil, h0]; rfl), by rw [hil]; exact hgo, by rw [hil, getD_of hxi, ← hqe]; exact h⟩⟩
    have hq' : rs[((r.ins.2.2.length : Int) - 1).toNat]? = some q := by rw [hnn]; exact hq
    have hx' : r.ins.2.2[((r.ins.2.2.length : Int) - 1).toNat]? = some x := by rw [hnn]; exact hxx
    repeat' (first
      | (show WL _ _ _ _ _ _ _; first | apply WL.nil | (refine WL.au (k := ?_)))
      | (show Z _ _ _ _ _; apply Z.then_normal)
      | (show W _ _ _ _ _ _; first | apply W.seq | apply W.region))
    refine W.condKF rfl (dec_false (by omega)) ?_
    repeat' (first
      | (apply QL.callP; exact rfl; exact rfl; exact rfl; exact rfl; exact hh)
      | (show QL _ _ _ _ _ _ _; first | (apply QL.nilX; intro w' hx) | (refine QL.au (k := ?_)) | (apply QL.index tOk; exact rfl; exact rfl; exact rfl; exact rfl; exact rfl; exact rfl; exact rfl; exact rfl; assumption; (exact extA); exact rfl; omega; assumption; intro b off h; have hcc := h; first | (obtain ⟨h1, h2, h3, h4, h5, h6, _⟩ := h) | (obtain ⟨h1, h2, h3, _⟩ := h) | (obtain ⟨h1, h2, _⟩ := h) | (obtain ⟨h1, _⟩ := h)))
      | (show Z _ _ _ _ _; first | apply Z.then_normal | apply Z.then_exit | apply Z.block_exit)
      | (show W _ _ _ _ _ _; first | apply W.seq | apply W.ret | apply W.exit | (apply W.regionX tMix; kernel_rfl)))
    exact Z.body1 Try.results76 rfl fun m => ⟨by rw [e], Ext.at (by (exact extA)) m⟩

/-- It holds as long as the blocks from b on stay as they are in w. -/
def Stay (b : Nat) (w : World) (P : World → Prop) : Prop := ∀ w', w.heap.size ≤ w'.heap.size → (∀ k, b ≤ k → k < w.heap.size → w'.heap[k]? = w.heap[k]?) → P w'
theorem Sep.stay {B b : Nat} {w : World} {ps : List Piece} (hS : Lt.Sep B w ps) (hb : b ≤ B) : Stay b w (fun w' => Lt.Sep B w' ps) := by
  intro w' hsz hk
  refine ⟨fun i p h => ⟨p.keep (hS.holds i p h).1 (fun k hp => hk k (Nat.le_trans hb ((hS.holds i p h).2 k hp).1) ((hS.holds i p h).2 k hp).2), fun k hp => ⟨((hS.holds i p h).2 k hp).1, Nat.lt_of_lt_of_le ((hS.holds i p h).2 k hp).2 hsz⟩⟩, hS.apart⟩
theorem Own.stay {α : Type} {s : Nat} {enc : α → List Value} {el B b cap : Nat} {w w' : World} {a : Option Addr} {l : List α} (h : Own s enc el B w a cap l) (hb : b ≤ B) (hk : ∀ k, b ≤ k → k < w.heap.size → w'.heap[k]? = w.heap[k]?) : Own s enc el B w' a cap l :=
  h.keep fun k hp => hk k (Nat.le_trans hb (h.blk_lt k hp).1) (h.blk_lt k hp).2
set_option maxHeartbeats 2000000 in
theorem step_New (c : Circ) (w : World) (hC : CAt w c) (hz : SzC c.t 100000) (hz7 : c.t.syms.length ≤ 100000) :
    Lt.Spec Try.prog 60 [c.val] w (fun v w' => Ext w w' ∧ ((chkC c.t ≠ 0 ∧ v = .tuple #[.pointer none, .int .i64 (chkC c.t)]) ∨ (chkC c.t = 0 ∧ ∃ gm d rn ra, v = .tuple #[.pointer (some ⟨gm, 0, none⟩), .int .i64 0] ∧ MAt w' gm d rn ra ∧ d.t = c.t ∧ Stay w.heap.size w' (fun w9 => MAt w9 gm d rn ra)))) := by
  by_cases q1 : chkC c.t = 0
  · have hg := chkC_good.1 q1
    have hck := fun (w9 : World) (h9 : Ext w w9) => circ_Check c w9 (hC.ext h9) hz
    rw [q1] at hck
    refine Spec.of _ Try.func60 rfl Try.ntmps60 (by kernel_rfl) rfl ?_
    repeat' (first
      | (apply WL.box; exact rfl; exact rfl; exact rfl; intro gb w' hb hge hc hx; have hcc := hc; (first | (obtain ⟨h1, h2, h3, _⟩ := hc) | (obtain ⟨h1, h2, _⟩ := hc)); (first | (have h_0 := gc; clear h_0) | (obtain ⟨gc, rfl⟩ : ∃ x, x = gb := ⟨_, rfl⟩; obtain ⟨wc, rfl⟩ : ∃ x, x = w' := ⟨_, rfl⟩; obtain ⟨hxc, rfl⟩ : ∃ x, x = hx := ⟨_, rfl⟩; obtain ⟨hbc, rfl⟩ : ∃ x, x = hb := ⟨_, rfl⟩; obtain ⟨hgec, rfl⟩ : ∃ x, x = hge := ⟨_, rfl⟩)))
      | (apply W.condKF; exact rfl; (focus (exact dec_false (fun h => h rfl); done)))
      | (((show WL _ _ _ (⟨_, .call ⟨.value (.func 119), _, _⟩, _, _, _, _⟩ :: _) _ _ _); apply WL.callP; exact rfl; exact rfl; exact rfl; exact rfl; exact hck _ (by (exact extA)); intro w' hx))
      | (((show WL _ _ _ (⟨_, .call ⟨.value (.func 89), _, _⟩, _, _, _, _⟩ :: _) _ _ _); apply WL.call; exact rfl; exact rfl; exact rfl; exact rfl; exact circ_Clone c _ (hC.ext (by (exact extA))) hz hz7; rintro v' w7 ⟨hx7, d, rfl, hdt, hOd⟩))
      | (show WL _ _ _ _ _ _ _; first | apply WL.nil | (refine WL.au (k := ?_)))
      | (show Z _ _ _ _ _; apply Z.then_normal)
      | (show W _ _ _ _ _ _; first | apply W.seq | apply W.region | apply W.skip))
    have hCd0 : SzC d.t 100000 := by rw [hdt]; exact hz
    have hgd : GoodC' d.t := by rw [hdt]; exact hg
    have hwc : w.heap.size ≤ wc.heap.size := Below.size hxc
    have hS0 : Lt.Sep w.heap.size wc [pcell gc c.vals.toArray 28] := Sep.newCell Sep.none' hxc hbc hgec (Nat.le_refl _)
    have hJ : Lt.Sep w.heap.size w7 (d.ps w'.heap.size ++ [pcell gc c.vals.toArray 28]) := Sep.join (hS0.ext hx) hx7 hOd.sep (Nat.le_trans hwc (Below.size hx))
    have hbc7 : w7.heap[gc]? = some (.cells c.vals.toArray 28 (0, 0)) := hJ.cell (i := 7) rfl
    have hX7 : Ext w w7 := (by (exact extA))
    obtain ⟨w3, rfl⟩ : ∃ x, x = w' := ⟨_, rfl⟩; obtain ⟨hx3, rfl⟩ : ∃ x, x = hx := ⟨_, rfl⟩
    repeat' (first
      | (apply WL.storeB (w0 := w) tOk; exact rfl; exact rfl; exact rfl; exact rfl; assumption; (exact extA); exact rfl; exact rfl; exact rfl; (exact extA); (first | assumption | omega | (focus (apply Nat.le_trans; rotate_left; assumption; exact Below.size (by (exact extA)); done))); intro w' hb hc hX' hU; have hcc := hc; obtain ⟨h1, h2, _⟩ := hc; (obtain ⟨w8, rfl⟩ : ∃ x, x = w' := ⟨_, rfl⟩; obtain ⟨hb8, rfl⟩ : ∃ x, x = hb := ⟨_, rfl⟩; obtain ⟨hX8, rfl⟩ : ∃ x, x = hX' := ⟨_, rfl⟩))
      | (show WL _ _ _ _ _ _ _; first | apply WL.nil | (refine WL.au (k := ?_)))
      | (show Z _ _ _ _ _; apply Z.then_normal)
      | (show W _ _ _ _ _ _; first | apply W.seq | apply W.region))
    have hS8 : Lt.Sep w.heap.size w8 (d.ps w3.heap.size ++ [pcell gc d.vals.toArray 28]) := hJ.updCell (i := 7) rfl hU hb8 (Ext.refl _) (Below.size hX7)
    have hX8' : Ext w w8 := hX8
    have hCd : CAt w8 d := OwnC.at2 (hS8.takeN 7) hOd.cap
    have hc8 : Cells w8 gc 0 d.vals := cells_heap hb8
    clear hcc h1 h2 hU hbc7 hbc hJ hS0
    repeat' (first
      | (((show WL _ _ _ (⟨_, .call ⟨.value (.func 87), _, _⟩, _, _, _, _⟩ :: _) _ _ _); apply WL.call; exact rfl; exact rfl; exact rfl; exact rfl; exact circ_Net d _ (hCd.ext (by (exact extA))) hgd hCd0; rintro v' w9 ⟨hx9, am, cm, ab, cb, rfl, hOm, hOb⟩; have hc9 := hc8.ext hx9; have Rm := hOm.row encN_ok; have Rb := hOb.row encI_ok))
      | (apply WL.build tOk; exact rfl; exact rfl; exact rfl; exact rfl; exact rfl; exact rfl; exact rfl; kernel_rfl)
      | (apply WL.box; exact rfl; exact rfl; exact rfl; intro gb w' hb hge hc hx; have hcc := hc; (first | (obtain ⟨h1, h2, h3, _⟩ := hc) | (obtain ⟨h1, h2, _⟩ := hc)); (obtain ⟨gm, rfl⟩ : ∃ x, x = gb := ⟨_, rfl⟩))
      | (show WL _ _ _ _ _ _ _; first | apply WL.nil | (refine WL.au (k := ?_)))
      | (show Z _ _ _ _ _; apply Z.then_normal)
      | (show W _ _ _ _ _ _; first | apply W.seq | apply W.region | apply W.ret))
    have hcm : Cells w' gm 0 (d.vals ++ [.slice am (cNet d.t).1.length cm, .slice ab (cNet d.t).2.length cb]) := hcc
    have hMd : MAt w' gm d (am, cm, (cNet d.t).1) (ab, cb, (cNet d.t).2) := MAt.mk hcm (hCd.ext (by (exact extA))) (Rm.ext (by (exact extA))) (Rb.ext (by (exact extA))) rfl rfl hgd hCd0
    have hX8 : Ext w8 w' := (by (exact extA))
    have hSd : Lt.Sep w.heap.size w' (d.ps w3.heap.size) := (hS8.takeN 7).ext hX8
    have hw8 : w.heap.size ≤ w8.heap.size := Below.size hX8'
    have hOm' : Own 2 encN 104 w.heap.size w' am cm (cNet d.t).1 := (Own.ext hOm (by (exact extA))).base (Nat.le_trans hw8 (Below.size (by (exact extA))))
    have hOb' : Own 1 encI 3 w.heap.size w' ab cb (cNet d.t).2 := (Own.ext hOb (by (exact extA))).base (Nat.le_trans hw8 (Below.size (by (exact extA))))
    have hgm : w.heap.size ≤ gm := Nat.le_trans (Nat.le_trans hw8 (Below.size (by (exact extA)))) hge
    have hgml : gm < w'.heap.size := heap_lt hb
    have hst : Stay w.heap.size w' (fun w9 => MAt w9 gm d (am, cm, (cNet d.t).1) (ab, cb, (cNet d.t).2)) := by
      intro w9 hsz hk
      refine MAt.mk ?_ (OwnC.at2 (Sep.stay hSd (Nat.le_refl _) w9 hsz hk) hOd.cap) ((Own.stay hOm' (Nat.le_refl _) hk).row encN_ok) ((Own.stay hOb' (Nat.le_refl _) hk).row encI_ok) rfl rfl hgd hCd0
      have hb9 := hb
      rw [← hk gm hgm hgml] at hb9
      exact cells_heap hb9
    exact Z.body2 Try.results60 rfl rfl fun m => ⟨Ext.at (by (exact extA)) m, .inr ⟨q1, gm, d, (am, cm, (cNet d.t).1), (ab, cb, (cNet d.t).2), rfl, hMd.ext ((Ext.refl _).at m), hdt, hst⟩⟩
  · have hck := fun (w9 : World) (h9 : Ext w w9) => circ_Check c w9 (hC.ext h9) hz
    refine Spec.of _ Try.func60 rfl Try.ntmps60 (by kernel_rfl) rfl ?_
    repeat' (first
      | (apply WL.box; exact rfl; exact rfl; exact rfl; intro gb w' hb hge hc hx; have hcc := hc; (first | (obtain ⟨h1, h2, h3, _⟩ := hc) | (obtain ⟨h1, h2, _⟩ := hc)))
      | (apply W.condKT; exact rfl; (focus (exact dec_true q1; done)))
      | (((show WL _ _ _ (⟨_, .call ⟨.value (.func 119), _, _⟩, _, _, _, _⟩ :: _) _ _ _); apply WL.callP; exact rfl; exact rfl; exact rfl; exact rfl; exact hck _ (by (exact extA)); intro w' hx))
      | (show WL _ _ _ _ _ _ _; first | apply WL.nil | (refine WL.au (k := ?_)))
      | (show Z _ _ _ _ _; first | apply Z.then_normal | apply Z.then_ret)
      | (show W _ _ _ _ _ _; first | apply W.seq | apply W.region | apply W.ret))
    exact Z.body2 Try.results60 rfl rfl fun m => ⟨Ext.at (by (exact extA)) m, .inl ⟨q1, rfl⟩⟩
end Go.Proofs.Ythpnahapiodflaa
namespace Go.Proofs.Ythpnahapiodflaa
open Go Go.Lt Go.RowKit
set_option linter.unusedVariables false
set_option linter.unusedSimpArgs false
set_option maxRecDepth 20000

theorem step_NewG (c : Circ) (w : World) (hC : CAt w c) (hz : SzC c.t 100000) (hz7 : c.t.syms.length ≤ 100000) (hg : chkC c.t = 0) :
    Lt.Spec Try.prog 60 [c.val] w (fun v w' => Ext w w' ∧ ∃ gm d rn ra, v = .tuple #[.pointer (some ⟨gm, 0, none⟩), .int .i64 0] ∧ MAt w' gm d rn ra ∧ d.t = c.t) :=
  (step_New c w hC hz hz7).mono fun v w' ⟨h1, h2⟩ => ⟨h1, h2.elim (fun h => absurd hg h.1) (fun ⟨_, gm, d, rn, ra, h3, h4, h5, _⟩ => ⟨gm, d, rn, ra, h3, h4, h5⟩)⟩
theorem exT_val (s i : List Bool) : stepV exT s i = [false, s.getD 0 false] := by
  unfold stepV; rw [exT_net]; rfl
theorem exT_lit2 (s i : List Bool) : litV exT s i 2 = s.getD 0 false := by
  unfold litV; rw [exT_val, exT_net]
  show ofL [false, s.getD 0 false] (xorI 2 0) = _
  show (s.getD 0 false != false) = _
  cases s.getD 0 false <;> rfl
theorem exT_lit3 (s i : List Bool) : litV exT s i 3 = !s.getD 0 false := by
  unfold litV; rw [exT_val, exT_net]
  show ofL [false, s.getD 0 false] (xorI 2 1) = _
  show (s.getD 0 false != true) = _
  cases s.getD 0 false <;> rfl
theorem exT_starts : StartsP exT [false] := by
  refine ⟨rfl, fun k x b h1 h2 => ?_⟩
  have hk := lt_of_get h2
  simp at hk
  subst hk
  simp at h1 h2
  subst h1; subst h2
  decide
theorem exT_b1 : BreaksP exT [false] [[], []] 0 := by
  refine ⟨exT_starts, by decide, fun j i hj hi => ⟨?_, fun l hl => by cases hl⟩, by decide, 2, rfl, ?_⟩
  · have hj2 : j = 0 ∨ j = 1 := by simp at hj; omega
    rcases hj2 with rfl | rfl <;> simp at hi <;> subst hi <;> rfl
  · rw [exT_lit2]
    show (nextV exT (brV [false] 1) []).getD 0 false = true
    show litV exT (brV [false] 1) [] 3 = true
    rw [exT_lit3]; rfl
theorem exT_b2 : ¬ BreaksP exT [false] [[]] 0 := by
  intro h
  obtain ⟨_, l, h1, h2⟩ := h.2.2.2
  have h1 : exT.bads[0]? = some l := h1
  simp at h1
  subst h1
  rw [exT_lit2] at h2
  have h3 : (brV [false] 1).getD 0 false = true := h2
  exact absurd h3 (by decide)

set_option maxRecDepth 20000 in
set_option maxHeartbeats 16000000 in
theorem law17_lives (w : World) : Pure Try.prog 59 [] w (.bool true) := by
  refine Spec.of _ Try.func59 rfl Try.ntmps59 (by kernel_rfl) rfl ?_
  repeat' (first
    | ((show WL _ _ _ (⟨_, .build 28 _, _, _, _, _⟩ :: _) _ _ _; apply WL.build (cs := [.int .i64 1, .slice none 0 0, .slice (some ⟨g1, 0, none⟩) 1 1, .slice none 0 0, .slice (some ⟨g2, 0, none⟩) 1 1, .slice none 0 0, .slice none 0 0, .slice none 0 0, .string ⟨#[]⟩]) tOk; exact rfl; exact rfl; exact rfl; exact rfl; exact rfl; exact rfl; (first | kernel_rfl | exact rfl); kernel_rfl))
    | (apply WL.build tOk; exact rfl; exact rfl; exact rfl; exact rfl; exact rfl; exact rfl; exact rfl; kernel_rfl)
    | (apply WL.lit tOk; exact rfl; exact rfl; exact rfl; exact rfl; exact rfl; exact rfl; (first | exact rfl | kernel_rfl | (simp [Instr.fill, catCells]; done)); exact rfl; intro gb w' hb hge hc hx; have hO := Own.of_block ([((2, 3, 0) : T3)]) enc3_ok hb hge rfl; (obtain ⟨g1, rfl⟩ : ∃ x, x = gb := ⟨_, rfl⟩; obtain ⟨w1, rfl⟩ : ∃ x, x = w' := ⟨_, rfl⟩; obtain ⟨hx1, rfl⟩ : ∃ x, x = hx := ⟨_, rfl⟩; obtain ⟨hO1, rfl⟩ : ∃ x, x = hO := ⟨_, rfl⟩))
    | (apply WL.lit tOk; exact rfl; exact rfl; exact rfl; exact rfl; exact rfl; exact rfl; (first | exact rfl | kernel_rfl | (simp [Instr.fill, catCells]; done)); exact rfl; intro gb w' hb hge hc hx; have hO := Own.of_block ([(2 : Int)]) encI_ok hb hge rfl; (obtain ⟨g2, rfl⟩ : ∃ x, x = gb := ⟨_, rfl⟩; obtain ⟨w3, rfl⟩ : ∃ x, x = w' := ⟨_, rfl⟩; obtain ⟨hx2, rfl⟩ : ∃ x, x = hx := ⟨_, rfl⟩; obtain ⟨hO2, rfl⟩ : ∃ x, x = hO := ⟨_, rfl⟩))
    | (show WL _ _ _ _ _ _ _; first | apply WL.nil | (refine WL.au (k := ?_)))
    | (show Z _ _ _ _ _; apply Z.then_normal)
    | (show W _ _ _ _ _ _; first | apply W.seq | apply W.region))
  obtain ⟨c, hc⟩ : ∃ c : Circ, c = ⟨1, (none, 0, []), (some ⟨g1, 0, none⟩, 1, [(2, 3, 0)]), (none, 0, []), (some ⟨g2, 0, none⟩, 1, [2]), (none, 0, []), (none, 0, []), (none, 0, []), ⟨#[]⟩⟩ := ⟨_, rfl⟩
  have hct : c.t = exT := by rw [hc]
  have hX2 : Ext w1 w3 := (by (exact extA))
  have hX : Ext w w3 := (by (exact extA))
  have nilK : ∀ {α : Type} (s : Nat) (enc : α → List Value), RowK s enc w3 ((none, 0, []) : RowV α) := fun s enc => ⟨Row.nil _ _ _ _, Nat.le_refl _, fun _ => rfl⟩
  have hC : CAt w3 c := by
    rw [hc]
    exact ⟨nilK _ _, ⟨(hO1.row enc3_ok).ext hX2, Nat.le_refl _, fun h => by cases h⟩, nilK _ _, ⟨hO2.row encI_ok, Nat.le_refl _, fun h => by cases h⟩, nilK _ _, nilK _ _, nilK _ _⟩
  have hz : SzC c.t 100000 := by rw [hct]; unfold SzC; simp
  have hz7 : c.t.syms.length ≤ 100000 := by rw [hct]; simp
  have hnew := fun (w9 : World) (h9 : Ext w3 w9) => step_NewG c w9 (hC.ext h9) hz hz7 (by rw [hct]; exact chkC_good.2 exT_good)
  have hv : c.val = .agg #[.int .i64 1, .slice none 0 0, .slice (some ⟨g1, 0, none⟩) 1 1, .slice none 0 0, .slice (some ⟨g2, 0, none⟩) 1 1, .slice none 0 0, .slice none 0 0, .slice none 0 0, .string ⟨#[]⟩] := by rw [hc]; rfl
  rw [hv, hct] at hnew
  repeat' (first
    | (apply WL.gT; exact rfl; exact rfl; (focus (with_reducible exact dec_true rfl; done)))
    | (apply WL.neNilS tOk; exact rfl; exact rfl; exact rfl; exact rfl; exact rfl; exact rfl)
    | (((show WL _ _ _ (⟨_, .call ⟨.value (.func 60), _, _⟩, _, _, _, _⟩ :: _) _ _ _); apply WL.call; exact rfl; exact rfl; exact rfl; exact rfl; exact hnew _ (Ext.refl _); rintro v' w4 ⟨hx4, gm, d, rn, ra, rfl, hM, hdt⟩))
    | (apply WL.lit tOk; exact rfl; exact rfl; exact rfl; exact rfl; exact rfl; exact rfl; (first | exact rfl | kernel_rfl | (simp [Instr.fill, catCells]; done)); exact rfl; intro gb w' hb hge hc hx; have hO := Own.of_block ([false]) encB_ok hb hge rfl; (obtain ⟨g19, rfl⟩ : ∃ x, x = gb := ⟨_, rfl⟩; obtain ⟨w19, rfl⟩ : ∃ x, x = w' := ⟨_, rfl⟩; obtain ⟨hx19, rfl⟩ : ∃ x, x = hx := ⟨_, rfl⟩; obtain ⟨hO19, rfl⟩ : ∃ x, x = hO := ⟨_, rfl⟩))
    | (apply WL.lit (len := 0) tOk; exact rfl; exact rfl; exact rfl; exact rfl; exact rfl; exact rfl; (first | exact rfl | kernel_rfl | (simp [Instr.fill, catCells]; done)); exact rfl; intro gb w' hb hge hc hx; have hO0 := Own.of_block0 (enc := encB) (s := 1) hb hge; (first | (have h_0 := g20; clear h_0; obtain ⟨g21, rfl⟩ : ∃ x, x = gb := ⟨_, rfl⟩) | (obtain ⟨g20, rfl⟩ : ∃ x, x = gb := ⟨_, rfl⟩)))
    | (apply WL.lit tOk; exact rfl; exact rfl; exact rfl; exact rfl; exact rfl; exact rfl; (first | exact rfl | kernel_rfl | (simp [Instr.fill, catCells]; done)); exact rfl; intro gb w' hb hge hc hx; have hO := Own.of_block ([((some ⟨g20, 0, none⟩, 0, []) : RowV Bool), (some ⟨g21, 0, none⟩, 0, [])]) encRB_ok hb hge rfl; (obtain ⟨g22, rfl⟩ : ∃ x, x = gb := ⟨_, rfl⟩; obtain ⟨w22, rfl⟩ : ∃ x, x = w' := ⟨_, rfl⟩; obtain ⟨hx22, rfl⟩ : ∃ x, x = hx := ⟨_, rfl⟩; obtain ⟨hO22, rfl⟩ : ∃ x, x = hO := ⟨_, rfl⟩))
    | (show WL _ _ _ _ _ _ _; first | apply WL.nil | (refine WL.au (k := ?_)))
    | (show Z _ _ _ _ _; apply Z.then_normal)
    | (show W _ _ _ _ _ _; first | apply W.seq | apply W.region))
  obtain ⟨r, hr⟩ : ∃ r : RunV, r = ⟨(some ⟨g19, 0, none⟩, 1, [false]), (some ⟨g22, 0, none⟩, 2, [(some ⟨g20, 0, none⟩, 0, []), (some ⟨g21, 0, none⟩, 0, [])])⟩ := ⟨_, rfl⟩
  have hX19 : Ext w19 w22 := (by (exact extA))
  have hX22 : Ext w4 w22 := (by (exact extA))
  have hR : RAt w22 r := by
    rw [hr]
    refine ⟨(hO19.row encB_ok).ext hX19, hO22.row encRB_ok, fun x hx => ?_⟩
    have : x = (some ⟨g20, 0, none⟩, 0, []) ∨ x = (some ⟨g21, 0, none⟩, 0, []) := by simpa using hx
    rcases this with rfl | rfl <;> exact Row.nil _ _ _ _
  have hrn : r.ins.2.2.length ≤ 1048576 := by rw [hr]; simp
  have hb1 := fun (w9 : World) (h9 : Ext w22 w9) => step_Breaks gm d rn ra r 0 w9 (hM.ext (hX22.trans h9)) (hR.ext h9) hrn
  have e1 : dec (BreaksP d.t r.s r.i 0) = true := dec_true (by rw [hdt, hr]; exact exT_b1)
  have hrv : r.val = .agg #[.slice (some ⟨g19, 0, none⟩) 1 1, .slice (some ⟨g22, 0, none⟩) 2 2] := by rw [hr]; rfl
  rw [e1, hrv] at hb1
  repeat' (first
    | ((show WL _ _ _ (⟨_, .build 82 _, _, _, _, _⟩ :: _) _ _ _; apply WL.build (cs := [.slice (some ⟨g19, 0, none⟩) 1 1, .slice (some ⟨g22, 0, none⟩) 2 2]) tOk; exact rfl; exact rfl; exact rfl; exact rfl; exact rfl; exact rfl; (first | kernel_rfl | exact rfl); kernel_rfl))
    | (((show WL _ _ _ (⟨_, .call ⟨.value (.func 76), _, _⟩, _, _, _, _⟩ :: _) _ _ _); apply WL.callP; exact rfl; exact rfl; exact rfl; exact rfl; exact hb1 _ (Ext.refl _); intro w23 hx23))
    | (show WL _ _ _ _ _ _ _; (refine WL.au (k := ?_))))
  clear hb1
  repeat' (first
    | (apply WL.lit tOk; exact rfl; exact rfl; exact rfl; exact rfl; exact rfl; exact rfl; (first | exact rfl | kernel_rfl | (simp [Instr.fill, catCells]; done)); exact rfl; intro gb w' hb hge hc hx; have hO := Own.of_block ([false]) encB_ok hb hge rfl; (obtain ⟨g28, rfl⟩ : ∃ x, x = gb := ⟨_, rfl⟩; obtain ⟨w28, rfl⟩ : ∃ x, x = w' := ⟨_, rfl⟩; obtain ⟨hx28, rfl⟩ : ∃ x, x = hx := ⟨_, rfl⟩; obtain ⟨hO28, rfl⟩ : ∃ x, x = hO := ⟨_, rfl⟩))
    | (apply WL.lit (len := 0) tOk; exact rfl; exact rfl; exact rfl; exact rfl; exact rfl; exact rfl; (first | exact rfl | kernel_rfl | (simp [Instr.fill, catCells]; done)); exact rfl; intro gb w' hb hge hc hx; have hO0 := Own.of_block0 (enc := encB) (s := 1) hb hge; (obtain ⟨g29, rfl⟩ : ∃ x, x = gb := ⟨_, rfl⟩))
    | (apply WL.lit tOk; exact rfl; exact rfl; exact rfl; exact rfl; exact rfl; exact rfl; (first | exact rfl | kernel_rfl | (simp [Instr.fill, catCells]; done)); exact rfl; intro gb w' hb hge hc hx; have hO := Own.of_block ([((some ⟨g29, 0, none⟩, 0, []) : RowV Bool)]) encRB_ok hb hge rfl; (obtain ⟨g30, rfl⟩ : ∃ x, x = gb := ⟨_, rfl⟩; obtain ⟨w30, rfl⟩ : ∃ x, x = w' := ⟨_, rfl⟩; obtain ⟨hx30, rfl⟩ : ∃ x, x = hx := ⟨_, rfl⟩; obtain ⟨hO30, rfl⟩ : ∃ x, x = hO := ⟨_, rfl⟩)))
  obtain ⟨r2, hr2⟩ : ∃ r : RunV, r = ⟨(some ⟨g28, 0, none⟩, 1, [false]), (some ⟨g30, 0, none⟩, 1, [(some ⟨g29, 0, none⟩, 0, [])])⟩ := ⟨_, rfl⟩
  have hX28 : Ext w28 w30 := (by (exact extA))
  have hX30 : Ext w4 w30 := (by (exact extA))
  have hR2 : RAt w30 r2 := by
    rw [hr2]
    refine ⟨(hO28.row encB_ok).ext hX28, hO30.row encRB_ok, fun x hx => ?_⟩
    have : x = (some ⟨g29, 0, none⟩, 0, []) := by simpa using hx
    subst this; exact Row.nil _ _ _ _
  have hrn2 : r2.ins.2.2.length ≤ 1048576 := by rw [hr2]; simp
  have hb2 := fun (w9 : World) (h9 : Ext w30 w9) => step_Breaks gm d rn ra r2 0 w9 (hM.ext (hX30.trans h9)) (hR2.ext h9) hrn2
  have e2 : dec (BreaksP d.t r2.s r2.i 0) = false := dec_false (by rw [hdt, hr2]; exact exT_b2)
  have hrv2 : r2.val = .agg #[.slice (some ⟨g28, 0, none⟩) 1 1, .slice (some ⟨g30, 0, none⟩) 1 1] := by rw [hr2]; rfl
  rw [e2, hrv2] at hb2
  have hXw4 : Ext w w4 := (by (exact extA))
  repeat' (first
    | ((show WL _ _ _ (⟨_, .build 82 _, _, _, _, _⟩ :: _) _ _ _; apply WL.build (cs := [.slice (some ⟨g28, 0, none⟩) 1 1, .slice (some ⟨g30, 0, none⟩) 1 1]) tOk; exact rfl; exact rfl; exact rfl; exact rfl; exact rfl; exact rfl; (first | kernel_rfl | exact rfl); kernel_rfl))
    | (((show WL _ _ _ (⟨_, .call ⟨.value (.func 76), _, _⟩, _, _, _, _⟩ :: _) _ _ _); apply WL.callP; exact rfl; exact rfl; exact rfl; exact rfl; exact hb2 _ (Ext.refl _); intro w31 hx31))
    | (show WL _ _ _ _ _ _ _; first | apply WL.nil | (refine WL.au (k := ?_)))
    | (show Z _ _ _ _ _; apply Z.then_normal)
    | (show W _ _ _ _ _ _; apply W.ret))
  exact Z.body1 Try.results59 rfl fun m => ⟨rfl, (hXw4.trans (hX30.trans hx31)).at m⟩

end Go.Proofs.Ythpnahapiodflaa
namespace Go.Proofs.Ythpnahapiodflaa
open Go Go.Lt Go.RowKit
set_option linter.unusedVariables false
set_option linter.unusedSimpArgs false
set_option maxRecDepth 20000

theorem step_InputsN (w : World) : Still Try.prog 62 [.pointer none] w (.int .i64 0) := by
  refine Spec.of _ Try.func62 rfl Try.ntmps62 (by kernel_rfl) rfl ?_
  repeat' (first
    | (apply WL.eqNil tOk; exact rfl; exact rfl; exact rfl; exact rfl; exact rfl; exact rfl)
    | (apply W.condKT; exact rfl; (focus (with_reducible exact dec_true rfl; done)))
    | (show WL _ _ _ _ _ _ _; first | apply WL.nil | (refine WL.au (k := ?_)))
    | (show Z _ _ _ _ _; first | apply Z.then_normal | apply Z.then_ret)
    | (show W _ _ _ _ _ _; first | apply W.seq | apply W.region | apply W.ret))
  exact Z.body1 Try.results62 rfl fun m => ⟨rfl, m, rfl⟩
theorem step_LatchesN (w : World) : Still Try.prog 63 [.pointer none] w (.int .i64 0) := by
  refine Spec.of _ Try.func63 rfl Try.ntmps63 (by kernel_rfl) rfl ?_
  repeat' (first
    | (apply WL.eqNil tOk; exact rfl; exact rfl; exact rfl; exact rfl; exact rfl; exact rfl)
    | (apply W.condKT; exact rfl; (focus (with_reducible exact dec_true rfl; done)))
    | (show WL _ _ _ _ _ _ _; first | apply WL.nil | (refine WL.au (k := ?_)))
    | (show Z _ _ _ _ _; first | apply Z.then_normal | apply Z.then_ret)
    | (show W _ _ _ _ _ _; first | apply W.seq | apply W.region | apply W.ret))
  exact Z.body1 Try.results63 rfl fun m => ⟨rfl, m, rfl⟩
theorem step_StartsN (a : Option Addr) (ca : Nat) (s : List Bool) (w : World) : Still Try.prog 64 [.pointer none, .slice a s.length ca] w (.bool false) := by
  refine Spec.of _ Try.func64 rfl Try.ntmps64 (by kernel_rfl) rfl ?_
  repeat' (first
    | (apply WL.eqNil tOk; exact rfl; exact rfl; exact rfl; exact rfl; exact rfl; exact rfl)
    | (apply WL.gT; exact rfl; exact rfl; (focus (with_reducible exact dec_true rfl; done)))
    | (show WL _ _ _ _ _ _ _; first | apply WL.nil | (refine WL.au (k := ?_)) | (apply WL.guardF; exact rfl; exact rfl))
    | (show Z _ _ _ _ _; first | apply Z.then_normal | apply Z.then_ret)
    | (show W _ _ _ _ _ _; first | apply W.seq | apply W.region | apply W.ret | (apply W.condT; exact rfl)))
  exact Z.body1 Try.results64 rfl fun m => ⟨rfl, m, rfl⟩
theorem step_NextN (a b : Option Addr) (ca cb : Nat) (s i : List Bool) (w : World) : Still Try.prog 67 [.pointer none, .slice a s.length ca, .slice b i.length cb] w (.slice none 0 0) := by
  refine Spec.of _ Try.func67 rfl Try.ntmps67 (by kernel_rfl) rfl ?_
  repeat' (first
    | (apply WL.eqNil tOk; exact rfl; exact rfl; exact rfl; exact rfl; exact rfl; exact rfl)
    | (apply W.condKT; exact rfl; (focus (with_reducible exact dec_true rfl; done)))
    | (show WL _ _ _ _ _ _ _; first | apply WL.nil | (refine WL.au (k := ?_)))
    | (show Z _ _ _ _ _; first | apply Z.then_normal | apply Z.then_ret)
    | (show W _ _ _ _ _ _; first | apply W.seq | apply W.region | apply W.ret))
  exact Z.body1 Try.results67 rfl fun m => ⟨rfl, m, rfl⟩
theorem step_BadN (a b : Option Addr) (ca cb : Nat) (s i : List Bool) (p : Int) (w : World) : Still Try.prog 69 [.pointer none, .slice a s.length ca, .slice b i.length cb, .int .i64 p] w (.bool false) := by
  refine Spec.of _ Try.func69 rfl Try.ntmps69 (by kernel_rfl) rfl ?_
  repeat' (first
    | (apply QL.neNil tOk; exact rfl; exact rfl; exact rfl; exact rfl; exact rfl; exact rfl)
    | (apply QL.gF; exact rfl; exact rfl; (focus (exact dec_false (fun h => h rfl); done)))
    | (show WL _ _ _ _ _ _ _; first | apply WL.nil | (refine WL.au (k := ?_)))
    | (show QL _ _ _ _ _ _ _; first | apply QL.nil | (refine QL.au (k := ?_)) | (apply QL.guardF; exact rfl; exact rfl))
    | (show Z _ _ _ _ _; apply Z.then_normal)
    | (show W _ _ _ _ _ _; first | apply W.seq | apply W.region | apply W.ret | (apply W.regionD tMix; kernel_rfl)))
  exact Z.body1 Try.results69 rfl fun m => ⟨rfl, m, rfl⟩
theorem step_HoldsN (a b : Option Addr) (ca cb : Nat) (s i : List Bool) (w : World) : Still Try.prog 71 [.pointer none, .slice a s.length ca, .slice b i.length cb] w (.bool false) := by
  refine Spec.of _ Try.func71 rfl Try.ntmps71 (by kernel_rfl) rfl ?_
  repeat' (first
    | (apply QL.neNil tOk; exact rfl; exact rfl; exact rfl; exact rfl; exact rfl; exact rfl)
    | (apply QL.gF; exact rfl; exact rfl; (focus (exact dec_false (fun h => h rfl); done)))
    | (show WL _ _ _ _ _ _ _; first | apply WL.nil | (refine WL.au (k := ?_)))
    | (show QL _ _ _ _ _ _ _; first | apply QL.nil | (refine QL.au (k := ?_)) | (apply QL.guardF; exact rfl; exact rfl))
    | (show Z _ _ _ _ _; apply Z.then_normal)
    | (show W _ _ _ _ _ _; first | apply W.seq | apply W.region | apply W.ret | (apply W.regionD tMix; kernel_rfl)))
  exact Z.body1 Try.results71 rfl fun m => ⟨rfl, m, rfl⟩
theorem step_StatesN (r : RunV) (w : World) : Pure Try.prog 74 [.pointer none, r.val] w (.slice none 0 0) := by
  refine Spec.of _ Try.func74 rfl Try.ntmps74 (by kernel_rfl) rfl ?_
  repeat' (first
    | (apply WL.box; exact rfl; exact rfl; exact rfl; intro gb w' hb hge hc hx; have hcc := hc; (first | (obtain ⟨h1, h2, h3, _⟩ := hc) | (obtain ⟨h1, h2, _⟩ := hc)))
    | (apply WL.eqNil tOk; exact rfl; exact rfl; exact rfl; exact rfl; exact rfl; exact rfl)
    | (apply W.condKT; exact rfl; (focus (with_reducible exact dec_true rfl; done)))
    | (show WL _ _ _ _ _ _ _; first | apply WL.nil | (refine WL.au (k := ?_)))
    | (show Z _ _ _ _ _; first | apply Z.then_normal | apply Z.then_ret)
    | (show W _ _ _ _ _ _; first | apply W.seq | apply W.region | apply W.ret))
  exact Z.body1 Try.results74 rfl fun m => ⟨rfl, Ext.at (by (exact extA)) m⟩
theorem step_BreaksN (r : RunV) (p : Int) (w : World) : Pure Try.prog 76 [.pointer none, r.val, .int .i64 p] w (.bool false) := by
  refine Spec.of _ Try.func76 rfl Try.ntmps76 (by kernel_rfl) rfl ?_
  repeat' (first
    | (apply WL.box; exact rfl; exact rfl; exact rfl; intro gb w' hb hge hc hx; have hcc := hc; (first | (obtain ⟨h1, h2, h3, _⟩ := hc) | (obtain ⟨h1, h2, _⟩ := hc)))
    | ((show WL _ _ _ (⟨_, .call ⟨.value (.func 64), _, _⟩, _, _, _, _⟩ :: _) _ _ _); apply WL.callS; exact rfl; exact rfl; exact rfl; exact rfl; exact step_StartsN _ _ r.s _)
    | (show WL _ _ _ _ _ _ _; first | apply WL.nil | (refine WL.au (k := ?_)) | (apply WL.guardF; exact rfl; exact rfl))
    | (show Z _ _ _ _ _; first | apply Z.then_normal | apply Z.then_ret)
    | (show W _ _ _ _ _ _; first | apply W.seq | apply W.region | apply W.ret | (apply W.condT; exact rfl)))
  exact Z.body1 Try.results76 rfl fun m => ⟨rfl, Ext.at (by (exact extA)) m⟩
set_option maxHeartbeats 1000000 in
theorem law_StepNone (a b : Option Addr) (ca cb : Nat) (s i : List Bool) (r : RunV) (p : Int) (w : World) : Pure Try.prog 16 [.slice a s.length ca, .slice b i.length cb, r.val, .int .i64 p] w (.bool true) := by
  refine Spec.of _ Try.func16 rfl Try.ntmps16 (by kernel_rfl) rfl ?_
  repeat' (first
    | (apply WL.box; exact rfl; exact rfl; exact rfl; intro gb w' hb hge hc hx; have hcc := hc; (first | (obtain ⟨h1, h2, h3, _⟩ := hc) | (obtain ⟨h1, h2, _⟩ := hc)))
    | ((show WL _ _ _ (⟨_, .call ⟨.value (.func 62), _, _⟩, _, _, _, _⟩ :: _) _ _ _); apply WL.callS; exact rfl; exact rfl; exact rfl; exact rfl; exact step_InputsN _)
    | ((show WL _ _ _ (⟨_, .call ⟨.value (.func 63), _, _⟩, _, _, _, _⟩ :: _) _ _ _); apply WL.callS; exact rfl; exact rfl; exact rfl; exact rfl; exact step_LatchesN _)
    | ((show WL _ _ _ (⟨_, .call ⟨.value (.func 64), _, _⟩, _, _, _, _⟩ :: _) _ _ _); apply WL.callS; exact rfl; exact rfl; exact rfl; exact rfl; exact step_StartsN _ _ s _)
    | ((show WL _ _ _ (⟨_, .call ⟨.value (.func 67), _, _⟩, _, _, _, _⟩ :: _) _ _ _); apply WL.callS; exact rfl; exact rfl; exact rfl; exact rfl; exact step_NextN _ _ _ _ s i _)
    | ((show WL _ _ _ (⟨_, .call ⟨.value (.func 69), _, _⟩, _, _, _, _⟩ :: _) _ _ _); apply WL.callS; exact rfl; exact rfl; exact rfl; exact rfl; exact step_BadN _ _ _ _ s i p _)
    | ((show WL _ _ _ (⟨_, .call ⟨.value (.func 71), _, _⟩, _, _, _, _⟩ :: _) _ _ _); apply WL.callS; exact rfl; exact rfl; exact rfl; exact rfl; exact step_HoldsN _ _ _ _ s i _)
    | ((show WL _ _ _ (⟨_, .call ⟨.value (.func 74), _, _⟩, _, _, _, _⟩ :: _) _ _ _); apply WL.callP; exact rfl; exact rfl; exact rfl; exact rfl; exact step_StatesN r _; intro w' hx)
    | ((show WL _ _ _ (⟨_, .call ⟨.value (.func 76), _, _⟩, _, _, _, _⟩ :: _) _ _ _); apply WL.callP; exact rfl; exact rfl; exact rfl; exact rfl; exact step_BreaksN r p _; intro w' hx)
    | ((show WL _ _ _ (⟨_, .call ⟨.value (.func 59), _, _⟩, _, _, _, _⟩ :: _) _ _ _); apply WL.callP; exact rfl; exact rfl; exact rfl; exact rfl; exact law17_lives _; intro w' hx)
    | (apply WL.gT; exact rfl; exact rfl; (focus (first | with_reducible exact dec_true rfl | exact dec_true (by omega); done)))
    | (show WL _ _ _ _ _ _ _; first | apply WL.nil | (refine WL.au (k := ?_)))
    | (show Z _ _ _ _ _; apply Z.then_normal)
    | (show W _ _ _ _ _ _; first | apply W.seq | apply W.region | apply W.ret))
  all_goals trace_state
  exact Z.body1 Try.results16 rfl fun m => ⟨rfl, Ext.at (by (exact extA)) m⟩
end Go.Proofs.Ythpnahapiodflaa
namespace Go.Proofs.Ythpnahapiodflaa
open Go Go.Lt Go.RowKit Go.ChangeShapes Go.WideShapes Go.ChangeAt Go.Deep
set_option linter.unusedVariables false
set_option linter.unusedSimpArgs false
set_option maxRecDepth 20000

set_option maxRecDepth 20000 in
theorem run_of {H : Type} {en : TypeId × Value → H} {w : World} {base : Nat} {spare : Nat → Bool} {held : Bool} {r : Reach} {b0 : Nat} {v : Value} {d : DataW H} {ps : List MemPlace} (hval : Value.okWide Try.prog w r b0 82 v) (hd : DataW.Trod en Try.prog w base spare held 82 v d ps) : ∃ r : RunV, v = r.val ∧ RAt w r := by
  obtain ⟨⟨st, ins, _⟩, hv, ks, ki, _⟩ := struct_of (reads_struct Try.underlying82 (by kernel_rfl) (by kernel_rfl) (readsF_cons (reads_row (s := 1) (reads_bool Try.underlying4) (by kernel_rfl) Try.underlying22 (fun _ => rfl) (by decide)) (readsF_cons (reads_row (s := 1) (reads_row (s := 1) (reads_bool Try.underlying4) (by kernel_rfl) Try.underlying22 (fun _ => rfl) (by decide)) (by kernel_rfl) Try.underlying80 (fun _ => rfl) (by decide)) (readsF_nil _)))) Try.underlying82 hval hd
  exact ⟨⟨st, ins⟩, hv, ⟨ks.1, ki.1, fun x hx => (ki.2.2.2.2 x hx).1⟩⟩
end Go.Proofs.Ythpnahapiodflaa
namespace Go.Proofs.Ythpnahapiodflaa
open Go Go.Lt Go.ChangeShapes Go.WideShapes Go.ChangeAt Go.RowKit
set_option linter.unusedVariables false
set_option linter.unusedSimpArgs false
set_option maxRecDepth 20000
open Go.ChangeMaps (open_string shut_string)
namespace stepNone
theorem own : ownKnob Try.prog.godebug = none := by kernel_rfl
theorem laidOut : laidOutB Try.prog = true := factLaid
set_option maxRecDepth 100000 in
theorem lifted (os : Os) (started : os.Started) (H : Type) (enc : TypeId × Value → H) :
    ReturnsInHanded {} Try.checked os 16 .any (Rows.stepNoneSpec.pre6 enc Try.prog Try.f16 Rows.stepNoneRow.domain false) (Rows.stepNoneSpec.post enc Try.prog Try.f16 false true false false) := by
  refine returnsInHanded_of_change (C := Try.checked) own started (by kernel_rfl) Try.func16
    (ChangeSpec.witness6 (enc := enc) (C := Try.checked) false ⟨#[], #[.slice none 0 0, .slice none 0 0, .agg #[.slice none 0 0, .slice none 0 0], .int .i64 0], []⟩ 8 (by kernel_rfl) (by kernel_rfl) (by kernel_rfl) (by kernel_rfl)) ?_
  intro W base args ds gs before hval0 hW hcnd _
  have hval : ∀ (j : Nat) t v, Try.f16.params[j]? = some t → args[j]? = some v → Value.okWide Try.prog W .any base t v := hval0
  have hW' := hW
  obtain ⟨p, q, hA0, hV, rfl, hfz, hnd⟩ := hW
  have hA : DataW.TrodAll enc Try.prog W 0 (fun _ => true) true Try.f16.params.toList args.toList ds p := hA0
  rw [Try.params16] at hA hval
  obtain ⟨v0, vs0, d0, ds0, p0, q0, hargs, rfl, rfl, h0, r0⟩ := trodAll_cons hA
  obtain ⟨v1, vs1, d1, ds1, p1, q1, rfl, rfl, rfl, h1, r1⟩ := trodAll_cons r0
  obtain ⟨v2, vs2, d2, ds2, p2, q2, rfl, rfl, rfl, h2, r2⟩ := trodAll_cons r1
  obtain ⟨v3, vs3, d3, ds3, p3, q3, rfl, rfl, rfl, h3, r3⟩ := trodAll_cons r2
  obtain ⟨rfl, rfl, rfl⟩ := trodAll_nil r3
  obtain rfl : args = #[v0, v1, v2, v3] := by cases args; simp_all
  obtain ⟨rfl, rfl⟩ := trodVars_none hV
  have k0 := h0
  have lt0 : ∀ x ∈ p0, x.block < W.heap.size := by obtain ⟨m, hm⟩ := k0; exact DataW.trod_lt m _ _ _ hm
  have k1 := h1
  have lt1 : ∀ x ∈ p1, x.block < W.heap.size := by obtain ⟨m, hm⟩ := k1; exact DataW.trod_lt m _ _ _ hm
  have k2 := h2
  have lt2 : ∀ x ∈ p2, x.block < W.heap.size := by obtain ⟨m, hm⟩ := k2; exact DataW.trod_lt m _ _ _ hm
  have k3 := h3
  have lt3 : ∀ x ∈ p3, x.block < W.heap.size := by obtain ⟨m, hm⟩ := k3; exact DataW.trod_lt m _ _ _ hm
  obtain ⟨a0, l0, cap0, rfl, hl0, hm0, hna0, R0, w0⟩ := row_of (s := 1) (reads_bool Try.underlying4) (by kernel_rfl) Try.underlying22 (fun _ => rfl) (by decide) (hval 0 22 v0 rfl rfl) h0
  obtain ⟨a1, l1, cap1, rfl, hl1, hm1, hna1, R1, w1⟩ := row_of (s := 1) (reads_bool Try.underlying4) (by kernel_rfl) Try.underlying22 (fun _ => rfl) (by decide) (hval 1 22 v1 rfl rfl) h1
  obtain ⟨r2v, rfl, hR2⟩ := run_of (hval 2 82 v2 rfl rfl) h2
  obtain ⟨n3, rfl, rfl, rfl, w3⟩ := open_int Try.underlying3 (hval 3 3 v3 rfl rfl) h3
  clear hA0 hval0
  refine (Spec.law (law_StepNone a0 a1 cap0 cap1 l0 l1 r2v n3 W)).mono fun e W' ⟨he, bel⟩ => ?_
  subst he
  exact ⟨_, rfl, _, _, _, [], _, [], hW', trodAll_mk1 (shut_bool Try.underlying4 _), (trodAll_cons_mk (Below.trod laidOut (by kernel_rfl) (of_decide_eq_true (by kernel_rfl)) k0 bel lt0) (trodAll_cons_mk (Below.trod laidOut (by kernel_rfl) (of_decide_eq_true (by kernel_rfl)) k1 bel lt1) (trodAll_cons_mk (Below.trod laidOut (by kernel_rfl) (of_decide_eq_true (by kernel_rfl)) k2 bel lt2) (trodAll_cons_mk (Below.trod laidOut (by kernel_rfl) (of_decide_eq_true (by kernel_rfl)) k3 bel lt3) trodAll_mk0)))), rfl, bel.frame _, fun h => by cases h⟩
theorem j0 : (Rows.stepNoneRow.wf (OpenSpec.ofChange Rows.stepNoneSpec)) = true := by kernel_rfl
theorem j3 : (Try.f16.params.all (Try.prog.readableRec ·)) = true := by kernel_rfl
theorem j4 : (namedTie Try.prog Rows.stepNoneRow.named Rows.stepNoneSpec.vars) = true := by kernel_rfl
theorem j5 : ((Rows.stepNoneRow.stops == [])) = true := by kernel_rfl
theorem j7 : ((Rows.stepNoneRow.knobs == [])) = true := by kernel_rfl
theorem j9 : ((Rows.stepNoneRow.inPlace == Try.prog.inPlace 16)) = true := by kernel_rfl
theorem j10 : ((Rows.stepNoneRow.unfollowed == Try.prog.unfollowed 16)) = true := by kernel_rfl
theorem j11 : ((Rows.stepNoneRow.recurses == Try.prog.recurses 16)) = true := by kernel_rfl
theorem j12 : ((Rows.stepNoneRow.named == Try.prog.varsNamed 16)) = true := by kernel_rfl
theorem j13 : ((Rows.stepNoneRow.maps == (Try.f16.params.toList ++ Rows.stepNoneSpec.plain.varTypes Try.prog).any (Try.prog.mapsRec ·))) = true := by kernel_rfl
theorem j14 : ((Rows.stepNoneRow.ifaces == (Try.f16.params.toList ++ Rows.stepNoneSpec.plain.varTypes Try.prog).any (Try.prog.ifacesRec ·))) = true := by kernel_rfl
theorem j15 : ((Rows.stepNoneRow.mapsOut == Try.prog.mapsAmong Try.f16.resultTypes.toList)) = true := by kernel_rfl
theorem j16 : ((Rows.stepNoneRow.loops == (Try.f16.params.toList ++ Rows.stepNoneSpec.plain.varTypes Try.prog).any (Try.prog.loopsFrom ·))) = true := by kernel_rfl
theorem j17 : ((Rows.stepNoneRow.wideKeys == (Try.f16.params.toList ++ Rows.stepNoneSpec.plain.varTypes Try.prog ++ Try.f16.resultTypes.toList).any (Try.prog.wideKeysFrom ·))) = true := by kernel_rfl
theorem j18 : (Rows.stepNoneSpec.vars.all (Try.prog.varReadable ·)) = true := by kernel_rfl
theorem j19 : (Try.f16.resultTypes.all (fun t => Try.prog.readableRec t && decide (t < Try.prog.types.size))) = true := by kernel_rfl
theorem j20 : ((Rows.stepNoneRow.ifacesOut == Try.f16.resultTypes.toList.any (Try.prog.ifacesRec ·))) = true := by kernel_rfl
theorem j21 : ((Rows.stepNoneRow.loopsOut == Try.f16.resultTypes.toList.any (Try.prog.loopsFrom ·))) = true := by kernel_rfl
theorem j22 : ((Rows.stepNoneRow.plainKeys == Try.prog.plainKeys)) = true := by rw [show Rows.stepNoneRow.plainKeys = Rows.genCountsRow.plainKeys by kernel_rfl]; exact factKeys
theorem j23 : (Rows.stepNoneRow.shortTexts.isNone) = true := by kernel_rfl
theorem j26 : ((Rows.stepNoneRow.lifted == Try.prog.liftsFinal)) = true := by rw [show Rows.stepNoneRow.lifted = Rows.genCountsRow.lifted by kernel_rfl]; exact factLifts
theorem j27 : ((Try.prog.make == some Rows.stepNoneRow.make)) = true := by rw [show Rows.stepNoneRow.make = Rows.genCountsRow.make by kernel_rfl]; exact factMake
theorem j28 : ((Rows.stepNoneRow.kinds == (if Rows.stepNoneRow.domain.isEmpty then [] else Try.f16.params.toList.map fun t => match Try.prog.underlying t with | some (.int k) => some k | _ => none))) = true := by kernel_rfl
theorem j29 : ((Rows.stepNoneRow.pinned == Rows.stepNoneRow.pinnedBy)) = true := by kernel_rfl
theorem j30 : ((Rows.stepNoneRow.veiled == (Try.f16.params.toList ++ Rows.stepNoneSpec.plain.varTypes Try.prog ++ Try.f16.resultTypes.toList).any (Try.prog.veiledRec ·))) = true := by kernel_rfl
theorem j31 : (Rows.stepNoneRow.veiledFits Try.prog Try.f16.params.toList (Try.f16.params.toList ++ Rows.stepNoneSpec.plain.varTypes Try.prog ++ Try.f16.resultTypes.toList)) = true := by kernel_rfl
set_option maxRecDepth 100000 in
theorem closed : joinedFacts Try.checked.prog 16 Try.f16 Rows.stepNoneSpec Rows.stepNoneRow = true := by unfold joinedFacts; exact (band (band (band (band (band (band (band (band (band (band (band (band (band (band (band (band (band (band (band (band (band (band (band (band (band (band (band (band (band (band (band j0 factLaid) factMaps) j3) j4) j5) factStops) j7) factKnobs) j9) j10) j11) j12) j13) j14) j15) j16) j17) j18) j19) j20) j21) j22) j23) factHeard) factEnter) j26) j27) j28) j29) j30) j31)
theorem named : Try.checked.prog.funcNamed Rows.stepNoneRow.func = some 16 := by kernel_rfl
theorem over : Rows.stepNoneRow.holds Try.pinned (OpenSpec.ofChange Rows.stepNoneSpec) :=
  OpenClaim.holds_of_wide 16 Try.f16 rfl rfl rfl rfl rfl rfl rfl ⟨rfl, rfl, rfl, rfl, rfl⟩ rfl rfl rfl rfl rfl named Try.func16 closed
    (of_decide_eq_true (by kernel_rfl)) (by unfold Func.isWrapper; first | (rw [if_pos (by decide +kernel)]; kernel_rfl) | (rw [if_neg (by decide +kernel)]; exact ⟨rfl, rfl⟩))
    (fun os started H enc _ => lifted os started H enc)
/-- The statement. -/
theorem proved : Rows.StepNoneSaid := over
end stepNone
end Go.Proofs.Ythpnahapiodflaa
