/- GenCounts: a counter of any size breaks just behind inputs that count up to it. No conditions. -/
import Derived.Test.YthpnahapiodflaaRows
import Derived.Lib.SmallJoins
import Derived.KernelRfl
import Derived.WalkKit
import Derived.ProofKit
import Derived.Deep.Quiet
import Derived.Deep.LoopGhost
import Derived.StillTail
import Derived.Test.YthpnahapiodflaaProg
import Derived.OpenShut
import Derived.ShutString
import Derived.ChangeOld
import Derived.Deep.Slices
import Derived.SizedLaws
import Derived.Laws.StructEq
import Derived.Laws.Externs
import Derived.MapKept
import Derived.Test.YthpnahapiodflaaGenCountsP4
namespace Go.Proofs.Ythpnahapiodflaa
open Go Go.Lt Go.RowKit
set_option linter.unusedVariables false
set_option linter.unusedSimpArgs false
set_option maxRecDepth 20000

theorem gen_startL {nin : Nat} {next reset : List Int} {b : Rest} {N : List (Int × Int)} (h : reset.length = next.length) : startL (genC nin next reset b N) = reset.map fun z => dec (z = 1) := by
  unfold startL genC latsG
  dsimp only
  rw [List.map_map]
  apply List.ext_getElem?
  intro i
  by_cases hi : i < next.length
  · obtain ⟨z, hz⟩ := getI reset (show i < reset.length by omega)
    rw [List.getElem?_map, List.getElem?_range hi, List.getElem?_map, hz]
    show some (dec (reset.getD i 0 = 1)) = _
    rw [getD_of hz]; rfl
  · rw [List.getElem?_eq_none (by simp; omega), List.getElem?_eq_none (by simp; omega)]
theorem rep_startL {nin n : Nat} {next : List Int} {b : Rest} {N : List (Int × Int)} (h : next.length = n) : startL (genC nin next (List.replicate n 0) b N) = List.replicate n false := by
  rw [gen_startL (by rw [List.length_replicate, h]), rep_start]
/-- A circuit that was told, and what is asked of it. -/
structure GenD (d : Circ) (nin : Nat) (next reset : List Int) (b : Int) (N : List (Int × Int)) : Prop where
  t : d.t = genC nin next reset (badR b) N
  ok : GenOk nin next reset (badR b) N
  small : N.length ≤ 2000
  few : nin ≤ 1
  lats : next.length ≤ 1000
theorem GenD.good {d : Circ} {nin : Nat} {next reset : List Int} {b : Int} {N : List (Int × Int)} (h : GenD d nin next reset b N) : GoodC' d.t := by rw [h.t]; exact genC_good h.ok
theorem GenD.sz {d : Circ} {nin : Nat} {next reset : List Int} {b : Int} {N : List (Int × Int)} (h : GenD d nin next reset b N) : SzC d.t 100000 := by
  rw [h.t]
  have := h.few
  have := h.small
  exact gen_sz (by omega) h.lats (by omega)
theorem GenD.ins {d : Circ} {nin : Nat} {next reset : List Int} {b : Int} {N : List (Int × Int)} (h : GenD d nin next reset b N) : d.ins.2.2.length = nin := by
  have : d.t.ins.length = nin := by rw [h.t]; exact evenL_len _ _
  exact this
theorem GenD.lat {d : Circ} {nin : Nat} {next reset : List Int} {b : Int} {N : List (Int × Int)} (h : GenD d nin next reset b N) : d.lat.2.2.length = next.length := by
  have : d.t.lat.length = next.length := by rw [h.t]; exact latsG_len _ _ _
  exact this
theorem GenD.plain {d : Circ} {nin : Nat} {next reset : List Int} {b : Int} {N : List (Int × Int)} (h : GenD d nin next reset b N) (w : World) (hC : CAt w d) : Pure Try.prog 20 [d.val, .int .i64 0, .int .i64 nin, .int .i64 next.length] w (.bool true) := by
  have hm : d.max = (N.length : Int) := by have : d.t.max = (N.length : Int) := by rw [h.t]; rfl
                                           exact this
  have h3 : d.bads.2.2 = [b] := by have : d.t.bads = [b] := by rw [h.t]; rfl
                                   exact this
  have h4 : d.outs.2.2 = [] := by have : d.t.outs = [] := by rw [h.t]; rfl
                                  exact this
  have h5 : d.cons.2.2 = [] := by have : d.t.cons = [] := by rw [h.t]; rfl
                                  exact this
  have h6 : d.syms.2.2 = [] := by have : d.t.syms = [] := by rw [h.t]; rfl
                                  exact this
  have h7 : d.com = ⟨#[]⟩ := by have : d.t.com = ⟨#[]⟩ := by rw [h.t]; rfl
                                exact this
  exact law49_plain d nin next.length w hC h.good h.sz (by have := h.small; omega) (by rw [h.ins]) (by rw [h.lat]) (by rw [h3]; rfl) (by rw [h4]; rfl) (by rw [h5]; rfl) (by rw [h6]; rfl) (by rw [h7]; rfl)
theorem GenD.run {d : Circ} {nin : Nat} {next reset : List Int} {b : Int} {N : List (Int × Int)} (h : GenD d nin next reset b N) (w : World) (hC : CAt w d) (bo : Option Addr) (bc : Nat) (ins : List Bool) (RB : Row 1 encB w bo ins) (hil : ins.length ≤ 1000) {S : List Bool} (hS : startL (genC nin next reset (badR b) N) = S) {p : Prop} (hp : BreaksP (genC nin next reset (badR b) N) S (runL nin ins) 0 ↔ p) : Pure Try.prog 21 [d.val, .slice bo ins.length bc] w (.bool (dec p)) := by
  have h1 := law49_run d bo bc ins w hC h.good h.sz (by have := h.few; rw [h.ins]; exact this) RB hil
  rw [h.ins, h.t, hS, dec_congr hp] at h1
  exact h1
theorem sh_int (m : Nat) : ((2 : Nat) ^ m : Nat) = ((2 : Int) ^ m) := by rw [Int.natCast_pow]; rfl
set_option maxHeartbeats 8000000 in
theorem law_GenCounts (n t : Int) (bo : Option Addr) (bc : Nat) (ins : List Bool) (w : World) (RB : Row 1 encB w bo ins) (hl : ins.length ≤ bc) :
    Pure Try.prog 3 [.int .i64 n, .int .i64 t, .slice bo ins.length bc] w (.bool true) := by
  have hil := RB.len
  refine Spec.of _ Try.func3 rfl Try.ntmps3 (by kernel_rfl) rfl ?_
  repeat' (first
    | (show WL _ _ _ _ _ _ _; first | apply WL.nil | (refine WL.au (k := ?_)))
    | (show Z _ _ _ _ _; apply Z.then_normal)
    | (show W _ _ _ _ _ _; first | apply W.seq | apply W.region))
  refine W.cutT (σ := World) (fun w' => w' = w) (fun _ => [(0, .int .i64 n), (1, .int .i64 t), (2, .slice bo (ins.take 60).length bc)]) (fun w' => w') ?_ ?_
  · by_cases h60 : 60 < ins.length
    · refine W.condKT rfl (dec_true (by omega)) ?_
      repeat' (first
        | (apply WL.sliceH tOk; exact rfl; exact rfl; exact rfl; exact rfl; exact rfl; exact rfl; exact rfl; assumption; (first | exact rfl | (focus (simp only [List.length_set]; done)) | (focus (simp; done)) | (focus (simp [*]; done)) | omega | (focus (simp only [List.length_set]; omega))); (first | assumption | omega); (first | omega | (simp; omega) | (simp at *; omega)); intro hR hc)
        | (show WL _ _ _ _ _ _ _; first | apply WL.nil | (refine WL.au (k := ?_)))
        | (show W _ _ _ _ _ _; apply W.region))
      exact Z.cut _ rfl ⟨rfl, rfl, rfl, trivial⟩ rfl
    · refine W.condKF rfl (dec_false (by omega)) ?_
      repeat' (first
        | (show W _ _ _ _ _ _; apply W.skip))
      rw [List.take_of_length_le (show ins.length ≤ 60 by omega)]
      exact Z.cut _ rfl ⟨rfl, rfl, rfl, trivial⟩ rfl
  rintro w' rfl
  have R2 := RB.take 60
  have hl2 : (ins.take 60).length ≤ 60 := by rw [List.length_take]; omega
  generalize ins.take 60 = is at R2 hl2 ⊢
  clear RB hil hl
  by_cases hb : 1 ≤ n ∧ n ≤ 20 ∧ 0 ≤ t ∧ t < 2 ^ n.toNat
  · obtain ⟨b1, b2, b3, b4⟩ := hb
    obtain ⟨m, rfl⟩ := Int.eq_ofNat_of_zero_le (show 0 ≤ n by omega)
    obtain ⟨a, rfl⟩ := Int.eq_ofNat_of_zero_le b3
    rw [Int.toNat_natCast] at b4
    have hp := pow20 (show m ≤ 20 by omega)
    have ha : a < 2 ^ m := by have := sh_int m; omega
    have hi := cnt_inv m a m (Nat.le_refl _)
    repeat' (first
      | (((show WL _ _ _ (⟨_, .call ⟨.value (.func 17), _, _⟩, _, _, _, _⟩ :: _) _ _ _); apply WL.call; exact rfl; exact rfl; exact rfl; exact rfl; exact gen_Counter _ m a (by omega) (by omega) ha; rintro v' w2 ⟨hx2, d, rfl, hdt, hCd⟩))
      | (apply WL.alloc tOk; exact rfl; exact rfl; exact rfl; intro gb w' hb hge hx; (obtain ⟨g1, rfl⟩ : ∃ x, x = gb := ⟨_, rfl⟩; obtain ⟨hge1, rfl⟩ : ∃ x, x = hge := ⟨_, rfl⟩))
      | (apply WL.storeB (w0 := w2) tOk; exact rfl; exact rfl; exact rfl; exact rfl; assumption; (exact extA); exact rfl; exact rfl; exact rfl; (exact extA); (first | assumption | omega | (focus (apply Nat.le_trans; rotate_left; assumption; exact Below.size (by (exact extA)); done))); intro w' hb hc hX' hU; have hcc := hc; obtain ⟨h1, h2, _⟩ := hc; (obtain ⟨w3, rfl⟩ : ∃ x, x = w' := ⟨_, rfl⟩; obtain ⟨hb3, rfl⟩ : ∃ x, x = hb := ⟨_, rfl⟩; obtain ⟨hX3, rfl⟩ : ∃ x, x = hX' := ⟨_, rfl⟩; have hcd := cells_heap hb3))
      | ((apply WL.shl; exact rfl; exact rfl; exact rfl; exact rfl; omega; omega))
      | (apply WL.gF; exact rfl; exact rfl; (focus (first | exact dec_false (by omega); done)))
      | (show WL _ _ _ _ _ _ _; first | apply WL.nil | (refine WL.au (k := ?_)))
      | (show Z _ _ _ _ _; apply Z.then_normal)
      | (show W _ _ _ _ _ _; first | apply W.seq | apply W.region))
    refine W.condKF rfl (dec_false (by omega)) ?_
    have hG : GenD d 1 (cntTo m a m).next (List.replicate m 0) (cntN m a).1 (cntN m a).2 := ⟨hdt, cntC_ok (by omega), by have := cntN_len m a; omega, by omega, by rw [hi.nlen]; omega⟩
    have hC3 := hCd.ext hX3
    have hXw3 : Ext _ w3 := hx2.trans hX3
    have R3 := R2.ext hXw3
    have hpl := fun (w9 : World) (h9 : Ext w3 w9) => hG.plain w9 (hC3.ext h9)
    rw [hi.nlen] at hpl
    have hrn := fun (w9 : World) (h9 : Ext w3 w9) => hG.run w9 (hC3.ext h9) bo bc is (R3.ext h9) (by omega) (rep_startL hi.nlen) (cnt_breaks (by omega) ha is)
    repeat' (first
      | (((show WL _ _ _ (⟨_, .call ⟨.value (.func 20), _, _⟩, _, _, _, _⟩ :: _) _ _ _); apply WL.callP; exact rfl; exact rfl; exact rfl; exact rfl; exact hpl _ (by (exact extA)); intro w4 hx4))
      | (((show WL _ _ _ (⟨_, .call ⟨.value (.func 21), _, _⟩, _, _, _, _⟩ :: _) _ _ _); apply WL.callP; exact rfl; exact rfl; exact rfl; exact rfl; exact hrn _ (by (exact extA)); intro w5 hx5))
      | ((show WL _ _ _ (⟨_, .call ⟨.value (.func 22), _, _⟩, _, _, _, _⟩ :: _) _ _ _); apply WL.callS; exact rfl; exact rfl; exact rfl; exact rfl; exact ref49_Counter m a bo bc is _ (R3.ext (by (exact extA))) (by omega) (by omega))
      | (apply WL.gT; exact rfl; exact rfl; (focus (exact dec_true rfl; done)))
      | ((show WL _ _ _ (⟨_, .call ⟨.value (.func 19), _, _⟩, _, _, _, _⟩ :: _) _ _ _); apply WL.callP; exact rfl; exact rfl; exact rfl; exact rfl; exact law49_lives _; intro w' hx)
      | (show WL _ _ _ _ _ _ _; first | apply WL.nil | (refine WL.au (k := ?_)))
      | (show Z _ _ _ _ _; apply Z.then_normal)
      | (show W _ _ _ _ _ _; first | apply W.seq | apply W.region | apply W.skip | apply W.ret))
    exact Z.body1 Try.results3 rfl fun m => ⟨rfl, Ext.at (hXw3.trans (by (exact extA))) m⟩
  · have hno := gen_CounterNo w' n t hb
    have hcs : n < 1 ∨ (1 ≤ n ∧ 20 < n) ∨ (1 ≤ n ∧ n ≤ 20 ∧ t < 0) ∨ (1 ≤ n ∧ n ≤ 20 ∧ 0 ≤ t ∧ 2 ^ n.toNat ≤ t) := by omega
    obtain ⟨m, hm⟩ : ∃ m, m = n.toNat := ⟨_, rfl⟩
    rw [← hm] at hcs
    rcases hcs with hc | hc | hc | hc
    rotate_right
    · obtain ⟨b1, b2, b3, b4⟩ := hc
      obtain rfl : n = (m : Int) := by omega
      have hp := pow20 (show m ≤ 20 by omega)
      repeat' (first
        | (((show WL _ _ _ (⟨_, .call ⟨.value (.func 17), _, _⟩, _, _, _, _⟩ :: _) _ _ _); apply WL.call; exact rfl; exact rfl; exact rfl; exact rfl; exact hno; rintro v' w2 ⟨hx2, rfl⟩))
        | ((apply WL.shl; exact rfl; exact rfl; exact rfl; exact rfl; omega; omega))
        | (apply WL.alloc tOk; exact rfl; exact rfl; exact rfl; intro gb w' hb hge hx; (obtain ⟨g1, rfl⟩ : ∃ x, x = gb := ⟨_, rfl⟩; obtain ⟨hge1, rfl⟩ : ∃ x, x = hge := ⟨_, rfl⟩))
        | (apply WL.storeB (w0 := w2) tOk; exact rfl; exact rfl; exact rfl; exact rfl; assumption; (exact extA); exact rfl; exact rfl; exact rfl; (exact extA); (first | assumption | omega | (focus (apply Nat.le_trans; rotate_left; assumption; exact Below.size (by (exact extA)); done))); intro w' hb hc hX' hU; have hcc := hc; obtain ⟨h1, h2, _⟩ := hc; (obtain ⟨w3, rfl⟩ : ∃ x, x = w' := ⟨_, rfl⟩; obtain ⟨hb3, rfl⟩ : ∃ x, x = hb := ⟨_, rfl⟩; obtain ⟨hX3, rfl⟩ : ∃ x, x = hX' := ⟨_, rfl⟩; have hcd : Cells w3 g1 0 zCirc.vals := cells_heap hb3))
        | (apply WL.gF; exact rfl; exact rfl; (focus (first | exact dec_true (by omega) | exact dec_false (by omega); done)))
        | (show WL _ _ _ _ _ _ _; first | apply WL.nil | (refine WL.au (k := ?_)))
        | (show Z _ _ _ _ _; apply Z.then_normal)
        | (show W _ _ _ _ _ _; first | apply W.seq | apply W.region))
      refine W.condKT rfl (by first | exact rfl | exact dec_true (by omega)) ?_
      have hXw3 : Ext _ w3 := hx2.trans hX3
      repeat' (first
        | (((show WL _ _ _ (⟨_, .call ⟨.value (.func 18), _, _⟩, _, _, _, _⟩ :: _) _ _ _); apply WL.callP; exact rfl; exact rfl; exact rfl; exact rfl; exact law49_refused zCirc _ (zCirc_at _) rfl; intro w4 hx4))
        | ((show WL _ _ _ (⟨_, .call ⟨.value (.func 19), _, _⟩, _, _, _, _⟩ :: _) _ _ _); apply WL.callP; exact rfl; exact rfl; exact rfl; exact rfl; exact law49_lives _; intro w' hx)
        | (show WL _ _ _ _ _ _ _; first | apply WL.nil | (refine WL.au (k := ?_)))
        | (show Z _ _ _ _ _; first | apply Z.then_normal | apply Z.then_ret)
        | (show W _ _ _ _ _ _; first | apply W.seq | apply W.region | apply W.ret))
      exact Z.body1 Try.results3 rfl fun m => ⟨rfl, Ext.at (hXw3.trans (by (exact extA))) m⟩
    all_goals
      repeat' (first
        | (((show WL _ _ _ (⟨_, .call ⟨.value (.func 17), _, _⟩, _, _, _, _⟩ :: _) _ _ _); apply WL.call; exact rfl; exact rfl; exact rfl; exact rfl; exact hno; rintro v' w2 ⟨hx2, rfl⟩))
        | (apply WL.alloc tOk; exact rfl; exact rfl; exact rfl; intro gb w' hb hge hx; (obtain ⟨g1, rfl⟩ : ∃ x, x = gb := ⟨_, rfl⟩; obtain ⟨hge1, rfl⟩ : ∃ x, x = hge := ⟨_, rfl⟩))
        | (apply WL.storeB (w0 := w2) tOk; exact rfl; exact rfl; exact rfl; exact rfl; assumption; (exact extA); exact rfl; exact rfl; exact rfl; (exact extA); (first | assumption | omega | (focus (apply Nat.le_trans; rotate_left; assumption; exact Below.size (by (exact extA)); done))); intro w' hb hc hX' hU; have hcc := hc; obtain ⟨h1, h2, _⟩ := hc; (obtain ⟨w3, rfl⟩ : ∃ x, x = w' := ⟨_, rfl⟩; obtain ⟨hb3, rfl⟩ : ∃ x, x = hb := ⟨_, rfl⟩; obtain ⟨hX3, rfl⟩ : ∃ x, x = hX' := ⟨_, rfl⟩; have hcd : Cells w3 g1 0 zCirc.vals := cells_heap hb3))
        | (apply WL.gT; exact rfl; exact rfl; (focus (first | exact dec_true (by omega) | exact dec_false (by omega); done)))
        | (apply WL.gF; exact rfl; exact rfl; (focus (first | exact dec_true (by omega) | exact dec_false (by omega); done)))
        | (show WL _ _ _ _ _ _ _; first | apply WL.nil | (refine WL.au (k := ?_)) | (apply WL.guardF; exact rfl; exact rfl))
        | (show Z _ _ _ _ _; apply Z.then_normal)
        | (show W _ _ _ _ _ _; first | apply W.seq | apply W.region))
      refine W.condKT rfl (by first | exact rfl | exact dec_true (by omega)) ?_
      have hXw3 : Ext _ w3 := hx2.trans hX3
      repeat' (first
        | (((show WL _ _ _ (⟨_, .call ⟨.value (.func 18), _, _⟩, _, _, _, _⟩ :: _) _ _ _); apply WL.callP; exact rfl; exact rfl; exact rfl; exact rfl; exact law49_refused zCirc _ (zCirc_at _) rfl; intro w4 hx4))
        | ((show WL _ _ _ (⟨_, .call ⟨.value (.func 19), _, _⟩, _, _, _, _⟩ :: _) _ _ _); apply WL.callP; exact rfl; exact rfl; exact rfl; exact rfl; exact law49_lives _; intro w' hx)
        | (show WL _ _ _ _ _ _ _; first | apply WL.nil | (refine WL.au (k := ?_)))
        | (show Z _ _ _ _ _; first | apply Z.then_normal | apply Z.then_ret)
        | (show W _ _ _ _ _ _; first | apply W.seq | apply W.region | apply W.ret))
      exact Z.body1 Try.results3 rfl fun m => ⟨rfl, Ext.at (hXw3.trans (by (exact extA))) m⟩
end Go.Proofs.Ythpnahapiodflaa
namespace Go.Proofs.Ythpnahapiodflaa
open Go Go.Lt Go.ChangeShapes Go.WideShapes Go.ChangeAt Go.RowKit
set_option linter.unusedVariables false
set_option linter.unusedSimpArgs false
set_option maxRecDepth 20000
open Go.ChangeMaps (open_string shut_string)
namespace genCounts
theorem own : ownKnob Try.prog.godebug = none := by kernel_rfl
theorem laidOut : laidOutB Try.prog = true := factLaid
set_option maxRecDepth 100000 in
theorem lifted (os : Os) (started : os.Started) (H : Type) (enc : TypeId × Value → H) :
    ReturnsInHanded {} Try.checked os 3 .any (Rows.genCountsSpec.pre6 enc Try.prog Try.f3 Rows.genCountsRow.domain false) (Rows.genCountsSpec.post enc Try.prog Try.f3 false true false false) := by
  refine returnsInHanded_of_change (C := Try.checked) own started (by kernel_rfl) Try.func3
    (ChangeSpec.witness6 (enc := enc) (C := Try.checked) false ⟨#[], #[.int .i64 0, .int .i64 0, .slice none 0 0], []⟩ 8 (by kernel_rfl) (by kernel_rfl) (by kernel_rfl) (by kernel_rfl)) ?_
  intro W base args ds gs before hval0 hW hcnd _
  have hval : ∀ (j : Nat) t v, Try.f3.params[j]? = some t → args[j]? = some v → Value.okWide Try.prog W .any base t v := hval0
  have hW' := hW
  obtain ⟨p, q, hA0, hV, rfl, hfz, hnd⟩ := hW
  have hA : DataW.TrodAll enc Try.prog W 0 (fun _ => true) true Try.f3.params.toList args.toList ds p := hA0
  rw [Try.params3] at hA hval
  obtain ⟨v0, vs0, d0, ds0, p0, q0, hargs, rfl, rfl, h0, r0⟩ := trodAll_cons hA
  obtain ⟨v1, vs1, d1, ds1, p1, q1, rfl, rfl, rfl, h1, r1⟩ := trodAll_cons r0
  obtain ⟨v2, vs2, d2, ds2, p2, q2, rfl, rfl, rfl, h2, r2⟩ := trodAll_cons r1
  obtain ⟨rfl, rfl, rfl⟩ := trodAll_nil r2
  obtain rfl : args = #[v0, v1, v2] := by cases args; simp_all
  obtain ⟨rfl, rfl⟩ := trodVars_none hV
  have k0 := h0
  have lt0 : ∀ x ∈ p0, x.block < W.heap.size := by obtain ⟨m, hm⟩ := k0; exact DataW.trod_lt m _ _ _ hm
  have k1 := h1
  have lt1 : ∀ x ∈ p1, x.block < W.heap.size := by obtain ⟨m, hm⟩ := k1; exact DataW.trod_lt m _ _ _ hm
  have k2 := h2
  have lt2 : ∀ x ∈ p2, x.block < W.heap.size := by obtain ⟨m, hm⟩ := k2; exact DataW.trod_lt m _ _ _ hm
  obtain ⟨n0, rfl, rfl, rfl, w0⟩ := open_int Try.underlying3 (hval 0 3 v0 rfl rfl) h0
  obtain ⟨n1, rfl, rfl, rfl, w1⟩ := open_int Try.underlying3 (hval 1 3 v1 rfl rfl) h1
  obtain ⟨a2, l2, cap2, rfl, hl2, hm2, hna2, R2, w2⟩ := row_of (s := 1) (reads_bool Try.underlying4) (by kernel_rfl) Try.underlying22 (fun _ => rfl) (by decide) (hval 2 22 v2 rfl rfl) h2
  clear hA0 hval0
  refine (Spec.law (law_GenCounts n0 n1 a2 cap2 l2 W R2 hl2)).mono fun e W' ⟨he, bel⟩ => ?_
  subst he
  exact ⟨_, rfl, _, _, _, [], _, [], hW', trodAll_mk1 (shut_bool Try.underlying4 _), (trodAll_cons_mk (Below.trod laidOut (by kernel_rfl) (of_decide_eq_true (by kernel_rfl)) k0 bel lt0) (trodAll_cons_mk (Below.trod laidOut (by kernel_rfl) (of_decide_eq_true (by kernel_rfl)) k1 bel lt1) (trodAll_cons_mk (Below.trod laidOut (by kernel_rfl) (of_decide_eq_true (by kernel_rfl)) k2 bel lt2) trodAll_mk0))), rfl, bel.frame _, fun h => by cases h⟩
theorem j0 : (Rows.genCountsRow.wf (OpenSpec.ofChange Rows.genCountsSpec)) = true := by kernel_rfl
theorem j3 : (Try.f3.params.all (Try.prog.readableRec ·)) = true := by kernel_rfl
theorem j4 : (namedTie Try.prog Rows.genCountsRow.named Rows.genCountsSpec.vars) = true := by kernel_rfl
theorem j5 : ((Rows.genCountsRow.stops == [])) = true := by kernel_rfl
theorem j7 : ((Rows.genCountsRow.knobs == [])) = true := by kernel_rfl
theorem j9 : ((Rows.genCountsRow.inPlace == Try.prog.inPlace 3)) = true := by kernel_rfl
theorem j10 : ((Rows.genCountsRow.unfollowed == Try.prog.unfollowed 3)) = true := by kernel_rfl
theorem j11 : ((Rows.genCountsRow.recurses == Try.prog.recurses 3)) = true := by kernel_rfl
theorem j12 : ((Rows.genCountsRow.named == Try.prog.varsNamed 3)) = true := by kernel_rfl
theorem j13 : ((Rows.genCountsRow.maps == (Try.f3.params.toList ++ Rows.genCountsSpec.plain.varTypes Try.prog).any (Try.prog.mapsRec ·))) = true := by kernel_rfl
theorem j14 : ((Rows.genCountsRow.ifaces == (Try.f3.params.toList ++ Rows.genCountsSpec.plain.varTypes Try.prog).any (Try.prog.ifacesRec ·))) = true := by kernel_rfl
theorem j15 : ((Rows.genCountsRow.mapsOut == Try.prog.mapsAmong Try.f3.resultTypes.toList)) = true := by kernel_rfl
theorem j16 : ((Rows.genCountsRow.loops == (Try.f3.params.toList ++ Rows.genCountsSpec.plain.varTypes Try.prog).any (Try.prog.loopsFrom ·))) = true := by kernel_rfl
theorem j17 : ((Rows.genCountsRow.wideKeys == (Try.f3.params.toList ++ Rows.genCountsSpec.plain.varTypes Try.prog ++ Try.f3.resultTypes.toList).any (Try.prog.wideKeysFrom ·))) = true := by kernel_rfl
theorem j18 : (Rows.genCountsSpec.vars.all (Try.prog.varReadable ·)) = true := by kernel_rfl
theorem j19 : (Try.f3.resultTypes.all (fun t => Try.prog.readableRec t && decide (t < Try.prog.types.size))) = true := by kernel_rfl
theorem j20 : ((Rows.genCountsRow.ifacesOut == Try.f3.resultTypes.toList.any (Try.prog.ifacesRec ·))) = true := by kernel_rfl
theorem j21 : ((Rows.genCountsRow.loopsOut == Try.f3.resultTypes.toList.any (Try.prog.loopsFrom ·))) = true := by kernel_rfl
theorem j22 : ((Rows.genCountsRow.plainKeys == Try.prog.plainKeys)) = true := by rw [show Rows.genCountsRow.plainKeys = Rows.genCountsRow.plainKeys by kernel_rfl]; exact factKeys
theorem j23 : (Rows.genCountsRow.shortTexts.isNone) = true := by kernel_rfl
theorem j26 : ((Rows.genCountsRow.lifted == Try.prog.liftsFinal)) = true := by rw [show Rows.genCountsRow.lifted = Rows.genCountsRow.lifted by kernel_rfl]; exact factLifts
theorem j27 : ((Try.prog.make == some Rows.genCountsRow.make)) = true := by rw [show Rows.genCountsRow.make = Rows.genCountsRow.make by kernel_rfl]; exact factMake
theorem j28 : ((Rows.genCountsRow.kinds == (if Rows.genCountsRow.domain.isEmpty then [] else Try.f3.params.toList.map fun t => match Try.prog.underlying t with | some (.int k) => some k | _ => none))) = true := by kernel_rfl
theorem j29 : ((Rows.genCountsRow.pinned == Rows.genCountsRow.pinnedBy)) = true := by kernel_rfl
theorem j30 : ((Rows.genCountsRow.veiled == (Try.f3.params.toList ++ Rows.genCountsSpec.plain.varTypes Try.prog ++ Try.f3.resultTypes.toList).any (Try.prog.veiledRec ·))) = true := by kernel_rfl
theorem j31 : (Rows.genCountsRow.veiledFits Try.prog Try.f3.params.toList (Try.f3.params.toList ++ Rows.genCountsSpec.plain.varTypes Try.prog ++ Try.f3.resultTypes.toList)) = true := by kernel_rfl
set_option maxRecDepth 100000 in
theorem closed : joinedFacts Try.checked.prog 3 Try.f3 Rows.genCountsSpec Rows.genCountsRow = true := by unfold joinedFacts; exact (band (band (band (band (band (band (band (band (band (band (band (band (band (band (band (band (band (band (band (band (band (band (band (band (band (band (band (band (band (band (band j0 factLaid) factMaps) j3) j4) j5) factStops) j7) factKnobs) j9) j10) j11) j12) j13) j14) j15) j16) j17) j18) j19) j20) j21) j22) j23) factHeard) factEnter) j26) j27) j28) j29) j30) j31)
theorem named : Try.checked.prog.funcNamed Rows.genCountsRow.func = some 3 := by kernel_rfl
theorem over : Rows.genCountsRow.holds Try.pinned (OpenSpec.ofChange Rows.genCountsSpec) :=
  OpenClaim.holds_of_wide 3 Try.f3 rfl rfl rfl rfl rfl rfl rfl ⟨rfl, rfl, rfl, rfl, rfl⟩ rfl rfl rfl rfl rfl named Try.func3 closed
    (of_decide_eq_true (by kernel_rfl)) (by unfold Func.isWrapper; first | (rw [if_pos (by decide +kernel)]; kernel_rfl) | (rw [if_neg (by decide +kernel)]; exact ⟨rfl, rfl⟩))
    (fun os started H enc _ => lifted os started H enc)
/-- The statement. -/
theorem proved : Rows.GenCountsSaid := over
end genCounts
end Go.Proofs.Ythpnahapiodflaa
