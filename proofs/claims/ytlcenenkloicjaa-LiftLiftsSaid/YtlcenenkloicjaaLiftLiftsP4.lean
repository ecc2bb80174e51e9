/- Part 4 of what the claim LiftLifts needs: lemmas and contracts, printed from longer texts. No conditions. -/
import Derived.Test.YtlcenenkloicjaaRows
import Derived.Lib.SmallJoins
import Derived.KernelRfl
import Derived.WalkKit
import Derived.ProofKit
import Derived.Deep.Quiet
import Derived.Deep.LoopGhost
import Derived.StillTail
import Derived.Test.YtlcenenkloicjaaProg
import Derived.OpenShut
import Derived.ShutString
import Derived.ChangeOld
import Derived.Deep.Slices
import Derived.SizedLaws
import Derived.Laws.StructEq
import Derived.Test.YtlcenenkloicjaaLiftLiftsP3
namespace Go.Proofs.Ytlcenenkloicjaa
open Go Go.Lt Go.RowKit
set_option linter.unusedVariables false
set_option linter.unusedSimpArgs false
set_option maxRecDepth 20000

def In1 (st : List Bool) (x : Int) : Prop := 0 ≤ x ∧ (x / 2).toNat < st.length ∧ st.getD (x / 2).toNat false = decide (x % 2 = 0)
theorem take_all {α : Type} {P : α → Prop} {l : List α} {j : Nat} {x : α} (hx : l[j]? = some x) (h : ∀ y ∈ l.take j, P y) (h1 : P x) : ∀ y ∈ l.take (j + 1), P y := by
  intro y hy
  rw [take_succ' hx] at hy
  rcases List.mem_append.1 hy with hy | hy
  · exact h y hy
  · rw [List.mem_singleton.1 hy]; exact h1
set_option maxHeartbeats 1000000 in
theorem ref32_Has (a b : Option Addr) (ca cb : Nat) (k : List Int) (st : List Bool) (w : World) (R : Row 1 encI w a k) (Rb : Row 1 encB w b st) (hk : ∀ x ∈ k, x ≤ 9223372036854775807) :
    Still Try.prog 30 [.slice a k.length ca, .slice b st.length cb] w (.bool (dec (InCube k st))) := by
  have hl := R.len
  have hlb := Rb.len
  refine Spec.of _ Try.func30 rfl Try.ntmps30 (by kernel_rfl) rfl ?_
  repeat' (first
    | (show WL _ _ _ _ _ _ _; first | apply WL.nil | (refine WL.au (k := ?_)))
    | (show Z _ _ _ _ _; apply Z.then_normal)
    | (show W _ _ _ _ _ _; first | apply W.seq | apply W.region | apply W.block)
    | fail)
  refine W.loop1 k.length (fun j => j ≤ k.length ∧ ∀ x ∈ k.take j, In1 st x) (fun j => [(0, .slice a k.length ca), (1, .slice b st.length cb), (5, .int .i64 j)]) ⟨Nat.zero_le _, fun x hx => by cases hx⟩ (fun k h => h.1) (by repeat' first | exact trivial | (refine And.intro ?_ ?_) | exact rfl) ?_
  rintro j ⟨hj, hall⟩
  by_cases hlt : j < k.length
  · obtain ⟨x, hx⟩ := getI k hlt
    have hxm := List.mem_of_getElem? hx
    have hx1 := hk x hxm
    have no : ∀ (h : ¬ In1 st x), dec (InCube k st) = false := fun h => dec_false fun hh => h (hh x hxm)
    by_cases q1 : x < 0
    · repeat' (first
        | (apply QL.gT; exact rfl; exact rfl; (focus (first | exact dec_true (by omega); done)))
        | (apply W.condKT; exact rfl; (focus (first | exact dec_true (by omega); done)))
        | (show WL _ _ _ _ _ _ _; first | apply WL.nil | (refine WL.au (k := ?_)))
        | (show QL _ _ _ _ _ _ _; first | apply QL.nil | (refine QL.au (k := ?_)) | (apply QL.index tOk; exact rfl; exact rfl; exact rfl; exact rfl; exact rfl; exact rfl; exact rfl; exact rfl; assumption; (exact extA); exact rfl; omega; assumption; intro b off h; have hcc := h; first | (obtain ⟨h1, h2, h3, h4, h5, h6, _⟩ := h) | (obtain ⟨h1, h2, h3, _⟩ := h) | (obtain ⟨h1, h2, _⟩ := h) | (obtain ⟨h1, _⟩ := h)) | (apply QL.guardF; exact rfl; exact rfl))
        | (show Z _ _ _ _ _; first | apply Z.then_normal | apply Z.then_ret | apply Z.block_ret)
        | (show W _ _ _ _ _ _; first | apply W.seq | apply W.region | apply W.block | apply W.skip | apply W.ret | (apply W.condT; exact rfl) | (apply W.regionD tMix; kernel_rfl))
        | fail)
      exact Z.body1 Try.results30 rfl fun m => ⟨by rw [no (fun h => by have := h.1; omega)], m, rfl⟩
    by_cases q2 : (x / 2).toNat < st.length
    rotate_left
    · repeat' (first
        | (apply QL.gT; exact rfl; exact rfl; (focus (first | exact dec_true (by omega) | exact dec_false (by omega); done)))
        | (apply QL.gF; exact rfl; exact rfl; (focus (first | exact dec_true (by omega) | exact dec_false (by omega); done)))
        | (apply W.condKT; exact rfl; (focus (first | exact dec_true (by omega) | exact dec_false (by omega); done)))
        | (show WL _ _ _ _ _ _ _; first | apply WL.nil | (refine WL.au (k := ?_)))
        | (show QL _ _ _ _ _ _ _; first | apply QL.nil | (refine QL.au (k := ?_)) | (apply QL.index tOk; exact rfl; exact rfl; exact rfl; exact rfl; exact rfl; exact rfl; exact rfl; exact rfl; assumption; (exact extA); exact rfl; omega; assumption; intro b off h; have hcc := h; first | (obtain ⟨h1, h2, h3, h4, h5, h6, _⟩ := h) | (obtain ⟨h1, h2, h3, _⟩ := h) | (obtain ⟨h1, h2, _⟩ := h) | (obtain ⟨h1, _⟩ := h)) | (apply QL.guardF; exact rfl; exact rfl))
        | (show Z _ _ _ _ _; first | apply Z.then_normal | apply Z.then_ret | apply Z.block_ret)
        | (show W _ _ _ _ _ _; first | apply W.seq | apply W.region | apply W.block | apply W.skip | apply W.ret | (apply W.condT; exact rfl) | (apply W.regionD tMix; kernel_rfl))
        | fail)
      exact Z.body1 Try.results30 rfl fun m => ⟨by rw [no (fun h => q2 h.2.1)], m, rfl⟩
    obtain ⟨y, hy⟩ := getI st q2
    have hyd := getD_of (d := false) hy
    by_cases q3 : y = decide (x % 2 = 0)
    · have q4 : ¬ (y = dec (x % 2 = 1)) := by
        rw [q3]
        by_cases h : x % 2 = 1
        · rw [dec_true h, decide_eq_false (by omega)]; simp
        · rw [dec_false h, decide_eq_true (by omega)]; simp
      repeat' (first
        | (apply QL.gF; exact rfl; exact rfl; (focus (first | exact dec_true (by omega) | exact dec_false (by omega) | exact dec_false q4; done)))
        | (apply W.condKT; exact rfl; (focus (first | exact dec_true (by omega) | exact dec_false (by omega) | exact dec_false q4; done)))
        | (apply W.condKF; exact rfl; (focus (first | exact dec_true (by omega) | exact dec_false (by omega) | exact dec_false q4; done)))
        | (show WL _ _ _ _ _ _ _; first | apply WL.nil | (refine WL.au (k := ?_)))
        | (show QL _ _ _ _ _ _ _; first | apply QL.nil | (refine QL.au (k := ?_)) | (apply QL.index tOk; exact rfl; exact rfl; exact rfl; exact rfl; exact rfl; exact rfl; exact rfl; exact rfl; assumption; (exact extA); exact rfl; omega; assumption; intro b off h; have hcc := h; first | (obtain ⟨h1, h2, h3, h4, h5, h6, _⟩ := h) | (obtain ⟨h1, h2, h3, _⟩ := h) | (obtain ⟨h1, h2, _⟩ := h) | (obtain ⟨h1, _⟩ := h)))
        | (show Z _ _ _ _ _; first | apply Z.then_normal | apply Z.block_normal)
        | (show W _ _ _ _ _ _; first | apply W.seq | apply W.region | apply W.block | apply W.skip | (apply W.regionD tMix; kernel_rfl))
        | fail)
      exact Z.again1 ⟨by omega, take_all hx hall ⟨by omega, q2, by rw [hyd]; exact q3⟩⟩ (by repeat' first | exact trivial | (refine And.intro ?_ ?_) | exact rfl)
    · have q4 : y = dec (x % 2 = 1) := by
        by_cases h : x % 2 = 1
        · rw [decide_eq_false (by omega)] at q3
          rw [dec_true h]; cases y <;> simp_all
        · rw [decide_eq_true (by omega)] at q3
          rw [dec_false h]; cases y <;> simp_all
      repeat' (first
        | (apply QL.gF; exact rfl; exact rfl; (focus (first | exact dec_true (by omega) | exact dec_false (by omega) | exact dec_true q4; done)))
        | (apply W.condKT; exact rfl; (focus (first | exact dec_true (by omega) | exact dec_false (by omega) | exact dec_true q4; done)))
        | (show WL _ _ _ _ _ _ _; first | apply WL.nil | (refine WL.au (k := ?_)))
        | (show QL _ _ _ _ _ _ _; first | apply QL.nil | (refine QL.au (k := ?_)) | (apply QL.index tOk; exact rfl; exact rfl; exact rfl; exact rfl; exact rfl; exact rfl; exact rfl; exact rfl; assumption; (exact extA); exact rfl; omega; assumption; intro b off h; have hcc := h; first | (obtain ⟨h1, h2, h3, h4, h5, h6, _⟩ := h) | (obtain ⟨h1, h2, h3, _⟩ := h) | (obtain ⟨h1, h2, _⟩ := h) | (obtain ⟨h1, _⟩ := h)))
        | (show Z _ _ _ _ _; first | apply Z.then_normal | apply Z.then_ret | apply Z.block_ret)
        | (show W _ _ _ _ _ _; first | apply W.seq | apply W.region | apply W.block | apply W.skip | apply W.ret | (apply W.regionD tMix; kernel_rfl))
        | fail)
      exact Z.body1 Try.results30 rfl fun m => ⟨by rw [no (fun h => q3 (by rw [← hyd]; exact h.2.2))], m, rfl⟩
  · obtain rfl : j = k.length := by omega
    rw [List.take_length] at hall
    repeat' (first
      | (apply W.condKF; exact rfl; (focus (exact dec_false (by omega); done)))
      | (show WL _ _ _ _ _ _ _; first | apply WL.nil | (refine WL.au (k := ?_)))
      | (show Z _ _ _ _ _; first | apply Z.then_normal | apply Z.then_exit | apply Z.block_exit)
      | (show W _ _ _ _ _ _; first | apply W.seq | apply W.region | apply W.ret | apply W.exit)
      | fail)
    exact Z.body1 Try.results30 rfl fun m => ⟨congrArg Value.bool (dec_true hall).symm, m, rfl⟩
def v3T (l : List Bool) (m k : Nat) : List Int := tab m (fun u => if u < k then b3 (l.getD u false) else 0)
theorem v3T_len (l : List Bool) (m k : Nat) : (v3T l m k).length = m := tab_len _ _
theorem v3T_start (l : List Bool) (m : Nat) : List.replicate m (0 : Int) = v3T l m 0 := by rw [tab_rep]; exact tab_congr fun u hu => (if_neg (by omega)).symm
theorem v3T_get {l : List Bool} {m k : Nat} (h : k < m) : (v3T l m k)[k]? = some 0 := by unfold v3T; rw [tab_get _ h, if_neg (by omega)]
theorem v3T_set {l : List Bool} {m k : Nat} (h : l.getD k false = true) : (v3T l m k).set k 1 = v3T l m (k + 1) := by
  refine tab_set fun u hu => ?_
  by_cases h1 : u = k
  · subst h1; rw [if_pos rfl, if_pos (by omega), h]; rfl
  · rw [if_neg h1]
    by_cases h2 : u < k
    · rw [if_pos h2, if_pos (by omega)]
    · rw [if_neg h2, if_neg (by omega)]
theorem v3T_no {l : List Bool} {m k : Nat} (h : l.getD k false = false) : v3T l m k = v3T l m (k + 1) := by
  refine tab_congr fun u hu => ?_
  by_cases h1 : u = k
  · subst h1; rw [if_neg (by omega), if_pos (by omega), h]; rfl
  · by_cases h2 : u < k
    · rw [if_pos h2, if_pos (by omega)]
    · rw [if_neg h2, if_neg (by omega)]
theorem v3T_all (l : List Bool) (m : Nat) : v3T l m m = v3 (brV l m) := by
  refine (tab_eq (by rw [v3_len, brV_len]) fun u x hx => ?_).symm
  have hu := lt_of_get hx
  rw [v3_len, brV_len] at hu
  rw [if_pos hu]
  unfold v3 at hx
  rw [List.getElem?_map, brV_get l hu] at hx
  exact Option.some.inj hx
theorem lift_values (a : Option Addr) (cap : Nat) (l : List Bool) (m : Nat) (w : World) (R : Row 1 encB w a l) (hm : m ≤ 1048576) :
    Lt.Spec Try.prog 57 [.slice a l.length cap, .int .i64 (m : Nat)] w (IsFresh 1 encI 3 w (v3 (brV l m))) := by
  have hl := R.len
  refine Spec.of _ Try.func57 rfl Try.ntmps57 (by kernel_rfl) rfl ?_
  repeat' (first
    | (apply WL.make (w0 := w) tOk; exact rfl; exact rfl; exact rfl; exact rfl; exact rfl; exact rfl; exact rfl; exact rfl; exact rfl; exact encI_ok; exact rfl; exact rfl; (exact extA); (first | omega | (simp; omega) | (simp at *; omega)); intro gb w' hO hge hx)
    | (show WL _ _ _ _ _ _ _; first | apply WL.nil | (refine WL.au (k := ?_)))
    | (show Z _ _ _ _ _; apply Z.then_normal)
    | (show W _ _ _ _ _ _; first | apply W.seq | apply W.region | apply W.block)
    | fail)
  have em : ((m : Nat) : Int).toNat = m := Int.toNat_natCast _
  have erl : (List.replicate m (0 : Int)).length = m := List.length_replicate
  rw [em] at hO ⊢
  rw [v3T_start l m] at hO
  obtain ⟨g5, rfl⟩ : ∃ x, x = gb := ⟨_, rfl⟩
  refine W.loopW m (fun k w' => k ≤ m ∧ Ext w w' ∧ Own 1 encI 3 w.heap.size w' (some ⟨g5, 0, none⟩) m (v3T l m k)) (fun k => [(0, .slice a l.length cap), (5, .slice (some ⟨g5, 0, none⟩) m m), (10, .int .i64 (m : Nat)), (11, .int .i64 k)]) ⟨Nat.zero_le _, hx, hO⟩ (fun k w' h => h.1) (by repeat' first | exact trivial | (refine And.intro ?_ ?_) | exact rfl | (rw [erl]; exact rfl)) ?_
  clear hO
  rintro k w1 ⟨hk, hX1, hO1⟩
  have hvl := v3T_len l m k
  by_cases hlt : k < m
  · have hz := v3T_get (l := l) hlt
    have R1 := R.ext hX1
    by_cases hkl : k < l.length
    · obtain ⟨x, hx⟩ := getI l hkl
      have hd := getD_of (d := false) hx
      cases x with
      | true =>
        repeat' (first
          | (apply WL.gT; exact rfl; exact rfl; (focus (exact dec_true (by omega); done)))
          | (apply W.condKT; exact rfl; (focus (exact dec_true (by omega); done)))
          | (apply WL.indexO tOk; exact rfl; exact rfl; exact rfl; exact rfl; exact rfl; exact rfl; exact rfl; exact rfl; assumption; (exact extA); exact encI_ok; (first | exact rfl | (focus (simp only [List.length_set]; done)) | (focus (simp; done)) | (focus (simp [*]; done)) | omega | (focus (simp only [List.length_set]; omega))); omega; assumption; intro gb ha hc; cases ha; have hcc := hc; first | (obtain ⟨h1, h2, h3, _⟩ := hc) | (obtain ⟨h1, h2, _⟩ := hc) | (obtain ⟨h1, _⟩ := hc))
          | (apply WL.storeO tOk; exact rfl; exact rfl; exact rfl; exact rfl; assumption; (exact extA); exact rfl; exact rfl; exact rfl; exact encI_ok; assumption; exact rfl; (exact extA); intro w' hO hX' hU)
          | (show WL _ _ _ _ _ _ _; first | apply WL.nil | (refine WL.au (k := ?_)) | (apply WL.index tOk; exact rfl; exact rfl; exact rfl; exact rfl; exact rfl; exact rfl; exact rfl; exact rfl; assumption; (exact extA); exact rfl; omega; assumption; intro b off h; have hcc := h; first | (obtain ⟨h1, h2, h3, h4, h5, h6, _⟩ := h) | (obtain ⟨h1, h2, h3, _⟩ := h) | (obtain ⟨h1, h2, _⟩ := h) | (obtain ⟨h1, _⟩ := h)))
          | (show Z _ _ _ _ _; first | apply Z.then_normal | apply Z.block_normal)
          | (show W _ _ _ _ _ _; first | apply W.seq | apply W.region | apply W.block | apply W.skip | (apply W.condT; exact rfl))
          | fail)
        rw [Int.toNat_natCast, v3T_set hd] at hO
        exact Z.againW ⟨by omega, hX', hO⟩ (by repeat' first | exact trivial | (refine And.intro ?_ ?_) | exact rfl)
      | false =>
        repeat' (first
          | (apply WL.gT; exact rfl; exact rfl; (focus (exact dec_true (by omega); done)))
          | (apply W.condKT; exact rfl; (focus (exact dec_true (by omega); done)))
          | (show WL _ _ _ _ _ _ _; first | apply WL.nil | (refine WL.au (k := ?_)) | (apply WL.index tOk; exact rfl; exact rfl; exact rfl; exact rfl; exact rfl; exact rfl; exact rfl; exact rfl; assumption; (exact extA); exact rfl; omega; assumption; intro b off h; have hcc := h; first | (obtain ⟨h1, h2, h3, h4, h5, h6, _⟩ := h) | (obtain ⟨h1, h2, h3, _⟩ := h) | (obtain ⟨h1, h2, _⟩ := h) | (obtain ⟨h1, _⟩ := h)))
          | (show Z _ _ _ _ _; first | apply Z.then_normal | apply Z.block_normal)
          | (show W _ _ _ _ _ _; first | apply W.seq | apply W.region | apply W.block | apply W.skip | (apply W.condF; exact rfl))
          | fail)
        exact Z.againW ⟨by omega, hX1, by rw [← v3T_no hd]; exact hO1⟩ (by repeat' first | exact trivial | (refine And.intro ?_ ?_) | exact rfl)
    · have hd : l.getD k false = false := by rw [List.getD, List.getElem?_eq_none (by omega)]; rfl
      repeat' (first
        | (apply WL.gF; exact rfl; exact rfl; (focus (first | exact dec_true (by omega) | exact dec_false (by omega); done)))
        | (apply W.condKT; exact rfl; (focus (first | exact dec_true (by omega) | exact dec_false (by omega); done)))
        | (show WL _ _ _ _ _ _ _; first | apply WL.nil | (refine WL.au (k := ?_)) | (apply WL.guardF; exact rfl; exact rfl))
        | (show Z _ _ _ _ _; first | apply Z.then_normal | apply Z.block_normal)
        | (show W _ _ _ _ _ _; first | apply W.seq | apply W.region | apply W.block | apply W.skip | (apply W.condF; exact rfl))
        | fail)
      exact Z.againW ⟨by omega, hX1, by rw [← v3T_no hd]; exact hO1⟩ (by repeat' first | exact trivial | (refine And.intro ?_ ?_) | exact rfl)
  · obtain rfl : k = m := by omega
    rw [v3T_all] at hO1
    have e9 : (v3 (brV l k)).length = k := by rw [v3_len, brV_len]
    repeat' (first
      | (apply W.condKF; exact rfl; (focus (exact dec_false (by omega); done)))
      | (show WL _ _ _ _ _ _ _; first | apply WL.nil | (refine WL.au (k := ?_)))
      | (show Z _ _ _ _ _; first | apply Z.then_normal | apply Z.then_exit | apply Z.block_exit)
      | (show W _ _ _ _ _ _; first | apply W.seq | apply W.region | apply W.ret | apply W.exit)
      | fail)
    exact Z.body1 Try.results57 rfl fun m => ⟨Ext.at hX1 m, _, k, by rw [e9], hO1⟩
theorem ref34_values (a : Option Addr) (cap : Nat) (l : List Bool) (w : World) (R : Row 1 encB w a l) (hl : l.length ≤ 1048576) :
    Lt.Spec Try.prog 61 [.slice a l.length cap] w (IsFresh 1 encI 3 w (v3 l)) := by
  refine Spec.of _ Try.func61 rfl Try.ntmps61 (by kernel_rfl) rfl ?_
  repeat' (first
    | (apply WL.lit (len := 0) tOk; exact rfl; exact rfl; exact rfl; exact rfl; exact rfl; exact rfl; (first | exact rfl | kernel_rfl | (simp [Instr.fill, catCells]; done)); exact rfl; intro gb w' hb hge hc hx; have hO0 := Own.of_block0 (enc := encI) (s := 1) hb hge)
    | (show WL _ _ _ _ _ _ _; first | apply WL.nil | (refine WL.au (k := ?_)))
    | (show Z _ _ _ _ _; apply Z.then_normal)
    | (show W _ _ _ _ _ _; first | apply W.seq | apply W.region | apply W.block)
    | fail)
  refine W.loopO l.length (fun k b cp w' => k ≤ l.length ∧ Ext w w' ∧ Own 1 encI 3 w.heap.size w' b cp (v3 (l.take k))) (fun k b cp => [(0, .slice a l.length cap), (3, .slice b (v3 (l.take k)).length cp), (4, .int .i64 k)]) (some ⟨gb, 0, none⟩) 0 ⟨Nat.zero_le _, hx, hO0⟩ (fun k a cp w' h => h.1) (by repeat' first | exact trivial | (refine And.intro ?_ ?_) | exact rfl) ?_
  clear hO0
  rintro k bb cp w1 ⟨hk, hX1, hO1⟩
  have hvl : (v3 (l.take k)).length = min k l.length := by rw [v3_len, List.length_take]
  by_cases hlt : k < l.length
  · obtain ⟨x, hx⟩ := getI l hlt
    have R1 := R.ext hX1
    have e1 : v3 (l.take (k + 1)) = v3 (l.take k) ++ [b3 x] := by unfold v3; rw [take_succ' hx, List.map_append]; rfl
    cases x with
    | true =>
      repeat' (first
        | (apply W.condKT; exact rfl; (focus (exact dec_true (by omega); done)))
        | (apply WL.lit tOk; exact rfl; exact rfl; exact rfl; exact rfl; exact rfl; exact rfl; (first | exact rfl | kernel_rfl | (simp [Instr.fill, catCells]; done)); exact rfl; intro gb w' hb hge hc hx)
        | (apply WL.append1 (z := ((1 : Int))) tOk encI_ok; exact rfl; exact rfl; exact rfl; exact rfl; exact rfl; exact rfl; exact rfl; exact rfl; exact rfl; exact rfl; assumption; (exact extA); (first | exact rfl | (focus (simp only [List.length_set]; done)) | (focus (simp; done)) | (focus (simp [*]; done)) | omega | (focus (simp only [List.length_set]; omega))); (first | assumption | (refine Cells.ext ?_ (by assumption); exact extA)); exact rfl; exact rfl; (exact extA); (first | omega | (simp; omega) | (simp at *; omega)); intro a' cap' w' hO hX' hU hF)
        | (show WL _ _ _ _ _ _ _; first | apply WL.nil | (refine WL.au (k := ?_)) | (apply WL.index tOk; exact rfl; exact rfl; exact rfl; exact rfl; exact rfl; exact rfl; exact rfl; exact rfl; assumption; (exact extA); exact rfl; omega; assumption; intro b off h; have hcc := h; first | (obtain ⟨h1, h2, h3, h4, h5, h6, _⟩ := h) | (obtain ⟨h1, h2, h3, _⟩ := h) | (obtain ⟨h1, h2, _⟩ := h) | (obtain ⟨h1, _⟩ := h)))
        | (show Z _ _ _ _ _; first | apply Z.then_normal | apply Z.block_normal)
        | (show W _ _ _ _ _ _; first | apply W.seq | apply W.region | apply W.block | apply W.skip | (apply W.condT; exact rfl))
        | fail)
      exact Z.againO a' cap' ⟨by omega, hX', by rw [e1]; exact hO⟩ (by repeat' first | exact trivial | (refine And.intro ?_ ?_) | exact rfl | (rw [e1]; exact rfl))
    | false =>
      repeat' (first
        | (apply W.condKT; exact rfl; (focus (exact dec_true (by omega); done)))
        | (apply WL.lit tOk; exact rfl; exact rfl; exact rfl; exact rfl; exact rfl; exact rfl; (first | exact rfl | kernel_rfl | (simp [Instr.fill, catCells]; done)); exact rfl; intro gb w' hb hge hc hx)
        | (apply WL.append1 (z := ((0 : Int))) tOk encI_ok; exact rfl; exact rfl; exact rfl; exact rfl; exact rfl; exact rfl; exact rfl; exact rfl; exact rfl; exact rfl; assumption; (exact extA); (first | exact rfl | (focus (simp only [List.length_set]; done)) | (focus (simp; done)) | (focus (simp [*]; done)) | omega | (focus (simp only [List.length_set]; omega))); (first | assumption | (refine Cells.ext ?_ (by assumption); exact extA)); exact rfl; exact rfl; (exact extA); (first | omega | (simp; omega) | (simp at *; omega)); intro a' cap' w' hO hX' hU hF)
        | (show WL _ _ _ _ _ _ _; first | apply WL.nil | (refine WL.au (k := ?_)) | (apply WL.index tOk; exact rfl; exact rfl; exact rfl; exact rfl; exact rfl; exact rfl; exact rfl; exact rfl; assumption; (exact extA); exact rfl; omega; assumption; intro b off h; have hcc := h; first | (obtain ⟨h1, h2, h3, h4, h5, h6, _⟩ := h) | (obtain ⟨h1, h2, h3, _⟩ := h) | (obtain ⟨h1, h2, _⟩ := h) | (obtain ⟨h1, _⟩ := h)))
        | (show Z _ _ _ _ _; first | apply Z.then_normal | apply Z.block_normal)
        | (show W _ _ _ _ _ _; first | apply W.seq | apply W.region | apply W.block | apply W.skip | (apply W.condF; exact rfl))
        | fail)
      exact Z.againO a' cap' ⟨by omega, hX', by rw [e1]; exact hO⟩ (by repeat' first | exact trivial | (refine And.intro ?_ ?_) | exact rfl | (rw [e1]; exact rfl))
  · obtain rfl : k = l.length := by omega
    rw [List.take_length] at hO1
    repeat' (first
      | (apply W.condKF; exact rfl; (focus (exact dec_false (by omega); done)))
      | (show WL _ _ _ _ _ _ _; first | apply WL.nil | (refine WL.au (k := ?_)))
      | (show Z _ _ _ _ _; first | apply Z.then_normal | apply Z.then_exit | apply Z.block_exit)
      | (show W _ _ _ _ _ _; first | apply W.seq | apply W.region | apply W.ret | apply W.exit)
      | fail)
    exact Z.body1 Try.results61 rfl fun m => ⟨Ext.at hX1 m, bb, cp, by rw [List.take_length], hO1⟩
def KnP (c : CirT) (l : List Int) : Prop := (∀ x ∈ l, KnL c x) ∧ (l.length : Int) ≤ 20
set_option maxHeartbeats 1000000 in
theorem law34_known (c : Circ) (a : Option Addr) (cap : Nat) (l : List Int) (w : World) (hC : CAt w c) (hz : SzC c.t 100000) (R : Row 1 encI w a l) (hmx : ∀ x ∈ l, x ≤ 9223372036854775807) :
    Pure Try.prog 20 [c.val, .slice a l.length cap] w (.bool (dec (KnP c.t l))) := by
  have hl := R.len
  refine Spec.of _ Try.func20 rfl Try.ntmps20 (by kernel_rfl) rfl ?_
  repeat' (first
    | (apply WL.box; exact rfl; exact rfl; exact rfl; intro gb w' hb hge hc hx; have hcc := hc; (first | (obtain ⟨h1, h2, h3, _⟩ := hc) | (obtain ⟨h1, h2, _⟩ := hc)); (obtain ⟨gc, rfl⟩ : ∃ x, x = gb := ⟨_, rfl⟩; obtain ⟨wc, rfl⟩ : ∃ x, x = w' := ⟨_, rfl⟩; obtain ⟨hxc, rfl⟩ : ∃ x, x = hx := ⟨_, rfl⟩; have hcells : Cells wc gc 0 c.vals := hcc))
    | ((show WL _ _ _ (⟨_, .call ⟨.value (.func 51), _, _⟩, _, _, _, _⟩ :: _) _ _ _); apply WL.call; exact rfl; exact rfl; exact rfl; exact rfl; exact ref11_Owned c _ (hC.ext (by (exact extA))) hz; rintro v' w' ⟨hx, a', cap', rfl, hO⟩)
    | (show WL _ _ _ _ _ _ _; first | apply WL.nil | (refine WL.au (k := ?_)))
    | (show Z _ _ _ _ _; apply Z.then_normal)
    | (show W _ _ _ _ _ _; first | apply W.seq | apply W.region | apply W.block)
    | fail)
  have RO := hO.row encI_ok
  have hX1 : Ext w w' := hxc.trans (by (exact extA))
  obtain ⟨aO, rfl⟩ : ∃ x, x = a' := ⟨_, rfl⟩; obtain ⟨cO, rfl⟩ : ∃ x, x = cap' := ⟨_, rfl⟩; obtain ⟨w1, rfl⟩ : ∃ x, x = w' := ⟨_, rfl⟩
  have R1 := R.ext hX1
  refine W.loop1 l.length (fun j => j ≤ l.length ∧ ∀ x ∈ l.take j, KnL c.t x) (fun j => [(1, .slice a l.length cap), (5, .slice aO c.t.own.length cO), (6, .int .i64 j)]) ⟨Nat.zero_le _, fun x hx => by cases hx⟩ (fun k h => h.1) (by repeat' first | exact trivial | (refine And.intro ?_ ?_) | exact rfl) ?_
  rintro j ⟨hj, hall⟩
  by_cases hlt : j < l.length
  · obtain ⟨x, hx⟩ := getI l hlt
    have hxm := List.mem_of_getElem? hx
    have hx9 := hmx x hxm
    have no : ∀ (h : ¬ KnL c.t x), dec (KnP c.t l) = false := fun h => dec_false fun hh => h (hh.1 x hxm)
    by_cases q1 : x < 0
    · repeat' (first
        | (apply QL.gT; exact rfl; exact rfl; (focus (first | exact dec_true (by omega); done)))
        | (apply W.condKT; exact rfl; (focus (first | exact dec_true (by omega); done)))
        | (show WL _ _ _ _ _ _ _; first | apply WL.nil | (refine WL.au (k := ?_)))
        | (show QL _ _ _ _ _ _ _; first | apply QL.nil | (refine QL.au (k := ?_)) | (apply QL.index tOk; exact rfl; exact rfl; exact rfl; exact rfl; exact rfl; exact rfl; exact rfl; exact rfl; assumption; (exact extA); exact rfl; omega; assumption; intro b off h; have hcc := h; first | (obtain ⟨h1, h2, h3, h4, h5, h6, _⟩ := h) | (obtain ⟨h1, h2, h3, _⟩ := h) | (obtain ⟨h1, h2, _⟩ := h) | (obtain ⟨h1, _⟩ := h)) | (apply QL.guardF; exact rfl; exact rfl))
        | (show Z _ _ _ _ _; first | apply Z.then_normal | apply Z.then_ret | apply Z.block_ret)
        | (show W _ _ _ _ _ _; first | apply W.seq | apply W.region | apply W.block | apply W.skip | apply W.ret | (apply W.condT; exact rfl) | (apply W.regionD tMix; kernel_rfl))
        | fail)
      exact Z.body1 Try.results20 rfl fun m => ⟨by rw [no (fun h => by have := h.1; omega)], Ext.at hX1 m⟩
    by_cases q2 : 1 < x
    rotate_left
    · repeat' (first
        | (apply QL.gF; exact rfl; exact rfl; (focus (first | exact dec_true (by omega) | exact dec_false (by omega); done)))
        | (apply W.condKT; exact rfl; (focus (first | exact dec_true (by omega) | exact dec_false (by omega); done)))
        | (show WL _ _ _ _ _ _ _; first | apply WL.nil | (refine WL.au (k := ?_)))
        | (show QL _ _ _ _ _ _ _; first | apply QL.nil | (refine QL.au (k := ?_)) | (apply QL.index tOk; exact rfl; exact rfl; exact rfl; exact rfl; exact rfl; exact rfl; exact rfl; exact rfl; assumption; (exact extA); exact rfl; omega; assumption; intro b off h; have hcc := h; first | (obtain ⟨h1, h2, h3, h4, h5, h6, _⟩ := h) | (obtain ⟨h1, h2, h3, _⟩ := h) | (obtain ⟨h1, h2, _⟩ := h) | (obtain ⟨h1, _⟩ := h)) | (apply QL.guardF; exact rfl; exact rfl))
        | (show Z _ _ _ _ _; first | apply Z.then_normal | apply Z.block_normal)
        | (show W _ _ _ _ _ _; first | apply W.seq | apply W.region | apply W.block | apply W.skip | (apply W.condF; exact rfl) | (apply W.regionD tMix; kernel_rfl))
        | fail)
      exact Z.again1 ⟨by omega, take_all hx hall ⟨by omega, fun h => by omega⟩⟩ (by repeat' first | exact trivial | (refine And.intro ?_ ?_) | exact rfl)
    by_cases q3 : x - x % 2 ∈ c.t.own
    · repeat' (first
        | (apply QL.gT; exact rfl; exact rfl; (focus (first | exact dec_true (by omega) | exact dec_false (by omega) | (rw [dec_true q3]; rfl); done)))
        | (apply QL.gF; exact rfl; exact rfl; (focus (first | exact dec_true (by omega) | exact dec_false (by omega) | (rw [dec_true q3]; rfl); done)))
        | (apply W.condKT; exact rfl; (focus (first | exact dec_true (by omega) | exact dec_false (by omega) | (rw [dec_true q3]; rfl); done)))
        | (apply W.condKF; exact rfl; (focus (first | exact dec_true (by omega) | exact dec_false (by omega) | (rw [dec_true q3]; rfl); done)))
        | ((show QL _ _ _ _ (⟨_, .call ⟨.value (.func 52), _, _⟩, _, _, _, _⟩ :: _) _ _); apply QL.callS; exact rfl; exact rfl; exact rfl; exact rfl; exact ref_Has _ _ c.t.own (x - x % 2) _ RO)
        | (show WL _ _ _ _ _ _ _; first | apply WL.nil | (refine WL.au (k := ?_)))
        | (show QL _ _ _ _ _ _ _; first | apply QL.nil | (refine QL.au (k := ?_)) | (apply QL.index tOk; exact rfl; exact rfl; exact rfl; exact rfl; exact rfl; exact rfl; exact rfl; exact rfl; assumption; (exact extA); exact rfl; omega; assumption; intro b off h; have hcc := h; first | (obtain ⟨h1, h2, h3, h4, h5, h6, _⟩ := h) | (obtain ⟨h1, h2, h3, _⟩ := h) | (obtain ⟨h1, h2, _⟩ := h) | (obtain ⟨h1, _⟩ := h)))
        | (show Z _ _ _ _ _; first | apply Z.then_normal | apply Z.block_normal)
        | (show W _ _ _ _ _ _; first | apply W.seq | apply W.region | apply W.block | apply W.skip | (apply W.regionD tMix; kernel_rfl))
        | fail)
      exact Z.again1 ⟨by omega, take_all hx hall ⟨by omega, fun h => q3⟩⟩ (by repeat' first | exact trivial | (refine And.intro ?_ ?_) | exact rfl)
    · repeat' (first
        | (apply QL.gT; exact rfl; exact rfl; (focus (first | exact dec_true (by omega) | exact dec_false (by omega) | (rw [dec_false q3]; rfl); done)))
        | (apply QL.gF; exact rfl; exact rfl; (focus (first | exact dec_true (by omega) | exact dec_false (by omega) | (rw [dec_false q3]; rfl); done)))
        | (apply W.condKT; exact rfl; (focus (first | exact dec_true (by omega) | exact dec_false (by omega) | (rw [dec_false q3]; rfl); done)))
        | ((show QL _ _ _ _ (⟨_, .call ⟨.value (.func 52), _, _⟩, _, _, _, _⟩ :: _) _ _); apply QL.callS; exact rfl; exact rfl; exact rfl; exact rfl; exact ref_Has _ _ c.t.own (x - x % 2) _ RO)
        | (show WL _ _ _ _ _ _ _; first | apply WL.nil | (refine WL.au (k := ?_)))
        | (show QL _ _ _ _ _ _ _; first | apply QL.nil | (refine QL.au (k := ?_)) | (apply QL.index tOk; exact rfl; exact rfl; exact rfl; exact rfl; exact rfl; exact rfl; exact rfl; exact rfl; assumption; (exact extA); exact rfl; omega; assumption; intro b off h; have hcc := h; first | (obtain ⟨h1, h2, h3, h4, h5, h6, _⟩ := h) | (obtain ⟨h1, h2, h3, _⟩ := h) | (obtain ⟨h1, h2, _⟩ := h) | (obtain ⟨h1, _⟩ := h)))
        | (show Z _ _ _ _ _; first | apply Z.then_normal | apply Z.then_ret | apply Z.block_ret)
        | (show W _ _ _ _ _ _; first | apply W.seq | apply W.region | apply W.block | apply W.skip | apply W.ret | (apply W.regionD tMix; kernel_rfl))
        | fail)
      exact Z.body1 Try.results20 rfl fun m => ⟨by rw [no (fun h => q3 (h.2 q2))], Ext.at hX1 m⟩
  · obtain rfl : j = l.length := by omega
    rw [List.take_length] at hall
    repeat' (first
      | (apply W.condKF; exact rfl; (focus (exact dec_false (by omega); done)))
      | (show WL _ _ _ _ _ _ _; first | apply WL.nil | (refine WL.au (k := ?_)))
      | (show Z _ _ _ _ _; first | apply Z.then_normal | apply Z.then_exit | apply Z.block_exit)
      | (show W _ _ _ _ _ _; first | apply W.seq | apply W.region | apply W.ret | apply W.exit)
      | fail)
    exact Z.body1 Try.results20 rfl fun m => ⟨congrArg Value.bool (dec_congr ⟨fun h => ⟨hall, h⟩, fun h => h.2⟩), Ext.at hX1 m⟩
end Go.Proofs.Ytlcenenkloicjaa
namespace Go.Proofs.Ytlcenenkloicjaa
open Go Go.Lt Go.RowKit
set_option linter.unusedVariables false
set_option linter.unusedSimpArgs false
set_option maxRecDepth 20000

theorem few_iff {c : CirT} {m : Int} : FewC c m ↔ (c.ins.length : Int) ≤ m ∧ (c.lat.length : Int) ≤ m ∧ (c.gates.length : Int) ≤ m ∧ (c.outs.length : Int) ≤ m ∧ (c.bads.length : Int) ≤ m ∧ (c.cons.length : Int) ≤ m ∧ (c.syms.length : Int) ≤ m ∧ (c.com.size : Int) ≤ 300 := Iff.rfl
set_option maxHeartbeats 16000000 in
set_option maxRecDepth 10000 in
theorem law11_Few (c : Circ) (m : Int) (w : World) : Pure Try.prog 49 [c.val, .int .i64 m] w (.bool (dec (FewC c.t m))) := by
  by_cases f0 : (c.ins.2.2.length : Int) ≤ m
  rotate_left
  · skip
    refine Spec.of _ Try.func49 rfl Try.ntmps49 (by kernel_rfl) rfl ?_
    repeat' (first
      | (apply WL.box; exact rfl; exact rfl; exact rfl; intro gb w' hb hge hc hx; have hcc := hc; (first | (obtain ⟨h1, h2, h3, _⟩ := hc) | (obtain ⟨h1, h2, _⟩ := hc)); (obtain ⟨y0, y1, y2, y3, y4, y5, y6, y7, y8, _⟩ := hcc))
      | (apply WL.gF; exact rfl; exact rfl; (focus (first | exact dec_false f0; done)))
      | (show WL _ _ _ _ _ _ _; first | apply WL.nil | (refine WL.au (k := ?_)) | (apply WL.guardF; exact rfl; exact rfl))
      | (show Z _ _ _ _ _; apply Z.then_normal)
      | (show W _ _ _ _ _ _; first | apply W.seq | apply W.region | apply W.ret)
      | fail)
    exact Z.body1 Try.results49 rfl fun q => ⟨congrArg Value.bool (by rw [dec_false (show ¬ FewC c.t m from fun h => f0 (few_iff.1 h).1)] <;> exact dec_false f0), Ext.at (by (exact extA)) q⟩
  by_cases f1 : (c.lat.2.2.length : Int) ≤ m
  rotate_left
  · skip
    refine Spec.of _ Try.func49 rfl Try.ntmps49 (by kernel_rfl) rfl ?_
    repeat' (first
      | (apply WL.box; exact rfl; exact rfl; exact rfl; intro gb w' hb hge hc hx; have hcc := hc; (first | (obtain ⟨h1, h2, h3, _⟩ := hc) | (obtain ⟨h1, h2, _⟩ := hc)); (obtain ⟨y0, y1, y2, y3, y4, y5, y6, y7, y8, _⟩ := hcc))
      | (apply WL.gT; exact rfl; exact rfl; (focus (first | exact dec_true f0 | exact dec_false f1; done)))
      | (apply WL.gF; exact rfl; exact rfl; (focus (first | exact dec_true f0 | exact dec_false f1; done)))
      | (show WL _ _ _ _ _ _ _; first | apply WL.nil | (refine WL.au (k := ?_)) | (apply WL.guardF; exact rfl; exact rfl))
      | (show Z _ _ _ _ _; apply Z.then_normal)
      | (show W _ _ _ _ _ _; first | apply W.seq | apply W.region | apply W.ret)
      | fail)
    exact Z.body1 Try.results49 rfl fun q => ⟨congrArg Value.bool (by rw [dec_false (show ¬ FewC c.t m from fun h => f1 (few_iff.1 h).2.1)] <;> exact dec_false f1), Ext.at (by (exact extA)) q⟩
  by_cases f2 : (c.gates.2.2.length : Int) ≤ m
  rotate_left
  · skip
    refine Spec.of _ Try.func49 rfl Try.ntmps49 (by kernel_rfl) rfl ?_
    repeat' (first
      | (apply WL.box; exact rfl; exact rfl; exact rfl; intro gb w' hb hge hc hx; have hcc := hc; (first | (obtain ⟨h1, h2, h3, _⟩ := hc) | (obtain ⟨h1, h2, _⟩ := hc)); (obtain ⟨y0, y1, y2, y3, y4, y5, y6, y7, y8, _⟩ := hcc))
      | (apply WL.gT; exact rfl; exact rfl; (focus (first | exact dec_true f0 | exact dec_true f1 | exact dec_false f2; done)))
      | (apply WL.gF; exact rfl; exact rfl; (focus (first | exact dec_true f0 | exact dec_true f1 | exact dec_false f2; done)))
      | (show WL _ _ _ _ _ _ _; first | apply WL.nil | (refine WL.au (k := ?_)) | (apply WL.guardF; exact rfl; exact rfl))
      | (show Z _ _ _ _ _; apply Z.then_normal)
      | (show W _ _ _ _ _ _; first | apply W.seq | apply W.region | apply W.ret)
      | fail)
    exact Z.body1 Try.results49 rfl fun q => ⟨congrArg Value.bool (by rw [dec_false (show ¬ FewC c.t m from fun h => f2 (few_iff.1 h).2.2.1)] <;> exact dec_false f2), Ext.at (by (exact extA)) q⟩
  by_cases f3 : (c.outs.2.2.length : Int) ≤ m
  rotate_left
  · skip
    refine Spec.of _ Try.func49 rfl Try.ntmps49 (by kernel_rfl) rfl ?_
    repeat' (first
      | (apply WL.box; exact rfl; exact rfl; exact rfl; intro gb w' hb hge hc hx; have hcc := hc; (first | (obtain ⟨h1, h2, h3, _⟩ := hc) | (obtain ⟨h1, h2, _⟩ := hc)); (obtain ⟨y0, y1, y2, y3, y4, y5, y6, y7, y8, _⟩ := hcc))
      | (apply WL.gT; exact rfl; exact rfl; (focus (first | exact dec_true f0 | exact dec_true f1 | exact dec_true f2 | exact dec_false f3; done)))
      | (apply WL.gF; exact rfl; exact rfl; (focus (first | exact dec_true f0 | exact dec_true f1 | exact dec_true f2 | exact dec_false f3; done)))
      | (show WL _ _ _ _ _ _ _; first | apply WL.nil | (refine WL.au (k := ?_)) | (apply WL.guardF; exact rfl; exact rfl))
      | (show Z _ _ _ _ _; apply Z.then_normal)
      | (show W _ _ _ _ _ _; first | apply W.seq | apply W.region | apply W.ret)
      | fail)
    exact Z.body1 Try.results49 rfl fun q => ⟨congrArg Value.bool (by rw [dec_false (show ¬ FewC c.t m from fun h => f3 (few_iff.1 h).2.2.2.1)] <;> exact dec_false f3), Ext.at (by (exact extA)) q⟩
  by_cases f4 : (c.bads.2.2.length : Int) ≤ m
  rotate_left
  · skip
    refine Spec.of _ Try.func49 rfl Try.ntmps49 (by kernel_rfl) rfl ?_
    repeat' (first
      | (apply WL.box; exact rfl; exact rfl; exact rfl; intro gb w' hb hge hc hx; have hcc := hc; (first | (obtain ⟨h1, h2, h3, _⟩ := hc) | (obtain ⟨h1, h2, _⟩ := hc)); (obtain ⟨y0, y1, y2, y3, y4, y5, y6, y7, y8, _⟩ := hcc))
      | (apply WL.gT; exact rfl; exact rfl; (focus (first | exact dec_true f0 | exact dec_true f1 | exact dec_true f2 | exact dec_true f3 | exact dec_false f4; done)))
      | (apply WL.gF; exact rfl; exact rfl; (focus (first | exact dec_true f0 | exact dec_true f1 | exact dec_true f2 | exact dec_true f3 | exact dec_false f4; done)))
      | (show WL _ _ _ _ _ _ _; first | apply WL.nil | (refine WL.au (k := ?_)) | (apply WL.guardF; exact rfl; exact rfl))
      | (show Z _ _ _ _ _; apply Z.then_normal)
      | (show W _ _ _ _ _ _; first | apply W.seq | apply W.region | apply W.ret)
      | fail)
    exact Z.body1 Try.results49 rfl fun q => ⟨congrArg Value.bool (by rw [dec_false (show ¬ FewC c.t m from fun h => f4 (few_iff.1 h).2.2.2.2.1)] <;> exact dec_false f4), Ext.at (by (exact extA)) q⟩
  by_cases f5 : (c.cons.2.2.length : Int) ≤ m
  rotate_left
  · skip
    refine Spec.of _ Try.func49 rfl Try.ntmps49 (by kernel_rfl) rfl ?_
    repeat' (first
      | (apply WL.box; exact rfl; exact rfl; exact rfl; intro gb w' hb hge hc hx; have hcc := hc; (first | (obtain ⟨h1, h2, h3, _⟩ := hc) | (obtain ⟨h1, h2, _⟩ := hc)); (obtain ⟨y0, y1, y2, y3, y4, y5, y6, y7, y8, _⟩ := hcc))
      | (apply WL.gT; exact rfl; exact rfl; (focus (first | exact dec_true f0 | exact dec_true f1 | exact dec_true f2 | exact dec_true f3 | exact dec_true f4 | exact dec_false f5; done)))
      | (apply WL.gF; exact rfl; exact rfl; (focus (first | exact dec_true f0 | exact dec_true f1 | exact dec_true f2 | exact dec_true f3 | exact dec_true f4 | exact dec_false f5; done)))
      | (show WL _ _ _ _ _ _ _; first | apply WL.nil | (refine WL.au (k := ?_)) | (apply WL.guardF; exact rfl; exact rfl))
      | (show Z _ _ _ _ _; apply Z.then_normal)
      | (show W _ _ _ _ _ _; first | apply W.seq | apply W.region | apply W.ret)
      | fail)
    exact Z.body1 Try.results49 rfl fun q => ⟨congrArg Value.bool (by rw [dec_false (show ¬ FewC c.t m from fun h => f5 (few_iff.1 h).2.2.2.2.2.1)] <;> exact dec_false f5), Ext.at (by (exact extA)) q⟩
  by_cases f6 : (c.syms.2.2.length : Int) ≤ m
  rotate_left
  · skip
    refine Spec.of _ Try.func49 rfl Try.ntmps49 (by kernel_rfl) rfl ?_
    repeat' (first
      | (apply WL.box; exact rfl; exact rfl; exact rfl; intro gb w' hb hge hc hx; have hcc := hc; (first | (obtain ⟨h1, h2, h3, _⟩ := hc) | (obtain ⟨h1, h2, _⟩ := hc)); (obtain ⟨y0, y1, y2, y3, y4, y5, y6, y7, y8, _⟩ := hcc))
      | (apply WL.gT; exact rfl; exact rfl; (focus (first | exact dec_true f0 | exact dec_true f1 | exact dec_true f2 | exact dec_true f3 | exact dec_true f4 | exact dec_true f5 | exact dec_false f6; done)))
      | (apply WL.gF; exact rfl; exact rfl; (focus (first | exact dec_true f0 | exact dec_true f1 | exact dec_true f2 | exact dec_true f3 | exact dec_true f4 | exact dec_true f5 | exact dec_false f6; done)))
      | (show WL _ _ _ _ _ _ _; first | apply WL.nil | (refine WL.au (k := ?_)) | (apply WL.guardF; exact rfl; exact rfl))
      | (show Z _ _ _ _ _; apply Z.then_normal)
      | (show W _ _ _ _ _ _; first | apply W.seq | apply W.region | apply W.ret)
      | fail)
    exact Z.body1 Try.results49 rfl fun q => ⟨congrArg Value.bool (by rw [dec_false (show ¬ FewC c.t m from fun h => f6 (few_iff.1 h).2.2.2.2.2.2.1)] <;> exact dec_false f6), Ext.at (by (exact extA)) q⟩
  by_cases f7 : (c.com.size : Int) ≤ 300
  rotate_left
  · skip
    refine Spec.of _ Try.func49 rfl Try.ntmps49 (by kernel_rfl) rfl ?_
    repeat' (first
      | (apply WL.box; exact rfl; exact rfl; exact rfl; intro gb w' hb hge hc hx; have hcc := hc; (first | (obtain ⟨h1, h2, h3, _⟩ := hc) | (obtain ⟨h1, h2, _⟩ := hc)); (obtain ⟨y0, y1, y2, y3, y4, y5, y6, y7, y8, _⟩ := hcc))
      | (apply WL.gT; exact rfl; exact rfl; (focus (first | exact dec_true f0 | exact dec_true f1 | exact dec_true f2 | exact dec_true f3 | exact dec_true f4 | exact dec_true f5 | exact dec_true f6 | exact dec_false f7; done)))
      | (show WL _ _ _ _ _ _ _; first | apply WL.nil | (refine WL.au (k := ?_)))
      | (show Z _ _ _ _ _; apply Z.then_normal)
      | (show W _ _ _ _ _ _; first | apply W.seq | apply W.region | apply W.ret)
      | fail)
    exact Z.body1 Try.results49 rfl fun q => ⟨congrArg Value.bool (by rw [dec_false (show ¬ FewC c.t m from fun h => f7 (few_iff.1 h).2.2.2.2.2.2.2)] <;> exact dec_false f7), Ext.at (by (exact extA)) q⟩
  refine Spec.of _ Try.func49 rfl Try.ntmps49 (by kernel_rfl) rfl ?_
  repeat' (first
    | (apply WL.box; exact rfl; exact rfl; exact rfl; intro gb w' hb hge hc hx; have hcc := hc; (first | (obtain ⟨h1, h2, h3, _⟩ := hc) | (obtain ⟨h1, h2, _⟩ := hc)); (obtain ⟨y0, y1, y2, y3, y4, y5, y6, y7, y8, _⟩ := hcc))
    | (apply WL.gT; exact rfl; exact rfl; (focus (first | exact dec_true f0 | exact dec_true f1 | exact dec_true f2 | exact dec_true f3 | exact dec_true f4 | exact dec_true f5 | exact dec_true f6 | exact dec_true f7; done)))
    | (show WL _ _ _ _ _ _ _; first | apply WL.nil | (refine WL.au (k := ?_)))
    | (show Z _ _ _ _ _; apply Z.then_normal)
    | (show W _ _ _ _ _ _; first | apply W.seq | apply W.region | apply W.ret)
    | fail)
  exact Z.body1 Try.results49 rfl fun q => ⟨congrArg Value.bool (by rw [dec_true (show FewC c.t m from few_iff.2 ⟨f0, f1, f2, f3, f4, f5, f6, f7⟩)] <;> exact dec_true f7), Ext.at (by (exact extA)) q⟩
end Go.Proofs.Ytlcenenkloicjaa
namespace Go.Proofs.Ytlcenenkloicjaa
open Go Go.Lt Go.RowKit
set_option linter.unusedVariables false
set_option linter.unusedSimpArgs false
set_option maxRecDepth 20000

theorem few_sz {c : CirT} {m : Int} (hm : m ≤ 100000) (h : FewC c m) : SzC c 100000 := by
  obtain ⟨h1, h2, h3, h4, h5, h6, _, _⟩ := few_iff.1 h
  exact ⟨by omega, by omega, by omega, by omega, by omega, by omega⟩
set_option maxHeartbeats 16000000 in
theorem law11_Small (c : Circ) (m : Int) (w : World) (hC : CAt w c) (hm : m ≤ 100000) : Pure Try.prog 19 [c.val, .int .i64 m] w (.bool (dec (FewC c.t m ∧ c.max ≤ 300 ∧ GoodC' c.t))) := by
  by_cases f0 : FewC c.t m
  rotate_left
  · refine Spec.of _ Try.func19 rfl Try.ntmps19 (by kernel_rfl) rfl ?_
    repeat' (first
      | (apply WL.box; exact rfl; exact rfl; exact rfl; intro gb w' hb hge hc hx; have hcc := hc; (first | (obtain ⟨h1, h2, h3, _⟩ := hc) | (obtain ⟨h1, h2, _⟩ := hc)); (have hcells := hcc; obtain ⟨y0, _⟩ := hcc))
      | ((show WL _ _ _ (⟨_, .call ⟨.value (.func 49), _, _⟩, _, _, _, _⟩ :: _) _ _ _); apply WL.callP; exact rfl; exact rfl; exact rfl; exact rfl; exact law11_Few c m _; intro w' hx)
      | (apply WL.gF; exact rfl; exact rfl; (focus (exact dec_false f0; done)))
      | (show WL _ _ _ _ _ _ _; first | apply WL.nil | (refine WL.au (k := ?_)) | (apply WL.guardF; exact rfl; exact rfl))
      | (show Z _ _ _ _ _; apply Z.then_normal)
      | (show W _ _ _ _ _ _; first | apply W.seq | apply W.region | apply W.ret)
      | fail)
    exact Z.body1 Try.results19 rfl fun q => ⟨congrArg Value.bool (by rw [dec_false (show ¬ (FewC c.t m ∧ c.max ≤ 300 ∧ GoodC' c.t) from fun h => f0 h.1)] <;> exact dec_false f0), Ext.at (by (exact extA)) q⟩
  by_cases f1 : c.max ≤ 300
  rotate_left
  · refine Spec.of _ Try.func19 rfl Try.ntmps19 (by kernel_rfl) rfl ?_
    repeat' (first
      | (apply WL.box; exact rfl; exact rfl; exact rfl; intro gb w' hb hge hc hx; have hcc := hc; (first | (obtain ⟨h1, h2, h3, _⟩ := hc) | (obtain ⟨h1, h2, _⟩ := hc)); (have hcells := hcc; obtain ⟨y0, _⟩ := hcc))
      | ((show WL _ _ _ (⟨_, .call ⟨.value (.func 49), _, _⟩, _, _, _, _⟩ :: _) _ _ _); apply WL.callP; exact rfl; exact rfl; exact rfl; exact rfl; exact law11_Few c m _; intro w' hx)
      | (apply WL.gT; exact rfl; exact rfl; (focus (first | exact dec_true f0 | exact dec_false f1; done)))
      | (apply WL.gF; exact rfl; exact rfl; (focus (first | exact dec_true f0 | exact dec_false f1; done)))
      | (show WL _ _ _ _ _ _ _; first | apply WL.nil | (refine WL.au (k := ?_)) | (apply WL.guardF; exact rfl; exact rfl))
      | (show Z _ _ _ _ _; apply Z.then_normal)
      | (show W _ _ _ _ _ _; first | apply W.seq | apply W.region | apply W.ret)
      | fail)
    exact Z.body1 Try.results19 rfl fun q => ⟨congrArg Value.bool (by rw [dec_false (show ¬ (FewC c.t m ∧ c.max ≤ 300 ∧ GoodC' c.t) from fun h => f1 h.2.1)] <;> exact dec_false f1), Ext.at (by (exact extA)) q⟩
  have hz := few_sz hm f0
  refine Spec.of _ Try.func19 rfl Try.ntmps19 (by kernel_rfl) rfl ?_
  repeat' (first
    | (apply WL.box; exact rfl; exact rfl; exact rfl; intro gb w' hb hge hc hx; have hcc := hc; (first | (obtain ⟨h1, h2, h3, _⟩ := hc) | (obtain ⟨h1, h2, _⟩ := hc)); (have hcells := hcc; obtain ⟨y0, _⟩ := hcc))
    | ((show WL _ _ _ (⟨_, .call ⟨.value (.func 49), _, _⟩, _, _, _, _⟩ :: _) _ _ _); apply WL.callP; exact rfl; exact rfl; exact rfl; exact rfl; exact law11_Few c m _; intro w' hx)
    | ((show WL _ _ _ (⟨_, .call ⟨.value (.func 50), _, _⟩, _, _, _, _⟩ :: _) _ _ _); apply WL.callP; exact rfl; exact rfl; exact rfl; exact rfl; exact ref11_Check c _ (hC.ext (by (exact extA))) hz; intro w' hx)
    | (apply WL.gT; exact rfl; exact rfl; (focus (first | exact dec_true f0 | exact dec_true f1; done)))
    | (show WL _ _ _ _ _ _ _; first | apply WL.nil | (refine WL.au (k := ?_)))
    | (show Z _ _ _ _ _; apply Z.then_normal)
    | (show W _ _ _ _ _ _; first | apply W.seq | apply W.region | apply W.ret)
    | fail)
  by_cases f2 : chkC c.t = 0
  · exact Z.body1 Try.results19 rfl fun q => ⟨congrArg Value.bool (by rw [dec_true (show FewC c.t m ∧ c.max ≤ 300 ∧ GoodC' c.t from ⟨f0, f1, chkC_good.1 f2⟩)] <;> exact dec_true f2), Ext.at (by (exact extA)) q⟩
  · exact Z.body1 Try.results19 rfl fun q => ⟨congrArg Value.bool (by rw [dec_false (show ¬ (FewC c.t m ∧ c.max ≤ 300 ∧ GoodC' c.t) from fun h => f2 (chkC_good.2 h.2.2))] <;> exact dec_false f2), Ext.at (by (exact extA)) q⟩
end Go.Proofs.Ytlcenenkloicjaa
namespace Go.Proofs.Ytlcenenkloicjaa
open Go Go.Lt Go.RowKit
set_option linter.unusedVariables false
set_option linter.unusedSimpArgs false
set_option maxRecDepth 20000

/-- The rows of a circuit, each in a block of its own. -/
noncomputable def Circ.ps (B : Nat) (d : Circ) : List Piece :=
  [prowZ 3 encY 167 B d.syms.1 d.syms.2.1 d.syms.2.2, prowZ 3 enc3 94 B d.gates.1 d.gates.2.1 d.gates.2.2, prowZ 3 enc3 92 B d.lat.1 d.lat.2.1 d.lat.2.2,
    prowZ 1 encI 3 B d.cons.1 d.cons.2.1 d.cons.2.2, prowZ 1 encI 3 B d.bads.1 d.bads.2.1 d.bads.2.2, prowZ 1 encI 3 B d.outs.1 d.outs.2.1 d.outs.2.2, prowZ 1 encI 3 B d.ins.1 d.ins.2.1 d.ins.2.2]
/-- Their rooms. -/
structure CapC (d : Circ) : Prop where
  ins : d.ins.2.2.length ≤ d.ins.2.1 ∧ (d.ins.1 = none → d.ins.2.1 = 0)
  lat : d.lat.2.2.length ≤ d.lat.2.1 ∧ (d.lat.1 = none → d.lat.2.1 = 0)
  outs : d.outs.2.2.length ≤ d.outs.2.1 ∧ (d.outs.1 = none → d.outs.2.1 = 0)
  bads : d.bads.2.2.length ≤ d.bads.2.1 ∧ (d.bads.1 = none → d.bads.2.1 = 0)
  cons : d.cons.2.2.length ≤ d.cons.2.1 ∧ (d.cons.1 = none → d.cons.2.1 = 0)
  gates : d.gates.2.2.length ≤ d.gates.2.1 ∧ (d.gates.1 = none → d.gates.2.1 = 0)
  syms : d.syms.2.2.length ≤ d.syms.2.1 ∧ (d.syms.1 = none → d.syms.2.1 = 0)
theorem rowZ_row {α : Type} {s : Nat} {enc : α → List Value} {el B cap i : Nat} {a : Option Addr} {l : List α} {w : World} {ps : List Piece} (hE : Enc s enc) (hS : Lt.Sep B w ps) (h : ps[i]? = some (prowZ s enc el B a cap l)) : Row s enc w a l := by
  by_cases hl : l = []
  · subst hl; exact Row.nil s enc w a
  · exact (hS.rowZ h hl).row hE
/-- A circuit of one's own. -/
structure OwnC (B : Nat) (w : World) (d : Circ) : Prop where
  sep : Lt.Sep B w (d.ps B)
  cap : CapC d
theorem OwnC.at {B : Nat} {w : World} {d : Circ} (h : OwnC B w d) : CAt w d :=
  ⟨⟨rowZ_row encI_ok h.sep (i := 6) rfl, h.cap.ins.1, h.cap.ins.2⟩, ⟨rowZ_row enc3_ok h.sep (i := 2) rfl, h.cap.lat.1, h.cap.lat.2⟩, ⟨rowZ_row encI_ok h.sep (i := 5) rfl, h.cap.outs.1, h.cap.outs.2⟩, ⟨rowZ_row encI_ok h.sep (i := 4) rfl, h.cap.bads.1, h.cap.bads.2⟩,
    ⟨rowZ_row encI_ok h.sep (i := 3) rfl, h.cap.cons.1, h.cap.cons.2⟩, ⟨rowZ_row enc3_ok h.sep (i := 1) rfl, h.cap.gates.1, h.cap.gates.2⟩, ⟨rowZ_row encY_ok h.sep (i := 0) rfl, h.cap.syms.1, h.cap.syms.2⟩⟩
theorem OwnC.ext {B : Nat} {w w' : World} {d : Circ} (h : OwnC B w d) (hx : Ext w w') : OwnC B w' d := ⟨h.sep.ext hx, h.cap⟩

set_option maxHeartbeats 16000000 in
theorem law11_Own (c : Circ) (w : World) (hC : CAt w c) (hz : SzC c.t 100000) (hz2 : c.t.syms.length ≤ 100000) :
    Lt.Spec Try.prog 24 [c.val] w (fun v w' => Ext w w' ∧ ∃ d : Circ, v = d.val ∧ d.t = c.t ∧ OwnC w.heap.size w' d) := by
  have z1 : c.ins.2.2.length ≤ 100000 := hz.1
  have z2 : c.lat.2.2.length ≤ 100000 := hz.2.1
  have z3 : c.outs.2.2.length ≤ 100000 := hz.2.2.1
  have z4 : c.bads.2.2.length ≤ 100000 := hz.2.2.2.1
  have z5 : c.cons.2.2.length ≤ 100000 := hz.2.2.2.2.1
  have z6 : c.gates.2.2.length ≤ 100000 := hz.2.2.2.2.2
  have z7 : c.syms.2.2.length ≤ 100000 := hz2
  have hS : Lt.Sep w.heap.size w [] := Sep.none'
  have Ri := hC.ins.row
  have Ro := hC.outs.row
  have Rb := hC.bads.row
  have Rn := hC.cons.row
  have Rl := hC.lat.row
  have Rg := hC.gates.row
  have Ry := hC.syms.row
  have ni := hC.ins.none
  have no := hC.outs.none
  have nb := hC.bads.none
  have nn := hC.cons.none
  have nl := hC.lat.none
  have ng := hC.gates.none
  have ny := hC.syms.none
  refine Spec.of _ Try.func24 rfl Try.ntmps24 (by kernel_rfl) rfl ?_
  repeat' (first
    | (apply WL.box; exact rfl; exact rfl; exact rfl; intro gb w' hb hge hc hx; have hcc := hc; (first | (obtain ⟨h1, h2, h3, _⟩ := hc) | (obtain ⟨h1, h2, _⟩ := hc)); (have hcells := hcc; obtain ⟨y0, y1, y2, y3, y4, y5, y6, y7, y8, _⟩ := hcc; obtain ⟨gc, rfl⟩ : ∃ x, x = gb := ⟨_, rfl⟩; obtain ⟨wc, rfl⟩ : ∃ x, x = w' := ⟨_, rfl⟩; obtain ⟨hxc, rfl⟩ : ∃ x, x = hx := ⟨_, rfl⟩))
    | (apply WL.alloc tOk; exact rfl; exact rfl; exact rfl; intro gb w' hb hge hx; replace hS := Sep.newCell (Sep.ext hS (by (exact extA))) hx hb hge (by (first | exact Nat.le_refl _ | exact Below.size (by (exact extA)))); (try simp only [List.set_cons_zero, List.set_cons_succ] at hS); (try have hR0 := hS.row (i := 0) rfl); (try have hR1 := hS.row (i := 1) rfl); (try have hR2 := hS.row (i := 2) rfl); (try have hR3 := hS.row (i := 3) rfl); (try have hR4 := hS.row (i := 4) rfl); (try have hC0 := hS.cell (i := 0) rfl); (try have hD0 := (cells_heap hC0).1); (try have hE0 := (cells_heap hC0).2.1); (try have hF0 := (cells_heap hC0).2.2.1); (try have hG0 := (cells_heap hC0).2.2.2.1); (try have hC1 := hS.cell (i := 1) rfl); (try have hD1 := (cells_heap hC1).1); (try have hE1 := (cells_heap hC1).2.1); (try have hF1 := (cells_heap hC1).2.2.1); (try have hG1 := (cells_heap hC1).2.2.2.1); (try have hC2 := hS.cell (i := 2) rfl); (try have hD2 := (cells_heap hC2).1); (try have hE2 := (cells_heap hC2).2.1); (try have hF2 := (cells_heap hC2).2.2.1); (try have hG2 := (cells_heap hC2).2.2.2.1); (try have hC3 := hS.cell (i := 3) rfl); (try have hD3 := (cells_heap hC3).1); (try have hE3 := (cells_heap hC3).2.1); (try have hF3 := (cells_heap hC3).2.2.1); (try have hG3 := (cells_heap hC3).2.2.2.1); (try have hC4 := hS.cell (i := 4) rfl); (try have hD4 := (cells_heap hC4).1); (try have hE4 := (cells_heap hC4).2.1); (try have hF4 := (cells_heap hC4).2.2.1); (try have hG4 := (cells_heap hC4).2.2.2.1); (try have hM0 := hS.map (i := 0) rfl); (try have hM1 := hS.map (i := 1) rfl); (try have hM2 := hS.map (i := 2) rfl); (try have hM3 := hS.map (i := 3) rfl); (try have hM4 := hS.map (i := 4) rfl); (first | (have h_0 := g2; clear h_0) | (obtain ⟨g2, rfl⟩ : ∃ x, x = gb := ⟨_, rfl⟩)))
    | (apply WL.storeB (w0 := wc) tOk; exact rfl; exact rfl; exact rfl; exact rfl; assumption; (exact extA); exact rfl; exact rfl; exact rfl; (exact extA); (first | assumption | omega | (focus (apply Nat.le_trans; rotate_left; assumption; exact Below.size (by (exact extA)); done))); intro w' hb hc hX' hU; have hcc := hc; obtain ⟨h1, h2, _⟩ := hc; (first | replace hS := Sep.updCell (i := 0) rfl hU hb hS (by (exact extA)) (by (first | exact Nat.le_refl _ | exact Below.size (by (exact extA)))) | replace hS := Sep.updCell (i := 1) rfl hU hb hS (by (exact extA)) (by (first | exact Nat.le_refl _ | exact Below.size (by (exact extA)))) | replace hS := Sep.updCell (i := 2) rfl hU hb hS (by (exact extA)) (by (first | exact Nat.le_refl _ | exact Below.size (by (exact extA)))) | replace hS := Sep.updCell (i := 3) rfl hU hb hS (by (exact extA)) (by (first | exact Nat.le_refl _ | exact Below.size (by (exact extA))))); (try simp only [List.set_cons_zero, List.set_cons_succ] at hS); (try have hR0 := hS.row (i := 0) rfl); (try have hR1 := hS.row (i := 1) rfl); (try have hR2 := hS.row (i := 2) rfl); (try have hR3 := hS.row (i := 3) rfl); (try have hR4 := hS.row (i := 4) rfl); (try have hC0 := hS.cell (i := 0) rfl); (try have hD0 := (cells_heap hC0).1); (try have hE0 := (cells_heap hC0).2.1); (try have hF0 := (cells_heap hC0).2.2.1); (try have hG0 := (cells_heap hC0).2.2.2.1); (try have hC1 := hS.cell (i := 1) rfl); (try have hD1 := (cells_heap hC1).1); (try have hE1 := (cells_heap hC1).2.1); (try have hF1 := (cells_heap hC1).2.2.1); (try have hG1 := (cells_heap hC1).2.2.2.1); (try have hC2 := hS.cell (i := 2) rfl); (try have hD2 := (cells_heap hC2).1); (try have hE2 := (cells_heap hC2).2.1); (try have hF2 := (cells_heap hC2).2.2.1); (try have hG2 := (cells_heap hC2).2.2.2.1); (try have hC3 := hS.cell (i := 3) rfl); (try have hD3 := (cells_heap hC3).1); (try have hE3 := (cells_heap hC3).2.1); (try have hF3 := (cells_heap hC3).2.2.1); (try have hG3 := (cells_heap hC3).2.2.2.1); (try have hC4 := hS.cell (i := 4) rfl); (try have hD4 := (cells_heap hC4).1); (try have hE4 := (cells_heap hC4).2.1); (try have hF4 := (cells_heap hC4).2.2.1); (try have hG4 := (cells_heap hC4).2.2.2.1); (try have hM0 := hS.map (i := 0) rfl); (try have hM1 := hS.map (i := 1) rfl); (try have hM2 := hS.map (i := 2) rfl); (try have hM3 := hS.map (i := 3) rfl); (try have hM4 := hS.map (i := 4) rfl))
    | (show WL _ _ _ _ _ _ _; first | apply WL.nil | (refine WL.au (k := ?_)))
    | (show Z _ _ _ _ _; apply Z.then_normal)
    | (show W _ _ _ _ _ _; first | apply W.seq | apply W.region)
    | fail)
  replace hS : Lt.Sep w.heap.size w' [pcell gb c.vals.toArray 41, pcell g2 (Value.cells (.agg #[.int .i64 0, .slice none 0 0, .slice none 0 0, .slice none 0 0, .slice none 0 0, .slice none 0 0, .slice none 0 0, .slice none 0 0, .string ⟨#[]⟩])) 41] := hS
  (try simp only [List.set_cons_zero, List.set_cons_succ] at hS); (try have hR0 := hS.row (i := 0) rfl); (try have hR1 := hS.row (i := 1) rfl); (try have hR2 := hS.row (i := 2) rfl); (try have hR3 := hS.row (i := 3) rfl); (try have hR4 := hS.row (i := 4) rfl); (try have hC0 := hS.cell (i := 0) rfl); (try have hD0 := (cells_heap hC0).1); (try have hE0 := (cells_heap hC0).2.1); (try have hF0 := (cells_heap hC0).2.2.1); (try have hG0 := (cells_heap hC0).2.2.2.1); (try have hC1 := hS.cell (i := 1) rfl); (try have hD1 := (cells_heap hC1).1); (try have hE1 := (cells_heap hC1).2.1); (try have hF1 := (cells_heap hC1).2.2.1); (try have hG1 := (cells_heap hC1).2.2.2.1); (try have hC2 := hS.cell (i := 2) rfl); (try have hD2 := (cells_heap hC2).1); (try have hE2 := (cells_heap hC2).2.1); (try have hF2 := (cells_heap hC2).2.2.1); (try have hG2 := (cells_heap hC2).2.2.2.1); (try have hC3 := hS.cell (i := 3) rfl); (try have hD3 := (cells_heap hC3).1); (try have hE3 := (cells_heap hC3).2.1); (try have hF3 := (cells_heap hC3).2.2.1); (try have hG3 := (cells_heap hC3).2.2.2.1); (try have hC4 := hS.cell (i := 4) rfl); (try have hD4 := (cells_heap hC4).1); (try have hE4 := (cells_heap hC4).2.1); (try have hF4 := (cells_heap hC4).2.2.1); (try have hG4 := (cells_heap hC4).2.2.2.1); (try have hM0 := hS.map (i := 0) rfl); (try have hM1 := hS.map (i := 1) rfl); (try have hM2 := hS.map (i := 2) rfl); (try have hM3 := hS.map (i := 3) rfl); (try have hM4 := hS.map (i := 4) rfl)
  obtain ⟨w1, rfl⟩ : ∃ x, x = w' := ⟨_, rfl⟩
  have hX1 : Ext wc w1 := (by (exact extA))
  have hX2 : Ext w w1 := (by (exact extA))
  have hw1 : w.heap.size ≤ w1.heap.size := Below.size hX2
  repeat' (first
    | (show W _ _ (.region 2 _ _) _ _ _; apply W.regionI 17 [prLit 3 w1.heap.size, .is (.pointer (some ⟨gc, 0 + 1, none⟩)), .is (rowVal c.ins), prRow 1 encI 3 w1.heap.size c.ins.2.2, prLit 3 w1.heap.size, .is (.pointer (some ⟨gc, 0 + 1 + 1 + 1, none⟩)), .is (rowVal c.outs), prRow 1 encI 3 w1.heap.size c.outs.2.2, prLit 3 w1.heap.size, .is (.pointer (some ⟨gc, 0 + 1 + 1 + 1 + 1, none⟩)), .is (rowVal c.bads), prRow 1 encI 3 w1.heap.size c.bads.2.2, prLit 3 w1.heap.size, .is (.pointer (some ⟨gc, 0 + 1 + 1 + 1 + 1 + 1, none⟩)), .is (rowVal c.cons), prRow 1 encI 3 w1.heap.size c.cons.2.2, .is (.pointer (some ⟨gb, 0 + 1, none⟩))] tMix; kernel_rfl; exact rfl; kernel_rfl; kernel_rfl; exact rfl; exact rfl)
    | (show OBL _ _ _ _ _ _ _ _; apply OBL.nil)
    | (show OBL _ _ _ _ _ _ 0 _; apply OBL.cons (ds := []); exact rfl; exact rfl; exact rfl; kernel_rfl; intro w8 hw8 rest8)
    | (show OBL _ _ _ _ _ _ 1 _; apply OBL.cons (ds := []); exact rfl; exact rfl; exact rfl; kernel_rfl; intro w8 hw8 rest8)
    | (show OBL _ _ _ _ _ _ 2 _; apply OBL.cons (ds := [1]); exact rfl; exact rfl; exact rfl; kernel_rfl; intro w8 hw8 rest8)
    | (show OBL _ _ _ _ _ _ 3 _; apply OBL.cons (ds := [0, 2]); exact rfl; exact rfl; exact rfl; kernel_rfl; intro w8 hw8 rest8)
    | (show OBL _ _ _ _ _ _ 4 _; apply OBL.cons (ds := []); exact rfl; exact rfl; exact rfl; kernel_rfl; intro w8 hw8 rest8)
    | (show OBL _ _ _ _ _ _ 5 _; apply OBL.cons (ds := []); exact rfl; exact rfl; exact rfl; kernel_rfl; intro w8 hw8 rest8)
    | (show OBL _ _ _ _ _ _ 6 _; apply OBL.cons (ds := [5]); exact rfl; exact rfl; exact rfl; kernel_rfl; intro w8 hw8 rest8)
    | (show OBL _ _ _ _ _ _ 7 _; apply OBL.cons (ds := [4, 6, 3]); exact rfl; exact rfl; exact rfl; kernel_rfl; intro w8 hw8 rest8)
    | (show OBL _ _ _ _ _ _ 8 _; apply OBL.cons (ds := []); exact rfl; exact rfl; exact rfl; kernel_rfl; intro w8 hw8 rest8)
    | (show OBL _ _ _ _ _ _ 9 _; apply OBL.cons (ds := []); exact rfl; exact rfl; exact rfl; kernel_rfl; intro w8 hw8 rest8)
    | (show OBL _ _ _ _ _ _ 10 _; apply OBL.cons (ds := [9]); exact rfl; exact rfl; exact rfl; kernel_rfl; intro w8 hw8 rest8)
    | (show OBL _ _ _ _ _ _ 11 _; apply OBL.cons (ds := [8, 10, 7]); exact rfl; exact rfl; exact rfl; kernel_rfl; intro w8 hw8 rest8)
    | (show OBL _ _ _ _ _ _ 12 _; apply OBL.cons (ds := []); exact rfl; exact rfl; exact rfl; kernel_rfl; intro w8 hw8 rest8)
    | (show OBL _ _ _ _ _ _ 13 _; apply OBL.cons (ds := []); exact rfl; exact rfl; exact rfl; kernel_rfl; intro w8 hw8 rest8)
    | (show OBL _ _ _ _ _ _ 14 _; apply OBL.cons (ds := [13]); exact rfl; exact rfl; exact rfl; kernel_rfl; intro w8 hw8 rest8)
    | (show OBL _ _ _ _ _ _ 15 _; apply OBL.cons (ds := [12, 14, 11]); exact rfl; exact rfl; exact rfl; kernel_rfl; intro w8 hw8 rest8)
    | (show OBL _ _ _ _ _ _ 16 _; apply OBL.cons (ds := [0, 1, 2, 3]); exact rfl; exact rfl; exact rfl; kernel_rfl; intro w8 hw8 rest8)
    | (show NO _ _ _ _ _ _ _ _ _ _; first | apply NO.nil | (apply NO.is; exact rfl; exact rfl) | (apply NO.ex; exact rfl; exact rfl; (first | (rintro _ ⟨gl, rfl, hlb, hlge⟩) | (rintro _ ⟨ar, cr, rfl, hOr⟩))))
    | (intro w8 hw8; show NF _ _ _ _ _ _ _ _ _)
    | (show NF _ _ _ _ _ _ _ _ _; first | (apply NF.nilT; intro hap; replace hS := Sep.news [prowZ 1 encI 3 w.heap.size ar2_15 cr2_15 c.cons.2.2, prowZ 1 encI 3 w.heap.size ar2_11 cr2_11 c.bads.2.2, prowZ 1 encI 3 w.heap.size ar2_7 cr2_7 c.outs.2.2, prowZ 1 encI 3 w.heap.size ar2_3 cr2_3 c.ins.2.2] hS hw8 (by rintro q hq; simp only [List.mem_cons, List.not_mem_nil, or_false] at hq; rcases hq with rfl | rfl | rfl | rfl <;> exact prowZ_new (by assumption) hw1) (apartS hap) hw1; simp only [List.cons_append, List.nil_append] at hS; (try simp only [List.set_cons_zero, List.set_cons_succ] at hS); (try have hR0 := hS.row (i := 0) rfl); (try have hR1 := hS.row (i := 1) rfl); (try have hR2 := hS.row (i := 2) rfl); (try have hR3 := hS.row (i := 3) rfl); (try have hR4 := hS.row (i := 4) rfl); (try have hC0 := hS.cell (i := 0) rfl); (try have hD0 := (cells_heap hC0).1); (try have hE0 := (cells_heap hC0).2.1); (try have hF0 := (cells_heap hC0).2.2.1); (try have hG0 := (cells_heap hC0).2.2.2.1); (try have hC1 := hS.cell (i := 1) rfl); (try have hD1 := (cells_heap hC1).1); (try have hE1 := (cells_heap hC1).2.1); (try have hF1 := (cells_heap hC1).2.2.1); (try have hG1 := (cells_heap hC1).2.2.2.1); (try have hC2 := hS.cell (i := 2) rfl); (try have hD2 := (cells_heap hC2).1); (try have hE2 := (cells_heap hC2).2.1); (try have hF2 := (cells_heap hC2).2.2.1); (try have hG2 := (cells_heap hC2).2.2.2.1); (try have hC3 := hS.cell (i := 3) rfl); (try have hD3 := (cells_heap hC3).1); (try have hE3 := (cells_heap hC3).2.1); (try have hF3 := (cells_heap hC3).2.2.1); (try have hG3 := (cells_heap hC3).2.2.2.1); (try have hC4 := hS.cell (i := 4) rfl); (try have hD4 := (cells_heap hC4).1); (try have hE4 := (cells_heap hC4).2.1); (try have hF4 := (cells_heap hC4).2.2.1); (try have hG4 := (cells_heap hC4).2.2.2.1); (try have hM0 := hS.map (i := 0) rfl); (try have hM1 := hS.map (i := 1) rfl); (try have hM2 := hS.map (i := 2) rfl); (try have hM3 := hS.map (i := 3) rfl); (try have hM4 := hS.map (i := 4) rfl)) | (apply NF.is; exact rfl; exact rfl))
    | (show NF _ _ _ _ _ _ (0 :: _) _ _; apply NF.ex; exact rfl; exact rfl; rintro _ ⟨gl2_0, rfl, hlb2_0, hlge2_0⟩)
    | (show NF _ _ _ _ _ _ (3 :: _) _ _; apply NF.ex; exact rfl; exact rfl; rintro _ ⟨ar2_3, cr2_3, rfl, hOr2_3⟩)
    | (show NF _ _ _ _ _ _ (4 :: _) _ _; apply NF.ex; exact rfl; exact rfl; rintro _ ⟨gl2_4, rfl, hlb2_4, hlge2_4⟩)
    | (show NF _ _ _ _ _ _ (7 :: _) _ _; apply NF.ex; exact rfl; exact rfl; rintro _ ⟨ar2_7, cr2_7, rfl, hOr2_7⟩)
    | (show NF _ _ _ _ _ _ (8 :: _) _ _; apply NF.ex; exact rfl; exact rfl; rintro _ ⟨gl2_8, rfl, hlb2_8, hlge2_8⟩)
    | (show NF _ _ _ _ _ _ (11 :: _) _ _; apply NF.ex; exact rfl; exact rfl; rintro _ ⟨ar2_11, cr2_11, rfl, hOr2_11⟩)
    | (show NF _ _ _ _ _ _ (12 :: _) _ _; apply NF.ex; exact rfl; exact rfl; rintro _ ⟨gl2_12, rfl, hlb2_12, hlge2_12⟩)
    | (show NF _ _ _ _ _ _ (15 :: _) _ _; apply NF.ex; exact rfl; exact rfl; rintro _ ⟨ar2_15, cr2_15, rfl, hOr2_15⟩)
    | (show Z _ _ _ _ _; first | (apply Z.invIs; (exact extA)) | (apply Z.invLit; (exact extA); assumption; first | omega | (refine Nat.le_trans ?_ (by assumption); exact Below.size (by (exact extA)))) | (apply Z.invRow; (exact extA); assumption; assumption))
    | (apply WL.lit tOk; exact rfl; exact rfl; exact rfl; exact rfl; exact rfl; exact rfl; (first | exact rfl | kernel_rfl | (simp [Instr.fill, catCells]; done)); exact rfl; intro gb w' hb hge hc hx)
    | (apply WL.append0 tOk encI_ok; exact rfl; exact rfl; exact rfl; exact rfl; exact rfl; exact rfl; exact rfl; exact rfl; exact rfl; exact rfl; assumption; (first | assumption | omega); (exact extA); assumption; (exact extA); (first | exact rfl | (focus (simp only [List.length_set]; done)) | (focus (simp; done)) | (focus (simp [*]; done)) | omega | (focus (simp only [List.length_set]; omega))); (first | assumption | (intro h; cases h)); (first | omega | (simp; omega)); intro a' cap' w' hO hx hf0)
    | (apply WL.storeF (w0 := wc) tOk; exact rfl; exact rfl; exact rfl; exact rfl; assumption; (exact extA); exact rfl; exact rfl; exact rfl; exact rfl; (exact extA); (first | assumption | omega | (focus (apply Nat.le_trans; rotate_left; assumption; exact Below.size (by (exact extA))))); intro w' hb hX' hU; replace hS := Sep.updCell (i := 4) rfl hU hb hS (by (exact extA)) (by (first | exact Nat.le_refl _ | exact Below.size (by (exact extA)))); (try simp only [List.set_cons_zero, List.set_cons_succ] at hS); (try have hR0 := hS.row (i := 0) rfl); (try have hR1 := hS.row (i := 1) rfl); (try have hR2 := hS.row (i := 2) rfl); (try have hR3 := hS.row (i := 3) rfl); (try have hR4 := hS.row (i := 4) rfl); (try have hC0 := hS.cell (i := 0) rfl); (try have hD0 := (cells_heap hC0).1); (try have hE0 := (cells_heap hC0).2.1); (try have hF0 := (cells_heap hC0).2.2.1); (try have hG0 := (cells_heap hC0).2.2.2.1); (try have hC1 := hS.cell (i := 1) rfl); (try have hD1 := (cells_heap hC1).1); (try have hE1 := (cells_heap hC1).2.1); (try have hF1 := (cells_heap hC1).2.2.1); (try have hG1 := (cells_heap hC1).2.2.2.1); (try have hC2 := hS.cell (i := 2) rfl); (try have hD2 := (cells_heap hC2).1); (try have hE2 := (cells_heap hC2).2.1); (try have hF2 := (cells_heap hC2).2.2.1); (try have hG2 := (cells_heap hC2).2.2.2.1); (try have hC3 := hS.cell (i := 3) rfl); (try have hD3 := (cells_heap hC3).1); (try have hE3 := (cells_heap hC3).2.1); (try have hF3 := (cells_heap hC3).2.2.1); (try have hG3 := (cells_heap hC3).2.2.2.1); (try have hC4 := hS.cell (i := 4) rfl); (try have hD4 := (cells_heap hC4).1); (try have hE4 := (cells_heap hC4).2.1); (try have hF4 := (cells_heap hC4).2.2.1); (try have hG4 := (cells_heap hC4).2.2.2.1); (try have hM0 := hS.map (i := 0) rfl); (try have hM1 := hS.map (i := 1) rfl); (try have hM2 := hS.map (i := 2) rfl); (try have hM3 := hS.map (i := 3) rfl); (try have hM4 := hS.map (i := 4) rfl))
    | (show WL _ _ _ _ _ _ _; first | apply WL.nil | (refine WL.au (k := ?_)))
    | (show Z _ _ _ _ _; apply Z.then_normal)
    | (show W _ _ _ _ _ _; apply W.seq)
    | fail)
  obtain ⟨w2, rfl⟩ : ∃ x, x = w' := ⟨_, rfl⟩
  have hX3 : Ext wc w2 := (by (exact extA))
  have hw2 : w.heap.size ≤ w2.heap.size := Nat.le_trans (Below.size hxc) (Below.size hX3)
  repeat' (first
    | (show W _ _ (.region 3 _ _) _ _ _; apply W.regionI 13 [prLit 92 w2.heap.size, .is (.pointer (some ⟨gc, 0 + 1 + 1, none⟩)), .is (rowVal c.lat), prRow 3 enc3 92 w2.heap.size c.lat.2.2, prLit 94 w2.heap.size, .is (.pointer (some ⟨gc, 0 + 1 + 1 + 1 + 1 + 1 + 1, none⟩)), .is (rowVal c.gates), prRow 3 enc3 94 w2.heap.size c.gates.2.2, prLit 167 w2.heap.size, .is (.pointer (some ⟨gc, 0 + 1 + 1 + 1 + 1 + 1 + 1 + 1, none⟩)), .is (rowVal c.syms), prRow 3 encY 167 w2.heap.size c.syms.2.2, .is (.pointer (some ⟨gb, 0 + 2, none⟩))] tMix; kernel_rfl; exact rfl; kernel_rfl; kernel_rfl; exact rfl; exact rfl)
    | (show OBL _ _ _ _ _ _ _ _; apply OBL.nil)
    | (show OBL _ _ _ _ _ _ 0 _; apply OBL.cons (ds := []); exact rfl; exact rfl; exact rfl; kernel_rfl; intro w8 hw8 rest8)
    | (show OBL _ _ _ _ _ _ 1 _; apply OBL.cons (ds := []); exact rfl; exact rfl; exact rfl; kernel_rfl; intro w8 hw8 rest8)
    | (show OBL _ _ _ _ _ _ 2 _; apply OBL.cons (ds := [1]); exact rfl; exact rfl; exact rfl; kernel_rfl; intro w8 hw8 rest8)
    | (show OBL _ _ _ _ _ _ 3 _; apply OBL.cons (ds := [0, 2]); exact rfl; exact rfl; exact rfl; kernel_rfl; intro w8 hw8 rest8)
    | (show OBL _ _ _ _ _ _ 4 _; apply OBL.cons (ds := []); exact rfl; exact rfl; exact rfl; kernel_rfl; intro w8 hw8 rest8)
    | (show OBL _ _ _ _ _ _ 5 _; apply OBL.cons (ds := []); exact rfl; exact rfl; exact rfl; kernel_rfl; intro w8 hw8 rest8)
    | (show OBL _ _ _ _ _ _ 6 _; apply OBL.cons (ds := [5]); exact rfl; exact rfl; exact rfl; kernel_rfl; intro w8 hw8 rest8)
    | (show OBL _ _ _ _ _ _ 7 _; apply OBL.cons (ds := [4, 6, 3]); exact rfl; exact rfl; exact rfl; kernel_rfl; intro w8 hw8 rest8)
    | (show OBL _ _ _ _ _ _ 8 _; apply OBL.cons (ds := []); exact rfl; exact rfl; exact rfl; kernel_rfl; intro w8 hw8 rest8)
    | (show OBL _ _ _ _ _ _ 9 _; apply OBL.cons (ds := []); exact rfl; exact rfl; exact rfl; kernel_rfl; intro w8 hw8 rest8)
    | (show OBL _ _ _ _ _ _ 10 _; apply OBL.cons (ds := [9]); exact rfl; exact rfl; exact rfl; kernel_rfl; intro w8 hw8 rest8)
    | (show OBL _ _ _ _ _ _ 11 _; apply OBL.cons (ds := [8, 10, 7]); exact rfl; exact rfl; exact rfl; kernel_rfl; intro w8 hw8 rest8)
    | (show OBL _ _ _ _ _ _ 12 _; apply OBL.cons (ds := [0, 1, 2, 3]); exact rfl; exact rfl; exact rfl; kernel_rfl; intro w8 hw8 rest8)
    | (show NO _ _ _ _ _ _ _ _ _ _; first | apply NO.nil | (apply NO.is; exact rfl; exact rfl) | (apply NO.ex; exact rfl; exact rfl; (first | (rintro _ ⟨gl, rfl, hlb, hlge⟩) | (rintro _ ⟨ar, cr, rfl, hOr⟩))))
    | (intro w8 hw8; show NF _ _ _ _ _ _ _ _ _)
    | (show NF _ _ _ _ _ _ _ _ _; first | (apply NF.nilT; intro hap; replace hS := Sep.news [prowZ 3 encY 167 w.heap.size ar3_11 cr3_11 c.syms.2.2, prowZ 3 enc3 94 w.heap.size ar3_7 cr3_7 c.gates.2.2, prowZ 3 enc3 92 w.heap.size ar3_3 cr3_3 c.lat.2.2] hS hw8 (by rintro q hq; simp only [List.mem_cons, List.not_mem_nil, or_false] at hq; rcases hq with rfl | rfl | rfl <;> exact prowZ_new (by assumption) hw2) (apartS hap) hw2; simp only [List.cons_append, List.nil_append] at hS; (try simp only [List.set_cons_zero, List.set_cons_succ] at hS); (try have hR0 := hS.row (i := 0) rfl); (try have hR1 := hS.row (i := 1) rfl); (try have hR2 := hS.row (i := 2) rfl); (try have hR3 := hS.row (i := 3) rfl); (try have hR4 := hS.row (i := 4) rfl); (try have hC0 := hS.cell (i := 0) rfl); (try have hD0 := (cells_heap hC0).1); (try have hE0 := (cells_heap hC0).2.1); (try have hF0 := (cells_heap hC0).2.2.1); (try have hG0 := (cells_heap hC0).2.2.2.1); (try have hC1 := hS.cell (i := 1) rfl); (try have hD1 := (cells_heap hC1).1); (try have hE1 := (cells_heap hC1).2.1); (try have hF1 := (cells_heap hC1).2.2.1); (try have hG1 := (cells_heap hC1).2.2.2.1); (try have hC2 := hS.cell (i := 2) rfl); (try have hD2 := (cells_heap hC2).1); (try have hE2 := (cells_heap hC2).2.1); (try have hF2 := (cells_heap hC2).2.2.1); (try have hG2 := (cells_heap hC2).2.2.2.1); (try have hC3 := hS.cell (i := 3) rfl); (try have hD3 := (cells_heap hC3).1); (try have hE3 := (cells_heap hC3).2.1); (try have hF3 := (cells_heap hC3).2.2.1); (try have hG3 := (cells_heap hC3).2.2.2.1); (try have hC4 := hS.cell (i := 4) rfl); (try have hD4 := (cells_heap hC4).1); (try have hE4 := (cells_heap hC4).2.1); (try have hF4 := (cells_heap hC4).2.2.1); (try have hG4 := (cells_heap hC4).2.2.2.1); (try have hM0 := hS.map (i := 0) rfl); (try have hM1 := hS.map (i := 1) rfl); (try have hM2 := hS.map (i := 2) rfl); (try have hM3 := hS.map (i := 3) rfl); (try have hM4 := hS.map (i := 4) rfl)) | (apply NF.is; exact rfl; exact rfl))
    | (show NF _ _ _ _ _ _ (0 :: _) _ _; apply NF.ex; exact rfl; exact rfl; rintro _ ⟨gl3_0, rfl, hlb3_0, hlge3_0⟩)
    | (show NF _ _ _ _ _ _ (3 :: _) _ _; apply NF.ex; exact rfl; exact rfl; rintro _ ⟨ar3_3, cr3_3, rfl, hOr3_3⟩)
    | (show NF _ _ _ _ _ _ (4 :: _) _ _; apply NF.ex; exact rfl; exact rfl; rintro _ ⟨gl3_4, rfl, hlb3_4, hlge3_4⟩)
    | (show NF _ _ _ _ _ _ (7 :: _) _ _; apply NF.ex; exact rfl; exact rfl; rintro _ ⟨ar3_7, cr3_7, rfl, hOr3_7⟩)
    | (show NF _ _ _ _ _ _ (8 :: _) _ _; apply NF.ex; exact rfl; exact rfl; rintro _ ⟨gl3_8, rfl, hlb3_8, hlge3_8⟩)
    | (show NF _ _ _ _ _ _ (11 :: _) _ _; apply NF.ex; exact rfl; exact rfl; rintro _ ⟨ar3_11, cr3_11, rfl, hOr3_11⟩)
    | (show Z _ _ _ _ _; first | (apply Z.invIs; (exact extA)) | (apply Z.invLit; (exact extA); assumption; first | omega | (refine Nat.le_trans ?_ (by assumption); exact Below.size (by (exact extA)))) | (apply Z.invRow; (exact extA); assumption; assumption))
    | (apply WL.lit tOk; exact rfl; exact rfl; exact rfl; exact rfl; exact rfl; exact rfl; (first | exact rfl | kernel_rfl | (simp [Instr.fill, catCells]; done)); exact rfl; intro gb w' hb hge hc hx)
    | (apply WL.append0 tOk enc3_ok; exact rfl; exact rfl; exact rfl; exact rfl; exact rfl; exact rfl; exact rfl; exact rfl; exact rfl; exact rfl; assumption; (first | assumption | omega); (exact extA); assumption; (exact extA); (first | exact rfl | (focus (simp only [List.length_set]; done)) | (focus (simp; done)) | (focus (simp [*]; done)) | omega | (focus (simp only [List.length_set]; omega))); (first | assumption | (intro h; cases h)); (first | omega | (simp; omega)); intro a' cap' w' hO hx hf0)
    | (apply WL.append0 tOk encY_ok; exact rfl; exact rfl; exact rfl; exact rfl; exact rfl; exact rfl; exact rfl; exact rfl; exact rfl; exact rfl; assumption; (first | assumption | omega); (exact extA); assumption; (exact extA); (first | exact rfl | (focus (simp only [List.length_set]; done)) | (focus (simp; done)) | (focus (simp [*]; done)) | omega | (focus (simp only [List.length_set]; omega))); (first | assumption | (intro h; cases h)); (first | omega | (simp; omega)); intro a' cap' w' hO hx hf0)
    | (apply WL.storeF (w0 := wc) tOk; exact rfl; exact rfl; exact rfl; exact rfl; assumption; (exact extA); exact rfl; exact rfl; exact rfl; exact rfl; (exact extA); (first | assumption | omega | (focus (apply Nat.le_trans; rotate_left; assumption; exact Below.size (by (exact extA))))); intro w' hb hX' hU; replace hS := Sep.updCell (i := 7) rfl hU hb hS (by (exact extA)) (by (first | exact Nat.le_refl _ | exact Below.size (by (exact extA)))); (try simp only [List.set_cons_zero, List.set_cons_succ] at hS); (try have hR0 := hS.row (i := 0) rfl); (try have hR1 := hS.row (i := 1) rfl); (try have hR2 := hS.row (i := 2) rfl); (try have hR3 := hS.row (i := 3) rfl); (try have hR4 := hS.row (i := 4) rfl); (try have hC0 := hS.cell (i := 0) rfl); (try have hD0 := (cells_heap hC0).1); (try have hE0 := (cells_heap hC0).2.1); (try have hF0 := (cells_heap hC0).2.2.1); (try have hG0 := (cells_heap hC0).2.2.2.1); (try have hC1 := hS.cell (i := 1) rfl); (try have hD1 := (cells_heap hC1).1); (try have hE1 := (cells_heap hC1).2.1); (try have hF1 := (cells_heap hC1).2.2.1); (try have hG1 := (cells_heap hC1).2.2.2.1); (try have hC2 := hS.cell (i := 2) rfl); (try have hD2 := (cells_heap hC2).1); (try have hE2 := (cells_heap hC2).2.1); (try have hF2 := (cells_heap hC2).2.2.1); (try have hG2 := (cells_heap hC2).2.2.2.1); (try have hC3 := hS.cell (i := 3) rfl); (try have hD3 := (cells_heap hC3).1); (try have hE3 := (cells_heap hC3).2.1); (try have hF3 := (cells_heap hC3).2.2.1); (try have hG3 := (cells_heap hC3).2.2.2.1); (try have hC4 := hS.cell (i := 4) rfl); (try have hD4 := (cells_heap hC4).1); (try have hE4 := (cells_heap hC4).2.1); (try have hF4 := (cells_heap hC4).2.2.1); (try have hG4 := (cells_heap hC4).2.2.2.1); (try have hM0 := hS.map (i := 0) rfl); (try have hM1 := hS.map (i := 1) rfl); (try have hM2 := hS.map (i := 2) rfl); (try have hM3 := hS.map (i := 3) rfl); (try have hM4 := hS.map (i := 4) rfl))
    | (show WL _ _ _ _ _ _ _; first | apply WL.nil | (refine WL.au (k := ?_)))
    | (show Z _ _ _ _ _; apply Z.then_normal)
    | (show W _ _ _ _ _ _; first | apply W.seq | apply W.region)
    | fail)
  obtain ⟨d, hd⟩ : ∃ d : Circ, d = ⟨c.max, (ar2_3, cr2_3, c.ins.2.2), (ar3_3, cr3_3, c.lat.2.2), (ar2_7, cr2_7, c.outs.2.2), (ar2_11, cr2_11, c.bads.2.2), (ar2_15, cr2_15, c.cons.2.2), (ar3_7, cr3_7, c.gates.2.2), (ar3_11, cr3_11, c.syms.2.2), c.com⟩ := ⟨_, rfl⟩
  have hS' : Lt.Sep w.heap.size w' (d.ps w.heap.size ++ [pcell gb d.vals.toArray 41, pcell g2 (Value.cells (.agg #[.int .i64 0, .slice none 0 0, .slice none 0 0, .slice none 0 0, .slice none 0 0, .slice none 0 0, .slice none 0 0, .slice none 0 0, .string ⟨#[]⟩])) 41]) := by rw [hd]; exact hS
  have hcap : CapC d := by
    rw [hd]
    exact ⟨⟨hOr2_3.capLe, hOr2_3.noneCap⟩, ⟨hOr3_3.capLe, hOr3_3.noneCap⟩, ⟨hOr2_7.capLe, hOr2_7.noneCap⟩, ⟨hOr2_11.capLe, hOr2_11.noneCap⟩, ⟨hOr2_15.capLe, hOr2_15.noneCap⟩, ⟨hOr3_7.capLe, hOr3_7.noneCap⟩, ⟨hOr3_11.capLe, hOr3_11.noneCap⟩⟩
  have hdt : d.t = c.t := by rw [hd]
  have hcd : Cells w' gb 0 d.vals := cells_heap (hS'.cell (i := 7) rfl)
  have hc8 := hS'.cell (i := 8) rfl
  clear hd
  obtain ⟨w3, rfl⟩ : ∃ x, x = w' := ⟨_, rfl⟩
  repeat' (first
    | (apply WL.storeB (w0 := wc) tOk; exact rfl; exact rfl; exact rfl; exact rfl; assumption; (exact extA); exact rfl; exact rfl; exact rfl; (exact extA); (first | assumption | omega | (focus (apply Nat.le_trans; rotate_left; assumption; exact Below.size (by (exact extA)); done))); intro w' hb hc hX' hU; have hcc := hc; obtain ⟨h1, h2, _⟩ := hc)
    | (show WL _ _ _ _ _ _ _; first | apply WL.nil | (refine WL.au (k := ?_)))
    | (show Z _ _ _ _ _; apply Z.then_normal)
    | (show W _ _ _ _ _ _; apply W.ret)
    | fail)
  exact Z.bodyC tOk Try.results24 rfl rfl rfl rfl (cells_heap hb) fun m => ⟨hxc.trans (Ext.at (by (exact extA)) m), d, rfl, hdt, ⟨((hS'.updCell (i := 8) rfl hU hb (Ext.refl _) (Nat.le_trans (Below.size hxc) (Below.size (by (exact extA))))).takeN 7).ext ((Ext.refl _).at m), hcap⟩⟩
end Go.Proofs.Ytlcenenkloicjaa
namespace Go.Lt
open Go.RowKit
set_option linter.unusedVariables false

theorem Row.keep {α : Type} {s : Nat} {enc : α → List Value} {w w' : World} {a : Option Addr} {l : List α} (h : Row s enc w a l) (hb : ∀ k, blk a = some k → w'.heap[k]? = w.heap[k]?) : Row s enc w' a l := by
  refine ⟨h.len, fun i x hx => ?_⟩
  obtain ⟨b, off, h1, h2⟩ := h.elem i x hx
  refine ⟨b, off, h1, ?_⟩
  have e := hb b (by rw [h1]; rfl)
  have key : ∀ (L : List Value) (o : Nat), Cells w b o L → Cells w' b o L := by
    intro L
    induction L with
    | nil => intro o _; trivial
    | cons u r ih =>
      intro o hc
      refine ⟨?_, ih _ hc.2⟩
      have h3 := hc.1
      simp only [World.cell?] at h3 ⊢
      rw [e]; exact h3
  exact key _ _ h2
theorem get_app {α : Type} {l r : List α} {i : Nat} {x : α} (h : (l ++ r)[i]? = some x) : l[i]? = some x ∨ (l.length ≤ i ∧ r[i - l.length]? = some x) := by
  by_cases hi : i < l.length
  · rw [List.getElem?_append_left hi] at h; exact .inl h
  · rw [List.getElem?_append_right (by omega)] at h; exact .inr ⟨by omega, h⟩
theorem OwnRR.keep {α : Type} {s : Nat} {enc : α → List Value} {el elO B : Nat} {w w' : World} {a : Option Addr} {cap : Nat} {rs : List (RowV α)} (h : OwnRR s enc el elO B w a cap rs) (hb : ∀ k, B ≤ k → k < w.heap.size → w'.heap[k]? = w.heap[k]?) : OwnRR s enc el elO B w' a cap rs :=
  ⟨h.outer.keep fun k hk => hb k (h.outer.blk_lt k hk).1 (h.outer.blk_lt k hk).2, fun i r hr => (h.inner i r hr).keep fun k hk => hb k ((h.inner i r hr).blk_lt k hk).1 ((h.inner i r hr).blk_lt k hk).2, h.apartO, h.apart⟩
end Go.Lt
namespace Go.Proofs.Ytlcenenkloicjaa
open Go Go.Lt Go.RowKit
set_option linter.unusedVariables false
set_option linter.unusedSimpArgs false
set_option maxRecDepth 20000

theorem Row.blk_lt {α : Type} {s : Nat} {enc : α → List Value} {w : World} {a : Option Addr} {l : List α} (hE : Enc s enc) (h : Row s enc w a l) (hl : l ≠ []) : ∃ k, blk a = some k ∧ k < w.heap.size := by
  cases l with
  | nil => exact absurd rfl hl
  | cons x r =>
    obtain ⟨b, off, h1, h2⟩ := h.elem 0 x rfl
    refine ⟨b, by rw [h1]; rfl, ?_⟩
    have hp := hE.pos
    have hxl := hE.len x
    cases hx : enc x with
    | nil => rw [hx] at hxl; simp at hxl; omega
    | cons u q => rw [hx] at h2; exact World.block_lt_of_cell? _ _ h2.1
/-- A row that is not in a block that changes. -/
theorem Row.but {α : Type} {s : Nat} {enc : α → List Value} {w w' : World} {a : Option Addr} {l : List α} {b : Option Nat} (hE : Enc s enc) (h : Row s enc w a l) (hb : But w b w') (hne : l ≠ [] → ∀ k, blk a = some k → b ≠ some k) : Row s enc w' a l := by
  by_cases hl : l = []
  · subst hl; exact Row.nil s enc w' a
  · obtain ⟨k, hk, hlt⟩ := Row.blk_lt hE h hl
    exact h.keep fun q hq => by rw [hk] at hq; cases hq; exact hb.block k hlt (fun h => hne hl k hk h.symm)
structure AllI (B bk : Nat) (w : World) (a : Option Addr) (cp : Nat) (rs : List (RowV Int)) : Prop where
  own : Own 1 encRow 33 B w a cp rs
  rows : ∀ r ∈ rs, Row 1 encI w r.1 r.2.2
  ne : ∀ r ∈ rs, r.2.2 ≠ [] → ∀ k, blk r.1 = some k → blk a ≠ some k ∧ k ≠ bk
theorem AllI.but {B bk cp : Nat} {w w' : World} {a : Option Addr} {rs : List (RowV Int)} (h : AllI B bk w a cp rs) (hb : But w (some bk) w') (hB : bk < B) : AllI B bk w' a cp rs :=
  ⟨h.own.keep fun k hk => hb.block k (h.own.blk_lt k hk).2 (fun he => by have h1 := (h.own.blk_lt k hk).1; have h2 := Option.some.inj he; omega), fun r hr => Row.but encI_ok (h.rows r hr) hb fun hl k hk he => (h.ne r hr hl k hk).2 (by cases he; rfl), h.ne⟩
theorem AllI.push {B bk cp cp' gb : Nat} {w w1 w2 : World} {a a' : Option Addr} {rs : List (RowV Int)} {xs : List Int} (h : AllI B bk w a cp rs) (hx : Ext w w1) (hc : Row 1 encI w1 (some ⟨gb, 0, none⟩) xs) (hge : w.heap.size ≤ gb) (hgl : gb < w1.heap.size) (hB : bk < w.heap.size)
    (hO : Own 1 encRow 33 B w2 a' cp' (rs ++ [(some ⟨gb, 0, none⟩, xs.length, xs)])) (hU : Upd B a w1 w2) (hF : blk a' = blk a ∨ ∃ k, blk a' = some k ∧ w1.heap.size ≤ k) : AllI B bk w2 a' cp' (rs ++ [(some ⟨gb, 0, none⟩, xs.length, xs)]) := by
  have hgna : blk a ≠ some gb := fun he => by have := (h.own.blk_lt gb he).2; omega
  have hnew : ∀ k, k < w1.heap.size → blk a ≠ some k → blk a' ≠ some k := fun k hk hne => by
    rcases hF with hF | ⟨q, hq, hql⟩
    · rw [hF]; exact hne
    · rw [hq]; intro he; cases he; omega
  refine ⟨hO, fun r hr => ?_, fun r hr hl k hk => ?_⟩
  · rcases List.mem_append.1 hr with hr | hr
    · exact Row.but encI_ok ((h.rows r hr).ext hx) hU.grown fun hl k hk he => (h.ne r hr hl k hk).1 he
    · obtain rfl := List.mem_singleton.1 hr
      exact Row.but encI_ok hc hU.grown fun hl k hk he => by cases hk; exact hgna he
  · rcases List.mem_append.1 hr with hr | hr
    · obtain ⟨q, hq, hlt⟩ := Row.blk_lt encI_ok (h.rows r hr) hl
      rw [hq] at hk
      have hqk := Option.some.inj hk
      subst hqk
      have := h.ne r hr hl q hq
      exact ⟨hnew q (Nat.lt_of_lt_of_le hlt hx.size) this.1, this.2⟩
    · obtain rfl := List.mem_singleton.1 hr
      have hk' : gb = k := Option.some.inj hk
      subst hk'
      exact ⟨hnew gb hgl hgna, by omega⟩
end Go.Proofs.Ytlcenenkloicjaa
namespace Go.Proofs.Ytlcenenkloicjaa
open Go Go.Lt Go.RowKit
set_option linter.unusedVariables false
set_option linter.unusedSimpArgs false
set_option maxRecDepth 20000

theorem keyI : KeyF Try.prog 3 (fun n : Int => .int .i64 n) := keyF_int (k := .i64) (tOk.at (t := 3) rfl).1
abbrev encK : Int → Value := fun n => .int .i64 n
end Go.Proofs.Ytlcenenkloicjaa
namespace Go.Proofs.Ytlcenenkloicjaa
open Go Go.Lt Go.RowKit
set_option linter.unusedVariables false
set_option linter.unusedSimpArgs false
set_option maxRecDepth 20000

abbrev Once (gs : List G3) : Prop := ∀ (i j : Nat) (x y : G3), gs[i]? = some x → gs[j]? = some y → x.1 / 2 = y.1 / 2 → i = j
/-- A literal is of a gate that is not told. -/
def Bl (gs : List G3) (T : List Nat) (l : Int) : Prop := ∃ (j : Nat) (x : G3), gs[j]? = some x ∧ j ∉ T ∧ x.1 / 2 = l / 2
noncomputable def one (p : Prop) : Nat := bif dec p then 1 else 0
theorem one_yes {p : Prop} (h : p) : one p = 1 := by unfold one; rw [dec_true h]; rfl
theorem one_no {p : Prop} (h : ¬ p) : one p = 0 := by unfold one; rw [dec_false h]; rfl
theorem one_zero {p : Prop} : one p = 0 ↔ ¬ p := by
  by_cases h : p
  · rw [one_yes h]; simp [h]
  · rw [one_no h]; simp [h]
theorem one_le (p : Prop) : one p ≤ 1 := by
  by_cases h : p
  · rw [one_yes h]; exact Nat.le_refl _
  · rw [one_no h]; omega
noncomputable def lackG (gs : List G3) (T : List Nat) (g : G3) : Nat := one (Bl gs T g.2.1) + one (Bl gs T g.2.2)
theorem rdy_lack {gs : List G3} {T : List Nat} {i : Nat} {g : G3} (hg : gs[i]? = some g) : Rdy gs T i ↔ (i ∉ T ∧ lackG gs T g = 0) := by
  have h0 : lackG gs T g = 0 ↔ (¬ Bl gs T g.2.1 ∧ ¬ Bl gs T g.2.2) := by
    unfold lackG
    rw [Nat.add_eq_zero_iff, one_zero, one_zero]
  rw [h0]
  constructor
  · rintro ⟨g', hg', h1, h2⟩
    rw [hg] at hg'; cases hg'
    exact ⟨h1, fun ⟨j, x, h3, h4, h5⟩ => (h2 j x h3 h4).1 h5, fun ⟨j, x, h3, h4, h5⟩ => (h2 j x h3 h4).2 h5⟩
  · rintro ⟨h1, h2, h3⟩
    exact ⟨g, hg, h1, fun j x hx hj => ⟨fun he => h2 ⟨j, x, hx, hj, he⟩, fun he => h3 ⟨j, x, hx, hj, he⟩⟩⟩
/-- How often a gate hangs on one. -/
noncomputable def hangs (g : G3) (y : G3) : Nat := one (y.1 / 2 = g.2.1 / 2) + one (y.1 / 2 = g.2.2 / 2)
theorem bl_push {gs : List G3} (ho : Once gs) {T : List Nat} {i : Nat} {y : G3} (hy : gs[i]? = some y) (hi : i ∉ T) (l : Int) : one (Bl gs T l) = one (Bl gs (T ++ [i]) l) + one (y.1 / 2 = l / 2) := by
  by_cases h : y.1 / 2 = l / 2
  · rw [one_yes h, one_yes ⟨i, y, hy, hi, h⟩, one_no]
    rintro ⟨j, x, h1, h2, h3⟩
    exact h2 (List.mem_append_right _ (List.mem_singleton.2 (ho j i x y h1 hy (by omega))))
  · rw [one_no h, Nat.add_zero]
    by_cases hb : Bl gs T l
    · obtain ⟨j, x, h1, h2, h3⟩ := hb
      rw [one_yes ⟨j, x, h1, h2, h3⟩, one_yes]
      refine ⟨j, x, h1, fun hm => ?_, h3⟩
      rcases List.mem_append.1 hm with hm | hm
      · exact h2 hm
      · obtain rfl := List.mem_singleton.1 hm
        rw [hy] at h1; cases h1; exact h h3
    · rw [one_no hb, one_no]
      rintro ⟨j, x, h1, h2, h3⟩
      exact hb ⟨j, x, h1, fun hm => h2 (List.mem_append_left _ hm), h3⟩
theorem lack_push {gs : List G3} (ho : Once gs) {T : List Nat} {i : Nat} {y : G3} (hy : gs[i]? = some y) (hi : i ∉ T) (g : G3) : lackG gs T g = lackG gs (T ++ [i]) g + hangs g y := by
  unfold lackG hangs
  rw [bl_push ho hy hi g.2.1, bl_push ho hy hi g.2.2]; omega
/-- The gates that hang on one, as often as they do, up to a place. -/
noncomputable def abv (gs : List G3) (y : G3) : Nat → List Int
  | 0 => []
  | k + 1 => abv gs y k ++ (match gs[k]? with | some g => List.replicate (hangs g y) ((k : Nat) : Int) | none => [])
theorem abv_mem {gs : List G3} {y : G3} : ∀ {k : Nat} {x : Int}, x ∈ abv gs y k → ∃ (j : Nat) (g : G3), x = (j : Int) ∧ j < k ∧ gs[j]? = some g ∧ 0 < hangs g y
  | 0, x, h => by cases h
  | k + 1, x, h => by
    rw [abv] at h
    rcases List.mem_append.1 h with h | h
    · obtain ⟨j, g, h1, h2, h3⟩ := abv_mem h
      exact ⟨j, g, h1, by omega, h3⟩
    · cases hg : gs[k]? with
      | none => rw [hg] at h; cases h
      | some g =>
        rw [hg] at h
        obtain ⟨h1, h2⟩ := List.mem_replicate.1 h
        exact ⟨k, g, h2, by omega, hg, by omega⟩
theorem abv_count {gs : List G3} {y : G3} {j : Nat} {g : G3} (hg : gs[j]? = some g) : ∀ k, (abv gs y k).count (j : Int) = if j < k then hangs g y else 0
  | 0 => by simp [abv]
  | k + 1 => by
    rw [abv, List.count_append, abv_count hg k]
    by_cases hjk : j = k
    · subst hjk
      rw [hg]
      simp
    · have e0 : ((match gs[k]? with | some g => List.replicate (hangs g y) ((k : Nat) : Int) | none => []) : List Int).count (j : Int) = 0 := by
        cases gs[k]? with
        | none => rfl
        | some g' =>
          refine List.count_eq_zero.2 fun hm => ?_
          have := (List.mem_replicate.1 hm).2
          omega
      rw [e0, Nat.add_zero]
      by_cases h : j < k
      · rw [if_pos h, if_pos (by omega)]
      · rw [if_neg h, if_neg (by omega)]
theorem abv_len (gs : List G3) (y : G3) : ∀ k, (abv gs y k).length ≤ 2 * k
  | 0 => Nat.le_refl _
  | k + 1 => by
    have ih := abv_len gs y k
    rw [abv, List.length_append]
    cases gs[k]? with
    | none => simp; omega
    | some g =>
      have h1 := one_le (y.1 / 2 = g.2.1 / 2)
      have h2 := one_le (y.1 / 2 = g.2.2 / 2)
      simp only [List.length_replicate, hangs]; omega
/-- A gate that hangs on one that is not told is not told. -/
theorem not_told {gs : List G3} {L : List Nat} (hP : PreOrd gs L) {i k : Nat} {y g : G3} (hy : gs[i]? = some y) (hg : gs[k]? = some g) (hh : 0 < hangs g y) (hi : i ∉ L) : k ∉ L := by
  intro hk
  obtain ⟨m, hm⟩ := List.mem_iff_getElem?.1 hk
  obtain ⟨g', hg', _, h2⟩ := (hP m k hm).1
  rw [hg] at hg'; cases hg'
  have h3 := h2 i y hy (fun hh => hi (List.mem_of_mem_take hh))
  unfold hangs at hh
  rw [one_no h3.1, one_no h3.2] at hh
  omega
end Go.Proofs.Ytlcenenkloicjaa
namespace Go.Proofs.Ytlcenenkloicjaa
open Go Go.Lt Go.RowKit
set_option linter.unusedVariables false
set_option linter.unusedSimpArgs false
set_option maxRecDepth 20000

abbrev leT (t : List Int) (p q : Nat) : Prop := ∀ a b, t[p]? = some a → t[q]? = some b → a ≤ b
def HO (t : List Int) : Prop := ∀ j, 0 < j → j < t.length → leT t ((j - 1) / 2) j
def UpI (t : List Int) (i : Nat) : Prop := (∀ j, 0 < j → j < t.length → j ≠ i → leT t ((j - 1) / 2) j) ∧ ∀ j, 0 < j → j < t.length → (j - 1) / 2 = i → 0 < i → leT t ((i - 1) / 2) j
def DownI (t : List Int) (i : Nat) : Prop := (∀ j, 0 < j → j < t.length → (j - 1) / 2 ≠ i → leT t ((j - 1) / 2) j) ∧ ∀ j, 0 < j → j < t.length → (j - 1) / 2 = i → 0 < i → leT t ((i - 1) / 2) j
abbrev swp (t : List Int) (i k : Nat) (a b : Int) : List Int := (t.set i b).set k a
theorem swp_len (t : List Int) (i k : Nat) (a b : Int) : (swp t i k a b).length = t.length := by simp
theorem swp_get {t : List Int} {i k : Nat} {a b : Int} (hi : t[i]? = some a) (hk : t[k]? = some b) (j : Nat) : (swp t i k a b)[j]? = if j = k then some a else if j = i then some b else t[j]? := by
  have h1 := lt_of_get hi
  have h2 := lt_of_get hk
  unfold swp
  by_cases e1 : j = k
  · subst e1; rw [if_pos rfl, List.getElem?_set_self (by simpa using h2)]
  · rw [if_neg e1, List.getElem?_set_ne (fun h => e1 h.symm)]
    by_cases e2 : j = i
    · subst e2; rw [if_pos rfl, List.getElem?_set_self h1]
    · rw [if_neg e2, List.getElem?_set_ne (fun h => e2 h.symm)]
theorem swp_mem {t : List Int} {i k : Nat} {a b : Int} (hi : t[i]? = some a) (hk : t[k]? = some b) (x : Int) : x ∈ swp t i k a b ↔ x ∈ t := by
  rw [List.mem_iff_getElem?, List.mem_iff_getElem?]
  constructor
  · rintro ⟨j, hj⟩
    rw [swp_get hi hk] at hj
    split at hj
    · cases hj; exact ⟨i, hi⟩
    · split at hj
      · cases hj; exact ⟨k, hk⟩
      · exact ⟨j, hj⟩
  · rintro ⟨j, hj⟩
    by_cases e1 : j = k
    · subst e1
      rw [hk] at hj; cases hj
      by_cases e2 : i = j
      · subst e2; rw [hk] at hi; cases hi; exact ⟨i, by rw [swp_get hk hk, if_pos rfl]⟩
      · exact ⟨i, by rw [swp_get hi hk, if_neg e2, if_pos rfl]⟩
    · by_cases e2 : j = i
      · subst e2
        rw [hi] at hj; cases hj
        exact ⟨k, by rw [swp_get hi hk, if_pos rfl]⟩
      · exact ⟨j, by rw [swp_get hi hk, if_neg e1, if_neg e2]; exact hj⟩
theorem UpI.stop {t : List Int} {i : Nat} (h : UpI t i) (hi : i = 0 ∨ leT t ((i - 1) / 2) i) : HO t := fun j h0 hl => by
  by_cases he : j = i
  · subst he; rcases hi with hi | hi
    · omega
    · exact hi
  · exact h.1 j h0 hl he
theorem UpI.step {t : List Int} {i : Nat} {a b : Int} (h : UpI t i) (h0 : 0 < i) (hi : t[i]? = some a) (hp : t[(i - 1) / 2]? = some b) (hab : a < b) : UpI (swp t i ((i - 1) / 2) a b) ((i - 1) / 2) := by
  have hli := lt_of_get hi
  refine ⟨fun j j0 jl jne x y hx hy => ?_, fun j j0 jl je p0 x y hx hy => ?_⟩
  · rw [swp_len] at jl
    rw [swp_get hi hp] at hx hy
    rw [if_neg jne] at hy
    by_cases e1 : j = i
    · subst e1; rw [if_pos rfl] at hx hy; cases hx; cases hy; omega
    · rw [if_neg e1] at hy
      by_cases e2 : (j - 1) / 2 = (i - 1) / 2
      · rw [if_pos e2] at hx; cases hx
        have := h.1 j j0 jl e1 b y (by rw [e2]; exact hp) hy
        omega
      · rw [if_neg e2] at hx
        by_cases e3 : (j - 1) / 2 = i
        · rw [if_pos e3] at hx; cases hx
          exact h.2 j j0 jl e3 h0 _ y hp hy
        · rw [if_neg e3] at hx
          exact h.1 j j0 jl e1 x y hx hy
  · rw [swp_len] at jl
    rw [swp_get hi hp] at hx hy
    rw [if_neg (by omega), if_neg (by omega)] at hx
    have k1 := h.1 ((i - 1) / 2) p0 (lt_of_get hp) (by omega) x b hx hp
    rw [if_neg (by omega)] at hy
    by_cases e1 : j = i
    · rw [if_pos e1] at hy; cases hy; exact k1
    · rw [if_neg e1] at hy
      have := h.1 j j0 jl e1 b y (by rw [je]; exact hp) hy
      omega
theorem DownI.stop {t : List Int} {i : Nat} (h : DownI t i) (hc : ∀ j, 0 < j → j < t.length → (j - 1) / 2 = i → leT t i j) : HO t := fun j h0 hl => by
  by_cases he : (j - 1) / 2 = i
  · rw [he]; exact hc j h0 hl he
  · exact h.1 j h0 hl he
theorem DownI.step {t : List Int} {i f : Nat} {a b : Int} (h : DownI t i) (f0 : 0 < f) (hf : (f - 1) / 2 = i) (hi : t[i]? = some a) (hp : t[f]? = some b) (hab : b < a) (hc : ∀ j, 0 < j → j < t.length → (j - 1) / 2 = i → ∀ y, t[j]? = some y → b ≤ y) : DownI (swp t i f a b) f := by
  have hlf := lt_of_get hp
  refine ⟨fun j j0 jl jne x y hx hy => ?_, fun j j0 jl je p0 x y hx hy => ?_⟩
  · rw [swp_len] at jl
    rw [swp_get hi hp] at hx hy
    rw [if_neg jne] at hx
    by_cases e1 : (j - 1) / 2 = i
    · rw [if_pos e1] at hx; cases hx
      by_cases e2 : j = f
      · rw [if_pos e2] at hy; cases hy; omega
      · rw [if_neg e2, if_neg (by omega)] at hy
        exact hc j j0 jl e1 y hy
    · rw [if_neg e1] at hx
      rw [if_neg (fun e => e1 (by subst e; exact hf))] at hy
      by_cases e2 : j = i
      · rw [if_pos e2] at hy; cases hy
        subst e2
        exact h.2 f f0 hlf hf j0 x _ hx hp
      · rw [if_neg e2] at hy
        exact h.1 j j0 jl e1 x y hx hy
  · rw [swp_len] at jl
    rw [swp_get hi hp] at hx hy
    rw [hf, if_neg (by omega), if_pos rfl] at hx; cases hx
    rw [if_neg (by omega), if_neg (by omega)] at hy
    exact h.1 j j0 jl (by omega) _ y (by rw [je]; exact hp) hy
theorem HO.min {t : List Int} (h : HO t) {a : Int} (ha : t[0]? = some a) : ∀ (i : Nat) (b : Int), t[i]? = some b → a ≤ b := by
  intro i
  induction i using Nat.strongRecOn with
  | ind i ih =>
    intro b hb
    by_cases h0 : i = 0
    · subst h0; rw [ha] at hb; cases hb; exact Int.le_refl _
    · obtain ⟨c, hc⟩ := getI t (show (i - 1) / 2 < t.length by have := lt_of_get hb; omega)
      have h1 := ih ((i - 1) / 2) (by omega) c hc
      have h2 := h i (by omega) (lt_of_get hb) c b hc hb
      omega
/-- Where things stand. -/
structure AtOk (n : Nat) (t at_ : List Int) : Prop where
  len : at_.length = n
  pos : ∀ (i : Nat) (x : Int), t[i]? = some x → 0 ≤ x ∧ at_[x.toNat]? = some (i : Int)
  out : ∀ v : Nat, v < n → (v : Int) ∉ t → at_[v]? = some (-1)
theorem AtOk.inj {n : Nat} {t at_ : List Int} (h : AtOk n t at_) {i j : Nat} {x : Int} (hi : t[i]? = some x) (hj : t[j]? = some x) : i = j := by
  have h1 := (h.pos i x hi).2
  have h2 := (h.pos j x hj).2
  rw [h1] at h2
  have := Option.some.inj h2
  omega
theorem AtOk.lt {n : Nat} {t at_ : List Int} (h : AtOk n t at_) {i : Nat} {x : Int} (hi : t[i]? = some x) : 0 ≤ x ∧ x.toNat < n := by
  have h1 := h.pos i x hi
  exact ⟨h1.1, by rw [← h.len]; exact lt_of_get h1.2⟩
theorem AtOk.swap {n : Nat} {t at_ : List Int} (h : AtOk n t at_) {i k : Nat} {a b : Int} (hi : t[i]? = some a) (hk : t[k]? = some b) : AtOk n (swp t i k a b) ((at_.set b.toNat (i : Int)).set a.toNat (k : Int)) := by
  have la := h.lt hi
  have lb := h.lt hk
  have hl := h.len
  refine ⟨by simp [hl], fun j x hx => ?_, fun v hv hn => ?_⟩
  · rw [swp_get hi hk] at hx
    split at hx
    · rename_i e; cases hx; subst e
      exact ⟨la.1, List.getElem?_set_self (by simp; omega)⟩
    · rename_i e1
      split at hx
      · rename_i e2; obtain rfl := Option.some.inj hx; subst e2
        refine ⟨lb.1, ?_⟩
        by_cases e3 : a.toNat = b.toNat
        · have : a = b := by omega
          subst this
          exact absurd (h.inj hi hk) e1
        · rw [List.getElem?_set_ne e3, List.getElem?_set_self (by omega)]
      · rename_i e2
        have hp := h.pos j x hx
        refine ⟨hp.1, ?_⟩
        have n1 : a.toNat ≠ x.toNat := fun e => by
          have : a = x := by omega
          subst this; exact e2 (h.inj hx hi)
        have n2 : b.toNat ≠ x.toNat := fun e => by
          have : b = x := by omega
          subst this; exact e1 (h.inj hx hk)
        rw [List.getElem?_set_ne n1, List.getElem?_set_ne n2]
        exact hp.2
  · have hn' : (v : Int) ∉ t := fun hm => hn ((swp_mem hi hk _).2 hm)
    have n1 : a.toNat ≠ v := fun e => hn' (by rw [show (v : Int) = a by omega]; exact List.mem_of_getElem? hi)
    have n2 : b.toNat ≠ v := fun e => hn' (by rw [show (v : Int) = b by omega]; exact List.mem_of_getElem? hk)
    rw [List.getElem?_set_ne n1, List.getElem?_set_ne n2]
    exact h.out v hv hn'
theorem AtOk.push {n : Nat} {t at_ : List Int} (h : AtOk n t at_) {v : Nat} (hv : v < n) (hn : (v : Int) ∉ t) : AtOk n (t ++ [(v : Int)]) (at_.set v (t.length : Int)) := by
  have hl := h.len
  refine ⟨by simp [hl], fun j x hx => ?_, fun u hu hm => ?_⟩
  · by_cases hj : j < t.length
    · rw [List.getElem?_append_left hj] at hx
      have hp := h.pos j x hx
      refine ⟨hp.1, ?_⟩
      rw [List.getElem?_set_ne (fun e => hn (by rw [show (v : Int) = x by omega]; exact List.mem_of_getElem? hx))]
      exact hp.2
    · rw [List.getElem?_append_right (by omega)] at hx
      have h0 : j - t.length = 0 := by have := lt_of_get hx; simpa using this
      obtain rfl : j = t.length := by omega
      simp at hx; subst hx
      exact ⟨by omega, by rw [Int.toNat_natCast, List.getElem?_set_self (by omega)]⟩
  · rw [List.getElem?_set_ne (fun e => hm (by subst e; simp))]
    exact h.out u hu fun hh => hm (by simp [hh])
theorem HO.push {t : List Int} (h : HO t) (x : Int) : UpI (t ++ [x]) t.length := by
  refine ⟨fun j j0 jl jne => ?_, fun j j0 jl je _ => ?_⟩
  · simp at jl
    intro a b ha hb
    rw [List.getElem?_append_left (by omega)] at ha hb
    exact h j j0 (by omega) a b ha hb
  · simp at jl; omega
/-- What is taken out: the first one; the last one comes into its place. -/
theorem pop_len {t : List Int} {l : Nat} {a b : Int} (hl : t.length = l + 1) : ((swp t 0 l a b).take l).length = l := by simp [hl]
theorem pop_get {t : List Int} {l : Nat} {a b : Int} (hl : t.length = l + 1) (h0 : t[0]? = some a) (hb : t[l]? = some b) (j : Nat) : ((swp t 0 l a b).take l)[j]? = if j < l then (if j = 0 then some b else t[j]?) else none := by
  rw [List.getElem?_take]
  by_cases hj : j < l
  · rw [if_pos hj, if_pos hj, swp_get h0 hb, if_neg (by omega)]
  · rw [if_neg hj, if_neg hj]
theorem pop_down {t : List Int} {l : Nat} {a b : Int} (h : HO t) (hl : t.length = l + 1) (h0 : t[0]? = some a) (hb : t[l]? = some b) : DownI ((swp t 0 l a b).take l) 0 := by
  refine ⟨fun j j0 jl jne x y hx hy => ?_, fun j _ _ _ h => absurd h (by omega)⟩
  rw [pop_len hl] at jl
  rw [pop_get hl h0 hb, if_pos (by omega), if_neg (by omega)] at hx hy
  exact h j j0 (by omega) x y hx hy
theorem pop_at {n : Nat} {t at_ : List Int} {l : Nat} {a b : Int} (h : AtOk n t at_) (hl : t.length = l + 1) (h0 : t[0]? = some a) (hb : t[l]? = some b) : AtOk n ((swp t 0 l a b).take l) (((at_.set b.toNat (0 : Int)).set a.toNat (l : Int)).set a.toNat (-1)) := by
  have hs := h.swap h0 hb
  have la := h.lt h0
  refine ⟨by rw [List.length_set]; exact hs.len, fun j x hx => ?_, fun v hv hn => ?_⟩
  · have hj : j < l := by have := lt_of_get hx; rwa [pop_len hl] at this
    rw [List.getElem?_take, if_pos hj] at hx
    have hp := hs.pos j x hx
    refine ⟨hp.1, ?_⟩
    rw [List.getElem?_set_ne (fun e => ?_)]
    · exact hp.2
    · have : a = x := by omega
      subst this
      have := hs.inj hx (show (swp t 0 l a b)[l]? = some a by rw [swp_get h0 hb, if_pos rfl])
      omega
  · by_cases he : a.toNat = v
    · subst he; exact List.getElem?_set_self (by have := hs.len; simp only [List.length_set] at this ⊢; omega)
    · rw [List.getElem?_set_ne he]
      refine hs.out v hv fun hm => hn ?_
      obtain ⟨j, hj⟩ := List.mem_iff_getElem?.1 hm
      have hjl := lt_of_get hj
      rw [swp_len, hl] at hjl
      by_cases e : j = l
      · subst e
        rw [swp_get h0 hb, if_pos rfl] at hj
        cases hj
        exact absurd (by omega) he
      · exact List.mem_iff_getElem?.2 ⟨j, by rw [List.getElem?_take, if_pos (by omega)]; exact hj⟩
theorem pop_mem {n : Nat} {t at_ : List Int} {l : Nat} {a b : Int} (h : AtOk n t at_) (hl : t.length = l + 1) (h0 : t[0]? = some a) (hb : t[l]? = some b) (x : Int) : x ∈ (swp t 0 l a b).take l ↔ (x ∈ t ∧ x ≠ a) := by
  rw [← swp_mem h0 hb]
  have hs := h.swap h0 hb
  have hla : (swp t 0 l a b)[l]? = some a := by rw [swp_get h0 hb, if_pos rfl]
  constructor
  · intro hx
    refine ⟨List.mem_of_mem_take hx, fun he => ?_⟩
    subst he
    obtain ⟨j, hj⟩ := List.mem_iff_getElem?.1 hx
    have hjl : j < l := by have := lt_of_get hj; rwa [pop_len hl] at this
    rw [List.getElem?_take, if_pos hjl] at hj
    have := hs.inj hj hla
    omega
  · rintro ⟨hx, hne⟩
    obtain ⟨j, hj⟩ := List.mem_iff_getElem?.1 hx
    have hjl := lt_of_get hj
    rw [swp_len, hl] at hjl
    by_cases e : j = l
    · subst e; rw [hla] at hj; cases hj; exact absurd rfl hne
    · exact List.mem_iff_getElem?.2 ⟨j, by rw [List.getElem?_take, if_pos (by omega)]; exact hj⟩
end Go.Proofs.Ytlcenenkloicjaa
namespace Go.Lt
open Go.RowKit
set_option linter.unusedVariables false
set_option linter.unusedSimpArgs false
section
variable {P : Program} {N : Nat} {e : Env} {w : World} {Q : Exit → Act → World → Prop} {ops : List Oper} {l : List Oper}
  {d : Nat} {tt t ty : TypeId} {ps : String} {af : Array Edge} {g : Option (Nat × Bool)} {x y : Operand}
theorem order00 : FloatKind.f64.format.order 0 0 = some .eq := by decide +kernel
theorem run_f00 (op : BinOp) (b : Bool) (h : (op = .neq ∧ b = false) ∨ (op = .eql ∧ b = true) ∨ (op = .lss ∧ b = false)) (w : World) : (binOp op t (.float .f64 0) (.float .f64 0)).run P w = .ok (.bool b) w := by
  rcases h with ⟨rfl, rfl⟩ | ⟨rfl, rfl⟩ | ⟨rfl, rfl⟩ <;> simp [binOp, Op.floatCmp, order00]
theorem yf00 {op : BinOp} {b : Bool} {dd : Option Tmp} (hx : ev e x = some (.float .f64 0)) (hy : ev e y = some (.float .f64 0)) (h : (op = .neq ∧ b = false) ∨ (op = .eql ∧ b = true) ∨ (op = .lss ∧ b = false)) : Yields P e ⟨dd, .binOp op t x y ty, tt, ps, af, g⟩ (.bool b) := by
  intro ρ hρ w
  have h1 := run_f00 (P := P) (t := t) op b h w
  simp [execOp, hρ _ _ hx, hρ _ _ hy, h1, eqGuard]
theorem WL.f00 {op : BinOp} {b : Bool} (hg : gate ops e g = some true) (hd : Nat.blt d N = true) (hx : ev e x = some (.float .f64 0)) (hy : ev e y = some (.float .f64 0)) (h : (op = .neq ∧ b = false) ∨ (op = .eql ∧ b = true) ∨ (op = .lss ∧ b = false))
    (k : WL P N ops.toArray l ((d, .bool b) :: e) w Q) : WL P N ops.toArray (⟨some d, .binOp op t x y ty, tt, ps, af, g⟩ :: l) e w Q := WL.step hg hd (yf00 hx hy h).in k
end
end Go.Lt
namespace Go.Proofs.Ytlcenenkloicjaa
open Go Go.Lt Go.RowKit
set_option linter.unusedVariables false
set_option linter.unusedSimpArgs false
set_option maxRecDepth 20000

def Th : Tab := [(142, ⟨.slice 149, 1, 24, .slice none 0 0⟩), (149, ⟨.float .f64, 1, 8, .float .f64 0⟩)]
theorem thOk : OkTab Try.prog Th := ⟨⟨by kernel_rfl, by kernel_rfl⟩, ⟨by kernel_rfl, by kernel_rfl⟩, trivial⟩
abbrev encF : Nat → List Value := fun b => [.float .f64 b]
theorem encF_ok : Enc 1 encF := ⟨fun _ => rfl, fun x u hu => by simp at hu; subst hu; rfl, by decide⟩
abbrev hpP (B gh : Nat) (as_ : Option Addr) (cs : Nat) (F : List Nat) (tr : Option Addr) (ct nt : Nat) (t : List Int) (ap : Option Addr) (cp : Nat) (A : List Int) : List Piece :=
  [pcell gh #[.slice as_ F.length cs, .slice tr nt ct, .slice ap A.length cp] 144, prow 1 encF 149 B as_ cs F, prow 1 encI 3 B tr ct t, prow 1 encI 3 B ap cp A]
theorem score_Less (w : World) : Still Try.prog 133 [.float .f64 0, .float .f64 0] w (.bool false) := by
  refine Spec.of _ Try.func133 rfl Try.ntmps133 (by kernel_rfl) rfl ?_
  repeat' (first
    | ((apply WL.f00; exact rfl; exact rfl; exact rfl; exact rfl; first | exact .inl ⟨rfl, rfl⟩ | exact .inr (.inl ⟨rfl, rfl⟩) | exact .inr (.inr ⟨rfl, rfl⟩)))
    | (show WL _ _ _ _ _ _ _; first | apply WL.nil | (refine WL.au (k := ?_)))
    | (show Z _ _ _ _ _; apply Z.then_normal)
    | (show W _ _ _ _ _ _; first | apply W.seq | apply W.region | apply W.skip | apply W.ret | (apply W.condF; exact rfl))
    | fail)
  exact Z.body1 Try.results133 rfl fun m => ⟨rfl, m, rfl⟩
section
variable {B gh cs ct cp nt : Nat} {w w0 : World} {as_ tr ap : Option Addr} {F : List Nat} {t A : List Int} {rest : List Piece}
theorem heap_ahead (hS : Lt.Sep B w (hpP B gh as_ cs F tr ct nt t ap cp A ++ rest)) (hF : ∀ x ∈ F, x = 0) (xa xb : Int) (ha : 0 ≤ xa ∧ xa.toNat < F.length) (hbb : 0 ≤ xb ∧ xb.toNat < F.length) :
    Still Try.prog 132 [.pointer (some ⟨gh, 0, none⟩), .int .i64 xa, .int .i64 xb] w (.bool (dec (xa < xb))) := by
  have h := cells_heap (hS.cell (i := 0) rfl)
  have c0 := h.1
  have RF := Own.row encF_ok (hS.row (i := 1) rfl)
  obtain ⟨z1, hz1⟩ := getI F ha.2
  obtain ⟨z2, hz2⟩ := getI F hbb.2
  obtain rfl := hF z1 (List.mem_of_getElem? hz1)
  obtain rfl := hF z2 (List.mem_of_getElem? hz2)
  clear h
  refine Spec.of _ Try.func132 rfl Try.ntmps132 (by kernel_rfl) rfl ?_
  repeat' (first
    | (apply QL.nilc; exact rfl; exact rfl; exact rfl)
    | ((apply QL.index thOk; exact rfl; exact rfl; exact rfl; exact rfl; exact rfl; exact rfl; exact rfl; exact rfl; assumption; exact (by (exact extA)); exact rfl; omega; assumption; intro b off h; have hcc := h; obtain ⟨h1, _⟩ := h))
    | ((apply QL.load thOk; exact rfl; exact rfl; exact rfl; exact rfl; exact rfl; assumption))
    | ((show WL _ _ _ (⟨_, .call ⟨.value (.func 133), _, _⟩, _, _, _, _⟩ :: _) _ _ _); apply WL.callS; exact rfl; exact rfl; exact rfl; exact rfl; exact score_Less _)
    | (show WL _ _ _ _ _ _ _; first | apply WL.nil | (refine WL.au (k := ?_)))
    | (show QL _ _ _ _ _ _ _; first | apply QL.nil | (refine QL.au (k := ?_)))
    | (show Z _ _ _ _ _; apply Z.then_normal)
    | (show W _ _ _ _ _ _; first | apply W.seq | apply W.region | apply W.ret | (apply W.regionD tMix; kernel_rfl))
    | fail)
  exact Z.body1 Try.results132 rfl fun m => ⟨rfl, m, rfl⟩
set_option maxHeartbeats 8000000 in
theorem heap_swap (hX : Ext w0 w) (hS : Lt.Sep w0.heap.size w (hpP w0.heap.size gh as_ cs F tr ct t.length t ap cp A ++ rest)) (hA : AtOk F.length t A) (i k : Nat) (ya yb : Int) (hi : t[i]? = some ya) (hk : t[k]? = some yb) (hlen : t.length ≤ 1048576) :
    Lt.Spec Try.prog 126 [.pointer (some ⟨gh, 0, none⟩), .int .i64 i, .int .i64 k] w (fun v w' => v = .tuple #[] ∧ Ext w0 w' ∧ Lt.Sep w0.heap.size w' (hpP w0.heap.size gh as_ cs F tr ct t.length (swp t i k ya yb) ap cp ((A.set yb.toNat (i : Int)).set ya.toNat (k : Int)) ++ rest)) := by
  have hgt := (hS.lt (i := 0) rfl rfl).1
  have h := cells_heap (hS.cell (i := 0) rfl)
  have c0 := h.1
  have c1 := h.2.1
  have c2 := h.2.2.1
  clear h
  have hR2 := hS.row (i := 2) rfl
  have hR3 := hS.row (i := 3) rfl
  have li := lt_of_get hi
  have lk := lt_of_get hk
  have la := hA.lt hi
  have lb := hA.lt hk
  have hAl := hA.len
  have hi' : t[((i : Nat) : Int).toNat]? = some ya := hi
  have hk' : t[((k : Nat) : Int).toNat]? = some yb := hk
  have hk2 : (t.set ((i : Nat) : Int).toNat yb)[((k : Nat) : Int).toNat]? = some yb := by
    show (t.set i yb)[k]? = some yb
    by_cases e : i = k
    · subst e; exact List.getElem?_set_self li
    · rw [List.getElem?_set_ne e]; exact hk
  have hs3 : ((t.set ((i : Nat) : Int).toNat yb).set ((k : Nat) : Int).toNat ya)[((i : Nat) : Int).toNat]? = some yb := by
    show (swp t i k ya yb)[i]? = _
    rw [swp_get hi hk]
    split
    · rename_i e; subst e; rw [hi] at hk; exact hk
    · rw [if_pos rfl]
  have hs4 : ((t.set ((i : Nat) : Int).toNat yb).set ((k : Nat) : Int).toNat ya)[((k : Nat) : Int).toNat]? = some ya := by
    show (swp t i k ya yb)[k]? = _
    rw [swp_get hi hk, if_pos rfl]
  obtain ⟨z1, hz1⟩ := getI A (show yb.toNat < A.length by omega)
  obtain ⟨z2, hz2⟩ := getI (A.set yb.toNat (i : Int)) (show ya.toNat < (A.set yb.toNat (i : Int)).length by rw [List.length_set]; omega)
  have hlk : ∀ z, (t.set ((i : Nat) : Int).toNat z).length = t.length := fun z => List.length_set
  refine Spec.of _ Try.func126 rfl Try.ntmps126 (by kernel_rfl) rfl ?_
  repeat' (first
    | (apply FL.nilc; exact rfl; exact rfl; exact rfl)
    | (show W _ _ (.region 0 _ _) _ _ _; apply W.regionGB (.fl true 0 (.fl true 1 (.fl true 2 (.fl true 4 (.fl true 5 (.fl true 6 (.fl true 7 (.fl true 9 (.fl true 10 (.fl true 11 (.fl true 12 (.fl true 14 (.fl true 17 (.fl true 18 (.fl true 19 (.fl true 21 (.fl false 3 (.fl false 8 (.fl false 13 (.fl true 15 (.fl false 16 (.fl false 20 (.fl true 22 (.fl false 23 (.fl true 24 (.br 25 (.fl true 26 (.br 27 .done .stop)) .stop)))))))))))))))))))))))))) [8, 13, 15, 16, 20, 22, 23] (none) tMix; kernel_rfl)
    | (show W _ _ (.region 1 _ _) _ _ _; apply W.regionGB (.fl true 0 (.fl true 1 (.fl true 2 (.fl true 4 (.fl true 5 (.fl true 6 (.fl true 8 (.fl true 11 (.fl true 12 (.fl true 13 (.fl true 15 (.fl true 16 (.fl true 17 (.fl true 19 (.fl true 22 (.fl true 23 (.fl false 3 (.fl false 7 (.fl true 9 (.fl false 10 (.fl false 14 (.fl false 18 (.fl true 20 (.fl false 21 (.fl true 24 (.br 25 (.fl true 26 (.br 27 .done .stop)) .stop)))))))))))))))))))))))))) [7, 9, 10, 14, 18, 20, 21] (none) tMix; kernel_rfl)
    | (apply WL.storeO tOk; exact rfl; exact rfl; exact rfl; exact rfl; assumption; (exact extA); exact rfl; exact rfl; exact rfl; exact encI_ok; assumption; exact rfl; (exact extA); intro w' hO hX' hU; (first | replace hS := Sep.updRow (i := 0) rfl hU hO (.inl rfl) hS (by (exact extA)) (by (first | exact Nat.le_refl _ | exact Below.size (by (exact extA)))) | replace hS := Sep.updRow (i := 1) rfl hU hO (.inl rfl) hS (by (exact extA)) (by (first | exact Nat.le_refl _ | exact Below.size (by (exact extA)))) | replace hS := Sep.updRow (i := 2) rfl hU hO (.inl rfl) hS (by (exact extA)) (by (first | exact Nat.le_refl _ | exact Below.size (by (exact extA)))) | replace hS := Sep.updRow (i := 3) rfl hU hO (.inl rfl) hS (by (exact extA)) (by (first | exact Nat.le_refl _ | exact Below.size (by (exact extA)))) | replace hS := Sep.updRow (i := 4) rfl hU hO (.inl rfl) hS (by (exact extA)) (by (first | exact Nat.le_refl _ | exact Below.size (by (exact extA)))) | replace hS := Sep.updRow (i := 5) rfl hU hO (.inl rfl) hS (by (exact extA)) (by (first | exact Nat.le_refl _ | exact Below.size (by (exact extA))))); (try simp only [List.set_cons_zero, List.set_cons_succ] at hS); (try have hR0 := hS.row (i := 0) rfl); (try have hR1 := hS.row (i := 1) rfl); (try have hR2 := hS.row (i := 2) rfl); (try have hR3 := hS.row (i := 3) rfl); (try have hR4 := hS.row (i := 4) rfl); (try have hC0 := hS.cell (i := 0) rfl); (try have hD0 := (cells_heap hC0).1); (try have hE0 := (cells_heap hC0).2.1); (try have hF0 := (cells_heap hC0).2.2.1); (try have hG0 := (cells_heap hC0).2.2.2.1); (try have hC1 := hS.cell (i := 1) rfl); (try have hD1 := (cells_heap hC1).1); (try have hE1 := (cells_heap hC1).2.1); (try have hF1 := (cells_heap hC1).2.2.1); (try have hG1 := (cells_heap hC1).2.2.2.1); (try have hC2 := hS.cell (i := 2) rfl); (try have hD2 := (cells_heap hC2).1); (try have hE2 := (cells_heap hC2).2.1); (try have hF2 := (cells_heap hC2).2.2.1); (try have hG2 := (cells_heap hC2).2.2.2.1); (try have hC3 := hS.cell (i := 3) rfl); (try have hD3 := (cells_heap hC3).1); (try have hE3 := (cells_heap hC3).2.1); (try have hF3 := (cells_heap hC3).2.2.1); (try have hG3 := (cells_heap hC3).2.2.2.1); (try have hC4 := hS.cell (i := 4) rfl); (try have hD4 := (cells_heap hC4).1); (try have hE4 := (cells_heap hC4).2.1); (try have hF4 := (cells_heap hC4).2.2.1); (try have hG4 := (cells_heap hC4).2.2.2.1); (try have hM0 := hS.map (i := 0) rfl); (try have hM1 := hS.map (i := 1) rfl); (try have hM2 := hS.map (i := 2) rfl); (try have hM3 := hS.map (i := 3) rfl); (try have hM4 := hS.map (i := 4) rfl))
    | (apply FL.indexO tOk; exact rfl; exact rfl; exact rfl; exact rfl; exact rfl; exact rfl; exact rfl; exact rfl; assumption; (exact extA); exact encI_ok; (first | exact rfl | (focus (simp only [List.length_set]; done)) | (focus (simp; done)) | (focus (simp [*]; done)) | omega | (focus (simp only [List.length_set]; omega))); omega; assumption; intro gb ha hc; cases ha; have hcc := hc; first | (obtain ⟨h1, h2, h3, _⟩ := hc) | (obtain ⟨h1, h2, _⟩ := hc) | (obtain ⟨h1, _⟩ := hc))
    | (show WL _ _ _ _ _ _ _; apply WL.nil)
    | (show SG _ _ _ _ _ _ _ _ _; first | apply SG.done | (apply SG.fl0; exact rfl) | (apply SG.fl1; exact rfl; (focus ((intro m; first | assumption | (apply Ext.at; (exact extA)) | apply But.of_at; first | exact But.upd (by assumption) | exact But.ext (by (exact extA)) | (refine But.trans ?_ (But.upd (by assumption)); exact But.ext (by (exact extA))) | exact But.at _ _ _); done))) | (apply SG.br1; exact rfl))
    | (show FL _ _ _ _ _ _ _ _; first | apply FL.nilS | (refine FL.au (k := ?_)) | (apply FL.loadG tOk; exact rfl; exact rfl; exact rfl; exact rfl; exact rfl; (first | assumption | (focus (apply Ext.cell; rotate_left; assumption; (exact extA); done))); (first | (focus (intro h; cases h; done)) | (focus (intro h; have h9 := hBC _ h; (try simp only at h9); omega)) | assumption | (focus (intro h; simp only [blk, Option.map_some, Option.some.injEq] at h; omega)))))
    | (show Z _ _ _ _ _; (apply Z.sgL; exact rfl))
    | (show Z _ _ _ _ _; apply Z.then_normal)
    | (show W _ _ _ _ _ _; apply W.seq)
    | fail)
  exact Z.body0n Try.results126 fun m => ⟨rfl, hX'.at m, by simpa using hS.ext ((Ext.refl _).at m)⟩
end
end Go.Proofs.Ytlcenenkloicjaa
namespace Go.Proofs.Ytlcenenkloicjaa
open Go Go.Lt Go.RowKit
set_option linter.unusedVariables false
set_option linter.unusedSimpArgs false
set_option maxRecDepth 20000

/-- A heap in memory, its tree in whatever state. -/
structure HpS (B : Nat) (w : World) (gh : Nat) (F : List Nat) (t A : List Int) (rest : List Piece) : Prop where
  at_ : AtOk F.length t A
  zero : ∀ x ∈ F, x = 0
  mem : ∃ as_ cs tr ct ap cp, Lt.Sep B w (hpP B gh as_ cs F tr ct t.length t ap cp A ++ rest)
theorem HpS.ext {B : Nat} {w w' : World} {gh : Nat} {F : List Nat} {t A : List Int} {rest : List Piece} (h : HpS B w gh F t A rest) (hx : Ext w w') : HpS B w' gh F t A rest :=
  ⟨h.at_, h.zero, let ⟨a, b, c, d, e, f, hS⟩ := h.mem; ⟨a, b, c, d, e, f, hS.ext hx⟩⟩
theorem AtOk.len_le {n : Nat} {t A : List Int} (h : AtOk n t A) : t.length ≤ n := by
  have key : ∀ (m : Nat) (l : List Nat), l.Nodup → (∀ i ∈ l, i < m) → l.length ≤ m := by
    intro m
    induction m with
    | zero => intro l _ hl; cases l with
      | nil => exact Nat.le_refl _
      | cons x r => exact absurd (hl x (by simp)) (Nat.not_lt_zero _)
    | succ m ih =>
      intro l hd hl
      have h1 := ih (l.erase m) (hd.erase m) fun i hi => by
        have h2 := hl i (List.mem_of_mem_erase hi)
        have h3 : i ≠ m := fun he => by subst he; exact (List.Nodup.not_mem_erase hd) hi
        omega
      rw [List.length_erase] at h1
      split at h1 <;> omega
  have h1 := key n (t.map Int.toNat) ?_ ?_
  · rwa [List.length_map] at h1
  · rw [List.nodup_iff_pairwise_ne, List.pairwise_map, List.pairwise_iff_getElem]
    intro i j hi hj hij he
    have p1 := h.pos i t[i] (List.getElem?_eq_getElem hi)
    have p2 := h.pos j t[j] (List.getElem?_eq_getElem hj)
    have : t[i] = t[j] := by omega
    have := h.inj (List.getElem?_eq_getElem hi) (by rw [List.getElem?_eq_getElem hj, this])
    omega
  · intro i hi
    obtain ⟨x, hx, rfl⟩ := List.mem_map.1 hi
    obtain ⟨j, hj⟩ := List.mem_iff_getElem?.1 hx
    exact (h.lt hj).2
/-- The tree was changed about, and is in order. -/
structure HpR (w0 w : World) (gh : Nat) (F : List Nat) (t0 : List Int) (rest : List Piece) (t A : List Int) : Prop where
  ext : Ext w0 w
  hp : HpS w0.heap.size w gh F t A rest
  mem : ∀ x, x ∈ t ↔ x ∈ t0
theorem swp_memc {t : List Int} {i k : Nat} {a b : Int} (hi : t[i]? = some a) (hk : t[k]? = some b) {t0 : List Int} (h : ∀ x, x ∈ t ↔ x ∈ t0) : ∀ x, x ∈ swp t i k a b ↔ x ∈ t0 := fun x => (swp_mem hi hk x).trans (h x)
theorem up_above (i : Nat) (h : 0 < i) : ((i : Int) - 1) / 2 = (((i - 1) / 2 : Nat) : Int) := by omega
set_option maxHeartbeats 8000000 in
theorem heap_up (w w0 : World) (gh : Nat) (F : List Nat) (t A : List Int) (rest : List Piece) (hX : Ext w0 w) (hH : HpS w0.heap.size w gh F t A rest) (hn : F.length ≤ 1048576) (i : Nat) (hi : i < t.length) (hU : UpI t i) :
    Lt.Spec Try.prog 124 [.pointer (some ⟨gh, 0, none⟩), .int .i64 i] w (fun v w' => v = .tuple #[] ∧ ∃ t' A', HpR w0 w' gh F t rest t' A' ∧ HO t') := by
  have htl := hH.at_.len_le
  have key : ∀ (e : Env) (Q : Exit → Act → World → Prop) (c : Code), True := fun _ _ _ => trivial
  clear key
  by_cases h0 : i = 0
  · subst h0
    refine Spec.of _ Try.func124 rfl Try.ntmps124 (by kernel_rfl) rfl ?_
    repeat' (first
      | ((apply WL.quow; exact rfl; exact rfl; exact rfl; exact rfl; exact ⟨⟨by decide, by decide⟩, by decide⟩))
      | (show WL _ _ _ _ _ _ _; first | apply WL.nil | (refine WL.au (k := ?_)))
      | (show Z _ _ _ _ _; apply Z.then_normal)
      | (show W _ _ _ _ _ _; first | apply W.seq | apply W.region | apply W.block)
      | fail)
    refine W.loop (fun _ : Unit => True) (fun _ => [(0, .pointer (some ⟨gh, 0, none⟩)), (1, .int .i64 0), (4, .int .i64 0)]) (fun _ => w) (fun _ => 0) () trivial ⟨rfl, rfl, rfl, trivial⟩ rfl ?_
    rintro ⟨⟩ _
    repeat' (first
      | (apply QL.gF; exact rfl; exact rfl; (focus (exact dec_false (by decide); done)))
      | (show QL _ _ _ _ _ _ _; first | apply QL.nil | (refine QL.au (k := ?_)) | (apply QL.guardF; exact rfl; exact rfl))
      | (show Z _ _ _ _ _; first | apply Z.then_normal | apply Z.then_exit | apply Z.block_exit)
      | (show W _ _ _ _ _ _; first | apply W.seq | apply W.exit | (apply W.condF; exact rfl) | (apply W.regionD tMix; kernel_rfl))
      | fail)
    exact Z.body0n Try.results124 fun m => ⟨rfl, t, A, ⟨hX.at m, hH.ext ((Ext.refl _).at m), fun x => Iff.rfl⟩, hU.stop (.inl rfl)⟩
  · refine Spec.of _ Try.func124 rfl Try.ntmps124 (by kernel_rfl) rfl ?_
    repeat' (first
      | (show WL _ _ _ _ _ _ _; first | apply WL.nil | (refine WL.au (k := ?_)))
      | (show Z _ _ _ _ _; apply Z.then_normal)
      | (show W _ _ _ _ _ _; first | apply W.seq | apply W.region | apply W.block)
      | fail)
    refine W.loop (fun s : Nat × List Int × List Int × World => s.1 < s.2.1.length ∧ UpI s.2.1 s.1 ∧ HpR w0 s.2.2.2 gh F t rest s.2.1 s.2.2.1) (fun s => [(0, .pointer (some ⟨gh, 0, none⟩)), (1, .int .i64 s.1), (4, .int .i64 ((s.1 - 1) / 2 : Nat))]) (fun s => s.2.2.2) (fun s => s.1) (i, t, A, w) ⟨hi, hU, hX, hH, fun x => Iff.rfl⟩ ⟨rfl, rfl, by rw [← up_above i (by omega)]; exact rfl, trivial⟩ rfl ?_
    rintro ⟨j, t1, A1, w1⟩ ⟨hj, hU1, hX1, hH1, hM1⟩
    dsimp only at hj hU1 hX1 hH1 hM1
    obtain ⟨as_, cs, tr, ct, ap, cp, hS⟩ := hH1.mem
    have htl1 := hH1.at_.len_le
    have h := cells_heap (hS.cell (i := 0) rfl)
    have c1 := h.2.1
    clear h
    have Rt := Own.row encI_ok (hS.row (i := 2) rfl)
    obtain ⟨ya, hya⟩ := getI t1 hj
    obtain ⟨yb, hyb⟩ := getI t1 (show (j - 1) / 2 < t1.length by omega)
    have la := hH1.at_.lt hya
    have lb := hH1.at_.lt hyb
    have hya' : t1[((j : Nat) : Int).toNat]? = some ya := hya
    have hyb' : t1[(((j - 1) / 2 : Nat) : Int).toNat]? = some yb := hyb
    by_cases hj0 : j = 0
    · subst hj0
      repeat' (first
        | (apply QL.gF; exact rfl; exact rfl; (focus (exact dec_false (by show ¬ (0 : Int) < ((0 : Nat) : Int); omega); done)))
        | (show QL _ _ _ _ _ _ _; first | apply QL.nil | (refine QL.au (k := ?_)) | (apply QL.guardF; exact rfl; exact rfl))
        | (show Z _ _ _ _ _; first | apply Z.then_normal | apply Z.then_exit | apply Z.block_exit)
        | (show W _ _ _ _ _ _; first | apply W.seq | apply W.exit | (apply W.condF; exact rfl) | (apply W.regionD tMix; kernel_rfl))
        | fail)
      exact Z.body0n Try.results124 fun m => ⟨rfl, t1, A1, ⟨hX1.at m, hH1.ext ((Ext.refl _).at m), hM1⟩, hU1.stop (.inl rfl)⟩
    by_cases hlt : ya < yb
    · have hsw := heap_swap hX1 hS hH1.at_ j ((j - 1) / 2) ya yb hya hyb (by omega)
      have hU2 := hU1.step (by omega) hya hyb hlt
      have hA2 := hH1.at_.swap hya hyb
      have hM2 := swp_memc hya hyb hM1
      by_cases hj1 : (j - 1) / 2 = 0
      · repeat' (first
          | (apply QL.nilc; exact rfl; exact rfl; exact rfl)
          | (apply QL.gT; exact rfl; exact rfl; (focus (first | exact dec_true (by omega) | exact dec_true hlt; done)))
          | (apply W.condKT; exact rfl; (focus (first | exact dec_true (by omega) | exact dec_true hlt; done)))
          | ((show QL _ _ _ _ (⟨_, .call ⟨.value (.func 132), _, _⟩, _, _, _, _⟩ :: _) _ _); apply QL.callS; exact rfl; exact rfl; exact rfl; exact rfl; exact heap_ahead hS hH1.zero ya yb ⟨la.1, la.2⟩ ⟨lb.1, lb.2⟩)
          | ((apply WL.quow; exact rfl; exact rfl; exact rfl; exact rfl; exact ⟨⟨by omega, by omega⟩, by decide⟩))
          | (((show WL _ _ _ (⟨_, .call ⟨.value (.func 126), _, _⟩, _, _, _, _⟩ :: _) _ _ _); apply WL.call; exact rfl; exact rfl; exact rfl; exact rfl; exact hsw; rintro v' w2 ⟨rfl, hX2, hS2⟩))
          | (show WL _ _ _ _ _ _ _; first | apply WL.nil | (refine WL.au (k := ?_)))
          | (show QL _ _ _ _ _ _ _; first | apply QL.nil | (refine QL.au (k := ?_)) | (apply QL.index tOk; exact rfl; exact rfl; exact rfl; exact rfl; exact rfl; exact rfl; exact rfl; exact rfl; assumption; (exact extA); exact rfl; omega; assumption; intro b off h; have hcc := h; first | (obtain ⟨h1, h2, h3, h4, h5, h6, _⟩ := h) | (obtain ⟨h1, h2, h3, _⟩ := h) | (obtain ⟨h1, h2, _⟩ := h) | (obtain ⟨h1, _⟩ := h)))
          | (show Z _ _ _ _ _; first | apply Z.then_normal | apply Z.block_normal)
          | (show W _ _ _ _ _ _; first | apply W.seq | apply W.region | apply W.block | apply W.skip | (apply W.regionD tMix; kernel_rfl))
          | fail)
        refine Z.again ((j - 1) / 2, swp t1 j ((j - 1) / 2) ya yb, _, w2) ⟨by show (j - 1) / 2 < (swp t1 j ((j - 1) / 2) ya yb).length; rw [swp_len]; omega, hU2, hX2, ⟨hA2, hH1.zero, as_, cs, tr, ct, ap, cp, by rw [swp_len]; exact hS2⟩, hM2⟩ (by show (j - 1) / 2 < j; omega) ⟨rfl, rfl, ?_, trivial⟩ rfl
        show some (Value.int _ _) = some (Value.int _ _)
        rw [hj1]
        exact congrArg (fun z => some (Value.int IntKind.i64 z)) (show (((0 : Nat) : Int) - 1).tdiv 2 = (((0 - 1) / 2 : Nat) : Int) by decide)
      · repeat' (first
          | (apply QL.nilc; exact rfl; exact rfl; exact rfl)
          | (apply QL.gT; exact rfl; exact rfl; (focus (first | exact dec_true (by omega) | exact dec_true hlt; done)))
          | (apply W.condKT; exact rfl; (focus (first | exact dec_true (by omega) | exact dec_true hlt; done)))
          | ((show QL _ _ _ _ (⟨_, .call ⟨.value (.func 132), _, _⟩, _, _, _, _⟩ :: _) _ _); apply QL.callS; exact rfl; exact rfl; exact rfl; exact rfl; exact heap_ahead hS hH1.zero ya yb ⟨la.1, la.2⟩ ⟨lb.1, lb.2⟩)
          | (((show WL _ _ _ (⟨_, .call ⟨.value (.func 126), _, _⟩, _, _, _, _⟩ :: _) _ _ _); apply WL.call; exact rfl; exact rfl; exact rfl; exact rfl; exact hsw; rintro v' w2 ⟨rfl, hX2, hS2⟩))
          | (show WL _ _ _ _ _ _ _; first | apply WL.nil | (refine WL.au (k := ?_)))
          | (show QL _ _ _ _ _ _ _; first | apply QL.nil | (refine QL.au (k := ?_)) | (apply QL.index tOk; exact rfl; exact rfl; exact rfl; exact rfl; exact rfl; exact rfl; exact rfl; exact rfl; assumption; (exact extA); exact rfl; omega; assumption; intro b off h; have hcc := h; first | (obtain ⟨h1, h2, h3, h4, h5, h6, _⟩ := h) | (obtain ⟨h1, h2, h3, _⟩ := h) | (obtain ⟨h1, h2, _⟩ := h) | (obtain ⟨h1, _⟩ := h)))
          | (show Z _ _ _ _ _; first | apply Z.then_normal | apply Z.block_normal)
          | (show W _ _ _ _ _ _; first | apply W.seq | apply W.region | apply W.block | apply W.skip | (apply W.regionD tMix; kernel_rfl))
          | fail)
        refine Z.again ((j - 1) / 2, swp t1 j ((j - 1) / 2) ya yb, _, w2) ⟨by show (j - 1) / 2 < (swp t1 j ((j - 1) / 2) ya yb).length; rw [swp_len]; omega, hU2, hX2, ⟨hA2, hH1.zero, as_, cs, tr, ct, ap, cp, by rw [swp_len]; exact hS2⟩, hM2⟩ (by show (j - 1) / 2 < j; omega) ⟨rfl, rfl, ?_, trivial⟩ rfl
        rw [← up_above ((j - 1) / 2) (by omega)]; exact rfl
    · repeat' (first
        | (apply QL.nilc; exact rfl; exact rfl; exact rfl)
        | (apply QL.gT; exact rfl; exact rfl; (focus (first | exact dec_true (by omega) | exact dec_false hlt; done)))
        | (apply W.condKF; exact rfl; (focus (first | exact dec_true (by omega) | exact dec_false hlt; done)))
        | ((show QL _ _ _ _ (⟨_, .call ⟨.value (.func 132), _, _⟩, _, _, _, _⟩ :: _) _ _); apply QL.callS; exact rfl; exact rfl; exact rfl; exact rfl; exact heap_ahead hS hH1.zero ya yb ⟨la.1, la.2⟩ ⟨lb.1, lb.2⟩)
        | (show QL _ _ _ _ _ _ _; first | apply QL.nil | (refine QL.au (k := ?_)) | (apply QL.index tOk; exact rfl; exact rfl; exact rfl; exact rfl; exact rfl; exact rfl; exact rfl; exact rfl; assumption; (exact extA); exact rfl; omega; assumption; intro b off h; have hcc := h; first | (obtain ⟨h1, h2, h3, h4, h5, h6, _⟩ := h) | (obtain ⟨h1, h2, h3, _⟩ := h) | (obtain ⟨h1, h2, _⟩ := h) | (obtain ⟨h1, _⟩ := h)))
        | (show Z _ _ _ _ _; first | apply Z.then_normal | apply Z.then_exit | apply Z.block_exit)
        | (show W _ _ _ _ _ _; first | apply W.seq | apply W.exit | (apply W.regionD tMix; kernel_rfl))
        | fail)
      refine Z.body0n Try.results124 fun m => ⟨rfl, t1, A1, ⟨hX1.at m, hH1.ext ((Ext.refl _).at m), hM1⟩, hU1.stop (.inr fun a b ha hb => ?_)⟩
      rw [hya] at hb; rw [hyb] at ha; cases ha; cases hb; omega
set_option maxHeartbeats 16000000 in
theorem heap_down (w w0 : World) (gh : Nat) (F : List Nat) (t A : List Int) (rest : List Piece) (hX : Ext w0 w) (hH : HpS w0.heap.size w gh F t A rest) (hn : F.length ≤ 1048576) (i : Nat) (hi : i < t.length ∨ t = []) (hD : DownI t i) (hi0 : i ≤ 1048576) :
    Lt.Spec Try.prog 127 [.pointer (some ⟨gh, 0, none⟩), .int .i64 i] w (fun v w' => v = .tuple #[] ∧ ∃ t' A', HpR w0 w' gh F t rest t' A' ∧ HO t') := by
  refine Spec.of _ Try.func127 rfl Try.ntmps127 (by kernel_rfl) rfl ?_
  repeat' (first
    | (show W _ _ _ _ _ _; apply W.block)
    | fail)
  refine W.loop (fun s : Nat × List Int × List Int × World => (s.1 < s.2.1.length ∨ s.2.1 = []) ∧ s.1 ≤ 1048576 ∧ DownI s.2.1 s.1 ∧ HpR w0 s.2.2.2 gh F t rest s.2.1 s.2.2.1) (fun s => [(0, .pointer (some ⟨gh, 0, none⟩)), (1, .int .i64 s.1)]) (fun s => s.2.2.2) (fun s => 1048577 - s.1) (i, t, A, w) ⟨hi, hi0, hD, hX, hH, fun x => Iff.rfl⟩ ⟨rfl, rfl, trivial⟩ rfl ?_
  rintro ⟨j, t1, A1, w1⟩ ⟨hj, hj0, hD1, hX1, hH1, hM1⟩
  dsimp only at hj hj0 hD1 hX1 hH1 hM1
  obtain ⟨as_, cs, tr, ct, ap, cp, hS⟩ := hH1.mem
  have htl1 := hH1.at_.len_le
  have h := cells_heap (hS.cell (i := 0) rfl)
  have c1 := h.2.1
  clear h
  have Rt := Own.row encI_ok (hS.row (i := 2) rfl)
  repeat' (first
    | (show WL _ _ _ _ _ _ _; first | apply WL.nil | (refine WL.au (k := ?_)))
    | (show Z _ _ _ _ _; apply Z.then_normal)
    | (show W _ _ _ _ _ _; first | apply W.seq | apply W.region | apply W.block)
    | fail)
  refine W.loop (fun s : Nat × Nat => 2 * j + 1 ≤ s.1 ∧ s.1 ≤ 2 * j + 3 ∧ (s.2 = j ∨ (2 * j + 1 ≤ s.2 ∧ s.2 < s.1 ∧ s.2 < t1.length)) ∧ (∀ q, (q = j ∨ (2 * j + 1 ≤ q ∧ q < s.1)) → q < t1.length → leT t1 s.2 q) ∧ (s.2 ≠ j → ∀ a b, t1[s.2]? = some a → t1[j]? = some b → a < b)) (fun s => [(0, .pointer (some ⟨gh, 0, none⟩)), (1, .int .i64 j), (4, .int .i64 s.2), (5, .int .i64 s.1)]) (fun _ => w1) (fun s => 2 * j + 4 - s.1) (2 * j + 1, j) ⟨Nat.le_refl _, by omega, .inl rfl, fun q hq _ a b ha hb => by
    rcases hq with rfl | ⟨h1, h2⟩
    · rw [ha] at hb; cases hb; exact Int.le_refl _
    · omega, fun h => absurd rfl h⟩ ⟨rfl, rfl, rfl, by show some (Value.int _ _) = some (Value.int _ _); rw [show ((2 * j + 1 : Nat) : Int) = 2 * (j : Int) + 1 by omega], trivial⟩ rfl ?_
  rintro ⟨k, f⟩ ⟨hk1, hk2, hf, hmin, hless⟩
  dsimp only at hk1 hk2 hf hmin hless
  have efin : ∀ q : Nat, q = j ∨ (2 * j + 1 ≤ q ∧ q < 2 * j + 3) ↔ q = j ∨ (0 < q ∧ (q - 1) / 2 = j) := fun q => by omega
  by_cases hlt : k ≤ 2 * j + 2 ∧ k < t1.length
  · have hjl : j < t1.length := by omega
    have hfl : f < t1.length := by rcases hf with rfl | ⟨_, _, h⟩; exact hjl; exact h
    obtain ⟨yk, hyk⟩ := getI t1 hlt.2
    obtain ⟨yf, hyf⟩ := getI t1 hfl
    have lk := hH1.at_.lt hyk
    have lf := hH1.at_.lt hyf
    have hyk' : t1[((k : Nat) : Int).toNat]? = some yk := hyk
    have hyf' : t1[((f : Nat) : Int).toNat]? = some yf := hyf
    by_cases hah : yk < yf
    · repeat' (first
        | (apply WL.nilc; exact rfl; exact rfl; exact rfl)
        | (apply QL.nilc; exact rfl; exact rfl; exact rfl)
        | (apply WL.gT; exact rfl; exact rfl; (focus (first | exact dec_true (by omega) | exact dec_true hah; done)))
        | (apply W.condKT; exact rfl; (focus (first | exact dec_true (by omega) | exact dec_true hah; done)))
        | ((show QL _ _ _ _ (⟨_, .call ⟨.value (.func 132), _, _⟩, _, _, _, _⟩ :: _) _ _); apply QL.callS; exact rfl; exact rfl; exact rfl; exact rfl; exact heap_ahead hS hH1.zero yk yf ⟨lk.1, lk.2⟩ ⟨lf.1, lf.2⟩)
        | (show WL _ _ _ _ _ _ _; first | apply WL.nil | (refine WL.au (k := ?_)))
        | (show QL _ _ _ _ _ _ _; first | apply QL.nil | (refine QL.au (k := ?_)) | (apply QL.index tOk; exact rfl; exact rfl; exact rfl; exact rfl; exact rfl; exact rfl; exact rfl; exact rfl; assumption; (exact extA); exact rfl; omega; assumption; intro b off h; have hcc := h; first | (obtain ⟨h1, h2, h3, h4, h5, h6, _⟩ := h) | (obtain ⟨h1, h2, h3, _⟩ := h) | (obtain ⟨h1, h2, _⟩ := h) | (obtain ⟨h1, _⟩ := h)))
        | (show Z _ _ _ _ _; first | apply Z.then_normal | apply Z.block_normal)
        | (show W _ _ _ _ _ _; first | apply W.seq | apply W.region | apply W.block | apply W.skip | (apply W.regionD tMix; kernel_rfl))
        | fail)
      refine Z.again (k + 1, k) ⟨by show 2 * j + 1 ≤ k + 1; omega, by show k + 1 ≤ _; omega, .inr ⟨by show 2 * j + 1 ≤ k; omega, by show k < k + 1; omega, hlt.2⟩, fun q hq hql a b ha hb => ?_, fun hne a b ha hb => ?_⟩ (by show 2 * j + 4 - (k + 1) < 2 * j + 4 - k; omega) ⟨rfl, rfl, rfl, rfl, trivial⟩ rfl
      · have ha' : t1[k]? = some a := ha
        rw [hyk] at ha'; cases ha'
        by_cases he : q = k
        · subst he; rw [hyk] at hb; cases hb; exact Int.le_refl _
        · have := hmin q (by rcases hq with h | h; exact .inl h; exact .inr ⟨h.1, by have : q < k + 1 := h.2; omega⟩) hql yf b hyf hb
          omega
      · have ha' : t1[k]? = some a := ha
        rw [hyk] at ha'; cases ha'
        have := hmin j (.inl rfl) hjl yf b hyf hb
        omega
    · repeat' (first
        | (apply WL.nilc; exact rfl; exact rfl; exact rfl)
        | (apply QL.nilc; exact rfl; exact rfl; exact rfl)
        | (apply WL.gT; exact rfl; exact rfl; (focus (first | exact dec_true (by omega) | exact dec_false hah; done)))
        | (apply W.condKT; exact rfl; (focus (first | exact dec_true (by omega) | exact dec_false hah; done)))
        | (apply W.condKF; exact rfl; (focus (first | exact dec_true (by omega) | exact dec_false hah; done)))
        | ((show QL _ _ _ _ (⟨_, .call ⟨.value (.func 132), _, _⟩, _, _, _, _⟩ :: _) _ _); apply QL.callS; exact rfl; exact rfl; exact rfl; exact rfl; exact heap_ahead hS hH1.zero yk yf ⟨lk.1, lk.2⟩ ⟨lf.1, lf.2⟩)
        | (show WL _ _ _ _ _ _ _; first | apply WL.nil | (refine WL.au (k := ?_)))
        | (show QL _ _ _ _ _ _ _; first | apply QL.nil | (refine QL.au (k := ?_)) | (apply QL.index tOk; exact rfl; exact rfl; exact rfl; exact rfl; exact rfl; exact rfl; exact rfl; exact rfl; assumption; (exact extA); exact rfl; omega; assumption; intro b off h; have hcc := h; first | (obtain ⟨h1, h2, h3, h4, h5, h6, _⟩ := h) | (obtain ⟨h1, h2, h3, _⟩ := h) | (obtain ⟨h1, h2, _⟩ := h) | (obtain ⟨h1, _⟩ := h)))
        | (show Z _ _ _ _ _; first | apply Z.then_normal | apply Z.block_normal)
        | (show W _ _ _ _ _ _; first | apply W.seq | apply W.region | apply W.block | apply W.skip | (apply W.regionD tMix; kernel_rfl))
        | fail)
      refine Z.again (k + 1, f) ⟨by show 2 * j + 1 ≤ k + 1; omega, by show k + 1 ≤ _; omega, hf.imp id fun h => ⟨h.1, by show f < k + 1; omega, h.2.2⟩, fun q hq hql a b ha hb => ?_, hless⟩ (by show 2 * j + 4 - (k + 1) < 2 * j + 4 - k; omega) ⟨rfl, rfl, rfl, rfl, trivial⟩ rfl
      have ha' : t1[f]? = some a := ha
      rw [hyf] at ha'; cases ha'
      by_cases he : q = k
      · subst he; rw [hyk] at hb; cases hb; omega
      · exact hmin q (by rcases hq with h | h; exact .inl h; exact .inr ⟨h.1, by have : q < k + 1 := h.2; omega⟩) hql yf b hyf hb
  · have hall : ∀ q, 0 < q → q < t1.length → (q - 1) / 2 = j → leT t1 f q := fun q q0 ql qj => hmin q (.inr (by omega)) ql
    by_cases hfj : f = j
    · subst hfj
      repeat' (first
        | (apply WL.nilc; exact rfl; exact rfl; exact rfl)
        | (apply W.condKT; exact rfl; (focus (first | exact dec_false (by omega) | exact dec_true rfl | exact dec_true (by omega); done)))
        | (apply W.condKF; exact rfl; (focus (first | exact dec_false (by omega) | exact dec_true rfl | exact dec_true (by omega); done)))
        | (show WL _ _ _ _ _ _ _; first | apply WL.nil | (refine WL.au (k := ?_)) | (apply WL.guardF; exact rfl; exact rfl) | (apply WL.gD; exact rfl; exact rfl; all_goals intro _))
        | (show Z _ _ _ _ _; first | apply Z.then_normal | apply Z.then_exit | apply Z.block_exit | apply Z.then_ret | apply Z.block_ret)
        | (show W _ _ _ _ _ _; first | apply W.seq | apply W.region | apply W.ret | apply W.exit | (apply W.condF; exact rfl))
        | fail)
      all_goals exact Z.body0 Try.results127 fun m => ⟨rfl, t1, A1, ⟨hX1.at m, hH1.ext ((Ext.refl _).at m), hM1⟩, hD1.stop hall⟩
    · have hf' := hf.resolve_left hfj
      have hjl : j < t1.length := by omega
      obtain ⟨yf, hyf⟩ := getI t1 hf'.2.2
      obtain ⟨yj, hyj⟩ := getI t1 hjl
      have hlf := hless hfj yf yj hyf hyj
      have hfp : (f - 1) / 2 = j := by omega
      have hsw := heap_swap hX1 hS hH1.at_ j f yj yf hyj hyf (by omega)
      have hD2 := hD1.step (f := f) (by omega) hfp hyj hyf hlf (fun q q0 ql qj y hy => hall q q0 ql qj yf y hyf hy)
      have hA2 := hH1.at_.swap hyj hyf
      have hM2 := swp_memc hyj hyf hM1
      repeat' (first
        | (apply WL.nilc; exact rfl; exact rfl; exact rfl)
        | (apply W.condKF; exact rfl; (focus (first | exact dec_false (by omega) | exact dec_true (by omega); done)))
        | (((show WL _ _ _ (⟨_, .call ⟨.value (.func 126), _, _⟩, _, _, _, _⟩ :: _) _ _ _); apply WL.call; exact rfl; exact rfl; exact rfl; exact rfl; exact hsw; rintro v' w2 ⟨rfl, hX2, hS2⟩))
        | (show WL _ _ _ _ _ _ _; first | apply WL.nil | (refine WL.au (k := ?_)) | (apply WL.guardF; exact rfl; exact rfl) | (apply WL.gD; exact rfl; exact rfl; all_goals intro _))
        | (show Z _ _ _ _ _; first | apply Z.then_normal | apply Z.block_normal | apply Z.then_exit | apply Z.block_exit)
        | (show W _ _ _ _ _ _; first | apply W.seq | apply W.region | apply W.skip | apply W.exit | (apply W.condF; exact rfl))
        | fail)
      all_goals exact Z.again (f, swp t1 j f yj yf, _, w2) ⟨.inl (by show f < (swp t1 j f yj yf).length; rw [swp_len]; exact hf'.2.2), by show f ≤ _; omega, hD2, hX2, ⟨hA2, hH1.zero, as_, cs, tr, ct, ap, cp, by rw [swp_len]; exact hS2⟩, hM2⟩ (by show 1048577 - f < 1048577 - j; omega) ⟨rfl, rfl, trivial⟩ rfl
end Go.Proofs.Ytlcenenkloicjaa
namespace Go.Proofs.Ytlcenenkloicjaa
open Go Go.Lt Go.RowKit
set_option linter.unusedVariables false
set_option linter.unusedSimpArgs false
set_option maxRecDepth 20000

abbrev hpPn (B gh : Nat) (as_ : Option Addr) (cs : Nat) (F : List Nat) (tr : Option Addr) (ct nt : Nat) (t : List Int) (ap : Option Addr) (cp na : Nat) (A : List Int) : List Piece :=
  [pcell gh #[.slice as_ F.length cs, .slice tr nt ct, .slice ap na cp] 144, prow 1 encF 149 B as_ cs F, prow 1 encI 3 B tr ct t, prow 1 encI 3 B ap cp A]
theorem HpS.mk' {B : Nat} {w : World} {gh nt na : Nat} {F : List Nat} {t A : List Int} {rest : List Piece} {as_ tr ap : Option Addr} {cs ct cp : Nat} (hA : AtOk F.length t A) (hF : ∀ x ∈ F, x = 0) (hnt : nt = t.length) (hna : na = A.length) (hS : Lt.Sep B w (hpPn B gh as_ cs F tr ct nt t ap cp na A ++ rest)) : HpS B w gh F t A rest := by
  subst hnt; subst hna; exact ⟨hA, hF, as_, cs, tr, ct, ap, cp, hS⟩
theorem heap_Len {B : Nat} {w : World} {gh : Nat} {F : List Nat} {t A : List Int} {rest : List Piece} (hH : HpS B w gh F t A rest) : Still Try.prog 125 [.pointer (some ⟨gh, 0, none⟩)] w (.int .i64 t.length) := by
  obtain ⟨as_, cs, tr, ct, ap, cp, hS⟩ := hH.mem
  have h := cells_heap (hS.cell (i := 0) rfl)
  have c1 := h.2.1
  clear h
  refine Spec.of _ Try.func125 rfl Try.ntmps125 (by kernel_rfl) rfl ?_
  repeat' (first
    | (apply WL.nilc; exact rfl; exact rfl; exact rfl)
    | (apply WL.eqNilS tOk; exact rfl; exact rfl; exact rfl; exact rfl; exact rfl; exact rfl)
    | (show WL _ _ _ _ _ _ _; first | apply WL.nil | (refine WL.au (k := ?_)))
    | (show Z _ _ _ _ _; apply Z.then_normal)
    | (show W _ _ _ _ _ _; first | apply W.seq | apply W.region | apply W.skip | apply W.ret | (apply W.condF; exact rfl))
    | fail)
  exact Z.body1 Try.results125 rfl fun m => ⟨rfl, m, rfl⟩
theorem heap_known {B : Nat} {w : World} {gh : Nat} {F : List Nat} {t A : List Int} {rest : List Piece} (hH : HpS B w gh F t A rest) (v : Nat) (hv : v < F.length) : Still Try.prog 123 [.pointer (some ⟨gh, 0, none⟩), .int .i64 v] w (.bool true) := by
  obtain ⟨as_, cs, tr, ct, ap, cp, hS⟩ := hH.mem
  have h := cells_heap (hS.cell (i := 0) rfl)
  have c2 := h.2.2.1
  clear h
  have hl := hH.at_.len
  refine Spec.of _ Try.func123 rfl Try.ntmps123 (by kernel_rfl) rfl ?_
  repeat' (first
    | (apply WL.nilc; exact rfl; exact rfl; exact rfl)
    | (apply WL.neNilS tOk; exact rfl; exact rfl; exact rfl; exact rfl; exact rfl; exact rfl)
    | (apply WL.gT; exact rfl; exact rfl; (focus (exact dec_true (by omega); done)))
    | (show WL _ _ _ _ _ _ _; first | apply WL.nil | (refine WL.au (k := ?_)))
    | (show Z _ _ _ _ _; apply Z.then_normal)
    | (show W _ _ _ _ _ _; first | apply W.seq | apply W.region | apply W.ret)
    | fail)
  exact Z.body1 Try.results123 rfl fun m => ⟨congrArg Value.bool (dec_true (by omega)), m, rfl⟩
/-- One thing more in it. -/
structure HpB (w0 w : World) (gh : Nat) (F : List Nat) (rest : List Piece) (t A : List Int) (p : Int → Prop) : Prop where
  ext : Ext w0 w
  hp : HpS w0.heap.size w gh F t A rest
  ho : HO t
  mem : ∀ x, x ∈ t ↔ p x
set_option maxHeartbeats 8000000 in
theorem heap_Push (w w0 : World) (gh : Nat) (F : List Nat) (t A : List Int) (rest : List Piece) (p : Int → Prop) (hB : HpB w0 w gh F rest t A p) (hn : F.length ≤ 1048576) (v : Nat) (hv : v < F.length) (hp : ¬ p v) :
    Lt.Spec Try.prog 107 [.pointer (some ⟨gh, 0, none⟩), .int .i64 v] w (fun r w' => r = .int .i64 0 ∧ ∃ t' A', HpB w0 w' gh F rest t' A' (fun x => p x ∨ x = v)) := by
  obtain ⟨hX, hH, hO, hm⟩ := hB
  have hnt : (v : Int) ∉ t := fun h => hp ((hm _).1 h)
  have htl := hH.at_.len_le
  have hAl := hH.at_.len
  have hAv := hH.at_.out v hv hnt
  have hA2 := hH.at_.push hv hnt
  have hU2 := hO.push (v : Int)
  have hAv' : A[((v : Nat) : Int).toNat]? = some (-1) := hAv
  have hkn := heap_known hH v hv
  have hZ := hH.zero
  obtain ⟨as_, cs, tr, ct, ap, cp, hS⟩ := hH.mem
  have hgt := (hS.lt (i := 0) rfl rfl).1
  have hne : blk tr ≠ some gh := fun h => by
    rcases hS.apart 2 0 _ _ rfl rfl (by decide) with h1 | h1
    · rw [show (prow 1 encI 3 w0.heap.size tr ct t).b = blk tr from rfl] at h1; rw [h1] at h; cases h
    · exact h1 h
  have h := cells_heap (hS.cell (i := 0) rfl)
  have c1 := h.2.1
  have c2 := h.2.2.1
  clear h
  have hR2 := hS.row (i := 2) rfl
  have hR3 := hS.row (i := 3) rfl
  have hset : (A.set ((v : Nat) : Int).toNat (t.length : Int))[((v : Nat) : Int).toNat]? = some (t.length : Int) := List.getElem?_set_self (by show v < A.length; omega)
  refine Spec.of _ Try.func107 rfl Try.ntmps107 (by kernel_rfl) rfl ?_
  repeat' (first
    | (apply WL.nilc; exact rfl; exact rfl; exact rfl)
    | (apply FL.nilc; exact rfl; exact rfl; exact rfl)
    | (apply WL.callS; exact rfl; exact rfl; exact rfl; exact rfl; exact hkn)
    | (apply W.condKF; exact rfl; (focus (first | exact dec_false (by decide) | exact dec_true (by omega); done)))
    | (show W _ _ (.region 5 _ _) _ _ _; apply W.regionGB (.fl true 0 (.fl true 1 (.fl true 2 (.fl true 4 (.fl true 5 (.fl true 6 (.fl true 7 (.fl false 3 (.fl false 8 (.fl true 9 (.fl true 10 (.br 11 .done .stop)))))))))))) [8, 9] (none) tMix; kernel_rfl)
    | (apply WL.storeO tOk; exact rfl; exact rfl; exact rfl; exact rfl; assumption; (exact extA); exact rfl; exact rfl; exact rfl; exact encI_ok; assumption; exact rfl; (exact extA); intro w' hO hX' hU; (first | replace hS := Sep.updRow (i := 0) rfl hU hO (.inl rfl) hS (by (exact extA)) (by (first | exact Nat.le_refl _ | exact Below.size (by (exact extA)))) | replace hS := Sep.updRow (i := 1) rfl hU hO (.inl rfl) hS (by (exact extA)) (by (first | exact Nat.le_refl _ | exact Below.size (by (exact extA)))) | replace hS := Sep.updRow (i := 2) rfl hU hO (.inl rfl) hS (by (exact extA)) (by (first | exact Nat.le_refl _ | exact Below.size (by (exact extA)))) | replace hS := Sep.updRow (i := 3) rfl hU hO (.inl rfl) hS (by (exact extA)) (by (first | exact Nat.le_refl _ | exact Below.size (by (exact extA)))) | replace hS := Sep.updRow (i := 4) rfl hU hO (.inl rfl) hS (by (exact extA)) (by (first | exact Nat.le_refl _ | exact Below.size (by (exact extA)))) | replace hS := Sep.updRow (i := 5) rfl hU hO (.inl rfl) hS (by (exact extA)) (by (first | exact Nat.le_refl _ | exact Below.size (by (exact extA))))); (try simp only [List.set_cons_zero, List.set_cons_succ] at hS); (try have hR0 := hS.row (i := 0) rfl); (try have hR1 := hS.row (i := 1) rfl); (try have hR2 := hS.row (i := 2) rfl); (try have hR3 := hS.row (i := 3) rfl); (try have hR4 := hS.row (i := 4) rfl); (try have hC0 := hS.cell (i := 0) rfl); (try have hD0 := (cells_heap hC0).1); (try have hE0 := (cells_heap hC0).2.1); (try have hF0 := (cells_heap hC0).2.2.1); (try have hG0 := (cells_heap hC0).2.2.2.1); (try have hC1 := hS.cell (i := 1) rfl); (try have hD1 := (cells_heap hC1).1); (try have hE1 := (cells_heap hC1).2.1); (try have hF1 := (cells_heap hC1).2.2.1); (try have hG1 := (cells_heap hC1).2.2.2.1); (try have hC2 := hS.cell (i := 2) rfl); (try have hD2 := (cells_heap hC2).1); (try have hE2 := (cells_heap hC2).2.1); (try have hF2 := (cells_heap hC2).2.2.1); (try have hG2 := (cells_heap hC2).2.2.2.1); (try have hC3 := hS.cell (i := 3) rfl); (try have hD3 := (cells_heap hC3).1); (try have hE3 := (cells_heap hC3).2.1); (try have hF3 := (cells_heap hC3).2.2.1); (try have hG3 := (cells_heap hC3).2.2.2.1); (try have hC4 := hS.cell (i := 4) rfl); (try have hD4 := (cells_heap hC4).1); (try have hE4 := (cells_heap hC4).2.1); (try have hF4 := (cells_heap hC4).2.2.1); (try have hG4 := (cells_heap hC4).2.2.2.1); (try have hM0 := hS.map (i := 0) rfl); (try have hM1 := hS.map (i := 1) rfl); (try have hM2 := hS.map (i := 2) rfl); (try have hM3 := hS.map (i := 3) rfl); (try have hM4 := hS.map (i := 4) rfl))
    | (apply WL.indexO tOk; exact rfl; exact rfl; exact rfl; exact rfl; exact rfl; exact rfl; exact rfl; exact rfl; assumption; (exact extA); exact encI_ok; (first | exact rfl | (focus (simp only [List.length_set]; done)) | (focus (simp; done)) | (focus (simp [*]; done)) | omega | (focus (simp only [List.length_set]; omega))); omega; assumption; intro gb ha hc; cases ha; have hcc := hc; first | (obtain ⟨h1, h2, h3, _⟩ := hc) | (obtain ⟨h1, h2, _⟩ := hc) | (obtain ⟨h1, _⟩ := hc))
    | (apply FL.indexO tOk; exact rfl; exact rfl; exact rfl; exact rfl; exact rfl; exact rfl; exact rfl; exact rfl; assumption; (exact extA); exact encI_ok; (first | exact rfl | (focus (simp only [List.length_set]; done)) | (focus (simp; done)) | (focus (simp [*]; done)) | omega | (focus (simp only [List.length_set]; omega))); omega; assumption; intro gb ha hc; cases ha; have hcc := hc; first | (obtain ⟨h1, h2, h3, _⟩ := hc) | (obtain ⟨h1, h2, _⟩ := hc) | (obtain ⟨h1, _⟩ := hc))
    | (apply WL.lit tOk; exact rfl; exact rfl; exact rfl; exact rfl; exact rfl; exact rfl; (first | exact rfl | kernel_rfl | (simp [Instr.fill, catCells]; done)); exact rfl; intro gb w' hb hge hc hx)
    | (apply WL.append1 (z := ((v : Int))) tOk encI_ok; exact rfl; exact rfl; exact rfl; exact rfl; exact rfl; exact rfl; exact rfl; exact rfl; exact rfl; exact rfl; assumption; (exact extA); (first | exact rfl | (focus (simp only [List.length_set]; done)) | (focus (simp; done)) | (focus (simp [*]; done)) | omega | (focus (simp only [List.length_set]; omega))); (first | assumption | (refine Cells.ext ?_ (by assumption); exact extA)); exact rfl; exact rfl; (exact extA); (first | omega | (simp; omega) | (simp at *; omega)); intro a' cap' w' hO hX' hU hF; (first | replace hS := Sep.updRow (i := 0) rfl hU hO hF hS (by (exact extA)) (by (first | exact Nat.le_refl _ | exact Below.size (by (exact extA)))) | replace hS := Sep.updRow (i := 1) rfl hU hO hF hS (by (exact extA)) (by (first | exact Nat.le_refl _ | exact Below.size (by (exact extA)))) | replace hS := Sep.updRow (i := 2) rfl hU hO hF hS (by (exact extA)) (by (first | exact Nat.le_refl _ | exact Below.size (by (exact extA)))) | replace hS := Sep.updRow (i := 3) rfl hU hO hF hS (by (exact extA)) (by (first | exact Nat.le_refl _ | exact Below.size (by (exact extA)))) | replace hS := Sep.updRow (i := 4) rfl hU hO hF hS (by (exact extA)) (by (first | exact Nat.le_refl _ | exact Below.size (by (exact extA)))) | replace hS := Sep.updRow (i := 5) rfl hU hO hF hS (by (exact extA)) (by (first | exact Nat.le_refl _ | exact Below.size (by (exact extA))))); (try simp only [List.set_cons_zero, List.set_cons_succ] at hS); (try have hR0 := hS.row (i := 0) rfl); (try have hR1 := hS.row (i := 1) rfl); (try have hR2 := hS.row (i := 2) rfl); (try have hR3 := hS.row (i := 3) rfl); (try have hR4 := hS.row (i := 4) rfl); (try have hC0 := hS.cell (i := 0) rfl); (try have hD0 := (cells_heap hC0).1); (try have hE0 := (cells_heap hC0).2.1); (try have hF0 := (cells_heap hC0).2.2.1); (try have hG0 := (cells_heap hC0).2.2.2.1); (try have hC1 := hS.cell (i := 1) rfl); (try have hD1 := (cells_heap hC1).1); (try have hE1 := (cells_heap hC1).2.1); (try have hF1 := (cells_heap hC1).2.2.1); (try have hG1 := (cells_heap hC1).2.2.2.1); (try have hC2 := hS.cell (i := 2) rfl); (try have hD2 := (cells_heap hC2).1); (try have hE2 := (cells_heap hC2).2.1); (try have hF2 := (cells_heap hC2).2.2.1); (try have hG2 := (cells_heap hC2).2.2.2.1); (try have hC3 := hS.cell (i := 3) rfl); (try have hD3 := (cells_heap hC3).1); (try have hE3 := (cells_heap hC3).2.1); (try have hF3 := (cells_heap hC3).2.2.1); (try have hG3 := (cells_heap hC3).2.2.2.1); (try have hC4 := hS.cell (i := 4) rfl); (try have hD4 := (cells_heap hC4).1); (try have hE4 := (cells_heap hC4).2.1); (try have hF4 := (cells_heap hC4).2.2.1); (try have hG4 := (cells_heap hC4).2.2.2.1); (try have hM0 := hS.map (i := 0) rfl); (try have hM1 := hS.map (i := 1) rfl); (try have hM2 := hS.map (i := 2) rfl); (try have hM3 := hS.map (i := 3) rfl); (try have hM4 := hS.map (i := 4) rfl))
    | (apply WL.storeF (w0 := w0) tOk; exact rfl; exact rfl; exact rfl; exact rfl; assumption; (exact extA); exact rfl; exact rfl; exact rfl; exact rfl; (exact extA); (first | assumption | omega | (focus (apply Nat.le_trans; rotate_left; assumption; exact Below.size (by (exact extA))))); intro w' hb hX' hU; replace hS := Sep.updCell (i := 0) rfl hU hb hS (by (exact extA)) (by (first | exact Nat.le_refl _ | exact Below.size (by (exact extA)))); (try simp only [List.set_cons_zero, List.set_cons_succ] at hS); (try have hR0 := hS.row (i := 0) rfl); (try have hR1 := hS.row (i := 1) rfl); (try have hR2 := hS.row (i := 2) rfl); (try have hR3 := hS.row (i := 3) rfl); (try have hR4 := hS.row (i := 4) rfl); (try have hC0 := hS.cell (i := 0) rfl); (try have hD0 := (cells_heap hC0).1); (try have hE0 := (cells_heap hC0).2.1); (try have hF0 := (cells_heap hC0).2.2.1); (try have hG0 := (cells_heap hC0).2.2.2.1); (try have hC1 := hS.cell (i := 1) rfl); (try have hD1 := (cells_heap hC1).1); (try have hE1 := (cells_heap hC1).2.1); (try have hF1 := (cells_heap hC1).2.2.1); (try have hG1 := (cells_heap hC1).2.2.2.1); (try have hC2 := hS.cell (i := 2) rfl); (try have hD2 := (cells_heap hC2).1); (try have hE2 := (cells_heap hC2).2.1); (try have hF2 := (cells_heap hC2).2.2.1); (try have hG2 := (cells_heap hC2).2.2.2.1); (try have hC3 := hS.cell (i := 3) rfl); (try have hD3 := (cells_heap hC3).1); (try have hE3 := (cells_heap hC3).2.1); (try have hF3 := (cells_heap hC3).2.2.1); (try have hG3 := (cells_heap hC3).2.2.2.1); (try have hC4 := hS.cell (i := 4) rfl); (try have hD4 := (cells_heap hC4).1); (try have hE4 := (cells_heap hC4).2.1); (try have hF4 := (cells_heap hC4).2.2.1); (try have hG4 := (cells_heap hC4).2.2.2.1); (try have hM0 := hS.map (i := 0) rfl); (try have hM1 := hS.map (i := 1) rfl); (try have hM2 := hS.map (i := 2) rfl); (try have hM3 := hS.map (i := 3) rfl); (try have hM4 := hS.map (i := 4) rfl))
    | (show WL _ _ _ _ _ _ _; first | apply WL.nil | (refine WL.au (k := ?_)))
    | (show SG _ _ _ _ _ _ _ _ _; first | apply SG.done | (apply SG.fl0; exact rfl) | (apply SG.fl1; exact rfl; (focus ((intro m; first | assumption | (apply Ext.at; (exact extA)) | apply But.of_at; first | exact But.upd (by assumption) | exact But.ext (by (exact extA)) | (refine But.trans ?_ (But.upd (by assumption)); exact But.ext (by (exact extA))) | exact But.at _ _ _); done))) | (apply SG.br1; exact rfl))
    | (show FL _ _ _ _ _ _ _ _; first | apply FL.nilS | (refine FL.au (k := ?_)) | (apply FL.loadG tOk; exact rfl; exact rfl; exact rfl; exact rfl; exact rfl; (first | assumption | (focus (apply Ext.cell; rotate_left; assumption; (exact extA); done))); (first | (focus (intro h; cases h; done)) | (focus (intro h; have h9 := hBC _ h; (try simp only at h9); omega)) | assumption | (focus (intro h; simp only [blk, Option.map_some, Option.some.injEq] at h; omega)))))
    | (show Z _ _ _ _ _; (apply Z.sgL; exact rfl))
    | (show Z _ _ _ _ _; first | apply Z.then_normal | apply Z.block_normal)
    | (show W _ _ _ _ _ _; first | apply W.seq | apply W.region | apply W.block | apply W.skip | (apply W.condF; exact rfl))
    | fail)
  have hH2 : HpS w0.heap.size w' gh F (t ++ [(v : Int)]) (A.set v (t.length : Int)) rest := HpS.mk' hA2 hZ rfl (by rw [List.length_set]) hS
  have hup := heap_up w' w0 gh F (t ++ [(v : Int)]) (A.set v (t.length : Int)) rest hX' hH2 hn t.length (by simp) hU2
  repeat' (first
    | (((show WL _ _ _ (⟨_, .call ⟨.value (.func 124), _, _⟩, _, _, _, _⟩ :: _) _ _ _); apply WL.call; exact rfl; exact rfl; exact rfl; exact rfl; exact hup; rintro v' w2 ⟨rfl, t2, A2, hR2, hO2⟩))
    | (show WL _ _ _ _ _ _ _; first | apply WL.nil | (refine WL.au (k := ?_)))
    | (show Z _ _ _ _ _; apply Z.then_normal)
    | (show W _ _ _ _ _ _; first | apply W.seq | apply W.region | apply W.ret)
    | fail)
  refine Z.body1 Try.results107 rfl fun m => ⟨rfl, t2, A2, hR2.ext.at m, hR2.hp.ext ((Ext.refl _).at m), hO2, fun x => ?_⟩
  rw [hR2.mem x, List.mem_append, hm x, List.mem_singleton]
theorem heap_Pop0 {w w0 : World} {gh : Nat} {F : List Nat} {A : List Int} {rest : List Piece} {p : Int → Prop} (hB : HpB w0 w gh F rest [] A p) : Still Try.prog 108 [.pointer (some ⟨gh, 0, none⟩)] w (.tuple #[.int .i64 0, .bool false]) := by
  have hl := heap_Len hB.hp
  refine Spec.of _ Try.func108 rfl Try.ntmps108 (by kernel_rfl) rfl ?_
  repeat' (first
    | (apply WL.callS; exact rfl; exact rfl; exact rfl; exact rfl; exact hl)
    | (apply W.condKT; exact rfl; (focus (exact dec_true rfl; done)))
    | (show WL _ _ _ _ _ _ _; first | apply WL.nil | (refine WL.au (k := ?_)))
    | (show Z _ _ _ _ _; first | apply Z.then_normal | apply Z.then_ret)
    | (show W _ _ _ _ _ _; first | apply W.seq | apply W.region | apply W.ret)
    | fail)
  exact Z.body2 Try.results108 rfl rfl fun m => ⟨rfl, m, rfl⟩
set_option maxHeartbeats 8000000 in
theorem heap_Pop (w w0 : World) (gh : Nat) (F : List Nat) (t A : List Int) (rest : List Piece) (p : Int → Prop) (hB : HpB w0 w gh F rest t A p) (hn : F.length ≤ 1048576) (ya : Int) (h0 : t[0]? = some ya) :
    Lt.Spec Try.prog 108 [.pointer (some ⟨gh, 0, none⟩)] w (fun r w' => r = .tuple #[.int .i64 ya, .bool true] ∧ ∃ t' A', HpB w0 w' gh F rest t' A' (fun x => p x ∧ x ≠ ya)) := by
  obtain ⟨hX, hH, hO, hm⟩ := hB
  have htl := hH.at_.len_le
  have hAl := hH.at_.len
  have hlen0 := lt_of_get h0
  obtain ⟨l, hl⟩ : ∃ l, t.length = l + 1 := ⟨t.length - 1, by omega⟩
  obtain ⟨yb, hyb⟩ := getI t (show l < t.length by omega)
  have la := hH.at_.lt h0
  have hD2 := pop_down hO hl h0 hyb
  have hA2 := pop_at hH.at_ hl h0 hyb
  have hM2 := pop_mem hH.at_ hl h0 hyb
  have hL2 := pop_len (a := ya) (b := yb) hl
  have hlenc := heap_Len hH
  have hZ := hH.zero
  obtain ⟨as_, cs, tr, ct, ap, cp, hS⟩ := hH.mem
  have hsw := heap_swap hX hS hH.at_ 0 l ya yb h0 hyb (by omega)
  have h := cells_heap (hS.cell (i := 0) rfl)
  have c1 := h.2.1
  clear h
  have Rt := Own.row encI_ok (hS.row (i := 2) rfl)
  have h0' : t[(0 : Int).toNat]? = some ya := h0
  have el : ((t.length : Nat) : Int) - 1 = (l : Int) := by omega
  have hsl := swp_len t 0 l ya yb
  obtain ⟨z1, hz1⟩ := getI ((A.set yb.toNat ((0 : Nat) : Int)).set ya.toNat (l : Int)) (show ya.toNat < _ by rw [List.length_set, List.length_set]; omega)
  refine Spec.of _ Try.func108 rfl Try.ntmps108 (by kernel_rfl) rfl ?_
  repeat' (first
    | (apply QL.nilc; exact rfl; exact rfl; exact rfl)
    | (apply WL.callS; exact rfl; exact rfl; exact rfl; exact rfl; exact hlenc)
    | (apply W.condKF; exact rfl; (focus (first | exact dec_false (by omega); done)))
    | (show WL _ _ _ _ _ _ _; first | apply WL.nil | (refine WL.au (k := ?_)))
    | (show QL _ _ _ _ _ _ _; first | apply QL.nil | (refine QL.au (k := ?_)) | (apply QL.index tOk; exact rfl; exact rfl; exact rfl; exact rfl; exact rfl; exact rfl; exact rfl; exact rfl; assumption; (exact extA); exact rfl; omega; assumption; intro b off h; have hcc := h; first | (obtain ⟨h1, h2, h3, h4, h5, h6, _⟩ := h) | (obtain ⟨h1, h2, h3, _⟩ := h) | (obtain ⟨h1, h2, _⟩ := h) | (obtain ⟨h1, _⟩ := h)))
    | (show Z _ _ _ _ _; apply Z.then_normal)
    | (show W _ _ _ _ _ _; first | apply W.seq | apply W.region | apply W.skip | (apply W.regionD tMix; kernel_rfl))
    | fail)
  rw [el]
  repeat' (first
    | (((show WL _ _ _ (⟨_, .call ⟨.value (.func 126), _, _⟩, _, _, _, _⟩ :: _) _ _ _); apply WL.call; exact rfl; exact rfl; exact rfl; exact rfl; exact hsw; rintro v' w2 ⟨rfl, hX2, hS⟩))
    | (show WL _ _ _ _ _ _ _; apply WL.nil)
    | (show Z _ _ _ _ _; apply Z.then_normal)
    | (show W _ _ _ _ _ _; apply W.seq)
    | fail)
  have hgt := (hS.lt (i := 0) rfl rfl).1
  have h := cells_heap (hS.cell (i := 0) rfl)
  have c1 := h.2.1
  have c2 := h.2.2.1
  clear h
  have hR2 := hS.row (i := 2) rfl
  have hR3 := hS.row (i := 3) rfl
  have hcap := hR2.capLe
  (try simp only [List.set_cons_zero, List.set_cons_succ] at hS); (try have hR0 := hS.row (i := 0) rfl); (try have hR1 := hS.row (i := 1) rfl); (try have hR2 := hS.row (i := 2) rfl); (try have hR3 := hS.row (i := 3) rfl); (try have hR4 := hS.row (i := 4) rfl); (try have hC0 := hS.cell (i := 0) rfl); (try have hD0 := (cells_heap hC0).1); (try have hE0 := (cells_heap hC0).2.1); (try have hF0 := (cells_heap hC0).2.2.1); (try have hG0 := (cells_heap hC0).2.2.2.1); (try have hC1 := hS.cell (i := 1) rfl); (try have hD1 := (cells_heap hC1).1); (try have hE1 := (cells_heap hC1).2.1); (try have hF1 := (cells_heap hC1).2.2.1); (try have hG1 := (cells_heap hC1).2.2.2.1); (try have hC2 := hS.cell (i := 2) rfl); (try have hD2 := (cells_heap hC2).1); (try have hE2 := (cells_heap hC2).2.1); (try have hF2 := (cells_heap hC2).2.2.1); (try have hG2 := (cells_heap hC2).2.2.2.1); (try have hC3 := hS.cell (i := 3) rfl); (try have hD3 := (cells_heap hC3).1); (try have hE3 := (cells_heap hC3).2.1); (try have hF3 := (cells_heap hC3).2.2.1); (try have hG3 := (cells_heap hC3).2.2.2.1); (try have hC4 := hS.cell (i := 4) rfl); (try have hD4 := (cells_heap hC4).1); (try have hE4 := (cells_heap hC4).2.1); (try have hF4 := (cells_heap hC4).2.2.1); (try have hG4 := (cells_heap hC4).2.2.2.1); (try have hM0 := hS.map (i := 0) rfl); (try have hM1 := hS.map (i := 1) rfl); (try have hM2 := hS.map (i := 2) rfl); (try have hM3 := hS.map (i := 3) rfl); (try have hM4 := hS.map (i := 4) rfl)
  repeat' (first
    | (apply FL.nilc; exact rfl; exact rfl; exact rfl)
    | (show W _ _ (.region 5 _ _) _ _ _; apply W.regionGB (.fl true 0 (.fl true 1 (.fl true 2 (.fl true 3 (.fl true 5 (.fl true 6 (.fl true 7 (.fl true 8 (.fl true 10 (.fl false 4 (.fl false 9 (.fl true 11 (.fl true 12 (.fl true 13 (.br 14 (.fl true 15 (.br 16 .done .stop)) .stop))))))))))))))) [9, 11] (none) tMix; kernel_rfl)
    | (apply FL.sliceH0 tOk; exact rfl; exact rfl; exact rfl; exact rfl; exact rfl; exact rfl; exact rfl; omega)
    | (apply WL.storeO tOk; exact rfl; exact rfl; exact rfl; exact rfl; assumption; (exact extA); exact rfl; exact rfl; exact rfl; exact encI_ok; assumption; exact rfl; (exact extA); intro w' hO hX' hU; (first | replace hS := Sep.updRow (i := 0) rfl hU hO (.inl rfl) hS (by (exact extA)) (by (first | exact Nat.le_refl _ | exact Below.size (by (exact extA)))) | replace hS := Sep.updRow (i := 1) rfl hU hO (.inl rfl) hS (by (exact extA)) (by (first | exact Nat.le_refl _ | exact Below.size (by (exact extA)))) | replace hS := Sep.updRow (i := 2) rfl hU hO (.inl rfl) hS (by (exact extA)) (by (first | exact Nat.le_refl _ | exact Below.size (by (exact extA)))) | replace hS := Sep.updRow (i := 3) rfl hU hO (.inl rfl) hS (by (exact extA)) (by (first | exact Nat.le_refl _ | exact Below.size (by (exact extA)))) | replace hS := Sep.updRow (i := 4) rfl hU hO (.inl rfl) hS (by (exact extA)) (by (first | exact Nat.le_refl _ | exact Below.size (by (exact extA)))) | replace hS := Sep.updRow (i := 5) rfl hU hO (.inl rfl) hS (by (exact extA)) (by (first | exact Nat.le_refl _ | exact Below.size (by (exact extA))))); (try simp only [List.set_cons_zero, List.set_cons_succ] at hS); (try have hR0 := hS.row (i := 0) rfl); (try have hR1 := hS.row (i := 1) rfl); (try have hR2 := hS.row (i := 2) rfl); (try have hR3 := hS.row (i := 3) rfl); (try have hR4 := hS.row (i := 4) rfl); (try have hC0 := hS.cell (i := 0) rfl); (try have hD0 := (cells_heap hC0).1); (try have hE0 := (cells_heap hC0).2.1); (try have hF0 := (cells_heap hC0).2.2.1); (try have hG0 := (cells_heap hC0).2.2.2.1); (try have hC1 := hS.cell (i := 1) rfl); (try have hD1 := (cells_heap hC1).1); (try have hE1 := (cells_heap hC1).2.1); (try have hF1 := (cells_heap hC1).2.2.1); (try have hG1 := (cells_heap hC1).2.2.2.1); (try have hC2 := hS.cell (i := 2) rfl); (try have hD2 := (cells_heap hC2).1); (try have hE2 := (cells_heap hC2).2.1); (try have hF2 := (cells_heap hC2).2.2.1); (try have hG2 := (cells_heap hC2).2.2.2.1); (try have hC3 := hS.cell (i := 3) rfl); (try have hD3 := (cells_heap hC3).1); (try have hE3 := (cells_heap hC3).2.1); (try have hF3 := (cells_heap hC3).2.2.1); (try have hG3 := (cells_heap hC3).2.2.2.1); (try have hC4 := hS.cell (i := 4) rfl); (try have hD4 := (cells_heap hC4).1); (try have hE4 := (cells_heap hC4).2.1); (try have hF4 := (cells_heap hC4).2.2.1); (try have hG4 := (cells_heap hC4).2.2.2.1); (try have hM0 := hS.map (i := 0) rfl); (try have hM1 := hS.map (i := 1) rfl); (try have hM2 := hS.map (i := 2) rfl); (try have hM3 := hS.map (i := 3) rfl); (try have hM4 := hS.map (i := 4) rfl))
    | (apply FL.indexO tOk; exact rfl; exact rfl; exact rfl; exact rfl; exact rfl; exact rfl; exact rfl; exact rfl; assumption; (exact extA); exact encI_ok; (first | exact rfl | (focus (simp only [List.length_set]; done)) | (focus (simp; done)) | (focus (simp [*]; done)) | omega | (focus (simp only [List.length_set]; omega))); omega; assumption; intro gb ha hc; cases ha; have hcc := hc; first | (obtain ⟨h1, h2, h3, _⟩ := hc) | (obtain ⟨h1, h2, _⟩ := hc) | (obtain ⟨h1, _⟩ := hc))
    | (apply WL.storeF (w0 := w0) tOk; exact rfl; exact rfl; exact rfl; exact rfl; assumption; (exact extA); exact rfl; exact rfl; exact rfl; exact rfl; (exact extA); (first | assumption | omega | (focus (apply Nat.le_trans; rotate_left; assumption; exact Below.size (by (exact extA))))); intro w' hb hX' hU; replace hS := Sep.updCell (i := 0) rfl hU hb hS (by (exact extA)) (by (first | exact Nat.le_refl _ | exact Below.size (by (exact extA)))); (try simp only [List.set_cons_zero, List.set_cons_succ] at hS); (try have hR0 := hS.row (i := 0) rfl); (try have hR1 := hS.row (i := 1) rfl); (try have hR2 := hS.row (i := 2) rfl); (try have hR3 := hS.row (i := 3) rfl); (try have hR4 := hS.row (i := 4) rfl); (try have hC0 := hS.cell (i := 0) rfl); (try have hD0 := (cells_heap hC0).1); (try have hE0 := (cells_heap hC0).2.1); (try have hF0 := (cells_heap hC0).2.2.1); (try have hG0 := (cells_heap hC0).2.2.2.1); (try have hC1 := hS.cell (i := 1) rfl); (try have hD1 := (cells_heap hC1).1); (try have hE1 := (cells_heap hC1).2.1); (try have hF1 := (cells_heap hC1).2.2.1); (try have hG1 := (cells_heap hC1).2.2.2.1); (try have hC2 := hS.cell (i := 2) rfl); (try have hD2 := (cells_heap hC2).1); (try have hE2 := (cells_heap hC2).2.1); (try have hF2 := (cells_heap hC2).2.2.1); (try have hG2 := (cells_heap hC2).2.2.2.1); (try have hC3 := hS.cell (i := 3) rfl); (try have hD3 := (cells_heap hC3).1); (try have hE3 := (cells_heap hC3).2.1); (try have hF3 := (cells_heap hC3).2.2.1); (try have hG3 := (cells_heap hC3).2.2.2.1); (try have hC4 := hS.cell (i := 4) rfl); (try have hD4 := (cells_heap hC4).1); (try have hE4 := (cells_heap hC4).2.1); (try have hF4 := (cells_heap hC4).2.2.1); (try have hG4 := (cells_heap hC4).2.2.2.1); (try have hM0 := hS.map (i := 0) rfl); (try have hM1 := hS.map (i := 1) rfl); (try have hM2 := hS.map (i := 2) rfl); (try have hM3 := hS.map (i := 3) rfl); (try have hM4 := hS.map (i := 4) rfl))
    | (show WL _ _ _ _ _ _ _; first | apply WL.nil | (refine WL.au (k := ?_)))
    | (show SG _ _ _ _ _ _ _ _ _; first | apply SG.done | (apply SG.fl0; exact rfl) | (apply SG.fl1; exact rfl; (focus ((intro m; first | assumption | (apply Ext.at; (exact extA)) | apply But.of_at; first | exact But.upd (by assumption) | exact But.ext (by (exact extA)) | (refine But.trans ?_ (But.upd (by assumption)); exact But.ext (by (exact extA))) | exact But.at _ _ _); done))) | (apply SG.br1; exact rfl))
    | (show FL _ _ _ _ _ _ _ _; first | apply FL.nilS | (refine FL.au (k := ?_)) | (apply FL.loadG tOk; exact rfl; exact rfl; exact rfl; exact rfl; exact rfl; (first | assumption | (focus (apply Ext.cell; rotate_left; assumption; (exact extA); done))); (first | (focus (intro h; cases h; done)) | (focus (intro h; have h9 := hBC _ h; (try simp only at h9); omega)) | assumption | (focus (intro h; simp only [blk, Option.map_some, Option.some.injEq] at h; omega)))))
    | (show Z _ _ _ _ _; (apply Z.sgL; exact rfl))
    | (show Z _ _ _ _ _; apply Z.then_normal)
    | (show W _ _ _ _ _ _; first | apply W.seq | apply W.region)
    | fail)
  have h2 := Own.take encI_ok (hS.row (i := 2) rfl) l
  have hS2 := Sep.re (i := 2) (p' := prow 1 encI 3 w0.heap.size tr ct ((swp t 0 l ya yb).take l)) hS rfl rfl h2
  have hH2 : HpS w0.heap.size w' gh F ((swp t 0 l ya yb).take l) (((A.set yb.toNat (0 : Int)).set ya.toNat (l : Int)).set ya.toNat (-1)) rest := HpS.mk' hA2 hZ (by rw [hL2]; rfl) (by simp) hS2
  have hdn := heap_down w' w0 gh F _ _ rest hX' hH2 hn 0 (by
    by_cases hl0 : l = 0
    · right; subst hl0; rfl
    · left; rw [hL2]; omega) hD2 (by omega)
  repeat' (first
    | (((show WL _ _ _ (⟨_, .call ⟨.value (.func 127), _, _⟩, _, _, _, _⟩ :: _) _ _ _); apply WL.call; exact rfl; exact rfl; exact rfl; exact rfl; exact hdn; rintro v' w3 ⟨rfl, t3, A3, hR3, hO3⟩))
    | (show WL _ _ _ _ _ _ _; first | apply WL.nil | (refine WL.au (k := ?_)))
    | (show Z _ _ _ _ _; apply Z.then_normal)
    | (show W _ _ _ _ _ _; first | apply W.seq | apply W.region | apply W.ret)
    | fail)
  exact Z.body2 Try.results108 rfl rfl fun m => ⟨rfl, t3, A3, hR3.ext.at m, hR3.hp.ext ((Ext.refl _).at m), hO3, fun x => by rw [hR3.mem x, hM2 x, hm x]⟩
theorem Sep.swap23 {B : Nat} {w : World} {p q r s : Piece} {ps : List Piece} (hS : Lt.Sep B w (p :: q :: r :: s :: ps)) : Lt.Sep B w (p :: q :: s :: r :: ps) := by
  refine hS.pick (fun i => if i = 2 then 3 else if i = 3 then 2 else i) (fun i x hx => ?_) (fun i j _ _ hij => ?_)
  · match i, hx with
    | 0, hx => exact hx
    | 1, hx => exact hx
    | 2, hx => exact hx
    | 3, hx => exact hx
    | i + 4, hx => rw [if_neg (by omega), if_neg (by omega)]; exact hx
  · show (if i = 2 then 3 else if i = 3 then 2 else i) ≠ (if j = 2 then 3 else if j = 3 then 2 else j)
    split <;> split <;> (try split) <;> (try split) <;> omega
set_option maxHeartbeats 8000000 in
theorem heap_New (n : Nat) (hn : n ≤ 1048576) (w w0 : World) (rest : List Piece) (hX : Ext w0 w) (hS : Lt.Sep w0.heap.size w rest) :
    Lt.Spec Try.prog 106 [.int .i64 n] w (fun r w' => ∃ gh F A, r = .pointer (some ⟨gh, 0, none⟩) ∧ F.length = n ∧ HpB w0 w' gh F rest [] A (fun _ => False)) := by
  have hB := hX.size
  have hn1 : ((n : Nat) : Int).toNat = n := by omega
  refine Spec.of _ Try.func106 rfl Try.ntmps106 (by kernel_rfl) rfl ?_
  repeat' (first
    | (apply WL.gF; exact rfl; exact rfl; (focus (exact dec_false (by omega); done)))
    | (apply W.condKF; exact rfl; (focus (exact dec_false (by omega); done)))
    | (show WL _ _ _ _ _ _ _; first | apply WL.nil | (refine WL.au (k := ?_)))
    | (show Z _ _ _ _ _; apply Z.then_normal)
    | (show W _ _ _ _ _ _; first | apply W.seq | apply W.region | apply W.skip)
    | fail)
  refine W.cutT (σ := Nat × Nat × Nat × World) (fun s => Lt.Sep w0.heap.size s.2.2.2 ([pcell s.1 #[.slice (some ⟨s.2.1, 0, none⟩) n n, .slice none 0 0, .slice (some ⟨s.2.2.1, 0, none⟩) n n] 144, prow 1 encF 149 w0.heap.size (some ⟨s.2.1, 0, none⟩) n (List.replicate n 0), prow 1 encI 3 w0.heap.size none 0 [], prow 1 encI 3 w0.heap.size (some ⟨s.2.2.1, 0, none⟩) n (List.replicate n 0)] ++ rest) ∧ Ext w0 s.2.2.2)
    (fun s => [(0, .int .i64 n), (3, .pointer (some ⟨s.1, 0, none⟩))]) (fun s => s.2.2.2) ?_ ?_
  · replace hS : Lt.Sep w0.heap.size w (prow 1 encI 3 w0.heap.size none 0 [] :: rest) := Sep.newRow hS (Ext.refl _) Own.nil (fun k hk => by cases hk) hB
    repeat' (first
      | (show W _ _ (.region 3 _ _) _ _ _; apply W.regionGB (.fl true 0 (.fl true 2 (.br 1 (.br 3 (.fl true 4 (.br 5 (.fl true 6 .done) .stop)) .stop) (.br 3 (.br 1 (.fl true 4 (.br 5 (.fl true 6 .done) .stop)) .stop) .stop)))) [] (none) tMix; kernel_rfl)
      | ((apply WL.make (w0 := w0) (z := (0 : Nat)) thOk; exact rfl; exact rfl; exact rfl; exact rfl; exact rfl; exact rfl; exact rfl; exact rfl; exact rfl; exact encF_ok; exact rfl; exact rfl; exact (by (exact extA)); (first | omega | (simp; omega)); intro gb w' hO hge hx; replace hS := Sep.newRow (Sep.ext hS (by (exact extA))) hx hO (fun k hk => by cases hk; exact hge) (by exact Below.size (by (exact extA)))))
      | (apply WL.make (w0 := w0) (z := (0:Int)) tOk; exact rfl; exact rfl; exact rfl; exact rfl; exact rfl; exact rfl; exact rfl; exact rfl; exact rfl; exact encI_ok; exact rfl; exact rfl; (exact extA); (first | omega | (simp; omega) | (simp at *; omega)); intro gb w' hO hge hx; replace hS := Sep.newRow (Sep.ext hS (by (exact extA))) hx hO (fun k hk => by cases hk; exact hge) (by (first | exact Nat.le_refl _ | exact Below.size (by (exact extA)))); (try simp only [List.set_cons_zero, List.set_cons_succ] at hS); (try have hR0 := hS.row (i := 0) rfl); (try have hR1 := hS.row (i := 1) rfl); (try have hR2 := hS.row (i := 2) rfl); (try have hR3 := hS.row (i := 3) rfl); (try have hR4 := hS.row (i := 4) rfl); (try have hC0 := hS.cell (i := 0) rfl); (try have hD0 := (cells_heap hC0).1); (try have hE0 := (cells_heap hC0).2.1); (try have hF0 := (cells_heap hC0).2.2.1); (try have hG0 := (cells_heap hC0).2.2.2.1); (try have hC1 := hS.cell (i := 1) rfl); (try have hD1 := (cells_heap hC1).1); (try have hE1 := (cells_heap hC1).2.1); (try have hF1 := (cells_heap hC1).2.2.1); (try have hG1 := (cells_heap hC1).2.2.2.1); (try have hC2 := hS.cell (i := 2) rfl); (try have hD2 := (cells_heap hC2).1); (try have hE2 := (cells_heap hC2).2.1); (try have hF2 := (cells_heap hC2).2.2.1); (try have hG2 := (cells_heap hC2).2.2.2.1); (try have hC3 := hS.cell (i := 3) rfl); (try have hD3 := (cells_heap hC3).1); (try have hE3 := (cells_heap hC3).2.1); (try have hF3 := (cells_heap hC3).2.2.1); (try have hG3 := (cells_heap hC3).2.2.2.1); (try have hC4 := hS.cell (i := 4) rfl); (try have hD4 := (cells_heap hC4).1); (try have hE4 := (cells_heap hC4).2.1); (try have hF4 := (cells_heap hC4).2.2.1); (try have hG4 := (cells_heap hC4).2.2.2.1); (try have hM0 := hS.map (i := 0) rfl); (try have hM1 := hS.map (i := 1) rfl); (try have hM2 := hS.map (i := 2) rfl); (try have hM3 := hS.map (i := 3) rfl); (try have hM4 := hS.map (i := 4) rfl))
      | (apply FL.build tOk; exact rfl; exact rfl; exact rfl; exact rfl; exact rfl; exact rfl; exact rfl; kernel_rfl)
      | (apply WL.box; exact rfl; exact rfl; exact rfl; intro gb w' hb hge hc hx; have hcc := hc; (first | (obtain ⟨h1, h2, h3, _⟩ := hc) | (obtain ⟨h1, h2, _⟩ := hc)); replace hS := Sep.newCell (Sep.ext hS (by (exact extA))) hx hb hge (by (first | exact Nat.le_refl _ | exact Below.size (by (exact extA)))); (try simp only [List.set_cons_zero, List.set_cons_succ] at hS); (try have hR0 := hS.row (i := 0) rfl); (try have hR1 := hS.row (i := 1) rfl); (try have hR2 := hS.row (i := 2) rfl); (try have hR3 := hS.row (i := 3) rfl); (try have hR4 := hS.row (i := 4) rfl); (try have hC0 := hS.cell (i := 0) rfl); (try have hD0 := (cells_heap hC0).1); (try have hE0 := (cells_heap hC0).2.1); (try have hF0 := (cells_heap hC0).2.2.1); (try have hG0 := (cells_heap hC0).2.2.2.1); (try have hC1 := hS.cell (i := 1) rfl); (try have hD1 := (cells_heap hC1).1); (try have hE1 := (cells_heap hC1).2.1); (try have hF1 := (cells_heap hC1).2.2.1); (try have hG1 := (cells_heap hC1).2.2.2.1); (try have hC2 := hS.cell (i := 2) rfl); (try have hD2 := (cells_heap hC2).1); (try have hE2 := (cells_heap hC2).2.1); (try have hF2 := (cells_heap hC2).2.2.1); (try have hG2 := (cells_heap hC2).2.2.2.1); (try have hC3 := hS.cell (i := 3) rfl); (try have hD3 := (cells_heap hC3).1); (try have hE3 := (cells_heap hC3).2.1); (try have hF3 := (cells_heap hC3).2.2.1); (try have hG3 := (cells_heap hC3).2.2.2.1); (try have hC4 := hS.cell (i := 4) rfl); (try have hD4 := (cells_heap hC4).1); (try have hE4 := (cells_heap hC4).2.1); (try have hF4 := (cells_heap hC4).2.2.1); (try have hG4 := (cells_heap hC4).2.2.2.1); (try have hM0 := hS.map (i := 0) rfl); (try have hM1 := hS.map (i := 1) rfl); (try have hM2 := hS.map (i := 2) rfl); (try have hM3 := hS.map (i := 3) rfl); (try have hM4 := hS.map (i := 4) rfl))
      | (show WL _ _ _ _ _ _ _; apply WL.nil)
      | (show SG _ _ _ _ _ _ _ _ _; first | apply SG.done | (apply SG.fl0; exact rfl) | (apply SG.br1; exact rfl) | (apply SG.br; exact rfl))
      | (show FL _ _ _ _ _ _ _ _; first | apply FL.nilS | (refine FL.au (k := ?_)))
      | (show Z _ _ _ _ _; (apply Z.sgL; exact rfl))
      | fail)
    all_goals (rw [hn1] at hS; simp only [List.length_replicate] at hS)
    · exact Z.cut (_, _, _, _) ⟨Sep.swap23 (Sep.swap12 hS), (by (exact extA))⟩ ⟨rfl, rfl, trivial⟩ rfl
    · exact Z.cut (_, _, _, _) ⟨Sep.swap23 hS, (by (exact extA))⟩ ⟨rfl, rfl, trivial⟩ rfl
  · rintro ⟨gh, gf, ga, w1⟩ ⟨hS, hx1⟩
    simp only at hx1 hS ⊢
    (try simp only [List.set_cons_zero, List.set_cons_succ] at hS); (try have hR0 := hS.row (i := 0) rfl); (try have hR1 := hS.row (i := 1) rfl); (try have hR2 := hS.row (i := 2) rfl); (try have hR3 := hS.row (i := 3) rfl); (try have hR4 := hS.row (i := 4) rfl); (try have hC0 := hS.cell (i := 0) rfl); (try have hD0 := (cells_heap hC0).1); (try have hE0 := (cells_heap hC0).2.1); (try have hF0 := (cells_heap hC0).2.2.1); (try have hG0 := (cells_heap hC0).2.2.2.1); (try have hC1 := hS.cell (i := 1) rfl); (try have hD1 := (cells_heap hC1).1); (try have hE1 := (cells_heap hC1).2.1); (try have hF1 := (cells_heap hC1).2.2.1); (try have hG1 := (cells_heap hC1).2.2.2.1); (try have hC2 := hS.cell (i := 2) rfl); (try have hD2 := (cells_heap hC2).1); (try have hE2 := (cells_heap hC2).2.1); (try have hF2 := (cells_heap hC2).2.2.1); (try have hG2 := (cells_heap hC2).2.2.2.1); (try have hC3 := hS.cell (i := 3) rfl); (try have hD3 := (cells_heap hC3).1); (try have hE3 := (cells_heap hC3).2.1); (try have hF3 := (cells_heap hC3).2.2.1); (try have hG3 := (cells_heap hC3).2.2.2.1); (try have hC4 := hS.cell (i := 4) rfl); (try have hD4 := (cells_heap hC4).1); (try have hE4 := (cells_heap hC4).2.1); (try have hF4 := (cells_heap hC4).2.2.1); (try have hG4 := (cells_heap hC4).2.2.2.1); (try have hM0 := hS.map (i := 0) rfl); (try have hM1 := hS.map (i := 1) rfl); (try have hM2 := hS.map (i := 2) rfl); (try have hM3 := hS.map (i := 3) rfl); (try have hM4 := hS.map (i := 4) rfl)
    repeat' (first
      | (apply WL.nilc; exact rfl; exact rfl; exact rfl)
      | (show WL _ _ _ _ _ _ _; first | apply WL.nil | (refine WL.au (k := ?_)))
      | (show Z _ _ _ _ _; apply Z.then_normal)
      | (show W _ _ _ _ _ _; first | apply W.seq | apply W.region | apply W.block)
      | fail)
    refine W.loopW n (fun k w' => k ≤ n ∧ Ext w0 w' ∧ ∃ A : List Int, A.length = n ∧ (∀ u : Nat, u < k → A[u]? = some (-1)) ∧ Lt.Sep w0.heap.size w' ([pcell gh #[.slice (some ⟨gf, 0, none⟩) n n, .slice none 0 0, .slice (some ⟨ga, 0, none⟩) n n] 144, prow 1 encF 149 w0.heap.size (some ⟨gf, 0, none⟩) n (List.replicate n 0), prow 1 encI 3 w0.heap.size none 0 [], prow 1 encI 3 w0.heap.size (some ⟨ga, 0, none⟩) n A] ++ rest))
      (fun k => [(0, .int .i64 n), (3, .pointer (some ⟨gh, 0, none⟩)), (21, .int .i64 n), (22, .int .i64 k)]) ⟨Nat.zero_le _, hx1, List.replicate n 0, by simp, fun u hu => absurd hu (Nat.not_lt_zero _), hS⟩ (fun k w' h => h.1) ⟨rfl, rfl, rfl, rfl, trivial⟩ ?_
    clear hS
    rintro k w' ⟨hk, hx', A, hAl, hAk, hS⟩
    (try simp only [List.set_cons_zero, List.set_cons_succ] at hS); (try have hR0 := hS.row (i := 0) rfl); (try have hR1 := hS.row (i := 1) rfl); (try have hR2 := hS.row (i := 2) rfl); (try have hR3 := hS.row (i := 3) rfl); (try have hR4 := hS.row (i := 4) rfl); (try have hC0 := hS.cell (i := 0) rfl); (try have hD0 := (cells_heap hC0).1); (try have hE0 := (cells_heap hC0).2.1); (try have hF0 := (cells_heap hC0).2.2.1); (try have hG0 := (cells_heap hC0).2.2.2.1); (try have hC1 := hS.cell (i := 1) rfl); (try have hD1 := (cells_heap hC1).1); (try have hE1 := (cells_heap hC1).2.1); (try have hF1 := (cells_heap hC1).2.2.1); (try have hG1 := (cells_heap hC1).2.2.2.1); (try have hC2 := hS.cell (i := 2) rfl); (try have hD2 := (cells_heap hC2).1); (try have hE2 := (cells_heap hC2).2.1); (try have hF2 := (cells_heap hC2).2.2.1); (try have hG2 := (cells_heap hC2).2.2.2.1); (try have hC3 := hS.cell (i := 3) rfl); (try have hD3 := (cells_heap hC3).1); (try have hE3 := (cells_heap hC3).2.1); (try have hF3 := (cells_heap hC3).2.2.1); (try have hG3 := (cells_heap hC3).2.2.2.1); (try have hC4 := hS.cell (i := 4) rfl); (try have hD4 := (cells_heap hC4).1); (try have hE4 := (cells_heap hC4).2.1); (try have hF4 := (cells_heap hC4).2.2.1); (try have hG4 := (cells_heap hC4).2.2.2.1); (try have hM0 := hS.map (i := 0) rfl); (try have hM1 := hS.map (i := 1) rfl); (try have hM2 := hS.map (i := 2) rfl); (try have hM3 := hS.map (i := 3) rfl); (try have hM4 := hS.map (i := 4) rfl)
    by_cases hlt : k < n
    · obtain ⟨z, hz⟩ := getI A (show ((k : Nat) : Int).toNat < A.length by omega)
      repeat' (first
        | (apply W.condKT; exact rfl; (focus (exact dec_true (by omega); done)))
        | (apply WL.nilc; exact rfl; exact rfl; exact rfl)
        | (apply WL.storeO tOk; exact rfl; exact rfl; exact rfl; exact rfl; assumption; (exact extA); exact rfl; exact rfl; exact rfl; exact encI_ok; assumption; exact rfl; (exact extA); intro w' hO hX' hU; (first | replace hS := Sep.updRow (i := 0) rfl hU hO (.inl rfl) hS (by (exact extA)) (by (first | exact Nat.le_refl _ | exact Below.size (by (exact extA)))) | replace hS := Sep.updRow (i := 1) rfl hU hO (.inl rfl) hS (by (exact extA)) (by (first | exact Nat.le_refl _ | exact Below.size (by (exact extA)))) | replace hS := Sep.updRow (i := 2) rfl hU hO (.inl rfl) hS (by (exact extA)) (by (first | exact Nat.le_refl _ | exact Below.size (by (exact extA)))) | replace hS := Sep.updRow (i := 3) rfl hU hO (.inl rfl) hS (by (exact extA)) (by (first | exact Nat.le_refl _ | exact Below.size (by (exact extA)))) | replace hS := Sep.updRow (i := 4) rfl hU hO (.inl rfl) hS (by (exact extA)) (by (first | exact Nat.le_refl _ | exact Below.size (by (exact extA)))) | replace hS := Sep.updRow (i := 5) rfl hU hO (.inl rfl) hS (by (exact extA)) (by (first | exact Nat.le_refl _ | exact Below.size (by (exact extA))))); (try simp only [List.set_cons_zero, List.set_cons_succ] at hS); (try have hR0 := hS.row (i := 0) rfl); (try have hR1 := hS.row (i := 1) rfl); (try have hR2 := hS.row (i := 2) rfl); (try have hR3 := hS.row (i := 3) rfl); (try have hR4 := hS.row (i := 4) rfl); (try have hC0 := hS.cell (i := 0) rfl); (try have hD0 := (cells_heap hC0).1); (try have hE0 := (cells_heap hC0).2.1); (try have hF0 := (cells_heap hC0).2.2.1); (try have hG0 := (cells_heap hC0).2.2.2.1); (try have hC1 := hS.cell (i := 1) rfl); (try have hD1 := (cells_heap hC1).1); (try have hE1 := (cells_heap hC1).2.1); (try have hF1 := (cells_heap hC1).2.2.1); (try have hG1 := (cells_heap hC1).2.2.2.1); (try have hC2 := hS.cell (i := 2) rfl); (try have hD2 := (cells_heap hC2).1); (try have hE2 := (cells_heap hC2).2.1); (try have hF2 := (cells_heap hC2).2.2.1); (try have hG2 := (cells_heap hC2).2.2.2.1); (try have hC3 := hS.cell (i := 3) rfl); (try have hD3 := (cells_heap hC3).1); (try have hE3 := (cells_heap hC3).2.1); (try have hF3 := (cells_heap hC3).2.2.1); (try have hG3 := (cells_heap hC3).2.2.2.1); (try have hC4 := hS.cell (i := 4) rfl); (try have hD4 := (cells_heap hC4).1); (try have hE4 := (cells_heap hC4).2.1); (try have hF4 := (cells_heap hC4).2.2.1); (try have hG4 := (cells_heap hC4).2.2.2.1); (try have hM0 := hS.map (i := 0) rfl); (try have hM1 := hS.map (i := 1) rfl); (try have hM2 := hS.map (i := 2) rfl); (try have hM3 := hS.map (i := 3) rfl); (try have hM4 := hS.map (i := 4) rfl))
        | (apply WL.indexO tOk; exact rfl; exact rfl; exact rfl; exact rfl; exact rfl; exact rfl; exact rfl; exact rfl; assumption; (exact extA); exact encI_ok; (first | exact rfl | (focus (simp only [List.length_set]; done)) | (focus (simp; done)) | (focus (simp [*]; done)) | omega | (focus (simp only [List.length_set]; omega))); omega; assumption; intro gb ha hc; cases ha; have hcc := hc; first | (obtain ⟨h1, h2, h3, _⟩ := hc) | (obtain ⟨h1, h2, _⟩ := hc) | (obtain ⟨h1, _⟩ := hc))
        | (show WL _ _ _ _ _ _ _; first | apply WL.nil | (refine WL.au (k := ?_)))
        | (show Z _ _ _ _ _; first | apply Z.then_normal | apply Z.block_normal)
        | (show W _ _ _ _ _ _; first | apply W.seq | apply W.region | apply W.block | apply W.skip)
        | fail)
      refine Z.againW ⟨by omega, hX', _, by rw [List.length_set]; exact hAl, fun u hu => ?_, hS⟩ ⟨rfl, rfl, rfl, rfl, trivial⟩
      rw [List.getElem?_set]
      split
      · rw [if_pos (by omega)]
      · exact hAk u (by omega)
    · obtain rfl : k = n := by omega
      repeat' (first
        | (apply W.condKF; exact rfl; (focus (exact dec_false (by omega); done)))
        | (show WL _ _ _ _ _ _ _; first | apply WL.nil | (refine WL.au (k := ?_)))
        | (show Z _ _ _ _ _; first | apply Z.then_normal | apply Z.then_exit | apply Z.block_exit)
        | (show W _ _ _ _ _ _; first | apply W.seq | apply W.region | apply W.ret | apply W.exit)
        | fail)
      refine Z.body1 Try.results106 rfl fun m => ⟨gh, List.replicate k 0, A, rfl, by simp, hx'.at m, ?_, fun j j0 jl => absurd jl (by simp), fun x => by simp⟩
      refine HpS.ext (w := w') ?_ ((Ext.refl _).at m)
      have hS2 : Lt.Sep w0.heap.size w' (hpPn w0.heap.size gh (some ⟨gf, 0, none⟩) k (List.replicate k 0) none 0 0 [] (some ⟨ga, 0, none⟩) k k A ++ rest) := by
        unfold hpPn
        rw [show (List.replicate k 0).length = k by simp]
        exact hS
      exact HpS.mk' ⟨by simp [hAl], fun i x hx => by simp at hx, fun v hv _ => hAk v (by simpa using hv)⟩ (fun x hx => (List.mem_replicate.1 hx).2) rfl hAl.symm hS2
end Go.Proofs.Ytlcenenkloicjaa
namespace Go.Proofs.Ytlcenenkloicjaa
open Go Go.Lt Go.RowKit
set_option linter.unusedVariables false
set_option linter.unusedSimpArgs false
set_option maxRecDepth 20000

theorem mget_mem {κ ν : Type} {a : κ} {v : ν} : ∀ {L : List (κ × ν)}, mget a L = some v → (a, v) ∈ L
  | [], h => by cases h
  | x :: r, h => by
    unfold mget at h
    by_cases hax : a = x.1
    · rw [dec_true hax] at h
      have h' : some x.2 = some v := h
      have := Option.some.inj h'
      subst this; subst hax; simp
    · rw [dec_false hax] at h
      exact List.mem_cons_of_mem _ (mget_mem h)
theorem mget_no {κ ν : Type} {a : κ} : ∀ {L : List (κ × ν)}, mget a L = none → ∀ v, (a, v) ∉ L
  | [], _, v => by simp
  | x :: r, h, v => by
    unfold mget at h
    by_cases hax : a = x.1
    · rw [dec_true hax] at h; cases h
    · rw [dec_false hax] at h
      intro hm
      rcases List.mem_cons.1 hm with he | hm
      · exact hax (by rw [← he])
      · exact mget_no h v hm
/-- Where the gates' variables are put together. -/
def plcM (gs : List G3) : Nat → List (Int × Int)
  | 0 => []
  | k + 1 => plcM gs k ++ (match gs[k]? with | some g => [(g.1 / 2, (k : Int))] | none => [])
theorem plcM_s {gs : List G3} {k : Nat} {g : G3} (h : gs[k]? = some g) : plcM gs (k + 1) = plcM gs k ++ [(g.1 / 2, (k : Int))] := by rw [plcM, h]
theorem mem_plcM {gs : List G3} {a v : Int} : ∀ {k : Nat}, (a, v) ∈ plcM gs k ↔ ∃ (j : Nat) (g : G3), j < k ∧ gs[j]? = some g ∧ a = g.1 / 2 ∧ v = (j : Int)
  | 0 => by simp [plcM]
  | k + 1 => by
    rw [plcM, List.mem_append, mem_plcM (k := k)]
    constructor
    · rintro (⟨j, g, h1, h2⟩ | h)
      · exact ⟨j, g, by omega, h2⟩
      · cases hg : gs[k]? with
        | none => rw [hg] at h; cases h
        | some g =>
          rw [hg] at h
          simp only [List.mem_singleton, Prod.mk.injEq] at h
          exact ⟨k, g, by omega, hg, h.1, h.2⟩
    · rintro ⟨j, g, h1, h2, h3⟩
      by_cases hj : j = k
      · subst hj; rw [h2]; right; simp only [List.mem_singleton, Prod.mk.injEq]; exact h3
      · exact .inl ⟨j, g, by omega, h2, h3⟩
theorem plcM_new {gs : List G3} (ho : Once gs) {k : Nat} {g : G3} (h : gs[k]? = some g) : mget (g.1 / 2) (plcM gs k) = none := by
  cases hm : mget (g.1 / 2) (plcM gs k) with
  | none => rfl
  | some v =>
    obtain ⟨j, x, h1, h2, h3, _⟩ := mem_plcM.1 (mget_mem hm)
    have := ho j k x g h2 h (by omega)
    omega
theorem plcM_some {gs : List G3} {l v : Int} (h : mget l (plcM gs gs.length) = some v) : ∃ (j : Nat) (g : G3), gs[j]? = some g ∧ g.1 / 2 = l ∧ v = (j : Int) := by
  obtain ⟨j, x, h1, h2, h3, h4⟩ := mem_plcM.1 (mget_mem h)
  exact ⟨j, x, h2, h3.symm, h4⟩
theorem plcM_none {gs : List G3} {l : Int} (h : mget l (plcM gs gs.length) = none) : ∀ (j : Nat) (g : G3), gs[j]? = some g → g.1 / 2 ≠ l := fun j g hg he =>
  mget_no h (j : Int) (mem_plcM.2 ⟨j, g, lt_of_get hg, hg, he.symm, rfl⟩)

abbrev nilR : RowV Int := (none, 0, [])
abbrev pI (B : Nat) (r : RowV Int) : Piece := prow 1 encI 3 B r.1 r.2.1 r.2.2
abbrev rst (B : Nat) (al : Option Addr) (cl : Nat) (lk : List Int) (ao : Option Addr) (co : Nat) (rs : List (RowV Int)) (rm : Nat) (M : List (Int × Int)) (ou : Option Addr) (cu : Nat) (out : List Int) (lit : RowV Int) (inn : List (RowV Int)) : List Piece :=
  [prow 1 encI 3 B al cl lk, prow 1 encRow 33 B ao co rs, pmap encK encK rm M, prow 1 encI 3 B ou cu out, pI B lit] ++ inn.map (pI B)
section
variable {B : Nat} {al : Option Addr} {cl : Nat} {lk : List Int} {ao : Option Addr} {co : Nat} {rs : List (RowV Int)} {rm : Nat} {M : List (Int × Int)} {ou : Option Addr} {cu : Nat} {out : List Int} {lit : RowV Int} {inn : List (RowV Int)} {k : Nat} {r : RowV Int}
theorem rst_in (h : inn[k]? = some r) (q : List Piece) (hq : q.length = 4) : (q ++ rst B al cl lk ao co rs rm M ou cu out lit inn)[9 + k]? = some (pI B r) := by
  rw [List.getElem?_append_right (by omega), show 9 + k - q.length = 5 + k by omega]
  show (_ :: _ :: _ :: _ :: _ :: inn.map (pI B))[5 + k]? = _
  rw [show 5 + k = k + 1 + 1 + 1 + 1 + 1 by omega]
  simp only [List.getElem?_cons_succ, List.getElem?_map, h, Option.map_some]
theorem rst_set (q : List Piece) (hq : q.length = 4) : (q ++ rst B al cl lk ao co rs rm M ou cu out lit inn).set (9 + k) (pI B r) = q ++ rst B al cl lk ao co rs rm M ou cu out lit (inn.set k r) := by
  rw [List.set_append_right _ _ (by omega), show 9 + k - q.length = k + 1 + 1 + 1 + 1 + 1 by omega]
  congr 1
  show (_ :: _ :: _ :: _ :: _ :: inn.map (pI B)).set _ _ = _
  simp only [List.set_cons_succ, ← List.map_set]
  rfl
end
theorem Sep.addNils {B : Nat} {w : World} {ps : List Piece} (hS : Lt.Sep B w ps) (n : Nat) : Lt.Sep B w (ps ++ (List.replicate n ((none, 0, []) : RowV Int)).map (pI B)) := by
  have key : ∀ (i : Nat) (p : Piece), (ps ++ (List.replicate n ((none, 0, []) : RowV Int)).map (pI B))[i]? = some p → ps[i]? = some p ∨ p = pI B (none, 0, []) := fun i p h => by
    rcases get_app h with h | ⟨_, h⟩
    · exact .inl h
    · rw [List.getElem?_map, List.getElem?_replicate] at h
      split at h
      · simp at h; exact .inr h.symm
      · cases h
  refine ⟨fun i p h => ?_, fun i j p q h1 h2 hne => ?_⟩
  · rcases key i p h with h | rfl
    · exact hS.holds i p h
    · exact ⟨Own.nil, fun k hk => by cases hk⟩
  · rcases key i p h1 with k1 | rfl
    · rcases key j q h2 with k2 | rfl
      · exact hS.apart i j p q k1 k2 hne
      · cases hb : p.b with
        | none => exact .inl rfl
        | some k => exact .inr (by simp [prow, blk])
    · exact .inl rfl
theorem HpB.mono {w0 w : World} {gh : Nat} {F : List Nat} {rest : List Piece} {t A : List Int} {p q : Int → Prop} (h : HpB w0 w gh F rest t A p) (k : ∀ x, p x ↔ q x) : HpB w0 w gh F rest t A q := ⟨h.ext, h.hp, h.ho, fun x => (h.mem x).trans (k x)⟩
theorem HpB.up {w0 w w' : World} {gh : Nat} {F : List Nat} {rest : List Piece} {t A : List Int} {p : Int → Prop} (h : HpB w0 w gh F rest t A p) (hx : Ext w w') : HpB w0 w' gh F rest t A p := ⟨h.ext.trans hx, h.hp.ext hx, h.ho, h.mem⟩

theorem HpB.setLit {w0 w w' : World} {gh : Nat} {F : List Nat} {t A : List Int} {p : Int → Prop} {al : Option Addr} {cl : Nat} {lk : List Int} {ao : Option Addr} {co : Nat} {rs : List (RowV Int)} {rm : Nat} {M : List (Int × Int)} {ou : Option Addr} {cu : Nat} {out : List Int} {lit : RowV Int} {inn : List (RowV Int)} {gt cap : Nat} {l : List Int}
    (h : HpB w0 w gh F (rst w0.heap.size al cl lk ao co rs rm M ou cu out lit inn) t A p) (hx : Ext w w') (hO : Own 1 encI 3 w0.heap.size w' (some ⟨gt, 0, none⟩) cap l) (hge : w.heap.size ≤ gt) : HpB w0 w' gh F (rst w0.heap.size al cl lk ao co rs rm M ou cu out (some ⟨gt, 0, none⟩, cap, l) inn) t A p := by
  obtain ⟨hX, ⟨hat, hze, as_, cs, tr, ct, ap, cp, hS⟩, hO9, hm⟩ := h
  exact ⟨hX.trans hx, ⟨hat, hze, as_, cs, tr, ct, ap, cp, hS.upd (i := 8) (p' := pI w0.heap.size (some ⟨gt, 0, none⟩, cap, l)) rfl (But.ext hx) hO (.inr ⟨gt, rfl, hge, (hO.blk_lt gt rfl).2⟩) hX.size⟩, hO9, hm⟩

theorem heap_PopO (w w0 : World) (gh : Nat) (F : List Nat) (t A : List Int) (rest : List Piece) (p : Int → Prop) (hB : HpB w0 w gh F rest t A p) (hn : F.length ≤ 1048576) :
    Lt.Spec Try.prog 108 [.pointer (some ⟨gh, 0, none⟩)] w (fun r w' => ∃ nx : Option Int, r = .tuple #[.int .i64 (nx.getD 0), .bool nx.isSome] ∧ (∀ y, nx = some y → p y ∧ ∀ x, p x → y ≤ x) ∧ (nx = none → ∀ x, ¬ p x) ∧ ∃ t' A', HpB w0 w' gh F rest t' A' (fun x => p x ∧ ∀ y, nx = some y → x ≠ y)) := by
  cases ht : t with
  | nil =>
    subst ht
    have hno : ∀ x, ¬ p x := fun x hx => by have := (hB.mem x).2 hx; cases this
    refine Spec.mono (heap_Pop0 hB) ?_
    rintro r w' ⟨rfl, m, rfl⟩
    exact ⟨none, rfl, (fun y h => by cases h), (fun _ => hno), _, _, (hB.up ((Ext.refl _).at m)).mono fun x => ⟨fun h => absurd h (hno x), fun h => h.1⟩⟩
  | cons ya tl =>
    have h0 : t[0]? = some ya := by rw [ht]; rfl
    refine Spec.mono (heap_Pop w w0 gh F t A rest p hB hn ya h0) ?_
    rintro r w' ⟨rfl, t', A', h⟩
    refine ⟨some ya, rfl, (fun y hy => ?_), (fun h => by cases h), t', A', h.mono fun x => ⟨fun hx => ⟨hx.1, fun y hy => by cases hy; exact hx.2⟩, fun hx => ⟨hx.1, hx.2 ya rfl⟩⟩⟩
    have hy' := Option.some.inj hy
    subst hy'
    refine ⟨(hB.mem ya).1 (by rw [ht]; simp), fun x hx => ?_⟩
    obtain ⟨i, hi⟩ := List.mem_iff_getElem?.1 ((hB.mem x).2 hx)
    exact hB.ho.min h0 i x hi

def litJ (g : G3) : Nat → Int
  | 0 => g.2.1
  | _ => g.2.2
noncomputable def lackJ (gs : List G3) (g : G3) : Nat → Nat
  | 0 => 0
  | j + 1 => lackJ gs g j + one (Bl gs [] (litJ g j))
theorem lackJ_s (gs : List G3) (g : G3) (j : Nat) : lackJ gs g (j + 1) = lackJ gs g j + one (Bl gs [] (litJ g j)) := rfl
noncomputable def hangsJ (g y : G3) : Nat → Nat
  | 0 => 0
  | j + 1 => hangsJ g y j + one (y.1 / 2 = litJ g j / 2)
theorem lackJ2 (gs : List G3) (g : G3) : lackJ gs g 2 = lackG gs [] g := by
  show 0 + one (Bl gs [] g.2.1) + one (Bl gs [] g.2.2) = _
  rw [Nat.zero_add]; rfl
theorem hangsJ2 (g y : G3) : hangsJ g y 2 = hangs g y := by
  show 0 + one (y.1 / 2 = g.2.1 / 2) + one (y.1 / 2 = g.2.2 / 2) = _
  rw [Nat.zero_add]; rfl
theorem lackJ_le (gs : List G3) (g : G3) : ∀ j, lackJ gs g j ≤ j
  | 0 => Nat.le_refl _
  | j + 1 => by have := lackJ_le gs g j; have := one_le (Bl gs [] (litJ g j)); unfold lackJ; omega
theorem hangsJ_le (g y : G3) : ∀ j, hangsJ g y j ≤ j
  | 0 => Nat.le_refl _
  | j + 1 => by have := hangsJ_le g y j; have := one_le (y.1 / 2 = litJ g j / 2); unfold hangsJ; omega
/-- While gate i is looked at. -/
structure StA (gs : List G3) (i : Nat) (g : G3) (j : Nat) (lk : List Int) (rs : List (RowV Int)) : Prop where
  llen : lk.length = gs.length
  old : ∀ (q : Nat) (x : G3), gs[q]? = some x → q < i → lk[q]? = some (lackG gs [] x : Int)
  now : lk[i]? = some (lackJ gs g j : Int)
  new : ∀ q : Nat, i < q → q < gs.length → lk[q]? = some 0
  rlen : rs.length = gs.length
  row : ∀ (q : Nat) (y : G3), gs[q]? = some y → ∃ r, rs[q]? = some r ∧ r.2.2 = abv gs y i ++ List.replicate (hangsJ g y j) ((i : Nat) : Int)
/-- Ahead of gate i. -/
structure StI (gs : List G3) (i : Nat) (lk : List Int) (rs : List (RowV Int)) : Prop where
  llen : lk.length = gs.length
  old : ∀ (q : Nat) (x : G3), gs[q]? = some x → q < i → lk[q]? = some (lackG gs [] x : Int)
  new : ∀ q : Nat, i ≤ q → q < gs.length → lk[q]? = some 0
  rlen : rs.length = gs.length
  row : ∀ (q : Nat) (y : G3), gs[q]? = some y → ∃ r, rs[q]? = some r ∧ r.2.2 = abv gs y i
theorem StI.first (gs : List G3) : StI gs 0 (List.replicate gs.length 0) (List.replicate gs.length (none, 0, [])) :=
  ⟨by simp, fun q x _ h => absurd h (Nat.not_lt_zero _), fun q _ h => by rw [List.getElem?_replicate, if_pos h], by simp, fun q y hy => ⟨(none, 0, []), by rw [List.getElem?_replicate, if_pos (lt_of_get hy)], rfl⟩⟩
theorem StI.enter {gs : List G3} {i : Nat} {g : G3} {lk : List Int} {rs : List (RowV Int)} (h : StI gs i lk rs) (hg : gs[i]? = some g) : StA gs i g 0 lk rs :=
  ⟨h.llen, h.old, h.new i (Nat.le_refl _) (lt_of_get hg), fun q h1 h2 => h.new q (by omega) h2, h.rlen, fun q y hy => by obtain ⟨r, h1, h2⟩ := h.row q y hy; exact ⟨r, h1, by rw [h2]; simp [hangsJ]⟩⟩
theorem StA.leave {gs : List G3} {i : Nat} {g : G3} {lk : List Int} {rs : List (RowV Int)} (h : StA gs i g 2 lk rs) (hg : gs[i]? = some g) : StI gs (i + 1) lk rs :=
  ⟨h.llen, fun q x hx hq => by
    by_cases hqi : q = i
    · subst hqi; rw [hg] at hx; cases hx; rw [h.now, lackJ2]
    · exact h.old q x hx (by omega), fun q h1 h2 => h.new q (by omega) h2, h.rlen, fun q y hy => by obtain ⟨r, h1, h2⟩ := h.row q y hy; exact ⟨r, h1, by rw [h2, hangsJ2, abv, hg]⟩⟩
theorem StA.skip {gs : List G3} {i j : Nat} {g : G3} {lk : List Int} {rs : List (RowV Int)} (h : StA gs i g j lk rs) (hn : ∀ (q : Nat) (y : G3), gs[q]? = some y → y.1 / 2 ≠ litJ g j / 2) : StA gs i g (j + 1) lk rs := by
  have e1 : one (Bl gs [] (litJ g j)) = 0 := one_no fun ⟨q, y, h1, _, h2⟩ => hn q y h1 h2
  refine ⟨h.llen, h.old, by rw [h.now, lackJ_s, e1]; rfl, h.new, h.rlen, fun q y hy => ?_⟩
  obtain ⟨r, h1, h2⟩ := h.row q y hy
  exact ⟨r, h1, by rw [h2]; conv => rhs; rw [hangsJ]
                   rw [one_no (hn q y hy)]; rfl⟩
theorem StA.take {gs : List G3} (ho : Once gs) {i j k : Nat} {g y : G3} {lk : List Int} {rs : List (RowV Int)} {r : RowV Int} {a' : Option Addr} {cap' : Nat} (h : StA gs i g j lk rs) (hy : gs[k]? = some y) (he : y.1 / 2 = litJ g j / 2) (hr : rs[k]? = some r) :
    StA gs i g (j + 1) (lk.set i ((lackJ gs g j : Int) + 1)) (rs.set k (a', cap', r.2.2 ++ [((i : Nat) : Int)])) := by
  have e1 : one (Bl gs [] (litJ g j)) = 1 := one_yes ⟨k, y, hy, by simp, he⟩
  have hil := lt_of_get h.now
  refine ⟨by simp [h.llen], fun q x hx hq => by rw [List.getElem?_set_ne (by omega)]; exact h.old q x hx hq, ?_, fun q h1 h2 => by rw [List.getElem?_set_ne (by omega)]; exact h.new q h1 h2, by simp [h.rlen], fun q z hz => ?_⟩
  · rw [List.getElem?_set_self hil, lackJ_s, e1]; rfl
  · obtain ⟨r', h1, h2⟩ := h.row q z hz
    by_cases hq : k = q
    · subst hq
      rw [hr] at h1; cases h1
      rw [hy] at hz; cases hz
      refine ⟨_, List.getElem?_set_self (lt_of_get hr), ?_⟩
      show r.2.2 ++ _ = _
      rw [h2, hangsJ, one_yes he, List.append_assoc, List.replicate_succ']
    · refine ⟨r', by rw [List.getElem?_set_ne hq]; exact h1, ?_⟩
      rw [h2, hangsJ, one_no fun hh => hq (ho k q y z hy hz (by omega))]; rfl
/-- The things in the heap: those that lack nothing. -/
def pA (i : Nat) (lk : List Int) (x : Int) : Prop := ∃ j : Nat, x = (j : Int) ∧ j < i ∧ lk[j]? = some 0
def pH (T : List Nat) (lk : List Int) (x : Int) : Prop := ∃ j : Nat, x = (j : Int) ∧ j ∉ T ∧ lk[j]? = some 0
theorem pA_set {i : Nat} {lk : List Int} {v : Int} (x : Int) : pA i (lk.set i v) x ↔ pA i lk x := by
  constructor
  · rintro ⟨j, h1, h2, h3⟩; exact ⟨j, h1, h2, by rwa [List.getElem?_set_ne (by omega)] at h3⟩
  · rintro ⟨j, h1, h2, h3⟩; exact ⟨j, h1, h2, by rwa [List.getElem?_set_ne (by omega)]⟩
theorem pA_push {i : Nat} {lk : List Int} (h : lk[i]? = some 0) (x : Int) : (pA i lk x ∨ x = (i : Int)) ↔ pA (i + 1) lk x := by
  constructor
  · rintro (⟨j, h1, h2, h3⟩ | h1)
    · exact ⟨j, h1, by omega, h3⟩
    · exact ⟨i, h1, by omega, h⟩
  · rintro ⟨j, h1, h2, h3⟩
    by_cases hj : j = i
    · subst hj; exact .inr h1
    · exact .inl ⟨j, h1, by omega, h3⟩
theorem pA_next {i : Nat} {lk : List Int} {v : Int} (h : lk[i]? = some v) (hv : v ≠ 0) (x : Int) : pA i lk x ↔ pA (i + 1) lk x := by
  constructor
  · rintro ⟨j, h1, h2, h3⟩; exact ⟨j, h1, by omega, h3⟩
  · rintro ⟨j, h1, h2, h3⟩
    by_cases hj : j = i
    · subst hj; rw [h] at h3; cases h3; exact absurd rfl hv
    · exact ⟨j, h1, by omega, h3⟩
theorem pA_all {n : Nat} {lk : List Int} (h : lk.length = n) (x : Int) : pA n lk x ↔ pH [] lk x := by
  constructor
  · rintro ⟨j, h1, h2, h3⟩; exact ⟨j, h1, by simp, h3⟩
  · rintro ⟨j, h1, h2, h3⟩; exact ⟨j, h1, by have := lt_of_get h3; omega, h3⟩
/-- While those above y are looked at: m of them. -/
structure StB (gs : List G3) (L : List Nat) (Y : List Int) (lk : List Int) : Prop where
  llen : lk.length = gs.length
  val : ∀ (q : Nat) (x : G3), gs[q]? = some x → lk[q]? = some ((lackG gs L x : Int) - (Y.count (q : Int) : Int))
theorem StB.rdy {gs : List G3} {L : List Nat} {lk : List Int} (h : StB gs L [] lk) (x : Int) : pH L lk x ↔ ∃ j : Nat, x = (j : Int) ∧ Rdy gs L j := by
  constructor
  · rintro ⟨j, h1, h2, h3⟩
    obtain ⟨g, hg⟩ := getI gs (show j < gs.length by have := lt_of_get h3; have := h.llen; omega)
    have := h.val j g hg
    rw [h3] at this
    have h4 := Option.some.inj this
    simp at h4
    exact ⟨j, h1, (rdy_lack hg).2 ⟨h2, by omega⟩⟩
  · rintro ⟨j, h1, h2⟩
    have h2' := h2
    obtain ⟨g, hg, _⟩ := h2'
    have h3 := (rdy_lack hg).1 h2
    exact ⟨j, h1, h3.1, by rw [h.val j g hg, h3.2]; simp⟩
theorem StB.next {gs : List G3} (ho : Once gs) {L : List Nat} {i : Nat} {y : G3} {lk : List Int} (hy : gs[i]? = some y) (hi : i ∉ L) (h : StB gs L (abv gs y gs.length) lk) : StB gs (L ++ [i]) [] lk := by
  refine ⟨h.llen, fun q x hx => ?_⟩
  rw [h.val q x hx, abv_count hx, if_pos (lt_of_get hx), lack_push ho hy hi x]
  simp <;> omega
/-- One is looked at: what it lacks falls by one. -/
theorem StB.step {gs : List G3} (ho : Once gs) {L : List Nat} {i k m : Nat} {y g : G3} {lk : List Int} (hy : gs[i]? = some y) (hi : i ∉ L) (hg : gs[k]? = some g) (h : StB gs L ((abv gs y gs.length).take m) lk) (hk : (abv gs y gs.length)[m]? = some (k : Int)) :
    ∃ v, lk[k]? = some v ∧ 1 ≤ v ∧ v ≤ 2 ∧ StB gs L ((abv gs y gs.length).take (m + 1)) (lk.set k (v - 1)) := by
  have h1 := h.val k g hg
  have hc := abv_count (y := y) hg gs.length
  rw [if_pos (lt_of_get hg)] at hc
  have hl := lack_push ho hy hi g
  have hle : ((abv gs y gs.length).take (m + 1)).count (k : Int) ≤ hangs g y := by
    rw [← hc]; exact (List.take_sublist _ _).count_le _
  have hs : ((abv gs y gs.length).take (m + 1)).count (k : Int) = ((abv gs y gs.length).take m).count (k : Int) + 1 := by
    rw [take_succ' hk, List.count_append]; simp
  have b1 := one_le (Bl gs L g.2.1)
  have b2 := one_le (Bl gs L g.2.2)
  have b3 : lackG gs L g = one (Bl gs L g.2.1) + one (Bl gs L g.2.2) := rfl
  refine ⟨_, h1, by omega, by omega, ⟨by simp [h.llen], fun q x hx => ?_⟩⟩
  by_cases hq : k = q
  · subst hq
    rw [hg] at hx; cases hx
    rw [List.getElem?_set_self (lt_of_get h1), hs]
    congr 1; omega
  · rw [List.getElem?_set_ne hq, h.val q x hx, take_succ' hk, List.count_append]
    have : [(k : Int)].count (q : Int) = 0 := List.count_eq_zero.2 (fun hm => hq (by have := List.mem_singleton.1 hm; omega))
    rw [this]; rfl
theorem pH_dec {T : List Nat} {lk : List Int} {k : Nat} {v : Int} (h : lk[k]? = some v) (h1 : 1 ≤ v) (hv : v - 1 ≠ 0) (x : Int) : pH T lk x ↔ pH T (lk.set k (v - 1)) x := by
  constructor
  · rintro ⟨j, a1, a2, a3⟩
    by_cases hj : k = j
    · subst hj; rw [h] at a3; cases a3; omega
    · exact ⟨j, a1, a2, by rw [List.getElem?_set_ne hj]; exact a3⟩
  · rintro ⟨j, a1, a2, a3⟩
    by_cases hj : k = j
    · subst hj; rw [List.getElem?_set_self (lt_of_get h)] at a3; have := Option.some.inj a3; omega
    · exact ⟨j, a1, a2, by rwa [List.getElem?_set_ne hj] at a3⟩
theorem pH_zero {T : List Nat} {lk : List Int} {k : Nat} {v : Int} (h : lk[k]? = some v) (h1 : 1 ≤ v) (hv : v - 1 = 0) (hk : k ∉ T) (x : Int) : (pH T lk x ∨ x = (k : Int)) ↔ pH T (lk.set k (v - 1)) x := by
  constructor
  · rintro (⟨j, a1, a2, a3⟩ | a1)
    · by_cases hj : k = j
      · subst hj; rw [h] at a3; cases a3; omega
      · exact ⟨j, a1, a2, by rw [List.getElem?_set_ne hj]; exact a3⟩
    · exact ⟨k, a1, hk, by rw [List.getElem?_set_self (lt_of_get h), hv]⟩
  · rintro ⟨j, a1, a2, a3⟩
    by_cases hj : k = j
    · subst hj; exact .inr a1
    · exact .inl ⟨j, a1, a2, by rwa [List.getElem?_set_ne hj] at a3⟩
theorem pH_no {T : List Nat} {lk : List Int} {k : Nat} {v : Int} (h : lk[k]? = some v) (h1 : 1 ≤ v) : ¬ pH T lk (k : Int) := by
  rintro ⟨j, a1, a2, a3⟩
  have : j = k := by omega
  subst this
  rw [h] at a3; cases a3; omega
theorem pH_out {L : List Nat} {i : Nat} {lk : List Int} (x : Int) : (pH L lk x ∧ x ≠ (i : Int)) ↔ pH (L ++ [i]) lk x := by
  constructor
  · rintro ⟨⟨j, a1, a2, a3⟩, hne⟩
    refine ⟨j, a1, fun hm => ?_, a3⟩
    rcases List.mem_append.1 hm with hm | hm
    · exact a2 hm
    · have := List.mem_singleton.1 hm; omega
  · rintro ⟨j, a1, a2, a3⟩
    refine ⟨⟨j, a1, fun hm => a2 (by simp [hm]), a3⟩, fun he => a2 ?_⟩
    have : j = i := by omega
    simp [this]
theorem rdy_self {gs : List G3} {L : List Nat} {i : Nat} {y : G3} (hr : Rdy gs L i) (hy : gs[i]? = some y) : hangs y y = 0 := by
  obtain ⟨g, hg, h1, h2⟩ := hr
  rw [hy] at hg; cases hg
  have := h2 i y hy h1
  unfold hangs
  rw [one_no this.1, one_no this.2]
end Go.Proofs.Ytlcenenkloicjaa
namespace Go.Proofs.Ytlcenenkloicjaa
open Go Go.Lt Go.RowKit
set_option linter.unusedVariables false
set_option linter.unusedSimpArgs false
set_option maxRecDepth 20000

set_option maxHeartbeats 32000000 in
theorem circ_Order (c : Circ) (w : World) (hG : Row 3 enc3 w c.gates.1 c.gates.2.2) (hok : gsOk c.gates.2.2) (hn : c.gates.2.2.length ≤ 1048576) (ho : Once c.gates.2.2) :
    Lt.Spec Try.prog 87 [c.val] w (IsFresh 1 encI 3 w (natI (ordL c.gates.2.2))) := by
  refine Spec.of _ Try.func87 rfl Try.ntmps87 (by kernel_rfl) rfl ?_
  repeat' (first
    | (apply WL.box; exact rfl; exact rfl; exact rfl; intro gb w' hb hge hc hx; have hcc := hc; (first | (obtain ⟨h1, h2, h3, _⟩ := hc) | (obtain ⟨h1, h2, _⟩ := hc)); (have hcells := hcc; obtain ⟨y0, y1, y2, y3, y4, y5, y6, _⟩ := hcc; obtain ⟨gc, rfl⟩ : ∃ x, x = gb := ⟨_, rfl⟩; obtain ⟨wc, rfl⟩ : ∃ x, x = w' := ⟨_, rfl⟩; obtain ⟨hxc, rfl⟩ : ∃ x, x = hx := ⟨_, rfl⟩))
    | ((apply WL.makeMap (kv := encK) (vv := encK); exact rfl; exact rfl; intro rm w1 hM1 hge1 hx1))
    | (show WL _ _ _ _ _ _ _; first | apply WL.nil | (refine WL.au (k := ?_)))
    | (show Z _ _ _ _ _; apply Z.then_normal)
    | (show W _ _ _ _ _ _; first | apply W.seq | apply W.region | apply W.block)
    | fail)
  have Rg := hG.ext hxc
  have hwc := Below.size hxc
  have hS : Lt.Sep wc.heap.size w1 [pmap encK encK rm (plcM c.gates.2.2 0)] := Sep.newMap Sep.none' hx1 hM1 hge1 (Nat.le_refl _)
  refine W.loopW c.gates.2.2.length (fun k w' => k ≤ c.gates.2.2.length ∧ Ext wc w' ∧ Lt.Sep wc.heap.size w' [pmap encK encK rm (plcM c.gates.2.2 k)]) (fun k => [(1, .pointer (some ⟨gc, 0, none⟩)), (3, .map (some rm)), (22, rowVal c.gates), (23, .int .i64 (c.gates.2.2.length : Nat)), (24, .int .i64 k)]) ⟨Nat.zero_le _, hx1, hS⟩ (fun k w' h => h.1) ⟨rfl, rfl, rfl, rfl, rfl, trivial⟩ ?_
  clear hS
  rintro k w3 ⟨hk, hX3, hS⟩
  have hM3 := hS.map (i := 0) rfl
  have hrm := (hS.lt (i := 0) rfl rfl).1
  by_cases hlt : k < c.gates.2.2.length
  · obtain ⟨g, hgg⟩ := getI c.gates.2.2 hlt
    have hgo := hok g (List.mem_of_getElem? hgg)
    have hnew := plcM_new ho hgg
    repeat' (first
      | (show WL _ _ _ _ _ _ _; first | apply WL.nil | (refine WL.au (k := ?_)))
      | (show Z _ _ _ _ _; apply Z.then_normal)
      | (show W _ _ _ _ _ _; first | apply W.seq | apply W.region)
      | fail)
    refine W.condKT rfl (dec_true (by omega)) ?_
    repeat' (first
      | (apply WL.alloc tOk; exact rfl; exact rfl; exact rfl; intro gb w' hb hge hx)
      | (apply WL.storeB (w0 := w3) tOk; exact rfl; exact rfl; exact rfl; exact rfl; assumption; (exact extA); exact rfl; exact rfl; exact rfl; (exact extA); (first | assumption | omega | (focus (apply Nat.le_trans; rotate_left; assumption; exact Below.size (by (exact extA)); done))); intro w' hb hc hX' hU; have hcc := hc; obtain ⟨h1, h2, _⟩ := hc; (obtain ⟨w4, rfl⟩ : ∃ x, x = w' := ⟨_, rfl⟩; obtain ⟨hX4, rfl⟩ : ∃ x, x = hX' := ⟨_, rfl⟩; have hC4 := cells_heap hb; obtain ⟨i0, i1, i2, _⟩ := hC4))
      | ((apply WL.mapPutF (B := 0) (w0 := wc) (vv := encK) tOk keyI; exact rfl; exact rfl; exact rfl; exact rfl; exact rfl; exact rfl; exact hM3.ext (by (exact extA)); exact (by (exact extA)); assumption; intro w' hM' hX' hU))
      | (show WL _ _ _ _ _ _ _; first | apply WL.nil | (refine WL.au (k := ?_)) | (apply WL.index tOk; exact rfl; exact rfl; exact rfl; exact rfl; exact rfl; exact rfl; exact rfl; exact rfl; assumption; (exact extA); exact rfl; omega; assumption; intro b off h; have hcc := h; first | (obtain ⟨h1, h2, h3, h4, h5, h6, _⟩ := h) | (obtain ⟨h1, h2, h3, _⟩ := h) | (obtain ⟨h1, h2, _⟩ := h) | (obtain ⟨h1, _⟩ := h)))
      | (show Z _ _ _ _ _; first | apply Z.then_normal | apply Z.block_normal)
      | (show W _ _ _ _ _ _; first | apply W.seq | apply W.region | apply W.block | apply W.skip)
      | fail)
    rw [hnew] at hM'
    have hS4 := Sep.updMap (i := 0) rfl hU hM' hS (by (exact extA)) (Below.size (by (exact extA)))
    exact Z.againW ⟨by omega, (by (exact extA)), by rw [plcM_s hgg]; exact hS4⟩ ⟨rfl, rfl, rfl, rfl, rfl, trivial⟩
  obtain rfl : k = c.gates.2.2.length := by omega
  repeat' (first
    | (show WL _ _ _ _ _ _ _; first | apply WL.nil | (refine WL.au (k := ?_)))
    | (show Z _ _ _ _ _; apply Z.then_normal)
    | (show W _ _ _ _ _ _; first | apply W.seq | apply W.region)
    | fail)
  refine W.condKF rfl (dec_false (by omega)) ?_
  repeat' (first
    | (show Z _ _ _ _ _; first | apply Z.then_normal | apply Z.then_exit | apply Z.block_exit)
    | (show W _ _ _ _ _ _; first | apply W.seq | apply W.exit)
    | fail)
  have y6w : w3.cell? ⟨gc, 0 + 1 + 1 + 1 + 1 + 1 + 1, none⟩ = some (rowVal c.gates) := (hcells.ext hX3).2.2.2.2.2.2.1
  have ei : ((c.gates.2.2.length : Nat) : Int).toNat = c.gates.2.2.length := by omega
  refine W.cutT (σ := Nat × Nat × World) (fun s => Ext wc s.2.2 ∧ Lt.Sep wc.heap.size s.2.2 [prow 1 encI 3 wc.heap.size (some ⟨s.1, 0, none⟩) c.gates.2.2.length (List.replicate c.gates.2.2.length 0), prow 1 encRow 33 wc.heap.size (some ⟨s.2.1, 0, none⟩) c.gates.2.2.length (List.replicate c.gates.2.2.length ((none, 0, []) : RowV Int)), pmap encK encK rm (plcM c.gates.2.2 c.gates.2.2.length)]) (fun s => [(1, .pointer (some ⟨gc, 0, none⟩)), (3, .map (some rm)), (6, .slice (some ⟨s.1, 0, none⟩) c.gates.2.2.length c.gates.2.2.length), (7, .slice (some ⟨s.2.1, 0, none⟩) c.gates.2.2.length c.gates.2.2.length)]) (fun s => s.2.2) ?_ ?_
  · repeat' (first
      | (show W _ _ (.region 7 _ _) _ _ _; apply W.regionGX (.fl true 0 (.fl true 4 (.fl false 1 (.fl true 2 (.fl false 5 (.fl true 6 (.br 3 (.fl true 8 (.br 7 (.fl true 9 .done) .stop)) (.br 7 (.br 3 (.fl true 8 (.fl true 9 .done)) .stop) .stop)))))))) [3, 5, 6, 7, 8] tMix; kernel_rfl)
      | (apply WL.make (w0 := wc) (z := (0:Int)) tOk; exact rfl; exact rfl; exact rfl; exact rfl; exact rfl; exact rfl; exact rfl; exact rfl; exact rfl; exact encI_ok; exact rfl; exact rfl; (exact extA); (first | omega | (simp; omega) | (simp at *; omega)); intro gb w' hO hge hx; replace hS := Sep.newRow (Sep.ext hS (by (exact extA))) hx hO (fun k hk => by cases hk; exact hge) (by (first | exact Nat.le_refl _ | exact Below.size (by (exact extA)))); (try simp only [List.set_cons_zero, List.set_cons_succ] at hS); (try have hR0 := hS.row (i := 0) rfl); (try have hR1 := hS.row (i := 1) rfl); (try have hR2 := hS.row (i := 2) rfl); (try have hR3 := hS.row (i := 3) rfl); (try have hR4 := hS.row (i := 4) rfl); (try have hC0 := hS.cell (i := 0) rfl); (try have hD0 := (cells_heap hC0).1); (try have hE0 := (cells_heap hC0).2.1); (try have hF0 := (cells_heap hC0).2.2.1); (try have hG0 := (cells_heap hC0).2.2.2.1); (try have hC1 := hS.cell (i := 1) rfl); (try have hD1 := (cells_heap hC1).1); (try have hE1 := (cells_heap hC1).2.1); (try have hF1 := (cells_heap hC1).2.2.1); (try have hG1 := (cells_heap hC1).2.2.2.1); (try have hC2 := hS.cell (i := 2) rfl); (try have hD2 := (cells_heap hC2).1); (try have hE2 := (cells_heap hC2).2.1); (try have hF2 := (cells_heap hC2).2.2.1); (try have hG2 := (cells_heap hC2).2.2.2.1); (try have hC3 := hS.cell (i := 3) rfl); (try have hD3 := (cells_heap hC3).1); (try have hE3 := (cells_heap hC3).2.1); (try have hF3 := (cells_heap hC3).2.2.1); (try have hG3 := (cells_heap hC3).2.2.2.1); (try have hC4 := hS.cell (i := 4) rfl); (try have hD4 := (cells_heap hC4).1); (try have hE4 := (cells_heap hC4).2.1); (try have hF4 := (cells_heap hC4).2.2.1); (try have hG4 := (cells_heap hC4).2.2.2.1); (try have hM0 := hS.map (i := 0) rfl); (try have hM1 := hS.map (i := 1) rfl); (try have hM2 := hS.map (i := 2) rfl); (try have hM3 := hS.map (i := 3) rfl); (try have hM4 := hS.map (i := 4) rfl))
      | (apply WL.make (w0 := wc) (z := nilR) tOk; exact rfl; exact rfl; exact rfl; exact rfl; exact rfl; exact rfl; exact rfl; exact rfl; exact rfl; exact encRow_ok; exact rfl; exact rfl; (exact extA); (first | omega | (simp; omega) | (simp at *; omega)); intro gb w' hO hge hx; replace hS := Sep.newRow (Sep.ext hS (by (exact extA))) hx hO (fun k hk => by cases hk; exact hge) (by (first | exact Nat.le_refl _ | exact Below.size (by (exact extA)))); (try simp only [List.set_cons_zero, List.set_cons_succ] at hS); (try have hR0 := hS.row (i := 0) rfl); (try have hR1 := hS.row (i := 1) rfl); (try have hR2 := hS.row (i := 2) rfl); (try have hR3 := hS.row (i := 3) rfl); (try have hR4 := hS.row (i := 4) rfl); (try have hC0 := hS.cell (i := 0) rfl); (try have hD0 := (cells_heap hC0).1); (try have hE0 := (cells_heap hC0).2.1); (try have hF0 := (cells_heap hC0).2.2.1); (try have hG0 := (cells_heap hC0).2.2.2.1); (try have hC1 := hS.cell (i := 1) rfl); (try have hD1 := (cells_heap hC1).1); (try have hE1 := (cells_heap hC1).2.1); (try have hF1 := (cells_heap hC1).2.2.1); (try have hG1 := (cells_heap hC1).2.2.2.1); (try have hC2 := hS.cell (i := 2) rfl); (try have hD2 := (cells_heap hC2).1); (try have hE2 := (cells_heap hC2).2.1); (try have hF2 := (cells_heap hC2).2.2.1); (try have hG2 := (cells_heap hC2).2.2.2.1); (try have hC3 := hS.cell (i := 3) rfl); (try have hD3 := (cells_heap hC3).1); (try have hE3 := (cells_heap hC3).2.1); (try have hF3 := (cells_heap hC3).2.2.1); (try have hG3 := (cells_heap hC3).2.2.2.1); (try have hC4 := hS.cell (i := 4) rfl); (try have hD4 := (cells_heap hC4).1); (try have hE4 := (cells_heap hC4).2.1); (try have hF4 := (cells_heap hC4).2.2.1); (try have hG4 := (cells_heap hC4).2.2.2.1); (try have hM0 := hS.map (i := 0) rfl); (try have hM1 := hS.map (i := 1) rfl); (try have hM2 := hS.map (i := 2) rfl); (try have hM3 := hS.map (i := 3) rfl); (try have hM4 := hS.map (i := 4) rfl))
      | (show SX _ _ _ _ _ _ _ _ _; first | (apply SX.done; intro w' hx) | (apply SX.fl0; exact rfl) | (apply SX.fl1; exact rfl; (exact extA)) | (apply SX.br1; exact rfl; intro w' hx) | (apply SX.br; exact rfl; (intro w' hx)))
      | (show FL _ _ _ _ _ _ _ _; first | apply FL.nilX | (apply FL.loadE tOk; exact rfl; exact rfl; exact rfl; exact rfl; exact rfl; (first | assumption | (focus (apply Ext.cell; rotate_left; assumption; exact extA; done)))))
      | (show FL _ _ _ _ _ _ _ _; (refine FL.au (k := ?_)))
      | (show Z _ _ _ _ _; (apply Z.sxE; (exact extA)))
      | (show WL _ _ _ _ _ _ _; apply WL.nil)
      | fail)
    all_goals (rw [ei] at hS; rw [ei]; rw [List.length_replicate, List.length_replicate])
    · exact Z.cut (_, _, w') ⟨(by (exact extA)), (Sep.swap01 hS).ext (by (exact extA))⟩ ⟨rfl, rfl, rfl, rfl, trivial⟩ rfl
    · exact Z.cut (_, _, w') ⟨(by (exact extA)), hS.ext (by (exact extA))⟩ ⟨rfl, rfl, rfl, rfl, trivial⟩ rfl
  clear hS hX3 hM3 y6w
  rintro ⟨gl, go, w4⟩ ⟨hX4, hS⟩
  dsimp only at hX4 hS
  obtain ⟨n, hnn⟩ : ∃ n, c.gates.2.2.length = n := ⟨_, rfl⟩
  have hS4 : Lt.Sep wc.heap.size w4 (rst wc.heap.size (some ⟨gl, 0, none⟩) n (List.replicate n 0) (some ⟨go, 0, none⟩) n (List.replicate n nilR) rm (plcM c.gates.2.2 n) none 0 [] nilR (List.replicate n nilR)) := by
    have := Sep.addNils hS (n + 2)
    rw [hnn] at this
    exact this
  repeat' (first
    | (((show WL _ _ _ (⟨_, .call ⟨.value (.func 106), _, _⟩, _, _, _, _⟩ :: _) _ _ _); apply WL.call; exact rfl; exact rfl; exact rfl; exact rfl; exact heap_New c.gates.2.2.length hn _ wc _ (by (exact extA)) (hS4.ext (by (exact extA))); rintro v' w5 ⟨gh, F, A, rfl, hFl, hB5⟩; have hX5 := HpB.ext hB5))
    | (show WL _ _ _ _ _ _ _; first | apply WL.nil | (refine WL.au (k := ?_)))
    | (show Z _ _ _ _ _; apply Z.then_normal)
    | (show W _ _ _ _ _ _; first | apply W.seq | apply W.region | apply W.block)
    | fail)
  have hFn : F.length = n := by omega
  refine W.loopW n (fun k w' => k ≤ n ∧ ∃ lk rs lit t A, HpB wc w' gh F (rst wc.heap.size (some ⟨gl, 0, none⟩) n lk (some ⟨go, 0, none⟩) n rs rm (plcM c.gates.2.2 n) none 0 [] lit rs) t A (pA k lk) ∧ StI c.gates.2.2 k lk rs) (fun k => [(1, .pointer (some ⟨gc, 0, none⟩)), (3, .map (some rm)), (6, .slice (some ⟨gl, 0, none⟩) n n), (7, .slice (some ⟨go, 0, none⟩) n n), (8, .pointer (some ⟨gh, 0, none⟩)), (48, rowVal c.gates), (49, .int .i64 (n : Nat)), (50, .int .i64 k)]) ⟨Nat.zero_le _, _, _, _, _, _, hB5.mono (fun x => ⟨fun h => h.elim, fun ⟨j, _, h, _⟩ => absurd h (Nat.not_lt_zero _)⟩), by rw [← hnn]; exact StI.first _⟩ (fun k w' h => h.1) (by rw [← hnn]; exact ⟨rfl, rfl, rfl, rfl, rfl, rfl, rfl, rfl, trivial⟩) ?_
  clear hS hS4 hB5 hX5 hX4
  rintro k w6 ⟨hk, lk, rs, lit, t, A, hB6, hI6⟩
  have hX6 := hB6.ext
  by_cases hlt : k < n
  · obtain ⟨g, hgg⟩ := getI c.gates.2.2 (show k < c.gates.2.2.length by omega)
    have hgo := hok g (List.mem_of_getElem? hgg)
    repeat' (first
      | (show WL _ _ _ _ _ _ _; first | apply WL.nil | (refine WL.au (k := ?_)))
      | (show Z _ _ _ _ _; apply Z.then_normal)
      | (show W _ _ _ _ _ _; first | apply W.seq | apply W.region)
      | fail)
    refine W.condKT rfl (dec_true (by omega)) ?_
    repeat' (first
      | (apply WL.alloc tOk; exact rfl; exact rfl; exact rfl; intro gb w' hb hge hx)
      | (apply WL.storeB (w0 := w6) tOk; exact rfl; exact rfl; exact rfl; exact rfl; assumption; (exact extA); exact rfl; exact rfl; exact rfl; (exact extA); (first | assumption | omega | (focus (apply Nat.le_trans; rotate_left; assumption; exact Below.size (by (exact extA)); done))); intro w' hb hc hX' hU; have hcc := hc; obtain ⟨h1, h2, _⟩ := hc; (obtain ⟨w7, rfl⟩ : ∃ x, x = w' := ⟨_, rfl⟩; obtain ⟨hX7, rfl⟩ : ∃ x, x = hX' := ⟨_, rfl⟩; have hC7 := cells_heap hb; obtain ⟨i0, i1, i2, _⟩ := hC7))
      | (apply WL.lit tOk; exact rfl; exact rfl; exact rfl; exact rfl; exact rfl; exact rfl; (first | exact rfl | kernel_rfl | (simp [Instr.fill, catCells]; done)); exact rfl; intro gb w' hb hge hc hx; have hO := Own.of_block ([g.2.1, g.2.2]) encI_ok hb hge rfl; (obtain ⟨gt, rfl⟩ : ∃ x, x = gb := ⟨_, rfl⟩; obtain ⟨w8, rfl⟩ : ∃ x, x = w' := ⟨_, rfl⟩; obtain ⟨hx8, rfl⟩ : ∃ x, x = hx := ⟨_, rfl⟩; obtain ⟨hO8, rfl⟩ : ∃ x, x = hO := ⟨_, rfl⟩; obtain ⟨hge8, rfl⟩ : ∃ x, x = hge := ⟨_, rfl⟩))
      | (show WL _ _ _ _ _ _ _; first | apply WL.nil | (refine WL.au (k := ?_)) | (apply WL.index tOk; exact rfl; exact rfl; exact rfl; exact rfl; exact rfl; exact rfl; exact rfl; exact rfl; assumption; (exact extA); exact rfl; omega; assumption; intro b off h; have hcc := h; first | (obtain ⟨h1, h2, h3, h4, h5, h6, _⟩ := h) | (obtain ⟨h1, h2, h3, _⟩ := h) | (obtain ⟨h1, h2, _⟩ := h) | (obtain ⟨h1, _⟩ := h)))
      | (show Z _ _ _ _ _; apply Z.then_normal)
      | (show W _ _ _ _ _ _; first | apply W.seq | apply W.region | apply W.block | apply W.skip)
      | fail)
    have hB8 := hB6.setLit (show Ext w6 w8 from (by (exact extA))) (hO8.base (Nat.le_trans (Below.size hX6) (Below.size hX7))) (Nat.le_trans (Below.size hX7) hge8)
    have hA8 := hI6.enter hgg
    refine W.loopW 2 (fun j w' => j ≤ 2 ∧ ∃ lk rs t A, HpB wc w' gh F (rst wc.heap.size (some ⟨gl, 0, none⟩) n lk (some ⟨go, 0, none⟩) n rs rm (plcM c.gates.2.2 n) none 0 [] (some ⟨gt, 0, none⟩, 2, [g.2.1, g.2.2]) rs) t A (pA k lk) ∧ StA c.gates.2.2 k g j lk rs) (fun j => [(1, .pointer (some ⟨gc, 0, none⟩)), (3, .map (some rm)), (6, .slice (some ⟨gl, 0, none⟩) n n), (7, .slice (some ⟨go, 0, none⟩) n n), (8, .pointer (some ⟨gh, 0, none⟩)), (9, .int .i64 k), (48, rowVal c.gates), (49, .int .i64 (n : Nat)), (50, .int .i64 k), (59, .slice (some ⟨gt, 0, none⟩) 2 2), (60, .int .i64 2), (61, .int .i64 j)]) ⟨Nat.zero_le _, _, _, _, _, hB8, hA8⟩ (fun k w' h => h.1) ⟨rfl, rfl, rfl, rfl, rfl, rfl, rfl, rfl, rfl, rfl, rfl, rfl, trivial⟩ ?_
    clear hB8 hA8 hB6 hI6 hX6
    rintro j w9 ⟨hj, lk, rs, t, A, hB9, hA9⟩
    have hX9 := hB9.ext
    by_cases hjl : j < 2
    · obtain ⟨l, hl⟩ : ∃ l, litJ g j = l := ⟨_, rfl⟩
      have hll : ([g.2.1, g.2.2] : List Int)[((j : Nat) : Int).toNat]? = some l := by
        rw [Int.toNat_natCast, ← hl]
        match j, hjl with
        | 0, _ => rfl
        | 1, _ => rfl
      have hl0 : 0 ≤ l ∧ l ≤ 33554433 := by
        rw [← hl]
        match j, hjl with
        | 0, _ => exact hgo.2.1
        | 1, _ => exact hgo.2.2
      obtain ⟨hX9, ⟨hat, hze, as_, cs, tr, ct, ap, cp, hS⟩, hO9, hm9⟩ := hB9
      have hMp := hS.map (i := 6) rfl
      have hLo := hS.row (i := 4) rfl
      have RL := (hS.row (i := 8) rfl).row encI_ok
      have hll3 := hA9.llen
      have hrl3 := hA9.rlen
      have hLn : lk.length = n := by omega
      have hRn : rs.length = n := by omega
      cases hmg : mget (l / 2) (plcM c.gates.2.2 n) with
      | none =>
        repeat' (first
          | (show WL _ _ _ _ _ _ _; first | apply WL.nil | (refine WL.au (k := ?_)))
          | (show Z _ _ _ _ _; apply Z.then_normal)
          | (show W _ _ _ _ _ _; first | apply W.seq | apply W.region)
          | fail)
        refine W.condKT rfl (dec_true (by omega)) ?_
        repeat' (first
          | ((apply WL.lookNoneF tOk keyI; exact rfl; exact rfl; exact rfl; exact rfl; exact rfl; exact rfl; exact rfl; exact hMp; exact hmg))
          | (show WL _ _ _ _ _ _ _; first | apply WL.nil | (refine WL.au (k := ?_)) | (apply WL.index tOk; exact rfl; exact rfl; exact rfl; exact rfl; exact rfl; exact rfl; exact rfl; exact rfl; assumption; (exact extA); exact rfl; omega; assumption; intro b off h; have hcc := h; first | (obtain ⟨h1, h2, h3, h4, h5, h6, _⟩ := h) | (obtain ⟨h1, h2, h3, _⟩ := h) | (obtain ⟨h1, h2, _⟩ := h) | (obtain ⟨h1, _⟩ := h)))
          | (show Z _ _ _ _ _; apply Z.then_normal)
          | (show W _ _ _ _ _ _; first | apply W.seq | apply W.region | apply W.block | apply W.skip)
          | fail)
        refine W.condKF rfl rfl ?_
        repeat' (first
          | (show WL _ _ _ _ _ _ _; first | apply WL.nil | (refine WL.au (k := ?_)))
          | (show Z _ _ _ _ _; first | apply Z.then_normal | apply Z.block_normal)
          | (show W _ _ _ _ _ _; first | apply W.region | apply W.skip)
          | fail)
        refine Z.againW ⟨by omega, lk, rs, t, A, ⟨(by (exact extA)), ⟨hat, hze, as_, cs, tr, ct, ap, cp, hS⟩, hO9, hm9⟩, hA9.skip fun q y hy he => ?_⟩ ⟨rfl, rfl, rfl, rfl, rfl, rfl, rfl, rfl, rfl, rfl, rfl, rfl, trivial⟩
        rw [← hnn] at hmg
        exact plcM_none hmg q y hy (by rw [← hl, he])
      | some v =>
        have hmg' := hmg
        rw [← hnn] at hmg'
        obtain ⟨kk, y, hy, hyl, rfl⟩ := plcM_some hmg'
        have hkk := lt_of_get hy
        obtain ⟨r, hr, hrv⟩ := hA9.row kk y hy
        have hnow := hA9.now
        have hLk : lk[((k : Nat) : Int).toNat]? = some (lackJ c.gates.2.2 g j : Int) := by rw [Int.toNat_natCast]; exact hnow
        have hRk : rs[((kk : Nat) : Int).toNat]? = some r := by rw [Int.toNat_natCast]; exact hr
        have hlj := lackJ_le c.gates.2.2 g j
        repeat' (first
          | (show WL _ _ _ _ _ _ _; first | apply WL.nil | (refine WL.au (k := ?_)))
          | (show Z _ _ _ _ _; apply Z.then_normal)
          | (show W _ _ _ _ _ _; first | apply W.seq | apply W.region)
          | fail)
        refine W.condKT rfl (dec_true (by omega)) ?_
        repeat' (first
          | ((apply WL.lookSomeF tOk keyI; exact rfl; exact rfl; exact rfl; exact rfl; exact rfl; exact rfl; exact rfl; exact hMp; exact hmg))
          | (show WL _ _ _ _ _ _ _; first | apply WL.nil | (refine WL.au (k := ?_)) | (apply WL.index tOk; exact rfl; exact rfl; exact rfl; exact rfl; exact rfl; exact rfl; exact rfl; exact rfl; assumption; (exact extA); exact rfl; omega; assumption; intro b off h; have hcc := h; first | (obtain ⟨h1, h2, h3, h4, h5, h6, _⟩ := h) | (obtain ⟨h1, h2, h3, _⟩ := h) | (obtain ⟨h1, h2, _⟩ := h) | (obtain ⟨h1, _⟩ := h)))
          | (show Z _ _ _ _ _; apply Z.then_normal)
          | (show W _ _ _ _ _ _; first | apply W.seq | apply W.region | apply W.block | apply W.skip)
          | fail)
        refine W.condKT rfl rfl ?_
        repeat' (first
          | (apply WL.indexO tOk; exact rfl; exact rfl; exact rfl; exact rfl; exact rfl; exact rfl; exact rfl; exact rfl; assumption; (exact extA); exact encI_ok; (first | exact rfl | (focus (simp only [List.length_set]; done)) | (focus (simp; done)) | (focus (simp [*]; done)) | omega | (focus (simp only [List.length_set]; omega))); omega; assumption; intro gb ha hc; cases ha; have hcc := hc; first | (obtain ⟨h1, h2, h3, _⟩ := hc) | (obtain ⟨h1, h2, _⟩ := hc) | (obtain ⟨h1, _⟩ := hc))
          | (apply WL.storeO (z' := (((lackJ c.gates.2.2 g j : Nat) : Int) + 1)) tOk; exact rfl; exact rfl; exact rfl; exact rfl; assumption; (exact extA); exact rfl; exact rfl; exact rfl; exact encI_ok; assumption; exact rfl; (exact extA); intro w' hO hX' hU)
          | (show WL _ _ _ _ _ _ _; first | apply WL.nil | (refine WL.au (k := ?_)))
          | (show Z _ _ _ _ _; apply Z.then_normal)
          | (show W _ _ _ _ _ _; first | apply W.seq | apply W.region)
          | fail)
        obtain ⟨w10, rfl⟩ : ∃ x, x = w' := ⟨_, rfl⟩
        have hS1 : Lt.Sep wc.heap.size w10 (hpP wc.heap.size gh as_ cs F tr ct t.length t ap cp A ++ rst wc.heap.size (some ⟨gl, 0, none⟩) n (lk.set ((k : Nat) : Int).toNat (((lackJ c.gates.2.2 g j : Nat) : Int) + 1)) (some ⟨go, 0, none⟩) n rs rm (plcM c.gates.2.2 n) none 0 [] (some ⟨gt, 0, none⟩, 2, [g.2.1, g.2.2]) rs) := Sep.updRow (i := 4) rfl hU hO (.inl rfl) hS (Ext.refl _) (Below.size hX9)
        have hOu := hS1.row (i := 5) rfl
        have hIn := hS1.row (rst_in hr _ rfl)
        have hX10 : Ext wc w10 := (by (exact extA))
        have hrl : r.2.2.length ≤ 2 * n + 2 := by
          have q1 := abv_len c.gates.2.2 y k
          have q2 := hangsJ_le g y j
          rw [hrv, List.length_append, List.length_replicate]; omega
        repeat' (first
          | (apply WL.indexO tOk; exact rfl; exact rfl; exact rfl; exact rfl; exact rfl; exact rfl; exact rfl; exact rfl; assumption; (exact extA); exact encRow_ok; (first | exact rfl | (focus (simp only [List.length_set]; done)) | (focus (simp; done)) | (focus (simp [*]; done)) | omega | (focus (simp only [List.length_set]; omega))); omega; assumption; intro gb ha hc; cases ha; have hcc := hc; first | (obtain ⟨h1, h2, h3, _⟩ := hc) | (obtain ⟨h1, h2, _⟩ := hc) | (obtain ⟨h1, _⟩ := hc))
          | (apply WL.lit tOk; exact rfl; exact rfl; exact rfl; exact rfl; exact rfl; exact rfl; (first | exact rfl | kernel_rfl | (simp [Instr.fill, catCells]; done)); exact rfl; intro gb w' hb hge hc hx)
          | (apply WL.append1 (z := (((k : Nat) : Int))) tOk encI_ok; exact rfl; exact rfl; exact rfl; exact rfl; exact rfl; exact rfl; exact rfl; exact rfl; exact rfl; exact rfl; assumption; (exact extA); (first | exact rfl | (focus (simp only [List.length_set]; done)) | (focus (simp; done)) | (focus (simp [*]; done)) | omega | (focus (simp only [List.length_set]; omega))); (first | assumption | (refine Cells.ext ?_ (by assumption); exact extA)); exact rfl; exact rfl; (exact extA); (first | omega | (simp; omega) | (simp at *; omega)); intro a' cap' w' hO hX' hU hF)
          | (show WL _ _ _ _ _ _ _; (refine WL.au (k := ?_)))
          | fail)
        obtain ⟨w12, rfl⟩ : ∃ x, x = w' := ⟨_, rfl⟩; obtain ⟨a2, rfl⟩ : ∃ x, x = a' := ⟨_, rfl⟩; obtain ⟨cp2, rfl⟩ : ∃ x, x = cap' := ⟨_, rfl⟩
        have hS2 := Sep.updRow (rst_in hr _ rfl) hU hO hF hS1 (by (exact extA)) (Below.size (by (exact extA)))
        rw [show prow 1 encI 3 wc.heap.size a2 cp2 (r.2.2 ++ [((k : Nat) : Int)]) = pI wc.heap.size (a2, cp2, r.2.2 ++ [((k : Nat) : Int)]) from rfl, rst_set _ rfl] at hS2
        have hOu2 := hS2.row (i := 5) rfl
        have hX12 : Ext wc w12 := (by (exact extA))
        repeat' (first
          | (apply WL.indexO tOk; exact rfl; exact rfl; exact rfl; exact rfl; exact rfl; exact rfl; exact rfl; exact rfl; assumption; (exact extA); exact encRow_ok; (first | exact rfl | (focus (simp only [List.length_set]; done)) | (focus (simp; done)) | (focus (simp [*]; done)) | omega | (focus (simp only [List.length_set]; omega))); omega; assumption; intro gb ha hc; cases ha; have hcc := hc; first | (obtain ⟨h1, h2, h3, _⟩ := hc) | (obtain ⟨h1, h2, _⟩ := hc) | (obtain ⟨h1, _⟩ := hc))
          | (apply WL.storeO (z' := (((a2, cp2, r.2.2 ++ [((k : Nat) : Int)]) : RowV Int))) tOk; exact rfl; exact rfl; exact rfl; exact rfl; assumption; (exact extA); exact rfl; exact rfl; exact rfl; exact encRow_ok; assumption; exact rfl; (exact extA); intro w' hO hX' hU)
          | (show WL _ _ _ _ _ _ _; first | apply WL.nil | (refine WL.au (k := ?_)))
          | (show Z _ _ _ _ _; first | apply Z.then_normal | apply Z.block_normal)
          | (show W _ _ _ _ _ _; apply W.region)
          | fail)
        have hS3 : Lt.Sep wc.heap.size w' (hpP wc.heap.size gh as_ cs F tr ct t.length t ap cp A ++ rst wc.heap.size (some ⟨gl, 0, none⟩) n (lk.set ((k : Nat) : Int).toNat (((lackJ c.gates.2.2 g j : Nat) : Int) + 1)) (some ⟨go, 0, none⟩) n (rs.set ((kk : Nat) : Int).toNat (a2, cp2, r.2.2 ++ [((k : Nat) : Int)])) rm (plcM c.gates.2.2 n) none 0 [] (some ⟨gt, 0, none⟩, 2, [g.2.1, g.2.2]) (rs.set kk (a2, cp2, r.2.2 ++ [((k : Nat) : Int)]))) := Sep.updRow (i := 5) rfl hU hO (.inl rfl) hS2 (Ext.refl _) (Below.size hX12)
        rw [Int.toNat_natCast, Int.toNat_natCast] at hS3
        exact Z.againW ⟨by omega, _, _, t, A, ⟨(by (exact extA)), ⟨hat, hze, as_, cs, tr, ct, ap, cp, hS3⟩, hO9, fun x => (hm9 x).trans (pA_set x).symm⟩, hA9.take ho hy (by rw [hyl, hl]) hr⟩ ⟨rfl, rfl, rfl, rfl, rfl, rfl, rfl, rfl, rfl, rfl, rfl, rfl, trivial⟩
    obtain rfl : j = 2 := by omega
    have hI9 := hA9.leave hgg
    have hnow : lk[k]? = some (lackG c.gates.2.2 [] g : Int) := by rw [hA9.now, lackJ2]
    have hll3 := hA9.llen
    have hB9' := hB9
    obtain ⟨hX9, ⟨hat, hze, as_, cs, tr, ct, ap, cp, hS⟩, hO9, hm9⟩ := hB9'
    have hLo := hS.row (i := 4) rfl
    have hLn : lk.length = n := by omega
    have hLk : lk[((k : Nat) : Int).toNat]? = some (lackG c.gates.2.2 [] g : Int) := by rw [Int.toNat_natCast]; exact hnow
    repeat' (first
      | (show WL _ _ _ _ _ _ _; first | apply WL.nil | (refine WL.au (k := ?_)))
      | (show Z _ _ _ _ _; apply Z.then_normal)
      | (show W _ _ _ _ _ _; first | apply W.seq | apply W.region)
      | fail)
    refine W.condKF rfl (dec_false (by omega)) ?_
    repeat' (first
      | (apply WL.indexO tOk; exact rfl; exact rfl; exact rfl; exact rfl; exact rfl; exact rfl; exact rfl; exact rfl; assumption; (exact extA); exact encI_ok; (first | exact rfl | (focus (simp only [List.length_set]; done)) | (focus (simp; done)) | (focus (simp [*]; done)) | omega | (focus (simp only [List.length_set]; omega))); omega; assumption; intro gb ha hc; cases ha; have hcc := hc; first | (obtain ⟨h1, h2, h3, _⟩ := hc) | (obtain ⟨h1, h2, _⟩ := hc) | (obtain ⟨h1, _⟩ := hc))
      | (show WL _ _ _ _ _ _ _; first | apply WL.nil | (refine WL.au (k := ?_)))
      | (show Z _ _ _ _ _; first | apply Z.then_normal | apply Z.then_exit | apply Z.block_exit)
      | (show W _ _ _ _ _ _; first | apply W.seq | apply W.region | apply W.exit)
      | fail)
    by_cases h0 : lackG c.gates.2.2 [] g = 0
    · refine W.condKT rfl (dec_true (by omega)) ?_
      have hnp : ¬ pA k lk (k : Int) := fun ⟨q, q1, q2, q3⟩ => by omega
      repeat' (first
        | (((show WL _ _ _ (⟨_, .call ⟨.value (.func 107), _, _⟩, _, _, _, _⟩ :: _) _ _ _); apply WL.call; exact rfl; exact rfl; exact rfl; exact rfl; exact heap_Push w9 wc gh F t A _ (pA k lk) hB9 (by omega) k (by omega) hnp; rintro v' w10 ⟨rfl, t1, A1, hB10⟩))
        | (show WL _ _ _ _ _ _ _; first | apply WL.nil | (refine WL.au (k := ?_)))
        | (show Z _ _ _ _ _; first | apply Z.then_normal | apply Z.block_normal)
        | (show W _ _ _ _ _ _; apply W.region)
        | fail)
      exact Z.againW ⟨by omega, _, _, _, t1, A1, hB10.mono (fun x => pA_push (by rw [hnow, h0]; rfl) x), hI9⟩ ⟨rfl, rfl, rfl, rfl, rfl, rfl, rfl, rfl, trivial⟩
    · refine W.condKF rfl (dec_false (by omega)) ?_
      repeat' (first
        | (show WL _ _ _ _ _ _ _; first | apply WL.nil | (refine WL.au (k := ?_)))
        | (show Z _ _ _ _ _; first | apply Z.then_normal | apply Z.block_normal)
        | (show W _ _ _ _ _ _; first | apply W.region | apply W.skip)
        | fail)
      exact Z.againW ⟨by omega, _, _, _, t, A, hB9.mono (fun x => pA_next hnow (by omega) x), hI9⟩ ⟨rfl, rfl, rfl, rfl, rfl, rfl, rfl, rfl, trivial⟩
  obtain rfl : k = n := by omega
  repeat' (first
    | (show WL _ _ _ _ _ _ _; first | apply WL.nil | (refine WL.au (k := ?_)))
    | (show Z _ _ _ _ _; apply Z.then_normal)
    | (show W _ _ _ _ _ _; first | apply W.seq | apply W.region)
    | fail)
  refine W.condKF rfl (dec_false (by omega)) ?_
  have hll6 := hI6.llen
  have hB7 := hB6.mono (fun x => pA_all (show lk.length = k by omega) x)
  have hSB : StB c.gates.2.2 [] [] lk := ⟨hI6.llen, fun q x hx => by rw [hI6.old q x hx (by have := lt_of_get hx; omega)]; simp⟩
  have hrows : ∀ (q : Nat) (y : G3), c.gates.2.2[q]? = some y → ∃ r, rs[q]? = some r ∧ r.2.2 = abv c.gates.2.2 y c.gates.2.2.length := by
    rw [hnn]; exact hI6.row
  have hrl6 := hI6.rlen
  have start : ∀ (L : List Nat) (lk : List Int) (ya : Int), StB c.gates.2.2 L [] lk → pH L lk ya → (∀ x, pH L lk x → ya ≤ x) → ∃ i : Nat, ya = (i : Int) ∧ Least c.gates.2.2 L i := fun L lk ya hS hp hm => by
    obtain ⟨i, rfl, hr⟩ := (hS.rdy ya).1 hp
    exact ⟨i, rfl, hr, fun j hj => by have := hm (j : Int) ((hS.rdy _).2 ⟨j, rfl, hj⟩); omega⟩
  repeat' (first
    | (((show WL _ _ _ (⟨_, .call ⟨.value (.func 108), _, _⟩, _, _, _, _⟩ :: _) _ _ _); apply WL.call; exact rfl; exact rfl; exact rfl; exact rfl; exact heap_PopO w6 wc gh F t A _ (pH [] lk) hB7 (by omega); rintro v' w7 ⟨nx, rfl, hnx1, hnx2, t1, A1, hB8⟩))
    | (show WL _ _ _ _ _ _ _; first | apply WL.nil | (refine WL.au (k := ?_)))
    | (show Z _ _ _ _ _; first | apply Z.then_normal | apply Z.then_exit | apply Z.block_exit)
    | (show W _ _ _ _ _ _; first | apply W.seq | apply W.region | apply W.block | apply W.exit)
    | fail)
  refine W.loop (σ := List Nat × Option Int × Option Addr × Nat × World) (fun s => PreOrd c.gates.2.2 s.1 ∧ ∃ lk t A, HpB wc s.2.2.2.2 gh F (rst wc.heap.size (some ⟨gl, 0, none⟩) k lk (some ⟨go, 0, none⟩) k rs rm (plcM c.gates.2.2 k) s.2.2.1 s.2.2.2.1 (natI s.1) lit rs) t A (fun x => pH s.1 lk x ∧ ∀ y, s.2.1 = some y → x ≠ y) ∧ StB c.gates.2.2 s.1 [] lk ∧ (∀ y, s.2.1 = some y → pH s.1 lk y ∧ ∀ x, pH s.1 lk x → y ≤ x) ∧ (s.2.1 = none → ∀ x, ¬ pH s.1 lk x)) (fun s => [(6, .slice (some ⟨gl, 0, none⟩) k k), (7, .slice (some ⟨go, 0, none⟩) k k), (8, .pointer (some ⟨gh, 0, none⟩)), (15, .slice s.2.2.1 (natI s.1).length s.2.2.2.1), (16, .int .i64 (s.2.1.getD 0)), (17, .bool s.2.1.isSome)]) (fun s => s.2.2.2.2) (fun s => c.gates.2.2.length + 1 - s.1.length) ([], nx, none, 0, w7) ⟨PreOrd.nil _, lk, t1, A1, hB8, hSB, hnx1, hnx2⟩ ⟨rfl, rfl, rfl, rfl, rfl, rfl, trivial⟩ rfl ?_
  clear hB7 hB8 hSB hnx1 hnx2 hB6 hI6 hX6 hll6
  rintro ⟨L, nx, ou, cu, w8⟩ ⟨hP, lk, t, A, hB8, hSB, hn1, hn2⟩
  dsimp only at hP hB8 hSB hn1 hn2 ⊢
  have hX8 := hB8.ext
  have hLle := hP.le
  cases nx with
  | none =>
    repeat' (first
      | (show WL _ _ _ _ _ _ _; first | apply WL.nil | (refine WL.au (k := ?_)))
      | (show Z _ _ _ _ _; apply Z.then_normal)
      | (show W _ _ _ _ _ _; first | apply W.seq | apply W.region)
      | fail)
    refine W.condKF rfl rfl ?_
    repeat' (first
      | (show WL _ _ _ _ _ _ _; first | apply WL.nil | (refine WL.au (k := ?_)))
      | (show Z _ _ _ _ _; first | apply Z.then_normal | apply Z.then_exit | apply Z.block_exit)
      | (show W _ _ _ _ _ _; first | apply W.seq | apply W.region | apply W.ret | apply W.exit)
      | fail)
    obtain ⟨hX9, ⟨hat, hze, as_, cs, tr, ct, ap, cp, hS⟩, hO9, hm9⟩ := hB8
    have hOut := hS.row (i := 7) rfl
    have hLo : L = ordL c.gates.2.2 := IsOrd.ord ⟨hP, fun q hq => hn2 rfl (q : Int) ((hSB.rdy _).2 ⟨q, rfl, hq⟩)⟩
    exact Z.body1 Try.results87 rfl fun m => ⟨hxc.trans (Ext.at hX8 m), ou, cu, by rw [← hLo], by rw [← hLo]; exact (hOut.base hwc).ext ((Ext.refl _).at m)⟩
  | some ya =>
    obtain ⟨i, rfl, hle⟩ := start L lk ya hSB (hn1 ya rfl).1 (hn1 ya rfl).2
    obtain ⟨y, hy, hiL, hself⟩ := hle.1
    have hself := rdy_self hle.1 hy
    have hik := lt_of_get hy
    obtain ⟨r, hr, hrv⟩ := hrows i y hy
    repeat' (first
      | (show WL _ _ _ _ _ _ _; first | apply WL.nil | (refine WL.au (k := ?_)))
      | (show Z _ _ _ _ _; apply Z.then_normal)
      | (show W _ _ _ _ _ _; first | apply W.seq | apply W.region)
      | fail)
    refine W.condKT rfl rfl ?_
    refine W.sub [(6, .slice (some ⟨gl, 0, none⟩) k k), (7, .slice (some ⟨go, 0, none⟩) k k), (8, .pointer (some ⟨gh, 0, none⟩)), (15, .slice ou (natI L).length cu), (16, .int .i64 ((i : Nat) : Int))] ⟨rfl, rfl, rfl, rfl, rfl, trivial⟩ ?_
    obtain ⟨hX9, ⟨hat, hze, as_, cs, tr, ct, ap, cp, hS⟩, hO9, hm9⟩ := hB8
    have hOut := hS.row (i := 7) rfl
    have hnl : (natI L).length = L.length := List.length_map _
    repeat' (first
      | (apply WL.lit tOk; exact rfl; exact rfl; exact rfl; exact rfl; exact rfl; exact rfl; (first | exact rfl | kernel_rfl | (simp [Instr.fill, catCells]; done)); exact rfl; intro gb w' hb hge hc hx)
      | (apply WL.append1 (z := (((i : Nat) : Int))) tOk encI_ok; exact rfl; exact rfl; exact rfl; exact rfl; exact rfl; exact rfl; exact rfl; exact rfl; exact rfl; exact rfl; assumption; (exact extA); (first | exact rfl | (focus (simp only [List.length_set]; done)) | (focus (simp; done)) | (focus (simp [*]; done)) | omega | (focus (simp only [List.length_set]; omega))); (first | assumption | (refine Cells.ext ?_ (by assumption); exact extA)); exact rfl; exact rfl; (exact extA); (first | omega | (simp; omega) | (simp at *; omega)); intro a' cap' w' hO hX' hU hF)
      | (show WL _ _ _ _ _ _ _; first | apply WL.nil | (refine WL.au (k := ?_)))
      | (show Z _ _ _ _ _; apply Z.then_normal)
      | (show W _ _ _ _ _ _; first | apply W.seq | apply W.region | apply W.block | apply W.skip)
      | fail)
    obtain ⟨w9, rfl⟩ : ∃ x, x = w' := ⟨_, rfl⟩; obtain ⟨ou2, rfl⟩ : ∃ x, x = a' := ⟨_, rfl⟩; obtain ⟨cu2, rfl⟩ : ∃ x, x = cap' := ⟨_, rfl⟩
    have hnat : natI L ++ [((i : Nat) : Int)] = natI (L ++ [i]) := by simp [natI]
    have hS1 : Lt.Sep wc.heap.size w9 (hpP wc.heap.size gh as_ cs F tr ct t.length t ap cp A ++ rst wc.heap.size (some ⟨gl, 0, none⟩) k lk (some ⟨go, 0, none⟩) k rs rm (plcM c.gates.2.2 k) ou2 cu2 (natI (L ++ [i])) lit rs) := by
      rw [← hnat]; exact Sep.updRow (i := 7) rfl hU hO hF hS (by (exact extA)) (Below.size (by (exact extA)))
    have hX9' : Ext wc w9 := (by (exact extA))
    have hOu := hS1.row (i := 5) rfl
    have hRk : rs[((i : Nat) : Int).toNat]? = some r := by rw [Int.toNat_natCast]; exact hr
    rw [hnat]
    have hrl6' : rs.length = k := by omega
    repeat' (first
      | (apply WL.indexO tOk; exact rfl; exact rfl; exact rfl; exact rfl; exact rfl; exact rfl; exact rfl; exact rfl; assumption; (exact extA); exact encRow_ok; (first | exact rfl | (focus (simp only [List.length_set]; done)) | (focus (simp; done)) | (focus (simp [*]; done)) | omega | (focus (simp only [List.length_set]; omega))); omega; assumption; intro gb ha hc; cases ha; have hcc := hc; first | (obtain ⟨h1, h2, h3, _⟩ := hc) | (obtain ⟨h1, h2, _⟩ := hc) | (obtain ⟨h1, _⟩ := hc))
      | (show WL _ _ _ _ _ _ _; first | apply WL.nil | (refine WL.au (k := ?_)))
      | (show Z _ _ _ _ _; apply Z.then_normal)
      | (show W _ _ _ _ _ _; apply W.block)
      | fail)
    have hYl : r.2.2.length ≤ 2 * k := by rw [hrv, hnn]; exact abv_len _ _ _
    have hm9' : ∀ x, x ∈ t ↔ pH (L ++ [i]) lk x := fun x => ((hm9 x).trans ⟨fun ⟨h1, h2⟩ => ⟨h1, h2 _ rfl⟩, fun ⟨h1, h2⟩ => ⟨h1, fun y hy => by cases hy; exact h2⟩⟩).trans (pH_out x)
    refine W.loopW r.2.2.length (fun m w' => m ≤ r.2.2.length ∧ ∃ lk t A, HpB wc w' gh F (rst wc.heap.size (some ⟨gl, 0, none⟩) k lk (some ⟨go, 0, none⟩) k rs rm (plcM c.gates.2.2 k) ou2 cu2 (natI (L ++ [i])) lit rs) t A (pH (L ++ [i]) lk) ∧ StB c.gates.2.2 L (r.2.2.take m) lk) (fun m => [(6, .slice (some ⟨gl, 0, none⟩) k k), (7, .slice (some ⟨go, 0, none⟩) k k), (8, .pointer (some ⟨gh, 0, none⟩)), (15, .slice ou2 (natI (L ++ [i])).length cu2), (117, .slice r.1 r.2.2.length r.2.1), (118, .int .i64 (r.2.2.length : Nat)), (119, .int .i64 m)]) ⟨Nat.zero_le _, lk, t, A, ⟨hX9', ⟨hat, hze, as_, cs, tr, ct, ap, cp, hS1⟩, hO9, hm9'⟩, by rw [List.take_zero]; exact hSB⟩ (fun m w' h => h.1) ⟨rfl, rfl, rfl, rfl, rfl, rfl, rfl, trivial⟩ ?_
    have hPi := hP.push hle
    clear hSB hS hS1 hO9 hm9 hm9' hat hze hOut hOu hO hX9 hX9' hn1 hn2
    rintro m w10 ⟨hm, lk, t, A, hB10, hSB⟩
    have hX10 := hB10.ext
    by_cases hml : m < r.2.2.length
    · obtain ⟨z, hgz⟩ := getI r.2.2 hml
      have hgz' := hgz
      rw [hrv] at hgz'
      obtain ⟨kk, g, rfl, hkk, hg, hh⟩ := abv_mem (List.mem_of_getElem? hgz')
      rw [hrv] at hSB
      obtain ⟨v, hv, hv1, hv2, hSB2⟩ := hSB.step ho hy hiL hg hgz'
      rw [← hrv] at hSB2
      have hkL : kk ∉ L ++ [i] := fun hm2 => by
        rcases List.mem_append.1 hm2 with h | h
        · exact not_told hP hy hg hh hiL h
        · obtain rfl := List.mem_singleton.1 h
          rw [hy] at hg; cases hg; omega
      have hB10' := hB10
      obtain ⟨_, ⟨hat, hze, as_, cs, tr, ct, ap, cp, hS⟩, hO9, hm9⟩ := hB10'
      have RL := (hS.row (rst_in hr _ rfl)).row encI_ok
      have hLo := hS.row (i := 4) rfl
      have hlk3 := hSB.llen
      have hLn : lk.length = k := by omega
      have hvk : lk[((kk : Nat) : Int).toNat]? = some v := by rw [Int.toNat_natCast]; exact hv
      have hvs : (lk.set ((kk : Nat) : Int).toNat (v - 1))[((kk : Nat) : Int).toNat]? = some (v - 1) := List.getElem?_set_self (by rw [Int.toNat_natCast]; omega)
      repeat' (first
        | (show WL _ _ _ _ _ _ _; first | apply WL.nil | (refine WL.au (k := ?_)))
        | (show Z _ _ _ _ _; apply Z.then_normal)
        | (show W _ _ _ _ _ _; first | apply W.seq | apply W.region)
        | fail)
      refine W.condKT rfl (dec_true (by omega)) ?_
      repeat' (first
        | (apply WL.indexO tOk; exact rfl; exact rfl; exact rfl; exact rfl; exact rfl; exact rfl; exact rfl; exact rfl; assumption; (exact extA); exact encI_ok; (first | exact rfl | (focus (simp only [List.length_set]; done)) | (focus (simp; done)) | (focus (simp [*]; done)) | omega | (focus (simp only [List.length_set]; omega))); omega; assumption; intro gb ha hc; cases ha; have hcc := hc; first | (obtain ⟨h1, h2, h3, _⟩ := hc) | (obtain ⟨h1, h2, _⟩ := hc) | (obtain ⟨h1, _⟩ := hc))
        | (apply WL.storeO (z' := (v - 1)) tOk; exact rfl; exact rfl; exact rfl; exact rfl; assumption; (exact extA); exact rfl; exact rfl; exact rfl; exact encI_ok; assumption; exact rfl; (exact extA); intro w' hO hX' hU)
        | (show WL _ _ _ _ _ _ _; first | apply WL.nil | (refine WL.au (k := ?_)) | (apply WL.index tOk; exact rfl; exact rfl; exact rfl; exact rfl; exact rfl; exact rfl; exact rfl; exact rfl; assumption; (exact extA); exact rfl; omega; assumption; intro b off h; have hcc := h; first | (obtain ⟨h1, h2, h3, h4, h5, h6, _⟩ := h) | (obtain ⟨h1, h2, h3, _⟩ := h) | (obtain ⟨h1, h2, _⟩ := h) | (obtain ⟨h1, _⟩ := h)))
        | (show Z _ _ _ _ _; apply Z.then_normal)
        | (show W _ _ _ _ _ _; first | apply W.seq | apply W.region | apply W.block | apply W.skip)
        | fail)
      obtain ⟨w11, rfl⟩ : ∃ x, x = w' := ⟨_, rfl⟩
      have hS2 : Lt.Sep wc.heap.size w11 (hpP wc.heap.size gh as_ cs F tr ct t.length t ap cp A ++ rst wc.heap.size (some ⟨gl, 0, none⟩) k (lk.set ((kk : Nat) : Int).toNat (v - 1)) (some ⟨go, 0, none⟩) k rs rm (plcM c.gates.2.2 k) ou2 cu2 (natI (L ++ [i])) lit rs) := Sep.updRow (i := 4) rfl hU hO (.inl rfl) hS (Ext.refl _) (Below.size hX10)
      rw [Int.toNat_natCast] at hS2
      by_cases hv0 : v - 1 = 0
      · refine W.condKT rfl (dec_true hv0) ?_
        repeat' (first
          | (((show WL _ _ _ (⟨_, .call ⟨.value (.func 107), _, _⟩, _, _, _, _⟩ :: _) _ _ _); apply WL.call; exact rfl; exact rfl; exact rfl; exact rfl; exact heap_Push w11 wc gh F t A _ (pH (L ++ [i]) lk) ⟨hX', ⟨hat, hze, as_, cs, tr, ct, ap, cp, hS2⟩, hO9, hm9⟩ (by omega) kk (by omega) (pH_no hv hv1); rintro v' w12 ⟨rfl, t2, A2, hB12⟩))
          | (show WL _ _ _ _ _ _ _; first | apply WL.nil | (refine WL.au (k := ?_)))
          | (show Z _ _ _ _ _; first | apply Z.then_normal | apply Z.block_normal)
          | (show W _ _ _ _ _ _; apply W.region)
          | fail)
        exact Z.againW ⟨by omega, _, t2, A2, hB12.mono (fun x => pH_zero hv hv1 hv0 hkL x), hSB2⟩ ⟨rfl, rfl, rfl, rfl, rfl, rfl, rfl, trivial⟩
      · refine W.condKF rfl (dec_false hv0) ?_
        repeat' (first
          | (show WL _ _ _ _ _ _ _; first | apply WL.nil | (refine WL.au (k := ?_)))
          | (show Z _ _ _ _ _; first | apply Z.then_normal | apply Z.block_normal)
          | (show W _ _ _ _ _ _; first | apply W.region | apply W.skip)
          | fail)
        exact Z.againW ⟨by omega, _, t, A, ⟨hX', ⟨hat, hze, as_, cs, tr, ct, ap, cp, hS2⟩, hO9, fun x => (hm9 x).trans (pH_dec hv hv1 hv0 x)⟩, hSB2⟩ ⟨rfl, rfl, rfl, rfl, rfl, rfl, rfl, trivial⟩
    obtain rfl : m = r.2.2.length := by omega
    rw [List.take_length, hrv] at hSB
    have hSB2 := hSB.next ho hy hiL
    repeat' (first
      | (show WL _ _ _ _ _ _ _; first | apply WL.nil | (refine WL.au (k := ?_)))
      | (show Z _ _ _ _ _; apply Z.then_normal)
      | (show W _ _ _ _ _ _; first | apply W.seq | apply W.region)
      | fail)
    refine W.condKF rfl (dec_false (by omega)) ?_
    repeat' (first
      | (((show WL _ _ _ (⟨_, .call ⟨.value (.func 108), _, _⟩, _, _, _, _⟩ :: _) _ _ _); apply WL.call; exact rfl; exact rfl; exact rfl; exact rfl; exact heap_PopO w10 wc gh F t A _ (pH (L ++ [i]) lk) hB10 (by omega); rintro v' w11 ⟨nx, rfl, hnx1, hnx2, t1, A1, hB11⟩))
      | (show WL _ _ _ _ _ _ _; first | apply WL.nil | (refine WL.au (k := ?_)))
      | (show Z _ _ _ _ _; first | apply Z.then_normal | apply Z.block_normal | apply Z.then_exit | apply Z.block_exit)
      | (show W _ _ _ _ _ _; first | apply W.region | apply W.exit)
      | fail)
    exact Z.again (L ++ [i], nx, ou2, cu2, w11) ⟨hPi, lk, t1, A1, hB11, hSB2, hnx1, hnx2⟩ (by have := hPi.le; simp only [List.length_append, List.length_singleton] at this ⊢; omega) ⟨rfl, rfl, rfl, rfl, rfl, rfl, trivial⟩ rfl
end Go.Proofs.Ytlcenenkloicjaa
namespace Go.Proofs.Ytlcenenkloicjaa
open Go Go.Lt Go.RowKit
set_option linter.unusedVariables false
set_option linter.unusedSimpArgs false
set_option maxRecDepth 20000

theorem once_of {c : CirT} (h : ¬ Twice c) (hown : ∀ x ∈ c.own, x % 2 = 0) : Once c.gates := by
  have hn : c.own.Nodup := nodup_take fun i x hx hm => h ⟨i, x, hx, hm⟩
  rw [List.nodup_append] at hn
  have hp := List.pairwise_iff_getElem.1 (List.nodup_iff_pairwise_ne.1 hn.2.1)
  intro i j x y hi hj he
  have h1 := hown x.1 (List.mem_append_right _ (List.mem_map.2 ⟨x, List.mem_of_getElem? hi, rfl⟩))
  have h2 := hown y.1 (List.mem_append_right _ (List.mem_map.2 ⟨y, List.mem_of_getElem? hj, rfl⟩))
  have ei : (c.gates.map (·.1))[i]? = some x.1 := by rw [List.getElem?_map, hi]; rfl
  have ej : (c.gates.map (·.1))[j]? = some y.1 := by rw [List.getElem?_map, hj]; rfl
  obtain ⟨li, gi⟩ := List.getElem?_eq_some_iff.1 ei
  obtain ⟨lj, gj⟩ := List.getElem?_eq_some_iff.1 ej
  refine Classical.byContradiction fun hne => ?_
  rcases Nat.lt_or_gt_of_ne hne with h3 | h3
  · exact hp i j li lj h3 (by rw [gi, gj]; omega)
  · exact hp j i lj li h3 (by rw [gi, gj]; omega)
end Go.Proofs.Ytlcenenkloicjaa
namespace Go.Proofs.Ytlcenenkloicjaa
open Go Go.Lt Go.RowKit
set_option linter.unusedVariables false
set_option linter.unusedSimpArgs false
set_option maxRecDepth 20000

abbrev netP (B g4 g5 : Nat) (an : Option Addr) (cn : Nat) (aa : Option Addr) (ca : Nat) (s : NA) : List Piece :=
  [pcell g4 #[.slice an s.1.length cn] 22, pcell g5 #[.slice aa s.2.length ca] 33, prow 2 encN 70 B an cn s.1, prow 1 encI 3 B aa ca s.2]
theorem circ_Net2 (w : World) (g5 : Nat) (aa : Option Addr) (ca : Nat) (A : List Int) (l z : Int) (hc : w.cell? ⟨g5, 0, none⟩ = some (.slice aa A.length ca)) (R : Row 1 encI w aa A) (h0 : 0 ≤ l) (hl9 : l ≤ 4294967296) (hz : A[(l / 2).toNat]? = some z) (hz0 : 0 ≤ z ∧ z ≤ 4294967296) :
    Still Try.prog 86 [.int .i64 l, .pointer (some ⟨g5, 0, none⟩)] w (.int .i64 (litI A l)) := by
  have hlt := lt_of_get hz
  have hl := R.len
  have e0 : litI A l = xorI z (l % 2) := litI_some hz
  refine Spec.of _ Try.func86 rfl Try.ntmps86 (by kernel_rfl) rfl ?_
  repeat' (first
    | (apply WL.andA; exact rfl; exact rfl; exact rfl; exact rfl)
    | (apply WL.xorI; exact rfl; exact rfl; exact rfl; exact rfl; omega; omega)
    | (show WL _ _ _ _ _ _ _; first | apply WL.nil | (refine WL.au (k := ?_)) | (apply WL.index tOk; exact rfl; exact rfl; exact rfl; exact rfl; exact rfl; exact rfl; exact rfl; exact rfl; assumption; (exact extA); exact rfl; omega; assumption; intro b off h; have hcc := h; first | (obtain ⟨h1, h2, h3, h4, h5, h6, _⟩ := h) | (obtain ⟨h1, h2, h3, _⟩ := h) | (obtain ⟨h1, h2, _⟩ := h) | (obtain ⟨h1, _⟩ := h)))
    | (show Z _ _ _ _ _; apply Z.then_normal)
    | (show W _ _ _ _ _ _; first | apply W.seq | apply W.region | apply W.ret)
    | fail)
  exact Z.body1 Try.results86 rfl fun m => ⟨by rw [e0], m, rfl⟩
set_option maxHeartbeats 8000000 in
theorem circ_Net1 (w0 w : World) (g4 g5 : Nat) (an : Option Addr) (cn : Nat) (aa : Option Addr) (ca : Nat) (s : NA) (rest : List Piece) (l : Int) (x : Int × Int) (hX : Ext w0 w) (hS : Lt.Sep w0.heap.size w (netP w0.heap.size g4 g5 an cn aa ca s ++ rest)) (hl : 0 ≤ l ∧ (l / 2).toNat < s.2.length) (hl2 : l ≤ 4294967296) (hs : s.1.length ≤ 1000000) :
    Lt.Spec Try.prog 85 [.int .i64 l, .agg (encN x).toArray, .pointer (some ⟨g4, 0, none⟩), .pointer (some ⟨g5, 0, none⟩)] w (fun v w' => v = .tuple #[] ∧ Ext w0 w' ∧ ∃ an' cn', Lt.Sep w0.heap.size w' (netP w0.heap.size g4 g5 an' cn' aa ca (cput s l x) ++ rest)) := by
  obtain ⟨N, A⟩ := s
  dsimp only at hs hl
  have k0 := (cells_heap (hS.cell (i := 0) rfl)).1
  have k1 := (cells_heap (hS.cell (i := 1) rfl)).1
  have hg4 := (hS.lt (i := 0) rfl rfl).1
  have hN := hS.row (i := 2) rfl
  obtain ⟨zz, hzz⟩ := getI A hl.2
  refine Spec.of _ Try.func85 rfl Try.ntmps85 (by kernel_rfl) rfl ?_
  repeat' (first
    | (apply WL.box; exact rfl; exact rfl; exact rfl; intro gb w' hb hge hc hx; have hcc := hc; (first | (obtain ⟨h1, h2, h3, _⟩ := hc) | (obtain ⟨h1, h2, _⟩ := hc)); (have hcells := hcc; obtain ⟨y0, y1, _⟩ := hcc; obtain ⟨w1, rfl⟩ : ∃ x, x = w' := ⟨_, rfl⟩; obtain ⟨hx1, rfl⟩ : ∃ x, x = hx := ⟨_, rfl⟩))
    | (apply WL.lit tOk; exact rfl; exact rfl; exact rfl; exact rfl; exact rfl; exact rfl; (first | exact rfl | kernel_rfl | (simp [Instr.fill, catCells]; done)); exact rfl; intro gb w' hb hge hc hx; (obtain ⟨w2, rfl⟩ : ∃ x, x = w' := ⟨_, rfl⟩; obtain ⟨hx2, rfl⟩ : ∃ x, x = hx := ⟨_, rfl⟩))
    | (apply WL.append1 (z := (x)) tOk encN_ok; exact rfl; exact rfl; exact rfl; exact rfl; exact rfl; exact rfl; exact rfl; exact rfl; exact rfl; exact rfl; assumption; (exact extA); (first | exact rfl | (focus (simp only [List.length_set]; done)) | (focus (simp; done)) | (focus (simp [*]; done)) | omega | (focus (simp only [List.length_set]; omega))); (first | assumption | (refine Cells.ext ?_ (by assumption); exact extA)); exact rfl; exact rfl; (exact extA); (first | omega | (simp; omega) | (simp at *; omega)); intro a' cap' w' hO hX' hU hF)
    | (show WL _ _ _ _ _ _ _; first | apply WL.nil | (refine WL.au (k := ?_)))
    | (show Z _ _ _ _ _; apply Z.then_normal)
    | (show W _ _ _ _ _ _; first | apply W.seq | apply W.region)
    | fail)
  obtain ⟨w3, rfl⟩ : ∃ x, x = w' := ⟨_, rfl⟩; obtain ⟨an2, rfl⟩ : ∃ x, x = a' := ⟨_, rfl⟩; obtain ⟨cn2, rfl⟩ : ∃ x, x = cap' := ⟨_, rfl⟩
  have hS1 : Lt.Sep w0.heap.size w3 ([pcell g4 #[.slice an N.length cn] 22, pcell g5 #[.slice aa A.length ca] 33, prow 2 encN 70 w0.heap.size an2 cn2 (N ++ [x]), prow 1 encI 3 w0.heap.size aa ca A] ++ rest) := Sep.updRow (i := 2) rfl hU hO hF hS (by (exact extA)) (Below.size (by (exact extA)))
  have hX3 : Ext w0 w3 := (by (exact extA))
  have hc4 := hS1.cell (i := 0) rfl
  repeat' (first
    | (apply WL.storeB (w0 := w0) tOk; exact rfl; exact rfl; exact rfl; exact rfl; assumption; (exact extA); exact rfl; exact rfl; exact rfl; (exact extA); (first | assumption | omega | (focus (apply Nat.le_trans; rotate_left; assumption; exact Below.size (by (exact extA)); done))); intro w' hb hc hX' hU; have hcc := hc; obtain ⟨h1, h2, _⟩ := hc; (obtain ⟨w4, rfl⟩ : ∃ x, x = w' := ⟨_, rfl⟩; obtain ⟨hb4, rfl⟩ : ∃ x, x = hb := ⟨_, rfl⟩; obtain ⟨hU4, rfl⟩ : ∃ x, x = hU := ⟨_, rfl⟩; obtain ⟨hX4, rfl⟩ : ∃ x, x = hX' := ⟨_, rfl⟩; have hS2 : Lt.Sep w0.heap.size w4 ([pcell g4 #[.slice an2 (N ++ [x]).length cn2] 22, pcell g5 #[.slice aa A.length ca] 33, prow 2 encN 70 w0.heap.size an2 cn2 (N ++ [x]), prow 1 encI 3 w0.heap.size aa ca A] ++ rest) := Sep.updCell (i := 0) rfl hU4 hb4 hS1 (Ext.refl _) (Below.size hX3); have p0 := (cells_heap (hS2.cell (i := 0) rfl)).1; have p1 := (cells_heap (hS2.cell (i := 1) rfl)).1; have hA4 := hS2.row (i := 3) rfl; have hnl : (N ++ [x]).length = N.length + 1 := by simp))
    | (apply WL.indexO tOk; exact rfl; exact rfl; exact rfl; exact rfl; exact rfl; exact rfl; exact rfl; exact rfl; assumption; (exact extA); exact encI_ok; (first | exact rfl | (focus (simp only [List.length_set]; done)) | (focus (simp; done)) | (focus (simp [*]; done)) | omega | (focus (simp only [List.length_set]; omega))); omega; assumption; intro gb ha hc; cases ha; have hcc := hc; first | (obtain ⟨h1, h2, h3, _⟩ := hc) | (obtain ⟨h1, h2, _⟩ := hc) | (obtain ⟨h1, _⟩ := hc))
    | (apply WL.storeO (z' := (2 * ((N ++ [x]).length : Int))) tOk; exact rfl; exact rfl; exact rfl; exact rfl; assumption; (exact extA); exact rfl; exact rfl; exact rfl; exact encI_ok; assumption; exact rfl; (exact extA); intro w' hO hX' hU)
    | (show WL _ _ _ _ _ _ _; first | apply WL.nil | (refine WL.au (k := ?_)))
    | (show Z _ _ _ _ _; apply Z.then_normal)
    | (show W _ _ _ _ _ _; apply W.region)
    | fail)
  refine Z.body0n Try.results85 fun m => ⟨rfl, hX'.at m, an2, cn2, ?_⟩
  have hS3 := Sep.updRow (i := 3) rfl hU hO (.inl rfl) hS2 (Ext.refl _) (Below.size hX4)
  have e1 : cput (N, A) l x = (N ++ [x], A.set (l / 2).toNat (2 * ((N ++ [x]).length : Int))) := by unfold cput; rw [hnl]; rfl
  rw [e1]
  refine Sep.ext (w := w') ?_ ((Ext.refl _).at m)
  show Lt.Sep _ _ ([pcell g4 #[.slice an2 (N ++ [x]).length cn2] 22, pcell g5 #[.slice _ (A.set (l / 2).toNat (2 * ((N ++ [x]).length : Int))).length ca] 33, prow 2 encN 70 w0.heap.size an2 cn2 (N ++ [x]), prow 1 encI 3 w0.heap.size _ ca (A.set (l / 2).toNat (2 * ((N ++ [x]).length : Int)))] ++ rest)
  rw [List.length_set]
  exact hS3
end Go.Proofs.Ytlcenenkloicjaa
