/- Part 3 of what the claim StepRuns needs: lemmas and contracts, printed from longer texts. No conditions. -/
import Derived.Test.YthpnahapiodflaaRows
import Derived.Lib.SmallJoins
import Derived.KernelRfl
import Derived.WalkKit
import Derived.ProofKit
import Derived.Deep.Quiet
import Derived.Deep.LoopGhost
import Derived.StillTail
import Derived.Test.YthpnahapiodflaaProg
import Derived.OpenShut
import Derived.ShutString
import Derived.ChangeOld
import Derived.Deep.Slices
import Derived.SizedLaws
import Derived.Laws.StructEq
import Derived.Laws.CopyRow
import Derived.Laws.IdiomCopy
import Derived.Test.YthpnahapiodflaaStepRunsP2
namespace Go.Proofs.Ythpnahapiodflaa
open Go Go.Lt Go.RowKit
set_option linter.unusedVariables false
set_option linter.unusedSimpArgs false
set_option maxRecDepth 20000

/-- So many values of some. -/
def brV (l : List Bool) (m : Nat) : List Bool := (List.range m).map fun i => l.getD i false
theorem brV_len (l : List Bool) (m : Nat) : (brV l m).length = m := by simp [brV]
theorem brV_get (l : List Bool) {m i : Nat} (h : i < m) : (brV l m)[i]? = some (l.getD i false) := by
  unfold brV; rw [List.getElem?_map, List.getElem?_range h]; rfl
theorem brV_succ (l : List Bool) (m : Nat) : brV l (m + 1) = brV l m ++ [l.getD m false] := by
  unfold brV; rw [List.range_succ, List.map_append]; rfl
noncomputable def insV (c : CirT) (s i : List Bool) : List Bool := brV i c.ins.length ++ brV s c.lat.length
noncomputable def stepV (c : CirT) (s i : List Bool) : List Bool := values (cNet c).1 (insV c s i)
/-- A literal's value in a state, with an input. -/
noncomputable def litV (c : CirT) (s i : List Bool) (l : Int) : Bool := ofL (stepV c s i) (litI (cNet c).2 l)
noncomputable def nextV (c : CirT) (s i : List Bool) : List Bool := c.lat.map fun x => litV c s i x.2.1
theorem nextV_len (c : CirT) (s i : List Bool) : (nextV c s i).length = c.lat.length := by simp [nextV]
def StartsP (c : CirT) (s : List Bool) : Prop := s.length = c.lat.length ∧ ∀ (k : Nat) x b, c.lat[k]? = some x → s[k]? = some b → ¬ (x.2.2 = 0 ∧ b = true) ∧ ¬ (x.2.2 = 1 ∧ b = false)
def HoldsP (c : CirT) (s i : List Bool) : Prop := ∀ l ∈ c.cons, litV c s i l = true
def BadP (c : CirT) (s i : List Bool) (p : Int) : Prop := 0 ≤ p ∧ ∃ l, c.bads[p.toNat]? = some l ∧ litV c s i l = true
/-- The state in a step of a run. -/
noncomputable def stateV (c : CirT) (s : List Bool) (r : List (List Bool)) : Nat → List Bool
  | 0 => brV s c.lat.length
  | k + 1 => nextV c (stateV c s r k) (r.getD k [])
theorem stateV_len (c : CirT) (s : List Bool) (r : List (List Bool)) : ∀ k, (stateV c s r k).length = c.lat.length
  | 0 => brV_len _ _
  | _ + 1 => nextV_len _ _ _
noncomputable def statesV (c : CirT) (s : List Bool) (r : List (List Bool)) : List (List Bool) := (List.range r.length).map (stateV c s r)
theorem statesV_len (c : CirT) (s : List Bool) (r : List (List Bool)) : (statesV c s r).length = r.length := by simp [statesV]
theorem statesV_get (c : CirT) (s : List Bool) (r : List (List Bool)) {k : Nat} (h : k < r.length) : (statesV c s r)[k]? = some (stateV c s r k) := by
  unfold statesV; rw [List.getElem?_map, List.getElem?_range h]; rfl
def GoesP (c : CirT) (s : List Bool) (r : List (List Bool)) (k : Nat) : Prop := ∀ j i, j < k → r[j]? = some i → i.length = c.ins.length ∧ HoldsP c (stateV c s r j) i
/-- A run breaks a property. -/
def BreaksP (c : CirT) (s : List Bool) (r : List (List Bool)) (p : Int) : Prop :=
  StartsP c s ∧ r ≠ [] ∧ GoesP c s r r.length ∧ BadP c (stateV c s r (r.length - 1)) (r.getD (r.length - 1) []) p

/-- What a used literal's variable is. -/
theorem net_lit {c : CirT} (h : GoodC' c) {l : Int} (hl : l ∈ c.used) : ∃ z, (cNet c).2[(l / 2).toNat]? = some z ∧ 0 ≤ z ∧ z % 2 = 0 ∧ z ≤ 2 * ((cNet c).1.length : Int) := by
  have h0 := (cNet_ok h).1
  refine h0.ge ?_
  have h1 := h.used l hl
  rcases Int.lt_or_le 1 l with h2 | h2
  · exact .inr ⟨_, seq_all h (h.has l hl h2), by omega⟩
  · left; omega
theorem litI_range {c : CirT} (h : GoodC' c) {l : Int} (hl : l ∈ c.used) : 0 ≤ litI (cNet c).2 l ∧ litI (cNet c).2 l ≤ 2 * ((cNet c).1.length : Int) + 1 := by
  obtain ⟨z, h1, h2, h3, h4⟩ := net_lit h hl
  rw [litI_some h1]
  unfold xorI Lt.xor1
  split <;> (try split) <;> omega
theorem litV_ref {A : List Int} {V : List Bool} {l z : Int} (h1 : A[(l / 2).toNat]? = some z) (h2 : 0 ≤ z) : (ofL V z != decide (l % 2 = 1)) = ofL V (litI A l) := by
  rw [litI_some h1]
  unfold xorI
  by_cases h : l % 2 = 1
  · rw [if_pos h, ofL_xor1 _ h2, decide_eq_true h]; simp
  · rw [if_neg h, decide_eq_false h]; simp
theorem used_next {c : CirT} {x : T3} (h : x ∈ c.lat) : x.2.1 ∈ c.used := List.mem_append_left _ (List.mem_append_right _ (List.mem_map.2 ⟨x, h, rfl⟩))
theorem used_bad {c : CirT} {l : Int} (h : l ∈ c.bads) : l ∈ c.used := List.mem_append_left _ (List.mem_append_left _ (List.mem_append_left _ (List.mem_append_right _ h)))
theorem used_con {c : CirT} {l : Int} (h : l ∈ c.cons) : l ∈ c.used := List.mem_append_left _ (List.mem_append_left _ (List.mem_append_right _ h))
theorem net_len {c : CirT} (h : GoodC' c) (hz : SzC c 100000) : (cNet c).1.length ≤ 300000 := by
  rw [(cNet_ok h).1.len1]
  have h2 := (ordL_is c.gates).1.le
  obtain ⟨z1, z2, z3, z4, z5, z6⟩ := hz
  show (c.ins ++ c.lat.map (·.1) ++ (ordL c.gates).map (fun i => (gAt c.gates i).1)).length ≤ _
  simp; omega
end Go.Proofs.Ythpnahapiodflaa
namespace Go.Proofs.Ythpnahapiodflaa
open Go Go.Lt Go.RowKit
set_option linter.unusedVariables false
set_option linter.unusedSimpArgs false
set_option maxRecDepth 20000

/-- A machine in memory: the circuit, its net, and where its variables are. -/
structure MAt (w : World) (gm : Nat) (c : Circ) (rn : RowV (Int × Int)) (ra : RowV Int) : Prop where
  cells : Cells w gm 0 (c.vals ++ [rowVal rn, rowVal ra])
  cat : CAt w c
  net : Row 2 encN w rn.1 rn.2.2
  at_ : Row 1 encI w ra.1 ra.2.2
  en : rn.2.2 = (cNet c.t).1
  ea : ra.2.2 = (cNet c.t).2
  good : GoodC' c.t
  size : SzC c.t 100000
theorem MAt.ext {w w' : World} {gm : Nat} {c : Circ} {rn : RowV (Int × Int)} {ra : RowV Int} (h : MAt w gm c rn ra) (hx : Ext w w') : MAt w' gm c rn ra :=
  ⟨h.cells.ext hx, h.cat.ext hx, h.net.ext hx, h.at_.ext hx, h.en, h.ea, h.good, h.size⟩

theorem ref17_Brought (a : Option Addr) (cap : Nat) (l : List Bool) (m : Nat) (w : World) (R : Row 1 encB w a l) (hm : m ≤ 1048576) :
    Lt.Spec Try.prog 128 [.slice a l.length cap, .int .i64 (m : Nat)] w (IsFresh 1 encB 4 w (brV l m)) := by
  have hlen := R.len
  refine Spec.of _ Try.func128 rfl Try.ntmps128 (by kernel_rfl) rfl ?_
  repeat' (first
    | (apply WL.lit (len := 0) tOk; exact rfl; exact rfl; exact rfl; exact rfl; exact rfl; exact rfl; (first | exact rfl | kernel_rfl | (simp [Instr.fill, catCells]; done)); exact rfl; intro gb w' hb hge hc hx; have hO0 := Own.of_block0 (enc := encB) (s := 1) hb hge)
    | (show WL _ _ _ _ _ _ _; first | apply WL.nil | (refine WL.au (k := ?_)))
    | (show Z _ _ _ _ _; apply Z.then_normal)
    | (show W _ _ _ _ _ _; first | apply W.seq | apply W.region | apply W.block))
  refine W.loopO m (fun k d dp w' => k ≤ m ∧ Ext w w' ∧ Own 1 encB 4 w.heap.size w' d dp (brV l k)) (fun k d dp => [(0, .slice a l.length cap), (1, .int .i64 (m : Nat)), (5, .slice d (brV l k).length dp), (6, .int .i64 k)]) (some ⟨gb, 0, none⟩) 0 ⟨Nat.zero_le _, hx, hO0⟩ (fun k d dp w' h => h.1) ⟨rfl, rfl, rfl, rfl, trivial⟩ ?_
  rintro k d dp w' ⟨hk, hx', hO'⟩
  have hbl := brV_len l k
  have e1 := brV_succ l k
  by_cases hlt : k < m
  · by_cases hkl : k < l.length
    · obtain ⟨z, hz⟩ := getI l hkl
      rw [getD_of hz] at e1
      repeat' (first
        | (apply WL.gT; exact rfl; exact rfl; (focus (first | exact dec_true (by omega); done)))
        | (apply W.condKT; exact rfl; (focus (first | exact dec_true (by omega); done)))
        | (apply WL.lit tOk; exact rfl; exact rfl; exact rfl; exact rfl; exact rfl; exact rfl; (first | exact rfl | kernel_rfl | (simp [Instr.fill, catCells]; done)); exact rfl; intro gb w' hb hge hc hx)
        | (apply WL.append1 (z := (z)) tOk encB_ok; exact rfl; exact rfl; exact rfl; exact rfl; exact rfl; exact rfl; exact rfl; exact rfl; exact rfl; exact rfl; assumption; (exact extA); (first | exact rfl | (focus (simp only [List.length_set]; done)) | (focus (simp; done)) | (focus (simp [*]; done)) | omega | (focus (simp only [List.length_set]; omega))); assumption; exact rfl; exact rfl; (exact extA); (first | omega | (simp; omega) | (simp at *; omega)); intro a' cap' w' hO hX' hU hF)
        | (show WL _ _ _ _ _ _ _; first | apply WL.nil | (refine WL.au (k := ?_)) | (apply WL.index tOk; exact rfl; exact rfl; exact rfl; exact rfl; exact rfl; exact rfl; exact rfl; exact rfl; assumption; (exact extA); exact rfl; omega; assumption; intro b off h; have hcc := h; first | (obtain ⟨h1, h2, h3, h4, h5, h6, _⟩ := h) | (obtain ⟨h1, h2, h3, _⟩ := h) | (obtain ⟨h1, h2, _⟩ := h) | (obtain ⟨h1, _⟩ := h)))
        | (show Z _ _ _ _ _; first | apply Z.then_normal | apply Z.block_normal)
        | (show W _ _ _ _ _ _; first | apply W.seq | apply W.region | apply W.block | apply W.skip))
      exact Z.againO a' cap' ⟨by omega, hX', by rw [e1]; exact hO⟩ (by repeat' first | exact trivial | (refine And.intro ?_ ?_) | exact rfl | (rw [e1]; exact rfl))
    · rw [List.getD, List.getElem?_eq_none (by omega)] at e1
      have e1 : brV l (k + 1) = brV l k ++ [false] := e1
      repeat' (first
        | (apply WL.gF; exact rfl; exact rfl; (focus (first | exact dec_true (by omega) | exact dec_false (by omega); done)))
        | (apply W.condKT; exact rfl; (focus (first | exact dec_true (by omega) | exact dec_false (by omega); done)))
        | (apply WL.lit tOk; exact rfl; exact rfl; exact rfl; exact rfl; exact rfl; exact rfl; (first | exact rfl | kernel_rfl | (simp [Instr.fill, catCells]; done)); exact rfl; intro gb w' hb hge hc hx)
        | (apply WL.append1 (z := (false)) tOk encB_ok; exact rfl; exact rfl; exact rfl; exact rfl; exact rfl; exact rfl; exact rfl; exact rfl; exact rfl; exact rfl; assumption; (exact extA); (first | exact rfl | (focus (simp only [List.length_set]; done)) | (focus (simp; done)) | (focus (simp [*]; done)) | omega | (focus (simp only [List.length_set]; omega))); assumption; exact rfl; exact rfl; (exact extA); (first | omega | (simp; omega) | (simp at *; omega)); intro a' cap' w' hO hX' hU hF)
        | (show WL _ _ _ _ _ _ _; first | apply WL.nil | (refine WL.au (k := ?_)) | (apply WL.guardF; exact rfl; exact rfl))
        | (show Z _ _ _ _ _; first | apply Z.then_normal | apply Z.block_normal)
        | (show W _ _ _ _ _ _; first | apply W.seq | apply W.region | apply W.block | apply W.skip))
      exact Z.againO a' cap' ⟨by omega, hX', by rw [e1]; exact hO⟩ (by repeat' first | exact trivial | (refine And.intro ?_ ?_) | exact rfl | (rw [e1]; exact rfl))
  · obtain rfl : k = m := by omega
    repeat' (first
      | (apply W.condKF; exact rfl; (focus (exact dec_false (by omega); done)))
      | (show WL _ _ _ _ _ _ _; first | apply WL.nil | (refine WL.au (k := ?_)))
      | (show Z _ _ _ _ _; first | apply Z.then_normal | apply Z.then_exit | apply Z.block_exit)
      | (show W _ _ _ _ _ _; first | apply W.seq | apply W.region | apply W.ret | apply W.exit))
    exact Z.body1 Try.results128 rfl fun m => ⟨hx'.at m, d, dp, rfl, hO'⟩

set_option maxHeartbeats 4000000 in
theorem ref17_Lit (gm : Nat) (c : Circ) (rn : RowV (Int × Int)) (ra : RowV Int) (a b : Option Addr) (ca cb : Nat) (s i : List Bool) (l : Int) (w : World) (hM : MAt w gm c rn ra) (Rs : Row 1 encB w a s) (Ri : Row 1 encB w b i) (hl : l ∈ c.t.used) :
    Pure Try.prog 124 [.pointer (some ⟨gm, 0, none⟩), .slice a s.length ca, .slice b i.length cb, .int .i64 l] w (.bool (litV c.t s i l)) := by
  obtain ⟨hcells, hC, Rn, Ra, en, ea, hg, hz⟩ := hM
  have hcells0 := hcells
  obtain ⟨y0, y1, y2, y3, y4, y5, y6, y7, y8, y9, y10, _⟩ := hcells
  have hnl := Nat.le_trans (net_len hg hz) (show 300000 ≤ 1048576 by omega)
  have hng := (cNet_ok hg).2
  rw [← en] at hnl hng
  obtain ⟨z, z1, z2, z3, z4⟩ := net_lit hg hl
  have hlu := hg.used l hl
  have hmx := hg.max
  rw [← ea] at z1
  rw [← en] at z4
  have k1 : c.ins.2.2.length ≤ 100000 := hz.1
  have k2 : c.lat.2.2.length ≤ 100000 := hz.2.1
  have b1 := brV_len i c.ins.2.2.length
  have b2 := brV_len s c.lat.2.2.length
  have hvl := values_len' rn.2.2 (brV i c.ins.2.2.length ++ brV s c.lat.2.2.length)
  have ez : litV c.t s i l = (ofL (values rn.2.2 (brV i c.ins.2.2.length ++ brV s c.lat.2.2.length)) z != decide (l % 2 = 1)) := by
    rw [litV_ref z1 z2, en, ea]; rfl
  refine Spec.of _ Try.func124 rfl Try.ntmps124 (by kernel_rfl) rfl ?_
  repeat' (first
    | (apply FL.nilc; exact rfl; exact rfl; exact rfl)
    | (show W _ _ (.region 1 _ _) _ _ _; apply W.regionGX (.fl true 0 (.fl true 1 (.fl true 2 (.fl true 3 (.fl true 4 (.fl true 8 (.fl true 9 (.fl true 10 (.fl true 11 (.fl true 12 (.fl false 5 (.fl true 6 (.fl false 13 (.fl true 14 (.br 7 (.br 15 (.br 16 (.fl true 17 .done) .stop) .stop) .stop))))))))))))))) [7, 13, 14, 15, 16] tMix; kernel_rfl)
    | ((show WL _ _ _ (⟨_, .call ⟨.value (.func 128), _, _⟩, _, _, _, _⟩ :: _) _ _ _); apply WL.call; exact rfl; exact rfl; exact rfl; exact rfl; exact ref17_Brought _ _ i c.ins.2.2.length _ (Ri.ext (by (exact extA))) (by omega); rintro v' w' ⟨hx, a', cap', rfl, hO⟩; (obtain ⟨hO1, rfl⟩ : ∃ x, x = hO := ⟨_, rfl⟩; obtain ⟨a1, rfl⟩ : ∃ x, x = a' := ⟨_, rfl⟩; obtain ⟨c1, rfl⟩ : ∃ x, x = cap' := ⟨_, rfl⟩; obtain ⟨w1, rfl⟩ : ∃ x, x = w' := ⟨_, rfl⟩))
    | ((show WL _ _ _ (⟨_, .call ⟨.value (.func 128), _, _⟩, _, _, _, _⟩ :: _) _ _ _); apply WL.call; exact rfl; exact rfl; exact rfl; exact rfl; exact ref17_Brought _ _ s c.lat.2.2.length _ (Rs.ext (by (exact extA))) (by omega); rintro v' w' ⟨hx, a', cap', rfl, hO⟩; (obtain ⟨hO2, rfl⟩ : ∃ x, x = hO := ⟨_, rfl⟩; obtain ⟨a2, rfl⟩ : ∃ x, x = a' := ⟨_, rfl⟩; obtain ⟨c2, rfl⟩ : ∃ x, x = cap' := ⟨_, rfl⟩; have R2 := hO2.row encB_ok; have n2 := hO2.noneCap))
    | (apply WL.appendS tOk encB_ok; exact rfl; exact rfl; exact rfl; exact rfl; exact rfl; exact rfl; exact rfl; exact rfl; exact rfl; exact rfl; assumption; (exact extA); (first | exact rfl | (focus (simp only [List.length_set]; done)) | (focus (simp; done)) | (focus (simp [*]; done)) | omega | (focus (simp only [List.length_set]; omega))); assumption; (exact extA); (first | exact rfl | (focus (simp only [List.length_set]; done)) | (focus (simp; done)) | (focus (simp [*]; done)) | omega | (focus (simp only [List.length_set]; omega))); (first | assumption | (intro h; cases h) | exact Own.noneCap (by assumption)); exact rfl; (exact extA); (first | omega | (simp; omega) | (simp at *; omega)); intro a' cap' w' hO hX' hU hF)
    | (show SX _ _ _ _ _ _ _ _ _; first | (apply SX.done; intro w' hx) | (apply SX.fl0; exact rfl) | (apply SX.fl1; exact rfl; (exact extA)) | (apply SX.br1; exact rfl; intro w' hx))
    | (show FL _ _ _ _ _ _ _ _; first | apply FL.nilX | (apply FL.loadE tOk; exact rfl; exact rfl; exact rfl; exact rfl; exact rfl; assumption))
    | (show FL _ _ _ _ _ _ _ _; (refine FL.au (k := ?_)))
    | (show Z _ _ _ _ _; (apply Z.sxE; (exact extA)))
    | (show WL _ _ _ _ _ _ _; first | apply WL.nil | (refine WL.au (k := ?_)))
    | (show Z _ _ _ _ _; apply Z.then_normal)
    | (show W _ _ _ _ _ _; first | apply W.seq | apply W.region))
  obtain ⟨w5, rfl⟩ : ∃ x, x = w' := ⟨_, rfl⟩; obtain ⟨a5, rfl⟩ : ∃ x, x = a' := ⟨_, rfl⟩; obtain ⟨c5, rfl⟩ : ∃ x, x = cap' := ⟨_, rfl⟩
  have hX5 : Ext w w5 := (by (exact extA))
  have Rv := hO.row encB_ok
  have Ra5 := Ra.ext hX5
  clear y0 y1 y2 y3 y4 y5 y6 y7 y8 y9 y10
  have hcells := hcells0.ext hX5
  obtain ⟨y0, y1, y2, y3, y4, y5, y6, y7, y8, y9, y10, _⟩ := hcells
  repeat' (first
    | (apply FL.nilc; exact rfl; exact rfl; exact rfl)
    | (show W _ _ (.region 2 _ _) _ _ _; apply W.regionGX (.fl true 0 (.fl true 1 (.fl true 2 (.fl true 4 (.fl true 6 (.fl true 7 (.fl true 8 (.fl true 10 (.fl true 11 (.fl true 15 (.fl true 16 (.fl true 17 (.fl false 3 (.fl false 9 (.fl true 12 (.fl false 13 (.br 5 (.br 14 (.fl true 18 (.fl true 19 .done)) .stop) .stop))))))))))))))))) [5, 9, 12, 13, 14, 18] tMix; kernel_rfl)
    | ((show WL _ _ _ (⟨_, .call ⟨.value (.func 41), _, _⟩, _, _, _, _⟩ :: _) _ _ _); apply WL.call; exact rfl; exact rfl; exact rfl; exact rfl; exact ref07_Values _ _ _ _ rn.2.2 _ _ (Rn.ext (by (exact extA))) (Rv.ext (by (exact extA))) hng hnl; rintro v' w' ⟨hx, a', cap', rfl, hO⟩; (obtain ⟨hOv, rfl⟩ : ∃ x, x = hO := ⟨_, rfl⟩; obtain ⟨av, rfl⟩ : ∃ x, x = a' := ⟨_, rfl⟩; obtain ⟨cv, rfl⟩ : ∃ x, x = cap' := ⟨_, rfl⟩; have RV := hOv.row encB_ok))
    | ((show WL _ _ _ (⟨_, .call ⟨.value (.func 44), _, _⟩, _, _, _, _⟩ :: _) _ _ _); apply WL.callS; exact rfl; exact rfl; exact rfl; exact rfl; exact ref07_Of _ _ _ z _ (RV.ext (by (exact extA))) ⟨z2, by omega, by omega⟩)
    | (show SX _ _ _ _ _ _ _ _ _; first | (apply SX.done; intro w' hx) | (apply SX.fl0; exact rfl) | (apply SX.fl1; exact rfl; (exact extA)) | (apply SX.br1; exact rfl; intro w' hx))
    | (show FL _ _ _ _ _ _ _ _; first | apply FL.nilX | (apply FL.loadE tOk; exact rfl; exact rfl; exact rfl; exact rfl; exact rfl; assumption) | (apply FL.indexE tOk; exact rfl; exact rfl; exact rfl; exact rfl; exact rfl; exact rfl; exact rfl; exact rfl; assumption; exact rfl; omega; assumption; intro b off h; have hcc := h; first | (obtain ⟨h1, h2, h3, h4, h5, h6, _⟩ := h) | (obtain ⟨h1, h2, h3, _⟩ := h) | (obtain ⟨h1, h2, _⟩ := h) | (obtain ⟨h1, _⟩ := h)))
    | (show FL _ _ _ _ _ _ _ _; (refine FL.au (k := ?_)))
    | (show Z _ _ _ _ _; (apply Z.sxE; (exact extA)))
    | (show WL _ _ _ _ _ _ _; apply WL.nil)
    | (show Z _ _ _ _ _; apply Z.then_normal)
    | (show W _ _ _ _ _ _; apply W.ret))
  exact Z.body1 Try.results124 rfl fun m => ⟨by rw [ez]; exact congrArg Value.bool (by rw [dec_ne_dec]), Ext.at (by (exact extA)) m⟩

theorem ref17_Starts (gm : Nat) (c : Circ) (rn : RowV (Int × Int)) (ra : RowV Int) (a : Option Addr) (ca : Nat) (s : List Bool) (w : World) (hM : MAt w gm c rn ra) (Rs : Row 1 encB w a s) :
    Still Try.prog 65 [.pointer (some ⟨gm, 0, none⟩), .slice a s.length ca] w (.bool (dec (StartsP c.t s))) := by
  obtain ⟨hcells, hC, Rn, Ra, en, ea, hg, hz⟩ := hM
  obtain ⟨y0, y1, y2, _⟩ := hcells
  have k2 : c.lat.2.2.length ≤ 100000 := hz.2.1
  have Rl := hC.lat.row
  have hsl := Rs.len
  by_cases he : s.length = c.lat.2.2.length
  rotate_left
  · have e : dec (StartsP c.t s) = false := dec_false fun h => he h.1
    refine Spec.of _ Try.func65 rfl Try.ntmps65 (by kernel_rfl) rfl ?_
    repeat' (first
      | (apply WL.nilc; exact rfl; exact rfl; exact rfl)
      | (apply W.condKT; exact rfl; (focus (exact dec_true (by omega); done)))
      | (show WL _ _ _ _ _ _ _; first | apply WL.nil | (refine WL.au (k := ?_)))
      | (show Z _ _ _ _ _; first | apply Z.then_normal | apply Z.then_ret)
      | (show W _ _ _ _ _ _; first | apply W.seq | apply W.region | apply W.ret))
    exact Z.body1 Try.results65 rfl fun m => ⟨by rw [e], m, rfl⟩
  refine Spec.of _ Try.func65 rfl Try.ntmps65 (by kernel_rfl) rfl ?_
  repeat' (first
    | (apply WL.nilc; exact rfl; exact rfl; exact rfl)
    | (apply W.condKF; exact rfl; (focus (exact dec_false (by omega); done)))
    | (show WL _ _ _ _ _ _ _; first | apply WL.nil | (refine WL.au (k := ?_)))
    | (show Z _ _ _ _ _; apply Z.then_normal)
    | (show W _ _ _ _ _ _; first | apply W.seq | apply W.region | apply W.block | apply W.skip))
  refine W.loop1 s.length (fun k => k ≤ s.length ∧ ∀ (j : Nat) x b, j < k → c.lat.2.2[j]? = some x → s[j]? = some b → ¬ (x.2.2 = 0 ∧ b = true) ∧ ¬ (x.2.2 = 1 ∧ b = false)) (fun k => [(0, .pointer (some ⟨gm, 0, none⟩)), (1, .slice a s.length ca), (5, .int .i64 k)]) ⟨Nat.zero_le _, fun j x b h => by omega⟩ (fun k h => h.1) ⟨rfl, rfl, rfl, trivial⟩ ?_
  rintro k ⟨hk, hall⟩
  by_cases hlt : k < s.length
  · obtain ⟨b, hb⟩ := getI s hlt
    obtain ⟨x, hx⟩ := getI c.lat.2.2 (show k < c.lat.2.2.length by omega)
    have hstep : (¬ (x.2.2 = 0 ∧ b = true) ∧ ¬ (x.2.2 = 1 ∧ b = false)) → ∀ (j : Nat) x b, j < k + 1 → c.lat.2.2[j]? = some x → s[j]? = some b → ¬ (x.2.2 = 0 ∧ b = true) ∧ ¬ (x.2.2 = 1 ∧ b = false) := by
      intro h j y d hj h1 h2
      by_cases hjk : j = k
      · subst hjk; rw [hx] at h1; rw [hb] at h2; cases h1; cases h2; exact h
      · exact hall j y d (by omega) h1 h2
    by_cases h0 : x.2.2 = 0
    · cases b
      · repeat' (first
          | (apply WL.nilc; exact rfl; exact rfl; exact rfl)
          | (apply WL.gT; exact rfl; exact rfl; (focus (first | exact dec_true (by omega) | exact dec_false (by omega); done)))
          | (apply WL.gF; exact rfl; exact rfl; (focus (first | exact dec_true (by omega) | exact dec_false (by omega); done)))
          | (apply W.condKT; exact rfl; (focus (first | exact dec_true (by omega) | exact dec_false (by omega); done)))
          | (show WL _ _ _ _ _ _ _; first | apply WL.nil | (refine WL.au (k := ?_)) | (apply WL.index tOk; exact rfl; exact rfl; exact rfl; exact rfl; exact rfl; exact rfl; exact rfl; exact rfl; assumption; (exact extA); exact rfl; omega; assumption; intro b off h; have hcc := h; first | (obtain ⟨h1, h2, h3, h4, h5, h6, _⟩ := h) | (obtain ⟨h1, h2, h3, _⟩ := h) | (obtain ⟨h1, h2, _⟩ := h) | (obtain ⟨h1, _⟩ := h)) | (apply WL.guardF; exact rfl; exact rfl))
          | (show Z _ _ _ _ _; first | apply Z.then_normal | apply Z.block_normal)
          | (show W _ _ _ _ _ _; first | apply W.seq | apply W.region | apply W.block | apply W.skip | (apply W.condF; exact rfl)))
        exact Z.again1 ⟨by omega, hstep ⟨by simp, by omega⟩⟩ ⟨rfl, rfl, rfl, trivial⟩
      · have e : dec (StartsP c.t s) = false := dec_false fun h => (h.2 k x true hx hb).1 ⟨h0, rfl⟩
        repeat' (first
          | (apply WL.nilc; exact rfl; exact rfl; exact rfl)
          | (apply WL.gT; exact rfl; exact rfl; (focus (first | exact dec_true (by omega) | exact dec_false (by omega); done)))
          | (apply W.condKT; exact rfl; (focus (first | exact dec_true (by omega) | exact dec_false (by omega); done)))
          | (show WL _ _ _ _ _ _ _; first | apply WL.nil | (refine WL.au (k := ?_)) | (apply WL.index tOk; exact rfl; exact rfl; exact rfl; exact rfl; exact rfl; exact rfl; exact rfl; exact rfl; assumption; (exact extA); exact rfl; omega; assumption; intro b off h; have hcc := h; first | (obtain ⟨h1, h2, h3, h4, h5, h6, _⟩ := h) | (obtain ⟨h1, h2, h3, _⟩ := h) | (obtain ⟨h1, h2, _⟩ := h) | (obtain ⟨h1, _⟩ := h)) | (apply WL.guardF; exact rfl; exact rfl))
          | (show Z _ _ _ _ _; first | apply Z.then_normal | apply Z.then_ret | apply Z.block_ret)
          | (show W _ _ _ _ _ _; first | apply W.seq | apply W.region | apply W.block | apply W.skip | apply W.ret | (apply W.condT; exact rfl)))
        exact Z.body1 Try.results65 rfl fun m => ⟨by rw [e], m, rfl⟩
    · by_cases h1 : x.2.2 = 1
      · cases b
        · have e : dec (StartsP c.t s) = false := dec_false fun h => (h.2 k x false hx hb).2 ⟨h1, rfl⟩
          repeat' (first
            | (apply WL.nilc; exact rfl; exact rfl; exact rfl)
            | (apply WL.gT; exact rfl; exact rfl; (focus (first | exact dec_true (by omega) | exact dec_false (by omega); done)))
            | (apply WL.gF; exact rfl; exact rfl; (focus (first | exact dec_true (by omega) | exact dec_false (by omega); done)))
            | (apply W.condKT; exact rfl; (focus (first | exact dec_true (by omega) | exact dec_false (by omega); done)))
            | (show WL _ _ _ _ _ _ _; first | apply WL.nil | (refine WL.au (k := ?_)) | (apply WL.index tOk; exact rfl; exact rfl; exact rfl; exact rfl; exact rfl; exact rfl; exact rfl; exact rfl; assumption; (exact extA); exact rfl; omega; assumption; intro b off h; have hcc := h; first | (obtain ⟨h1, h2, h3, h4, h5, h6, _⟩ := h) | (obtain ⟨h1, h2, h3, _⟩ := h) | (obtain ⟨h1, h2, _⟩ := h) | (obtain ⟨h1, _⟩ := h)) | (apply WL.guardF; exact rfl; exact rfl))
            | (show Z _ _ _ _ _; first | apply Z.then_normal | apply Z.then_ret | apply Z.block_ret)
            | (show W _ _ _ _ _ _; first | apply W.seq | apply W.region | apply W.block | apply W.skip | apply W.ret | (apply W.condT; exact rfl)))
          exact Z.body1 Try.results65 rfl fun m => ⟨by rw [e], m, rfl⟩
        · repeat' (first
            | (apply WL.nilc; exact rfl; exact rfl; exact rfl)
            | (apply WL.gT; exact rfl; exact rfl; (focus (first | exact dec_true (by omega) | exact dec_false (by omega); done)))
            | (apply WL.gF; exact rfl; exact rfl; (focus (first | exact dec_true (by omega) | exact dec_false (by omega); done)))
            | (apply W.condKT; exact rfl; (focus (first | exact dec_true (by omega) | exact dec_false (by omega); done)))
            | (show WL _ _ _ _ _ _ _; first | apply WL.nil | (refine WL.au (k := ?_)) | (apply WL.index tOk; exact rfl; exact rfl; exact rfl; exact rfl; exact rfl; exact rfl; exact rfl; exact rfl; assumption; (exact extA); exact rfl; omega; assumption; intro b off h; have hcc := h; first | (obtain ⟨h1, h2, h3, h4, h5, h6, _⟩ := h) | (obtain ⟨h1, h2, h3, _⟩ := h) | (obtain ⟨h1, h2, _⟩ := h) | (obtain ⟨h1, _⟩ := h)) | (apply WL.guardF; exact rfl; exact rfl))
            | (show Z _ _ _ _ _; first | apply Z.then_normal | apply Z.block_normal)
            | (show W _ _ _ _ _ _; first | apply W.seq | apply W.region | apply W.block | apply W.skip | (apply W.condF; exact rfl)))
          exact Z.again1 ⟨by omega, hstep ⟨by omega, by simp⟩⟩ ⟨rfl, rfl, rfl, trivial⟩
      · repeat' (first
          | (apply WL.nilc; exact rfl; exact rfl; exact rfl)
          | (apply WL.gF; exact rfl; exact rfl; (focus (first | exact dec_true (by omega) | exact dec_false (by omega); done)))
          | (apply W.condKT; exact rfl; (focus (first | exact dec_true (by omega) | exact dec_false (by omega); done)))
          | (show WL _ _ _ _ _ _ _; first | apply WL.nil | (refine WL.au (k := ?_)) | (apply WL.index tOk; exact rfl; exact rfl; exact rfl; exact rfl; exact rfl; exact rfl; exact rfl; exact rfl; assumption; (exact extA); exact rfl; omega; assumption; intro b off h; have hcc := h; first | (obtain ⟨h1, h2, h3, h4, h5, h6, _⟩ := h) | (obtain ⟨h1, h2, h3, _⟩ := h) | (obtain ⟨h1, h2, _⟩ := h) | (obtain ⟨h1, _⟩ := h)) | (apply WL.guardF; exact rfl; exact rfl))
          | (show Z _ _ _ _ _; first | apply Z.then_normal | apply Z.block_normal)
          | (show W _ _ _ _ _ _; first | apply W.seq | apply W.region | apply W.block | apply W.skip | (apply W.condF; exact rfl)))
        exact Z.again1 ⟨by omega, hstep ⟨by omega, by omega⟩⟩ ⟨rfl, rfl, rfl, trivial⟩
  · obtain rfl : k = s.length := by omega
    have e : dec (StartsP c.t s) = true := dec_true ⟨he, fun j x b h1 h2 => hall j x b (lt_of_get h2) h1 h2⟩
    repeat' (first
      | (apply W.condKF; exact rfl; (focus (exact dec_false (by omega); done)))
      | (show WL _ _ _ _ _ _ _; first | apply WL.nil | (refine WL.au (k := ?_)))
      | (show Z _ _ _ _ _; first | apply Z.then_normal | apply Z.then_exit | apply Z.block_exit)
      | (show W _ _ _ _ _ _; first | apply W.seq | apply W.region | apply W.ret | apply W.exit))
    exact Z.body1 Try.results65 rfl fun m => ⟨by rw [e], m, rfl⟩

theorem nextT_succ {c : CirT} {s i : List Bool} {k : Nat} {x : T3} (h : c.lat[k]? = some x) : (c.lat.take (k + 1)).map (fun x => litV c s i x.2.1) = (c.lat.take k).map (fun x => litV c s i x.2.1) ++ [litV c s i x.2.1] := by
  rw [take_succ' h, List.map_append]; rfl
set_option maxHeartbeats 1000000 in
theorem ref17_Next (gm : Nat) (c : Circ) (rn : RowV (Int × Int)) (ra : RowV Int) (a b : Option Addr) (ca cb : Nat) (s i : List Bool) (w : World) (hM : MAt w gm c rn ra) (Rs : Row 1 encB w a s) (Ri : Row 1 encB w b i) :
    Lt.Spec Try.prog 68 [.pointer (some ⟨gm, 0, none⟩), .slice a s.length ca, .slice b i.length cb] w (IsFresh 1 encB 4 w (nextV c.t s i)) := by
  have hM' := hM
  obtain ⟨hcells, hC, Rn, Ra, en, ea, hg, hz⟩ := hM
  have k2 : c.lat.2.2.length ≤ 100000 := hz.2.1
  have Rl := hC.lat.row
  refine Spec.of _ Try.func68 rfl Try.ntmps68 (by kernel_rfl) rfl ?_
  repeat' (first
    | (apply WL.lit (len := 0) tOk; exact rfl; exact rfl; exact rfl; exact rfl; exact rfl; exact rfl; (first | exact rfl | kernel_rfl | (simp [Instr.fill, catCells]; done)); exact rfl; intro gb w' hb hge hc hx; have hO0 := Own.of_block0 (enc := encB) (s := 1) hb hge)
    | (show WL _ _ _ _ _ _ _; first | apply WL.nil | (refine WL.au (k := ?_)))
    | (show Z _ _ _ _ _; apply Z.then_normal)
    | (show W _ _ _ _ _ _; first | apply W.seq | apply W.region | apply W.block))
  refine W.loopO c.lat.2.2.length (fun k d dp w' => k ≤ c.lat.2.2.length ∧ Ext w w' ∧ Own 1 encB 4 w.heap.size w' d dp ((c.t.lat.take k).map (fun x => litV c.t s i x.2.1)))
    (fun k d dp => [(0, .pointer (some ⟨gm, 0, none⟩)), (1, .slice a s.length ca), (2, .slice b i.length cb), (7, .slice d ((c.t.lat.take k).map (fun x => litV c.t s i x.2.1)).length dp), (8, .int .i64 k)]) (some ⟨gb, 0, none⟩) 0 ⟨Nat.zero_le _, hx, hO0⟩ (fun k d dp w' h => h.1) ⟨rfl, rfl, rfl, rfl, rfl, trivial⟩ ?_
  rintro k d dp w1 ⟨hk, hx1, hO'⟩
  have hl : ((c.t.lat.take k).map (fun x => litV c.t s i x.2.1)).length = k := by rw [List.length_map, List.length_take]; exact Nat.min_eq_left hk
  have hc1 := hcells.ext hx1
  obtain ⟨y0, y1, y2, _⟩ := hc1
  have Rl1 := Rl.ext hx1
  by_cases hlt : k < c.lat.2.2.length
  · obtain ⟨x, hxx⟩ := getI c.lat.2.2 hlt
    have hu : x.2.1 ∈ c.t.used := used_next (List.mem_of_getElem? hxx)
    have e1 := nextT_succ (c := c.t) (s := s) (i := i) hxx
    repeat' (first
      | (apply WL.nilc; exact rfl; exact rfl; exact rfl)
      | (apply W.condKT; exact rfl; (focus (exact dec_true (by omega); done)))
      | ((show WL _ _ _ (⟨_, .call ⟨.value (.func 124), _, _⟩, _, _, _, _⟩ :: _) _ _ _); apply WL.callP; exact rfl; exact rfl; exact rfl; exact rfl; exact ref17_Lit gm c rn ra _ _ _ _ s i x.2.1 _ (hM'.ext (by (exact extA))) (Rs.ext (by (exact extA))) (Ri.ext (by (exact extA))) hu; intro w' hx)
      | (apply WL.lit tOk; exact rfl; exact rfl; exact rfl; exact rfl; exact rfl; exact rfl; (first | exact rfl | kernel_rfl | (simp [Instr.fill, catCells]; done)); exact rfl; intro gb w' hb hge hc hx)
      | (apply WL.append1 (z := (litV c.t s i x.2.1)) tOk encB_ok; exact rfl; exact rfl; exact rfl; exact rfl; exact rfl; exact rfl; exact rfl; exact rfl; exact rfl; exact rfl; assumption; (exact extA); (first | exact rfl | (focus (simp only [List.length_set]; done)) | (focus (simp; done)) | (focus (simp [*]; done)) | omega | (focus (simp only [List.length_set]; omega))); assumption; exact rfl; exact rfl; (exact extA); (first | omega | (simp; omega) | (simp at *; omega)); intro a' cap' w' hO hX' hU hF)
      | (show WL _ _ _ _ _ _ _; first | apply WL.nil | (refine WL.au (k := ?_)) | (apply WL.index tOk; exact rfl; exact rfl; exact rfl; exact rfl; exact rfl; exact rfl; exact rfl; exact rfl; assumption; (exact extA); exact rfl; omega; assumption; intro b off h; have hcc := h; first | (obtain ⟨h1, h2, h3, h4, h5, h6, _⟩ := h) | (obtain ⟨h1, h2, h3, _⟩ := h) | (obtain ⟨h1, h2, _⟩ := h) | (obtain ⟨h1, _⟩ := h)))
      | (show Z _ _ _ _ _; first | apply Z.then_normal | apply Z.block_normal)
      | (show W _ _ _ _ _ _; first | apply W.seq | apply W.region | apply W.block | apply W.skip))
    exact Z.againO a' cap' ⟨by omega, hX', by rw [e1]; exact hO⟩ (by repeat' first | exact trivial | (refine And.intro ?_ ?_) | exact rfl | (rw [e1]; exact rfl))
  · obtain rfl : k = c.lat.2.2.length := by omega
    have e9 : (c.t.lat.take c.lat.2.2.length).map (fun x => litV c.t s i x.2.1) = nextV c.t s i := by rw [List.take_of_length_le (Nat.le_refl _)]; rfl
    repeat' (first
      | (apply WL.nilc; exact rfl; exact rfl; exact rfl)
      | (apply W.condKF; exact rfl; (focus (exact dec_false (by omega); done)))
      | (show WL _ _ _ _ _ _ _; first | apply WL.nil | (refine WL.au (k := ?_)))
      | (show Z _ _ _ _ _; first | apply Z.then_normal | apply Z.then_exit | apply Z.block_exit)
      | (show W _ _ _ _ _ _; first | apply W.seq | apply W.region | apply W.ret | apply W.exit))
    rw [e9] at hO'
    exact Z.body1 Try.results68 rfl fun m => ⟨hx1.at m, d, dp, by rw [e9], hO'⟩
end Go.Proofs.Ythpnahapiodflaa
namespace Go.Lt
open Go.RowKit
set_option linter.unusedVariables false

theorem OwnRR.nil {α : Type} {s : Nat} {enc : α → List Value} {el elO B : Nat} {w : World} {a : Option Addr} {cap : Nat} (h : Own 1 encRow elO B w a cap ([] : List (RowV α))) : OwnRR s enc el elO B w a cap [] :=
  ⟨h, fun i r hr => by simp at hr, fun i r hr => by simp at hr, fun i j r q hr => by simp at hr⟩
/-- Rows told, and one more that is not put behind yet. -/
structure RR1 {α : Type} (s : Nat) (enc : α → List Value) (el elO B : Nat) (w : World) (a : Option Addr) (cap : Nat) (rs : List (RowV α)) (b : Option Addr) (dp : Nat) (S : List α) : Prop where
  rr : OwnRR s enc el elO B w a cap rs
  own : Own s enc el B w b dp S
  apartO : blk b = none ∨ blk b ≠ blk a
  apart : ∀ (i : Nat) (q : RowV α), rs[i]? = some q → blk q.1 = none ∨ blk q.1 ≠ blk b
section
variable {α : Type} {s : Nat} {enc : α → List Value} {el elO B : Nat} {w w1 w2 w3 : World} {a a' b : Option Addr} {cap cap' dp : Nat} {rs : List (RowV α)} {S : List α}
theorem RR1.ext (h : RR1 s enc el elO B w a cap rs b dp S) (hx : Ext w w1) : RR1 s enc el elO B w1 a cap rs b dp S := ⟨h.rr.ext hx, h.own.ext hx, h.apartO, h.apart⟩
theorem RR1.new (h : OwnRR s enc el elO B w1 a cap rs) (hx : Ext w1 w2) (hO : Own s enc el w1.heap.size w2 b dp S) (hB : B ≤ w1.heap.size) : RR1 s enc el elO B w2 a cap rs b dp S := by
  refine ⟨h.ext hx, hO.base hB, ?_, fun i q hq => ?_⟩
  · cases hb : blk b with
    | none => exact .inl rfl
    | some k =>
      refine .inr fun he => ?_
      have h1 := (hO.blk_lt k hb).1
      have h2 := (h.outer.blk_lt k he.symm).2
      omega
  · cases hb : blk q.1 with
    | none => exact .inl rfl
    | some k =>
      refine .inr fun he => ?_
      have h1 := ((h.inner i q hq).blk_lt k hb).2
      have h2 := (hO.blk_lt k he.symm).1
      omega
theorem RR1.first {g c0 : Nat} (hO : Own s enc el B w b dp S) (h : Own 1 encRow elO B w (some ⟨g, 0, none⟩) c0 ([] : List (RowV α))) (hg : ∀ k, blk b = some k → k ≠ g) : RR1 s enc el elO B w (some ⟨g, 0, none⟩) c0 [] b dp S := by
  refine ⟨OwnRR.nil h, hO, ?_, fun i q hq => by simp at hq⟩
  cases hb : blk b with
  | none => exact .inl rfl
  | some k =>
    refine .inr fun he => hg k hb ?_
    simp only [blk, Option.map_some, Option.some.injEq] at he; exact he
theorem RR1.push (h : RR1 s enc el elO B w2 a cap rs b dp S) (hU : Upd B a w2 w3) (hO : Own 1 encRow elO B w3 a' cap' (rs ++ [(b, dp, S)])) (hF : blk a' = blk a ∨ ∃ k, blk a' = some k ∧ w2.heap.size ≤ k) : OwnRR s enc el elO B w3 a' cap' (rs ++ [(b, dp, S)]) := by
  obtain ⟨hr, ho, hA, hI⟩ := h
  have get : ∀ (i : Nat) (q : RowV α), (rs ++ [(b, dp, S)])[i]? = some q → (i < rs.length ∧ rs[i]? = some q) ∨ (i = rs.length ∧ q = (b, dp, S)) := fun i q hq => by
    by_cases hi : i < rs.length
    · rw [List.getElem?_append_left hi] at hq; exact .inl ⟨hi, hq⟩
    · rw [List.getElem?_append_right (by omega)] at hq
      have h0 := lt_of_get hq
      simp at h0
      have h1 : i - rs.length = 0 := by omega
      rw [h1] at hq
      simp at hq
      exact .inr ⟨by omega, hq.symm⟩
  have lt2 : ∀ (i : Nat) (q : RowV α) (k : Nat), (rs ++ [(b, dp, S)])[i]? = some q → blk q.1 = some k → k < w2.heap.size := fun i q k hq hk => by
    rcases get i q hq with ⟨_, hq⟩ | ⟨_, rfl⟩
    · exact ((hr.inner i q hq).blk_lt k hk).2
    · exact (ho.blk_lt k hk).2
  have apA : ∀ (i : Nat) (q : RowV α), (rs ++ [(b, dp, S)])[i]? = some q → blk q.1 = none ∨ blk q.1 ≠ blk a := fun i q hq => by
    rcases get i q hq with ⟨_, hq⟩ | ⟨_, rfl⟩
    · exact hr.apartO i q hq
    · exact hA
  refine ⟨hO, fun i q hq => ?_, fun i q hq => ?_, fun i j q p h1 h2 hne => ?_⟩
  · rcases get i q hq with ⟨_, hq'⟩ | ⟨_, rfl⟩
    · exact hU.own (hr.inner i q hq') (hr.apartO i q hq')
    · exact hU.own ho hA
  · rcases hF with hF | ⟨k, hk, hle⟩
    · rw [hF]; exact apA i q hq
    · cases hb : blk q.1 with
      | none => exact .inl rfl
      | some b =>
        refine .inr fun he => ?_
        have := lt2 i q b hq hb
        rw [hk] at he
        have := Option.some.inj he
        omega
  · rcases get i q h1 with ⟨_, h1'⟩ | ⟨rfl, rfl⟩
    · rcases get j p h2 with ⟨_, h2'⟩ | ⟨rfl, rfl⟩
      · exact hr.apart i j q p h1' h2' hne
      · exact hI i q h1'
    · rcases get j p h2 with ⟨_, h2'⟩ | ⟨rfl, rfl⟩
      · show blk b = none ∨ blk b ≠ blk p.1
        cases hb : blk b with
        | none => exact .inl rfl
        | some k =>
          refine .inr fun he => ?_
          rcases hI j p h2' with h3 | h3
          · rw [h3] at he; cases he
          · exact h3 (by rw [hb]; exact he.symm)
      · exact absurd rfl hne
end
theorem OwnRR.base {α : Type} {s : Nat} {enc : α → List Value} {el elO B C : Nat} {w : World} {a : Option Addr} {cap : Nat} {rs : List (RowV α)} (h : OwnRR s enc el elO C w a cap rs) (hB : B ≤ C) : OwnRR s enc el elO B w a cap rs := ⟨h.outer.base hB, fun i r hr => (h.inner i r hr).base hB, h.apartO, h.apart⟩
theorem OwnRR.row {α : Type} {s : Nat} {enc : α → List Value} {el elO B : Nat} {w : World} {a : Option Addr} {cap : Nat} {rs : List (RowV α)} (h : OwnRR s enc el elO B w a cap rs) (hE : Enc s enc) {i : Nat} {r : RowV α} (hr : rs[i]? = some r) : Row s enc w r.1 r.2.2 := (h.inner i r hr).row hE
theorem OwnRR.at {α : Type} {s : Nat} {enc : α → List Value} {el elO B : Nat} {w : World} {a : Option Addr} {cap : Nat} {rs : List (RowV α)} (h : OwnRR s enc el elO B w a cap rs) (m : Nat) : OwnRR s enc el elO B (at' w m) a cap rs := h.ext ((Ext.refl w).at m)
end Go.Lt
namespace Go.Proofs.Ythpnahapiodflaa
open Go Go.Lt Go.RowKit
set_option linter.unusedVariables false
set_option linter.unusedSimpArgs false
set_option maxRecDepth 20000

set_option maxHeartbeats 1000000 in
theorem ref17_Bad (gm : Nat) (c : Circ) (rn : RowV (Int × Int)) (ra : RowV Int) (a b : Option Addr) (ca cb : Nat) (s i : List Bool) (p : Int) (w : World) (hM : MAt w gm c rn ra) (Rs : Row 1 encB w a s) (Ri : Row 1 encB w b i) :
    Pure Try.prog 70 [.pointer (some ⟨gm, 0, none⟩), .slice a s.length ca, .slice b i.length cb, .int .i64 p] w (.bool (dec (BadP c.t s i p))) := by
  have hM' := hM
  obtain ⟨hcells, hC, Rn, Ra, en, ea, hg, hz⟩ := hM
  obtain ⟨y0, y1, y2, y3, y4, _⟩ := hcells
  have Rb := hC.bads.row
  have hbl := Rb.len
  by_cases q1 : 0 ≤ p
  · by_cases q2 : p < c.bads.2.2.length
    · obtain ⟨l, hl⟩ := getI c.bads.2.2 (show p.toNat < c.bads.2.2.length by omega)
      have e : dec (BadP c.t s i p) = litV c.t s i l := by
        cases hv : litV c.t s i l
        · refine dec_false fun h => ?_
          obtain ⟨_, l', h1, h2⟩ := h
          have : c.bads.2.2[p.toNat]? = some l' := h1
          rw [hl] at this; cases this
          rw [hv] at h2; cases h2
        · exact dec_true ⟨q1, l, hl, hv⟩
      refine Spec.of _ Try.func70 rfl Try.ntmps70 (by kernel_rfl) rfl ?_
      repeat' (first
        | (apply WL.nilc; exact rfl; exact rfl; exact rfl)
        | (apply WL.gT; exact rfl; exact rfl; (focus (first | exact dec_true q1 | exact dec_true q2; done)))
        | ((show WL _ _ _ (⟨_, .call ⟨.value (.func 124), _, _⟩, _, _, _, _⟩ :: _) _ _ _); apply WL.callP; exact rfl; exact rfl; exact rfl; exact rfl; exact ref17_Lit gm c rn ra _ _ _ _ s i l _ (hM'.ext (by (exact extA))) (Rs.ext (by (exact extA))) (Ri.ext (by (exact extA))) (used_bad (List.mem_of_getElem? hl)); intro w' hx)
        | (show WL _ _ _ _ _ _ _; first | apply WL.nil | (refine WL.au (k := ?_)) | (apply WL.index tOk; exact rfl; exact rfl; exact rfl; exact rfl; exact rfl; exact rfl; exact rfl; exact rfl; assumption; (exact extA); exact rfl; omega; assumption; intro b off h; have hcc := h; first | (obtain ⟨h1, h2, h3, h4, h5, h6, _⟩ := h) | (obtain ⟨h1, h2, h3, _⟩ := h) | (obtain ⟨h1, h2, _⟩ := h) | (obtain ⟨h1, _⟩ := h)))
        | (show Z _ _ _ _ _; apply Z.then_normal)
        | (show W _ _ _ _ _ _; first | apply W.seq | apply W.region | apply W.ret))
      exact Z.body1 Try.results70 rfl fun m => ⟨by rw [e], Ext.at (by (exact extA)) m⟩
    · have e : dec (BadP c.t s i p) = false := dec_false fun h => by
        obtain ⟨_, l', h1, h2⟩ := h
        have := lt_of_get h1
        have : p.toNat < c.bads.2.2.length := this
        omega
      refine Spec.of _ Try.func70 rfl Try.ntmps70 (by kernel_rfl) rfl ?_
      repeat' (first
        | (apply WL.nilc; exact rfl; exact rfl; exact rfl)
        | (apply WL.gT; exact rfl; exact rfl; (focus (first | exact dec_true q1 | exact dec_false q2; done)))
        | (apply WL.gF; exact rfl; exact rfl; (focus (first | exact dec_true q1 | exact dec_false q2; done)))
        | (show WL _ _ _ _ _ _ _; first | apply WL.nil | (refine WL.au (k := ?_)) | (apply WL.guardF; exact rfl; exact rfl))
        | (show Z _ _ _ _ _; apply Z.then_normal)
        | (show W _ _ _ _ _ _; first | apply W.seq | apply W.region | apply W.ret))
      exact Z.body1 Try.results70 rfl fun m => ⟨by rw [e], Ext.at (by (exact extA)) m⟩
  · have e : dec (BadP c.t s i p) = false := dec_false fun h => q1 h.1
    refine Spec.of _ Try.func70 rfl Try.ntmps70 (by kernel_rfl) rfl ?_
    repeat' (first
      | (apply WL.gF; exact rfl; exact rfl; (focus (exact dec_false q1; done)))
      | (show WL _ _ _ _ _ _ _; first | apply WL.nil | (refine WL.au (k := ?_)) | (apply WL.guardF; exact rfl; exact rfl))
      | (show Z _ _ _ _ _; apply Z.then_normal)
      | (show W _ _ _ _ _ _; first | apply W.seq | apply W.region | apply W.ret))
    exact Z.body1 Try.results70 rfl fun m => ⟨by rw [e], Ext.at (by (exact extA)) m⟩

set_option maxHeartbeats 1000000 in
theorem ref17_Holds (gm : Nat) (c : Circ) (rn : RowV (Int × Int)) (ra : RowV Int) (a b : Option Addr) (ca cb : Nat) (s i : List Bool) (w : World) (hM : MAt w gm c rn ra) (Rs : Row 1 encB w a s) (Ri : Row 1 encB w b i) :
    Pure Try.prog 72 [.pointer (some ⟨gm, 0, none⟩), .slice a s.length ca, .slice b i.length cb] w (.bool (dec (HoldsP c.t s i))) := by
  have hM' := hM
  obtain ⟨hcells, hC, Rn, Ra, en, ea, hg, hz⟩ := hM
  have Rc := hC.cons.row
  have hbl := Rc.len
  refine Spec.of _ Try.func72 rfl Try.ntmps72 (by kernel_rfl) rfl ?_
  repeat' (first
    | (show WL _ _ _ _ _ _ _; first | apply WL.nil | (refine WL.au (k := ?_)))
    | (show Z _ _ _ _ _; apply Z.then_normal)
    | (show W _ _ _ _ _ _; first | apply W.seq | apply W.region | apply W.block))
  refine W.loopW c.cons.2.2.length (fun k w' => k ≤ c.cons.2.2.length ∧ Ext w w' ∧ ∀ (j : Nat) l, j < k → c.cons.2.2[j]? = some l → litV c.t s i l = true) (fun k => [(0, .pointer (some ⟨gm, 0, none⟩)), (1, .slice a s.length ca), (2, .slice b i.length cb), (7, .int .i64 k)]) ⟨Nat.zero_le _, Ext.refl _, fun j l h => by omega⟩ (fun k w' h => h.1) ⟨rfl, rfl, rfl, rfl, trivial⟩ ?_
  rintro k w1 ⟨hk, hx1, hall⟩
  have hc1 := hcells.ext hx1
  obtain ⟨y0, y1, y2, y3, y4, y5, _⟩ := hc1
  have Rc1 := Rc.ext hx1
  by_cases hlt : k < c.cons.2.2.length
  · obtain ⟨l, hl⟩ := getI c.cons.2.2 hlt
    have hu : l ∈ c.t.used := used_con (List.mem_of_getElem? hl)
    have hr := fun (w9 : World) (h9 : Ext w w9) => ref17_Lit gm c rn ra a b ca cb s i l w9 (hM'.ext h9) (Rs.ext h9) (Ri.ext h9) hu
    cases hv : litV c.t s i l <;> rw [hv] at hr
    · have e : dec (HoldsP c.t s i) = false := dec_false fun h => by have := h l (List.mem_of_getElem? hl); rw [hv] at this; cases this
      repeat' (first
        | (apply WL.nilc; exact rfl; exact rfl; exact rfl)
        | (apply W.condKT; exact rfl; (focus (first | exact dec_true (by omega); done)))
        | (((show WL _ _ _ (⟨_, .call ⟨.value (.func 124), _, _⟩, _, _, _, _⟩ :: _) _ _ _); apply WL.callP; exact rfl; exact rfl; exact rfl; exact rfl; exact hr _ (by (exact extA)); intro w' hx))
        | (show WL _ _ _ _ _ _ _; first | apply WL.nil | (refine WL.au (k := ?_)) | (apply WL.index tOk; exact rfl; exact rfl; exact rfl; exact rfl; exact rfl; exact rfl; exact rfl; exact rfl; assumption; (exact extA); exact rfl; omega; assumption; intro b off h; have hcc := h; first | (obtain ⟨h1, h2, h3, h4, h5, h6, _⟩ := h) | (obtain ⟨h1, h2, h3, _⟩ := h) | (obtain ⟨h1, h2, _⟩ := h) | (obtain ⟨h1, _⟩ := h)))
        | (show Z _ _ _ _ _; first | apply Z.then_normal | apply Z.then_ret | apply Z.block_ret)
        | (show W _ _ _ _ _ _; first | apply W.seq | apply W.region | apply W.block | apply W.skip | apply W.ret | (apply W.condT; exact rfl)))
      exact Z.body1 Try.results72 rfl fun m => ⟨by rw [e], Ext.at (by (exact extA)) m⟩
    · repeat' (first
        | (apply WL.nilc; exact rfl; exact rfl; exact rfl)
        | (apply W.condKT; exact rfl; (focus (first | exact dec_true (by omega); done)))
        | (((show WL _ _ _ (⟨_, .call ⟨.value (.func 124), _, _⟩, _, _, _, _⟩ :: _) _ _ _); apply WL.callP; exact rfl; exact rfl; exact rfl; exact rfl; exact hr _ (by (exact extA)); intro w' hx))
        | (show WL _ _ _ _ _ _ _; first | apply WL.nil | (refine WL.au (k := ?_)) | (apply WL.index tOk; exact rfl; exact rfl; exact rfl; exact rfl; exact rfl; exact rfl; exact rfl; exact rfl; assumption; (exact extA); exact rfl; omega; assumption; intro b off h; have hcc := h; first | (obtain ⟨h1, h2, h3, h4, h5, h6, _⟩ := h) | (obtain ⟨h1, h2, h3, _⟩ := h) | (obtain ⟨h1, h2, _⟩ := h) | (obtain ⟨h1, _⟩ := h)))
        | (show Z _ _ _ _ _; first | apply Z.then_normal | apply Z.block_normal)
        | (show W _ _ _ _ _ _; first | apply W.seq | apply W.region | apply W.block | apply W.skip | (apply W.condF; exact rfl)))
      refine Z.againW ⟨by omega, (by (exact extA)), fun j l' hj h1 => ?_⟩ ⟨rfl, rfl, rfl, rfl, trivial⟩
      by_cases hjk : j = k
      · subst hjk; rw [hl] at h1; cases h1; exact hv
      · exact hall j l' (by omega) h1
  · obtain rfl : k = c.cons.2.2.length := by omega
    have e : dec (HoldsP c.t s i) = true := dec_true fun l h => by
      obtain ⟨j, hj⟩ := List.mem_iff_getElem?.1 h
      exact hall j l (lt_of_get hj) hj
    repeat' (first
      | (apply WL.nilc; exact rfl; exact rfl; exact rfl)
      | (apply W.condKF; exact rfl; (focus (exact dec_false (by omega); done)))
      | (show WL _ _ _ _ _ _ _; first | apply WL.nil | (refine WL.au (k := ?_)))
      | (show Z _ _ _ _ _; first | apply Z.then_normal | apply Z.then_exit | apply Z.block_exit)
      | (show W _ _ _ _ _ _; first | apply W.seq | apply W.region | apply W.ret | apply W.exit))
    exact Z.body1 Try.results72 rfl fun m => ⟨by rw [e], Ext.at (by (exact extA)) m⟩

set_option maxHeartbeats 1000000 in
theorem ref17_New (c : Circ) (w : World) (hC : CAt w c) (hg : GoodC' c.t) (hz : SzC c.t 100000) :
    Lt.Spec Try.prog 61 [c.val] w (fun v w' => Ext w w' ∧ ∃ gm rn ra, v = .pointer (some ⟨gm, 0, none⟩) ∧ MAt w' gm c rn ra ∧ w.heap.size ≤ gm) := by
  refine Spec.of _ Try.func61 rfl Try.ntmps61 (by kernel_rfl) rfl ?_
  repeat' (first
    | (apply WL.box; exact rfl; exact rfl; exact rfl; intro gb w' hb hge hc hx; have hcc := hc; (first | (obtain ⟨h1, h2, h3, _⟩ := hc) | (obtain ⟨h1, h2, _⟩ := hc)); (first | (have h_0 := hcells; clear h_0) | (have hcells := hcc; obtain ⟨gc, rfl⟩ : ∃ x, x = gb := ⟨_, rfl⟩; obtain ⟨wc, rfl⟩ : ∃ x, x = w' := ⟨_, rfl⟩; obtain ⟨hxc, rfl⟩ : ∃ x, x = hx := ⟨_, rfl⟩)))
    | (((show WL _ _ _ (⟨_, .call ⟨.value (.func 54), _, _⟩, _, _, _, _⟩ :: _) _ _ _); apply WL.call; exact rfl; exact rfl; exact rfl; exact rfl; exact ref11_Net c _ (hC.ext (by (exact extA))) hg hz; rintro v' w7 ⟨hx7, am, cm, ab, cb, rfl, hOm, hOb⟩; have hcells7 := hcells.ext hx7; have Rm := hOm.row encN_ok; have Rb := hOb.row encI_ok))
    | (apply WL.build tOk; exact rfl; exact rfl; exact rfl; exact rfl; exact rfl; exact rfl; exact rfl; kernel_rfl)
    | (show WL _ _ _ _ _ _ _; first | apply WL.nil | (refine WL.au (k := ?_)))
    | (show Z _ _ _ _ _; apply Z.then_normal)
    | (show W _ _ _ _ _ _; first | apply W.seq | apply W.region | apply W.ret))
  have hcm : Cells w' gb 0 (c.vals ++ [.slice am (cNet c.t).1.length cm, .slice ab (cNet c.t).2.length cb]) := hcc
  exact Z.body1 Try.results61 rfl fun m => ⟨Ext.at (by (exact extA)) m, gb, (am, cm, (cNet c.t).1), (ab, cb, (cNet c.t).2), rfl, (MAt.mk hcm (hC.ext (by (exact extA))) (Rm.ext (by (exact extA))) (Rb.ext (by (exact extA))) rfl rfl hg hz : MAt w' gb c (am, cm, (cNet c.t).1) (ab, cb, (cNet c.t).2)).ext ((Ext.refl _).at m), Nat.le_trans (Below.size (show Ext w w7 from (by (exact extA)))) hge⟩

abbrev encRB : RowV Bool → List Value := encRow
theorem encRB_ok : Enc 1 encRB := encRow_ok
/-- A run by value: its rows, with where they lie. -/
structure RunV where
  st : RowV Bool
  ins : RowV (RowV Bool)
abbrev RunV.val (r : RunV) : Value := .agg #[rowVal r.st, rowVal r.ins]
abbrev RunV.s (r : RunV) : List Bool := r.st.2.2
abbrev RunV.i (r : RunV) : List (List Bool) := r.ins.2.2.map (·.2.2)
structure RAt (w : World) (r : RunV) : Prop where
  st : Row 1 encB w r.st.1 r.st.2.2
  ins : Row 1 encRB w r.ins.1 r.ins.2.2
  each : ∀ x ∈ r.ins.2.2, Row 1 encB w x.1 x.2.2
theorem RAt.ext {w w' : World} {r : RunV} (h : RAt w r) (hx : Ext w w') : RAt w' r := ⟨h.st.ext hx, h.ins.ext hx, fun x h1 => (h.each x h1).ext hx⟩
end Go.Proofs.Ythpnahapiodflaa
namespace Go.Proofs.Ythpnahapiodflaa
open Go Go.Lt Go.RowKit
set_option linter.unusedVariables false
set_option linter.unusedSimpArgs false
set_option maxRecDepth 20000

theorem runI_get {r : RunV} {k : Nat} {x : RowV Bool} (h : r.ins.2.2[k]? = some x) : r.i[k]? = some x.2.2 := by
  show (r.ins.2.2.map (·.2.2))[k]? = _
  rw [List.getElem?_map, h]; rfl
theorem runI_len (r : RunV) : r.i.length = r.ins.2.2.length := List.length_map _
theorem range_map_succ {α : Type} (f : Nat → α) (k : Nat) : (List.range (k + 1)).map f = (List.range k).map f ++ [f k] := by rw [List.range_succ, List.map_append]; rfl
set_option maxHeartbeats 2000000 in
theorem ref17_States (gm : Nat) (c : Circ) (rn : RowV (Int × Int)) (ra : RowV Int) (r : RunV) (w : World) (hM : MAt w gm c rn ra) (hR : RAt w r) (hn : r.ins.2.2.length ≤ 1048576) :
    Lt.Spec Try.prog 75 [.pointer (some ⟨gm, 0, none⟩), r.val] w (IsFreshRR 1 encB 4 22 w (statesV c.t r.s r.i)) := by
  have hM' := hM
  obtain ⟨hcells, hC, Rn, Ra, en, ea, hg, hz⟩ := hM
  have k2 : c.lat.2.2.length ≤ 100000 := hz.2.1
  refine Spec.of _ Try.func75 rfl Try.ntmps75 (by kernel_rfl) rfl ?_
  repeat' (first
    | (apply WL.box; exact rfl; exact rfl; exact rfl; intro gb w' hb hge hc hx; have hcc := hc; (first | (obtain ⟨h1, h2, h3, _⟩ := hc) | (obtain ⟨h1, h2, _⟩ := hc)); (obtain ⟨gr, rfl⟩ : ∃ x, x = gb := ⟨_, rfl⟩; obtain ⟨wr, rfl⟩ : ∃ x, x = w' := ⟨_, rfl⟩; obtain ⟨hxr, rfl⟩ : ∃ x, x = hx := ⟨_, rfl⟩))
    | (show WL _ _ _ _ _ _ _; first | apply WL.nil | (refine WL.au (k := ?_)))
    | (show Z _ _ _ _ _; apply Z.then_normal)
    | (show W _ _ _ _ _ _; first | apply W.seq | apply W.region))
  have hcr := hcells.ext hxr
  obtain ⟨y0, y1, y2, _⟩ := hcr
  repeat' (first
    | (apply FL.nilc; exact rfl; exact rfl; exact rfl)
    | (show W _ _ (.region 1 _ _) _ _ _; apply W.regionGX (.fl true 1 (.fl true 3 (.fl true 4 (.fl true 5 (.fl true 6 (.fl false 2 (.fl false 7 (.fl true 8 (.br 0 (.br 9 (.fl true 10 (.fl true 11 .done)) .stop) (.br 9 (.br 0 (.fl true 10 (.fl true 11 .done)) .stop) .stop)))))))))) [0, 7, 8, 9, 10] tMix; kernel_rfl)
    | (apply WL.lit (len := 0) tOk; exact rfl; exact rfl; exact rfl; exact rfl; exact rfl; exact rfl; (first | exact rfl | kernel_rfl | (simp [Instr.fill, catCells]; done)); exact rfl; intro gb w' hb hge hc hx; have hO0 := Own.of_block0 (enc := encRB) (s := 1) hb hge; (obtain ⟨g8, rfl⟩ : ∃ x, x = gb := ⟨_, rfl⟩))
    | ((show WL _ _ _ (⟨_, .call ⟨.value (.func 128), _, _⟩, _, _, _, _⟩ :: _) _ _ _); apply WL.call; exact rfl; exact rfl; exact rfl; exact rfl; exact ref17_Brought _ _ r.s c.lat.2.2.length _ (hR.st.ext (by (exact extA))) (by omega); rintro v' w' ⟨hx, a', cap', rfl, hO⟩)
    | (show SX _ _ _ _ _ _ _ _ _; first | (apply SX.done; intro w' hx) | (apply SX.fl0; exact rfl) | (apply SX.fl1; exact rfl; (exact extA)) | (apply SX.br1; exact rfl; intro w' hx) | (apply SX.br; exact rfl; (intro w' hx)))
    | (show FL _ _ _ _ _ _ _ _; first | apply FL.nilX | (apply FL.loadE tOk; exact rfl; exact rfl; exact rfl; exact rfl; exact rfl; assumption))
    | (show FL _ _ _ _ _ _ _ _; (refine FL.au (k := ?_)))
    | (show Z _ _ _ _ _; (apply Z.sxE; (exact extA)))
    | (show WL _ _ _ _ _ _ _; first | apply WL.nil | (refine WL.au (k := ?_)))
    | (show Z _ _ _ _ _; apply Z.then_normal)
    | (show W _ _ _ _ _ _; first | apply W.seq | apply W.region | apply W.block))
  all_goals
    have hXr : Ext wr w' := (by (exact extA))
    have h0 : RR1 1 encB 4 22 wr.heap.size w' (some ⟨g8, 0, none⟩) 0 [] a' cap' (brV r.s c.lat.2.2.length) := by
      refine RR1.first (Own.base (Own.ext hO (by (exact extA))) (Below.size (by (exact extA)))) (Own.base (Own.ext hO0 (by (exact extA))) (Below.size (by (exact extA)))) fun k hk => ?_
      first
      | exact Nat.ne_of_gt (Nat.lt_of_lt_of_le (Nat.lt_of_lt_of_le (heap_lt hb) (Below.size (by (exact extA)))) (hO.blk_lt k hk).1)
      | exact Nat.ne_of_lt (Nat.lt_of_lt_of_le (Nat.lt_of_lt_of_le (hO.blk_lt k hk).2 (Below.size (by (exact extA)))) hge)
    have hXw : Ext w w' := hxr.trans hXr
    obtain ⟨b0, rfl⟩ : ∃ x, x = a' := ⟨_, rfl⟩; obtain ⟨d0, rfl⟩ : ∃ x, x = cap' := ⟨_, rfl⟩; obtain ⟨w1, rfl⟩ : ∃ x, x = w' := ⟨_, rfl⟩
    clear hO hO0
    refine W.loopO2 r.ins.2.2.length (fun k a cp b dp w' => k ≤ r.ins.2.2.length ∧ Ext wr w' ∧ ∃ rs : List (RowV Bool), rs.length = k ∧ rs.map (fun q => q.2.2) = (List.range k).map (stateV c.t r.s r.i) ∧ RR1 1 encB 4 22 wr.heap.size w' a cp rs b dp (stateV c.t r.s r.i k))
      (fun k a cp b dp => [(0, .pointer (some ⟨gm, 0, none⟩)), (3, .pointer (some ⟨gr, 0, none⟩)), (5, .slice a k cp), (6, .slice b (stateV c.t r.s r.i k).length dp), (7, .int .i64 k)]) (some ⟨g8, 0, none⟩) 0 b0 d0 ⟨Nat.zero_le _, hXr, [], rfl, rfl, h0⟩ (fun k a cp b dp w' h => h.1) ⟨rfl, rfl, rfl, rfl, rfl, trivial⟩ ?_
    clear h0
    rintro k a cp b dp w2 ⟨hk, hX2, rs, hl, he, hR1⟩
    have hsl := stateV_len c.t r.s r.i k
    have hsl' : (stateV c.t r.s r.i k).length = c.lat.2.2.length := hsl
    have hcc2 := hcc.ext hX2
    obtain ⟨k1, k3, _⟩ := hcc2
    have hRi := hR.ins
    have hXw2 : Ext w w2 := hxr.trans hX2
    by_cases hlt : k < r.ins.2.2.length
    · obtain ⟨x, hx⟩ := getI r.ins.2.2 hlt
      have hxi := runI_get hx
      have hxr2 := hR.each x (List.mem_of_getElem? hx)
      have e1 : stateV c.t r.s r.i (k + 1) = nextV c.t (stateV c.t r.s r.i k) x.2.2 := by
        show nextV c.t _ (r.i.getD k []) = _; rw [getD_of hxi]
      have hOo : Own 1 encRB 22 wr.heap.size w2 a cp rs := hR1.rr.outer
      have RSt := hR1.own.row encB_ok
      repeat' (first
        | (apply W.condKT; exact rfl; (focus (exact dec_true (by omega); done)))
        | (apply WL.lit tOk; exact rfl; exact rfl; exact rfl; exact rfl; exact rfl; exact rfl; (first | exact rfl | kernel_rfl | (simp [Instr.fill, catCells]; done)); exact rfl; intro gb w' hb hge hc hx)
        | (apply WL.append1 (z := (((b, dp, stateV c.t r.s r.i k) : RowV Bool))) tOk encRB_ok; exact rfl; exact rfl; exact rfl; exact rfl; exact rfl; exact rfl; exact rfl; exact rfl; exact rfl; exact rfl; assumption; (exact extA); (first | exact rfl | (focus (simp only [List.length_set]; done)) | (focus (simp; done)) | (focus (simp [*]; done)) | omega | (focus (simp only [List.length_set]; omega))); assumption; exact rfl; exact rfl; (exact extA); (first | omega | (simp; omega) | (simp at *; omega)); intro a' cap' w' hO hX' hU hF)
        | (show WL _ _ _ _ _ _ _; first | apply WL.nil | (refine WL.au (k := ?_)))
        | (show Z _ _ _ _ _; apply Z.then_normal)
        | (show W _ _ _ _ _ _; first | apply W.seq | apply W.region | apply W.block | apply W.skip))
      have hXn : Ext wr w' := hX'
      have hR2 := (hR1.ext hx).push hU hO hF
      have hl2 : (rs ++ [((b, dp, stateV c.t r.s r.i k) : RowV Bool)]).length = k + 1 := by rw [List.length_append, hl]; rfl
      have he2 : (rs ++ [((b, dp, stateV c.t r.s r.i k) : RowV Bool)]).map (fun q => q.2.2) = (List.range (k + 1)).map (stateV c.t r.s r.i) := by rw [List.map_append, he, range_map_succ]; rfl
      have hget : (rs ++ [((b, dp, stateV c.t r.s r.i k) : RowV Bool)])[k]? = some (b, dp, stateV c.t r.s r.i k) := by rw [List.getElem?_append_right (by omega), hl]; simp
      have RSt2 : Row 1 encB w' b (stateV c.t r.s r.i k) := hR2.row encB_ok hget
      obtain ⟨k4, k5, _⟩ := hcc.ext hXn
      clear hOo RSt hO hU hF
      obtain ⟨w3, rfl⟩ : ∃ x, x = w' := ⟨_, rfl⟩; obtain ⟨a3, rfl⟩ : ∃ x, x = a' := ⟨_, rfl⟩; obtain ⟨c3, rfl⟩ : ∃ x, x = cap' := ⟨_, rfl⟩
      have hM3 := hM'.ext (hxr.trans hXn)
      have hRi3 := hRi.ext (hxr.trans hXn)
      have hxr3 := hxr2.ext (hxr.trans hXn)
      repeat' (first
        | ((show WL _ _ _ (⟨_, .call ⟨.value (.func 68), _, _⟩, _, _, _, _⟩ :: _) _ _ _); apply WL.call; exact rfl; exact rfl; exact rfl; exact rfl; exact ref17_Next gm c rn ra _ _ _ _ (stateV c.t r.s r.i k) x.2.2 _ (hM3.ext (by (exact extA))) (RSt2.ext (by (exact extA))) (hxr3.ext (by (exact extA))); rintro v' w' ⟨hx, a', cap', rfl, hO⟩)
        | (show WL _ _ _ _ _ _ _; first | apply WL.nil | (refine WL.au (k := ?_)) | (apply WL.index tOk; exact rfl; exact rfl; exact rfl; exact rfl; exact rfl; exact rfl; exact rfl; exact rfl; assumption; (exact extA); exact rfl; omega; assumption; intro b off h; have hcc := h; first | (obtain ⟨h1, h2, h3, h4, h5, h6, _⟩ := h) | (obtain ⟨h1, h2, h3, _⟩ := h) | (obtain ⟨h1, h2, _⟩ := h) | (obtain ⟨h1, _⟩ := h)))
        | (show Z _ _ _ _ _; first | apply Z.then_normal | apply Z.block_normal)
        | (show W _ _ _ _ _ _; apply W.region))
      rw [← e1] at hO ⊢
      exact Z.againO2 a3 c3 a' cap' ⟨by omega, hXn.trans (by (exact extA)), _, hl2, he2, RR1.new hR2 (by (exact extA)) hO (Below.size hXn)⟩ ⟨rfl, rfl, congrArg (fun z => some (Value.slice a3 z c3)) hl2, rfl, rfl, trivial⟩
    · obtain rfl : k = r.ins.2.2.length := by omega
      repeat' (first
        | (apply W.condKF; exact rfl; (focus (exact dec_false (by omega); done)))
        | (show WL _ _ _ _ _ _ _; first | apply WL.nil | (refine WL.au (k := ?_)))
        | (show Z _ _ _ _ _; first | apply Z.then_normal | apply Z.then_exit | apply Z.block_exit)
        | (show W _ _ _ _ _ _; first | apply W.seq | apply W.region | apply W.ret | apply W.exit))
      have he' : rs.map (fun q => q.2.2) = statesV c.t r.s r.i := by rw [he]; unfold statesV; rw [runI_len]
      refine Z.body1 Try.results75 rfl fun m => ⟨hXw2.at m, a, cp, rs, by rw [hl], (hR1.rr.base (Below.size hxr)).at m, he'⟩

theorem statesV_i (c : CirT) (r : RunV) {k : Nat} {rs : List (RowV Bool)} (h : rs.map (fun q => q.2.2) = statesV c r.s r.i) (hk : k < r.ins.2.2.length) : ∃ q, rs[k]? = some q ∧ q.2.2 = stateV c r.s r.i k := by
  have h1 : (rs.map (fun q => q.2.2))[k]? = some (stateV c r.s r.i k) := by rw [h]; exact statesV_get c r.s r.i (by rw [runI_len]; exact hk)
  rw [List.getElem?_map] at h1
  obtain ⟨q, hq, he⟩ := Option.map_eq_some_iff.1 h1
  exact ⟨q, hq, he⟩
set_option maxHeartbeats 2000000 in
theorem ref17_Breaks (gm : Nat) (c : Circ) (rn : RowV (Int × Int)) (ra : RowV Int) (r : RunV) (p : Int) (w : World) (hM : MAt w gm c rn ra) (hR : RAt w r) (hn : r.ins.2.2.length ≤ 1048576) :
    Pure Try.prog 77 [.pointer (some ⟨gm, 0, none⟩), r.val, .int .i64 p] w (.bool (dec (BreaksP c.t r.s r.i p))) := by
  have hM' := hM
  obtain ⟨hcells, hC, Rn, Ra, en, ea, hg, hz⟩ := hM
  have hil := runI_len r
  by_cases q1 : StartsP c.t r.s
  rotate_left
  · have e : dec (BreaksP c.t r.s r.i p) = false := dec_false fun h => q1 h.1
    refine Spec.of _ Try.func77 rfl Try.ntmps77 (by kernel_rfl) rfl ?_
    repeat' (first
      | (apply WL.box; exact rfl; exact rfl; exact rfl; intro gb w' hb hge hc hx; have hcc := hc; (first | (obtain ⟨h1, h2, h3, _⟩ := hc) | (obtain ⟨h1, h2, _⟩ := hc)))
      | (apply WL.gT; exact rfl; exact rfl; (focus (first | (rw [dec_false q1]; rfl); done)))
      | ((show WL _ _ _ (⟨_, .call ⟨.value (.func 65), _, _⟩, _, _, _, _⟩ :: _) _ _ _); apply WL.callS; exact rfl; exact rfl; exact rfl; exact rfl; exact ref17_Starts gm c rn ra _ _ r.s _ (hM'.ext (by (exact extA))) (hR.st.ext (by (exact extA))))
      | (show WL _ _ _ _ _ _ _; first | apply WL.nil | (refine WL.au (k := ?_)) | (apply WL.guardF; exact rfl; exact rfl))
      | (show Z _ _ _ _ _; first | apply Z.then_normal | apply Z.then_ret)
      | (show W _ _ _ _ _ _; first | apply W.seq | apply W.region | apply W.ret | (apply W.condT; exact rfl)))
    exact Z.body1 Try.results77 rfl fun m => ⟨by rw [e], Ext.at (by (exact extA)) m⟩
  by_cases q2 : r.ins.2.2.length = 0
  · have e : dec (BreaksP c.t r.s r.i p) = false := dec_false fun h => h.2.1 (List.eq_nil_of_length_eq_zero (by rw [hil]; exact q2))
    refine Spec.of _ Try.func77 rfl Try.ntmps77 (by kernel_rfl) rfl ?_
    repeat' (first
      | (apply WL.box; exact rfl; exact rfl; exact rfl; intro gb w' hb hge hc hx; have hcc := hc; (first | (obtain ⟨h1, h2, h3, _⟩ := hc) | (obtain ⟨h1, h2, _⟩ := hc)))
      | (apply WL.gF; exact rfl; exact rfl; (focus (first | (rw [dec_true q1]; rfl) | exact dec_true (by omega); done)))
      | (apply W.condKT; exact rfl; (focus (first | (rw [dec_true q1]; rfl) | exact dec_true (by omega); done)))
      | ((show WL _ _ _ (⟨_, .call ⟨.value (.func 65), _, _⟩, _, _, _, _⟩ :: _) _ _ _); apply WL.callS; exact rfl; exact rfl; exact rfl; exact rfl; exact ref17_Starts gm c rn ra _ _ r.s _ (hM'.ext (by (exact extA))) (hR.st.ext (by (exact extA))))
      | (show WL _ _ _ _ _ _ _; first | apply WL.nil | (refine WL.au (k := ?_)))
      | (show Z _ _ _ _ _; first | apply Z.then_normal | apply Z.then_ret)
      | (show W _ _ _ _ _ _; first | apply W.seq | apply W.region | apply W.ret))
    exact Z.body1 Try.results77 rfl fun m => ⟨by rw [e], Ext.at (by (exact extA)) m⟩
  refine Spec.of _ Try.func77 rfl Try.ntmps77 (by kernel_rfl) rfl ?_
  repeat' (first
    | (show W _ _ (.region 3 _ _) _ _ _; apply W.regionGX (.fl true 0 (.fl true 3 (.fl false 1 (.fl false 4 (.fl true 5 (.fl true 6 (.br 2 (.fl true 7 (.fl true 8 .done)) .stop))))))) [2, 4, 5, 6, 7] tMix; kernel_rfl)
    | (apply WL.box; exact rfl; exact rfl; exact rfl; intro gb w' hb hge hc hx; have hcc := hc; (first | (obtain ⟨h1, h2, h3, _⟩ := hc) | (obtain ⟨h1, h2, _⟩ := hc)); (obtain ⟨gr, rfl⟩ : ∃ x, x = gb := ⟨_, rfl⟩; obtain ⟨wr, rfl⟩ : ∃ x, x = w' := ⟨_, rfl⟩; obtain ⟨hxr, rfl⟩ : ∃ x, x = hx := ⟨_, rfl⟩))
    | (apply WL.gF; exact rfl; exact rfl; (focus (first | (rw [dec_true q1]; rfl) | exact dec_false (by omega); done)))
    | (apply W.condKF; exact rfl; (focus (first | (rw [dec_true q1]; rfl) | exact dec_false (by omega); done)))
    | ((show WL _ _ _ (⟨_, .call ⟨.value (.func 65), _, _⟩, _, _, _, _⟩ :: _) _ _ _); apply WL.callS; exact rfl; exact rfl; exact rfl; exact rfl; exact ref17_Starts gm c rn ra _ _ r.s _ (hM'.ext (by (exact extA))) (hR.st.ext (by (exact extA))))
    | (((show WL _ _ _ (⟨_, .call ⟨.value (.func 75), _, _⟩, _, _, _, _⟩ :: _) _ _ _); apply WL.call; exact rfl; exact rfl; exact rfl; exact rfl; exact ref17_States gm c rn ra r _ (hM'.ext (by (exact extA))) (hR.ext (by (exact extA))) hn; rintro v' w3 ⟨hx3, a3, c3, rs, rfl, hRR, he⟩))
    | (show SX _ _ _ _ _ _ _ _ _; first | (apply SX.done; intro w' hx) | (apply SX.fl0; exact rfl) | (apply SX.fl1; exact rfl; (exact extA)) | (apply SX.br1; exact rfl; intro w' hx))
    | (show FL _ _ _ _ _ _ _ _; first | apply FL.nilX | (apply FL.loadE tOk; exact rfl; exact rfl; exact rfl; exact rfl; exact rfl; assumption) | (apply FL.loadAE tOk; exact rfl; exact rfl; exact rfl; exact rfl; exact rfl; assumption; exact rfl))
    | (show FL _ _ _ _ _ _ _ _; (refine FL.au (k := ?_)))
    | (show Z _ _ _ _ _; (apply Z.sxE; (exact extA)))
    | (show WL _ _ _ _ _ _ _; first | apply WL.nil | (refine WL.au (k := ?_)))
    | (show Z _ _ _ _ _; apply Z.then_normal)
    | (show W _ _ _ _ _ _; first | apply W.seq | apply W.region | apply W.block | apply W.skip))
  have hX3 : Ext wr w' := (by (exact extA))
  have hRR' : OwnRR 1 encB 4 22 _ w' a3 c3 rs := hRR.ext (by (exact extA))
  clear hRR
  obtain ⟨w4, rfl⟩ : ∃ x, x = w' := ⟨_, rfl⟩
  have hrl : rs.length = r.ins.2.2.length := by have := congrArg List.length he; rw [List.length_map, statesV_len, hil] at this; exact this
  have Rrs : Row 1 encRB w4 a3 rs := hRR'.outer.row encRB_ok
  have hcc4 := hcc.ext hX3
  have hX0 : Ext w w4 := hxr.trans hX3
  have hM4 := hM'.ext hX0
  have hR4 := hR.ext hX0
  have hc4 := hcells.ext hX0
  have hnn : (r.ins.2.2.length : Int) - 1 = ((r.ins.2.2.length - 1 : Nat) : Int) := by omega
  refine W.loopW r.ins.2.2.length (fun k w' => k ≤ r.ins.2.2.length ∧ Ext w4 w' ∧ GoesP c.t r.s r.i k) (fun k => [(0, .pointer (some ⟨gm, 0, none⟩)), (2, .int .i64 p), (4, .pointer (some ⟨gr, 0, none⟩)), (7, .slice a3 rs.length c3), (8, .int .i64 ((r.ins.2.2.length : Int) - 1)), (9, .int .i64 k)]) ⟨Nat.zero_le _, Ext.refl _, fun j i h => by omega⟩ (fun k w' h => h.1) ⟨rfl, rfl, rfl, rfl, rfl, rfl, trivial⟩ ?_
  rintro k w5 ⟨hk, hX5, hgo⟩
  obtain ⟨k1, k3, _⟩ := hcc4.ext hX5
  obtain ⟨y0, y1, y2, _⟩ := hc4.ext hX5
  have Rrs5 := Rrs.ext hX5
  have hRi5 := hR4.ins.ext hX5
  by_cases hlt : k < r.ins.2.2.length
  · obtain ⟨x, hx⟩ := getI r.ins.2.2 hlt
    have hxi := runI_get hx
    have hxr := hR4.each x (List.mem_of_getElem? hx)
    obtain ⟨q, hq, hqe⟩ := statesV_i c.t r he hlt
    have Rq := hRR'.row encB_ok hq
    have hh := fun (w9 : World) (h9 : Ext w4 w9) => ref17_Holds gm c rn ra q.1 x.1 q.2.1 x.2.1 q.2.2 x.2.2 w9 (hM4.ext h9) (Rq.ext h9) (hxr.ext h9)
    have hx5 := fun (w9 : World) (h9 : Ext w5 w9) => hh w9 (hX5.trans h9)
    by_cases u1 : x.2.2.length = c.ins.2.2.length
    · by_cases u2 : HoldsP c.t q.2.2 x.2.2
      · have hstep : GoesP c.t r.s r.i (k + 1) := fun j i hj hi => by
          by_cases hjk : j = k
          · subst hjk; rw [hxi] at hi; cases hi; exact ⟨u1, hqe ▸ u2⟩
          · exact hgo j i (by omega) hi
        rw [dec_true u2] at hx5
        repeat' (first
          | (apply QL.nilc; exact rfl; exact rfl; exact rfl)
          | (apply QL.gF; exact rfl; exact rfl; (focus (first | exact dec_true (by omega) | exact dec_false (by omega); done)))
          | (apply W.condKT; exact rfl; (focus (first | exact dec_true (by omega) | exact dec_false (by omega); done)))
          | (apply QL.callP; exact rfl; exact rfl; exact rfl; exact rfl; exact hx5)
          | (show WL _ _ _ _ _ _ _; first | apply WL.nil | (refine WL.au (k := ?_)))
          | (show QL _ _ _ _ _ _ _; first | (apply QL.nilX; intro w' hx) | (refine QL.au (k := ?_)) | (apply QL.index tOk; exact rfl; exact rfl; exact rfl; exact rfl; exact rfl; exact rfl; exact rfl; exact rfl; assumption; (exact extA); exact rfl; omega; assumption; intro b off h; have hcc := h; first | (obtain ⟨h1, h2, h3, h4, h5, h6, _⟩ := h) | (obtain ⟨h1, h2, h3, _⟩ := h) | (obtain ⟨h1, h2, _⟩ := h) | (obtain ⟨h1, _⟩ := h)))
          | (show Z _ _ _ _ _; first | apply Z.then_normal | apply Z.block_normal)
          | (show W _ _ _ _ _ _; first | apply W.seq | apply W.region | apply W.block | apply W.skip | (apply W.condF; exact rfl) | (apply W.regionX tMix; kernel_rfl)))
        exact Z.againW ⟨by omega, (by (exact extA)), hstep⟩ ⟨rfl, rfl, rfl, rfl, rfl, rfl, trivial⟩
      · have e : dec (BreaksP c.t r.s r.i p) = false := dec_false fun h => u2 (by have := (h.2.2.1 k x.2.2 (by rw [hil]; exact hlt) hxi).2; rw [hqe]; exact this)
        rw [dec_false u2] at hx5
        repeat' (first
          | (apply QL.nilc; exact rfl; exact rfl; exact rfl)
          | (apply QL.gF; exact rfl; exact rfl; (focus (first | exact dec_true (by omega) | exact dec_false (by omega); done)))
          | (apply W.condKT; exact rfl; (focus (first | exact dec_true (by omega) | exact dec_false (by omega); done)))
          | (apply QL.callP; exact rfl; exact rfl; exact rfl; exact rfl; exact hx5)
          | (show WL _ _ _ _ _ _ _; first | apply WL.nil | (refine WL.au (k := ?_)))
          | (show QL _ _ _ _ _ _ _; first | (apply QL.nilX; intro w' hx) | (refine QL.au (k := ?_)) | (apply QL.index tOk; exact rfl; exact rfl; exact rfl; exact rfl; exact rfl; exact rfl; exact rfl; exact rfl; assumption; (exact extA); exact rfl; omega; assumption; intro b off h; have hcc := h; first | (obtain ⟨h1, h2, h3, h4, h5, h6, _⟩ := h) | (obtain ⟨h1, h2, h3, _⟩ := h) | (obtain ⟨h1, h2, _⟩ := h) | (obtain ⟨h1, _⟩ := h)))
          | (show Z _ _ _ _ _; first | apply Z.then_normal | apply Z.then_ret | apply Z.block_ret)
          | (show W _ _ _ _ _ _; first | apply W.seq | apply W.region | apply W.block | apply W.skip | apply W.ret | (apply W.condT; exact rfl) | (apply W.regionX tMix; kernel_rfl)))
        exact Z.body1 Try.results77 rfl fun m => ⟨by rw [e], Ext.at (by (exact extA)) m⟩
    · have e : dec (BreaksP c.t r.s r.i p) = false := dec_false fun h => u1 (h.2.2.1 k x.2.2 (by rw [hil]; exact hlt) hxi).1
      repeat' (first
        | (apply QL.nilc; exact rfl; exact rfl; exact rfl)
        | (apply QL.gT; exact rfl; exact rfl; (focus (first | exact dec_true (by omega) | exact dec_false (by omega); done)))
        | (apply W.condKT; exact rfl; (focus (first | exact dec_true (by omega) | exact dec_false (by omega); done)))
        | (show WL _ _ _ _ _ _ _; first | apply WL.nil | (refine WL.au (k := ?_)))
        | (show QL _ _ _ _ _ _ _; first | (apply QL.nilX; intro w' hx) | (refine QL.au (k := ?_)) | (apply QL.index tOk; exact rfl; exact rfl; exact rfl; exact rfl; exact rfl; exact rfl; exact rfl; exact rfl; assumption; (exact extA); exact rfl; omega; assumption; intro b off h; have hcc := h; first | (obtain ⟨h1, h2, h3, h4, h5, h6, _⟩ := h) | (obtain ⟨h1, h2, h3, _⟩ := h) | (obtain ⟨h1, h2, _⟩ := h) | (obtain ⟨h1, _⟩ := h)) | (apply QL.guardF; exact rfl; exact rfl))
        | (show Z _ _ _ _ _; first | apply Z.then_normal | apply Z.then_ret | apply Z.block_ret)
        | (show W _ _ _ _ _ _; first | apply W.seq | apply W.region | apply W.block | apply W.skip | apply W.ret | (apply W.condT; exact rfl) | (apply W.regionX tMix; kernel_rfl)))
      exact Z.body1 Try.results77 rfl fun m => ⟨by rw [e], Ext.at (by (exact extA)) m⟩
  · obtain rfl : k = r.ins.2.2.length := by omega
    obtain ⟨x, hx⟩ := getI r.ins.2.2 (show r.ins.2.2.length - 1 < r.ins.2.2.length by omega)
    have hxi := runI_get hx
    have hxr := hR4.each x (List.mem_of_getElem? hx)
    obtain ⟨q, hq, hqe⟩ := statesV_i c.t r he (show r.ins.2.2.length - 1 < r.ins.2.2.length by omega)
    have Rq := hRR'.row encB_ok hq
    have hh := fun (w9 : World) (h9 : Ext w5 w9) => ref17_Bad gm c rn ra q.1 x.1 q.2.1 x.2.1 q.2.2 x.2.2 p w9 (hM4.ext (hX5.trans h9)) (Rq.ext (hX5.trans h9)) (hxr.ext (hX5.trans h9))
    have e : dec (BreaksP c.t r.s r.i p) = dec (BadP c.t q.2.2 x.2.2 p) := dec_congr ⟨fun h => by
      have := h.2.2.2
      rw [hil, getD_of hxi, ← hqe] at this; exact this, fun h => ⟨q1, fun h0 => q2 (by rw [← hil, h0]; rfl), by rw [hil]; exact hgo, by rw [hil, getD_of hxi, ← hqe]; exact h⟩⟩
    have hq' : rs[((r.ins.2.2.length : Int) - 1).toNat]? = some q := by rw [hnn]; exact hq
    have hx' : r.ins.2.2[((r.ins.2.2.length : Int) - 1).toNat]? = some x := by rw [hnn]; exact hx
    repeat' (first
      | (apply W.condKF; exact rfl; (focus (exact dec_false (by omega); done)))
      | (apply QL.callP; exact rfl; exact rfl; exact rfl; exact rfl; exact hh)
      | (show WL _ _ _ _ _ _ _; first | apply WL.nil | (refine WL.au (k := ?_)))
      | (show QL _ _ _ _ _ _ _; first | (apply QL.nilX; intro w' hx) | (refine QL.au (k := ?_)) | (apply QL.index tOk; exact rfl; exact rfl; exact rfl; exact rfl; exact rfl; exact rfl; exact rfl; exact rfl; assumption; (exact extA); exact rfl; omega; assumption; intro b off h; have hcc := h; first | (obtain ⟨h1, h2, h3, h4, h5, h6, _⟩ := h) | (obtain ⟨h1, h2, h3, _⟩ := h) | (obtain ⟨h1, h2, _⟩ := h) | (obtain ⟨h1, _⟩ := h)))
      | (show Z _ _ _ _ _; first | apply Z.then_normal | apply Z.then_exit | apply Z.block_exit)
      | (show W _ _ _ _ _ _; first | apply W.seq | apply W.region | apply W.ret | apply W.exit | (apply W.regionX tMix; kernel_rfl)))
    exact Z.body1 Try.results77 rfl fun m => ⟨by rw [e], Ext.at (by (exact extA)) m⟩
end Go.Proofs.Ythpnahapiodflaa
namespace Go.Proofs.Ythpnahapiodflaa
open Go Go.Lt Go.RowKit
set_option linter.unusedVariables false
set_option linter.unusedSimpArgs false
set_option maxRecDepth 20000

theorem bit_and (u : BitVec 64) (n : Nat) : dec ((((u >>> n) &&& BitVec.ofInt 64 1).toNat : Int) = 1) = u.getLsbD n := by
  have h : ((u >>> n) &&& BitVec.ofInt 64 1).toNat = (u >>> n).toNat % 2 := by
    rw [BitVec.toNat_and, show (BitVec.ofInt 64 1).toNat = 1 from rfl, Nat.and_one_is_mod]
  rw [h, dec_decide]
  rw [show u.getLsbD n = (u >>> n).getLsbD 0 by simp, BitVec.getLsbD, Nat.testBit_zero]
  congr 1
  simp only [eq_iff_iff]; omega
end Go.Proofs.Ythpnahapiodflaa
namespace Go.Proofs.Ythpnahapiodflaa
open Go Go.Lt Go.RowKit
set_option linter.unusedVariables false
set_option linter.unusedSimpArgs false
set_option maxRecDepth 20000

def wordOf (v : List (BitVec 64)) (l : Int) : BitVec 64 :=
  if l < 0 ∨ (v.length ≤ l / 2 ∧ 0 < l / 2) then 0#64
  else if l % 2 = 1 then ~~~ (if 0 < l / 2 then v.getD (l / 2).toNat 0#64 else 0#64) else (if 0 < l / 2 then v.getD (l / 2).toNat 0#64 else 0#64)
def litB (v : List Bool) (l : Int) : Bool :=
  if l = 0 ∨ l = 1 then decide (l = 1) else if l < 0 ∨ v.length ≤ l / 2 then false else v.getD (l / 2).toNat false != decide (l % 2 = 1)

theorem sim_Word (a : Option Addr) (cap : Nat) (v : List (BitVec 64)) (l : Int) (w : World) (R : Row 1 encV w a v) (hl : inI64 l) : Still Try.prog 180 [.slice a v.length cap, .int .i64 l] w (u64 (wordOf v l)) := by
  unfold inI64 at hl
  have hlen := R.len
  by_cases h0 : l < 0
  · refine Spec.of _ Try.func180 rfl Try.ntmps180 (by kernel_rfl) rfl ?_
    repeat' (first
      | (apply WL.gT; exact rfl; exact rfl; (focus (first | exact dec_true (by omega) | exact dec_false (by omega); done)))
      | (apply WL.quow; exact rfl; exact rfl; exact rfl; exact rfl; unfold inI64; omega)
      | (show WL _ _ _ _ _ _ _; first | apply WL.nil | (refine WL.au (k := ?_)) | (apply WL.guardF; exact rfl; exact rfl))
      | (show Z _ _ _ _ _; first | apply Z.then_normal | apply Z.then_ret | apply Z.block_ret)
      | (show W _ _ _ _ _ _; first | apply W.seq | apply W.region | apply W.block | apply W.ret | (apply W.condT; exact rfl)))
    all_goals (refine Z.body1 Try.results180 rfl fun m => ⟨?_, m, rfl⟩; rw [wordOf, if_pos (.inl h0)]; rfl)
  by_cases h1 : v.length ≤ l / 2 ∧ 0 < l / 2
  · refine Spec.of _ Try.func180 rfl Try.ntmps180 (by kernel_rfl) rfl ?_
    repeat' (first
      | (apply WL.gT; exact rfl; exact rfl; (focus (first | exact dec_true (by omega) | exact dec_false (by omega); done)))
      | (apply WL.gF; exact rfl; exact rfl; (focus (first | exact dec_true (by omega) | exact dec_false (by omega); done)))
      | (apply W.condKT; exact rfl; (focus (first | exact dec_true (by omega) | exact dec_false (by omega); done)))
      | (show WL _ _ _ _ _ _ _; first | apply WL.nil | (refine WL.au (k := ?_)))
      | (show Z _ _ _ _ _; first | apply Z.then_normal | apply Z.then_ret | apply Z.block_ret)
      | (show W _ _ _ _ _ _; first | apply W.seq | apply W.region | apply W.block | apply W.ret))
    exact Z.body1 Try.results180 rfl fun m => ⟨by rw [wordOf, if_pos (.inr h1)]; rfl, m, rfl⟩
  by_cases h2 : 0 < l / 2
  · obtain ⟨z, hz⟩ := getI v (show (l / 2).toNat < v.length by omega)
    refine Spec.of _ Try.func180 rfl Try.ntmps180 (by kernel_rfl) rfl ?_
    repeat' (first
      | (apply WL.gF; exact rfl; exact rfl; (focus (first | exact dec_true (by omega) | exact dec_false (by omega); done)))
      | (apply W.condKT; exact rfl; (focus (first | exact dec_true (by omega) | exact dec_false (by omega); done)))
      | (apply WL.unot; exact rfl; exact rfl; exact rfl; (first | exact rfl | exact u64_lit _ (by omega)))
      | (apply WL.and1; exact rfl; exact rfl; exact rfl; exact rfl; omega)
      | (show WL _ _ _ _ _ _ _; first | apply WL.nil | (refine WL.au (k := ?_)) | (apply WL.index tOk; exact rfl; exact rfl; exact rfl; exact rfl; exact rfl; exact rfl; exact rfl; exact rfl; assumption; (exact extA); exact rfl; omega; assumption; intro b off h; have hcc := h; first | (obtain ⟨h1, h2, h3, h4, h5, h6, _⟩ := h) | (obtain ⟨h1, h2, h3, _⟩ := h) | (obtain ⟨h1, h2, _⟩ := h) | (obtain ⟨h1, _⟩ := h)) | (apply WL.guardF; exact rfl; exact rfl))
      | (show Z _ _ _ _ _; first | apply Z.then_normal | apply Z.block_normal | apply Z.then_ret)
      | (show W _ _ _ _ _ _; first | apply W.seq | apply W.region | apply W.block | apply W.skip | apply W.ret | (apply W.condF; exact rfl) | (apply W.condD; exact rfl; all_goals intro _)))
    all_goals (refine Z.body1 Try.results180 rfl fun m => ⟨?_, m, rfl⟩; rw [wordOf, if_neg (by omega)]; (first | rw [if_pos (by assumption)] | rw [if_neg (by assumption)]); rw [if_pos h2, getD_of hz])
  · refine Spec.of _ Try.func180 rfl Try.ntmps180 (by kernel_rfl) rfl ?_
    repeat' (first
      | (apply WL.gF; exact rfl; exact rfl; (focus (first | exact dec_true (by omega) | exact dec_false (by omega); done)))
      | (apply W.condKF; exact rfl; (focus (first | exact dec_true (by omega) | exact dec_false (by omega); done)))
      | (apply WL.unot; exact rfl; exact rfl; exact rfl; (first | exact rfl | exact u64_lit _ (by omega)))
      | (apply WL.and1; exact rfl; exact rfl; exact rfl; exact rfl; omega)
      | (show WL _ _ _ _ _ _ _; first | apply WL.nil | (refine WL.au (k := ?_)) | (apply WL.guardF; exact rfl; exact rfl) | (apply WL.gD; exact rfl; exact rfl; all_goals intro _))
      | (show Z _ _ _ _ _; first | apply Z.then_normal | apply Z.block_normal | apply Z.then_ret)
      | (show W _ _ _ _ _ _; first | apply W.seq | apply W.region | apply W.block | apply W.skip | apply W.ret | (apply W.condF; exact rfl) | (apply W.condD; exact rfl; all_goals intro _)))
    all_goals (refine Z.body1 Try.results180 rfl fun m => ⟨?_, m, rfl⟩; rw [wordOf, if_neg (by omega)]; (first | rw [if_pos (by assumption)] | rw [if_neg (by assumption)]); rw [if_neg h2]; rfl)

theorem sim_Lit (a : Option Addr) (cap : Nat) (v : List Bool) (l : Int) (w : World) (R : Row 1 encB w a v) (hl : inI64 l) : Still Try.prog 163 [.slice a v.length cap, .int .i64 l] w (.bool (litB v l)) := by
  have hlen := R.len
  unfold inI64 at hl
  by_cases h0 : l < 0
  · refine Spec.of _ Try.func163 rfl Try.ntmps163 (by kernel_rfl) rfl ?_
    repeat' (first
      | (apply WL.gT; exact rfl; exact rfl; (focus (first | exact dec_true (by omega) | exact dec_false (by omega); done)))
      | (apply WL.quow; exact rfl; exact rfl; exact rfl; exact rfl; unfold inI64; omega)
      | (show WL _ _ _ _ _ _ _; first | apply WL.nil | (refine WL.au (k := ?_)) | (apply WL.guardF; exact rfl; exact rfl))
      | (show Z _ _ _ _ _; first | apply Z.then_normal | apply Z.block_ret)
      | (show W _ _ _ _ _ _; first | apply W.seq | apply W.region | apply W.block | apply W.ret | (apply W.condT; exact rfl)))
    all_goals (refine Z.body1 Try.results163 rfl fun m => ⟨congrArg Value.bool ?_, m, rfl⟩; rw [litB, if_neg (by omega), if_pos (by omega)])
  by_cases h1 : l = 0 ∨ l = 1
  · refine Spec.of _ Try.func163 rfl Try.ntmps163 (by kernel_rfl) rfl ?_
    repeat' (first
      | (apply WL.gF; exact rfl; exact rfl; (focus (first | exact dec_true (by omega) | exact dec_false (by omega); done)))
      | (apply W.condKT; exact rfl; (focus (first | exact dec_true (by omega) | exact dec_false (by omega); done)))
      | (apply W.condKF; exact rfl; (focus (first | exact dec_true (by omega) | exact dec_false (by omega); done)))
      | (show WL _ _ _ _ _ _ _; first | apply WL.nil | (refine WL.au (k := ?_)) | (apply WL.guardF; exact rfl; exact rfl) | (apply WL.gD; exact rfl; exact rfl; all_goals intro _))
      | (show Z _ _ _ _ _; first | apply Z.then_normal | apply Z.block_ret)
      | (show W _ _ _ _ _ _; first | apply W.seq | apply W.region | apply W.block | apply W.ret | (apply W.condF; exact rfl)))
    all_goals (refine Z.body1 Try.results163 rfl fun m => ⟨congrArg Value.bool ?_, m, rfl⟩; rw [litB, if_pos h1, ← dec_decide])
  by_cases h2 : v.length ≤ l / 2
  · refine Spec.of _ Try.func163 rfl Try.ntmps163 (by kernel_rfl) rfl ?_
    repeat' (first
      | (apply WL.gT; exact rfl; exact rfl; (focus (first | exact dec_true (by omega) | exact dec_false (by omega); done)))
      | (apply WL.gF; exact rfl; exact rfl; (focus (first | exact dec_true (by omega) | exact dec_false (by omega); done)))
      | (apply W.condKT; exact rfl; (focus (first | exact dec_true (by omega) | exact dec_false (by omega); done)))
      | (show WL _ _ _ _ _ _ _; first | apply WL.nil | (refine WL.au (k := ?_)))
      | (show Z _ _ _ _ _; first | apply Z.then_normal | apply Z.block_ret)
      | (show W _ _ _ _ _ _; first | apply W.seq | apply W.region | apply W.block | apply W.ret))
    all_goals (refine Z.body1 Try.results163 rfl fun m => ⟨congrArg Value.bool ?_, m, rfl⟩; rw [litB, if_neg h1, if_pos (by omega)])
  · obtain ⟨z, hz⟩ := getI v (show (l / 2).toNat < v.length by omega)
    refine Spec.of _ Try.func163 rfl Try.ntmps163 (by kernel_rfl) rfl ?_
    repeat' (first
      | (apply WL.gF; exact rfl; exact rfl; (focus (first | exact dec_true (by omega) | exact dec_false (by omega); done)))
      | (apply W.condKF; exact rfl; (focus (first | exact dec_true (by omega) | exact dec_false (by omega); done)))
      | (apply WL.and1; exact rfl; exact rfl; exact rfl; exact rfl; omega)
      | (show WL _ _ _ _ _ _ _; first | apply WL.nil | (refine WL.au (k := ?_)) | (apply WL.index tOk; exact rfl; exact rfl; exact rfl; exact rfl; exact rfl; exact rfl; exact rfl; exact rfl; assumption; (exact extA); exact rfl; omega; assumption; intro b off h; have hcc := h; first | (obtain ⟨h1, h2, h3, h4, h5, h6, _⟩ := h) | (obtain ⟨h1, h2, h3, _⟩ := h) | (obtain ⟨h1, h2, _⟩ := h) | (obtain ⟨h1, _⟩ := h)) | (apply WL.guardF; exact rfl; exact rfl))
      | (show Z _ _ _ _ _; first | apply Z.then_normal | apply Z.block_ret)
      | (show W _ _ _ _ _ _; first | apply W.seq | apply W.region | apply W.block | apply W.ret | (apply W.condF; exact rfl)))
    all_goals (refine Z.body1 Try.results163 rfl fun m => ⟨congrArg Value.bool ?_, m, rfl⟩; rw [litB, if_neg (by assumption), if_neg (by omega), getD_of hz, dec_ne_dec])

def laneOf (v : List (BitVec 64)) (i : Int) : List Bool := if i < 0 ∨ 63 < i then [] else v.map (fun u => u.getLsbD i.toNat)
theorem map_snoc {α β : Type} (f : α → β) {l : List α} {k : Nat} {x : α} (h : l[k]? = some x) : (l.take (k + 1)).map f = (l.take k).map f ++ [f x] := by rw [take_succ' h]; simp
def laneTo (v : List (BitVec 64)) (i : Int) (k : Nat) : List Bool := (v.take k).map (fun u => u.getLsbD i.toNat) ++ List.replicate (v.length - k) false
theorem laneTo_set {v : List (BitVec 64)} {i : Int} {k : Nat} {u : BitVec 64} (hu : v[k]? = some u) : (laneTo v i k).set k (u.getLsbD i.toNat) = laneTo v i (k + 1) := by
  have hk := lt_of_get hu
  have hl : ((v.take k).map (fun u => u.getLsbD i.toNat)).length = k := by simp; omega
  unfold laneTo
  rw [map_snoc _ hu, List.set_append_right _ _ (by omega), hl, Nat.sub_self, show v.length - k = (v.length - (k + 1)) + 1 by omega, List.replicate_succ, List.set_cons_zero]
  simp
theorem laneTo_len (v : List (BitVec 64)) (i : Int) (k : Nat) (h : k ≤ v.length) : (laneTo v i k).length = v.length := by
  simp [laneTo]; omega
theorem laneTo_get {v : List (BitVec 64)} {i : Int} {k : Nat} (h : k < v.length) : (laneTo v i k)[k]? = some false := by
  have hl : ((v.take k).map (fun u => u.getLsbD i.toNat)).length = k := by simp; omega
  rw [laneTo, List.getElem?_append_right (by omega), hl, Nat.sub_self, List.getElem?_replicate, if_pos (by omega)]
theorem sim_Lane (a : Option Addr) (cap : Nat) (v : List (BitVec 64)) (i : Int) (w : World) (R : Row 1 encV w a v) (hn : v.length ≤ 1048576) :
    Lt.Spec Try.prog 174 [.slice a v.length cap, .int .i64 i] w (IsFresh 1 encB 4 w (laneOf v i)) := by
  have hlen := R.len
  by_cases hi : i < 0 ∨ 63 < i
  · refine Spec.of _ Try.func174 rfl Try.ntmps174 (by kernel_rfl) rfl ?_
    repeat' (first
      | (apply W.condKT; exact rfl; (focus (first | exact dec_true (by omega) | exact dec_false (by omega); done)))
      | (show WL _ _ _ _ _ _ _; first | apply WL.nil | (refine WL.au (k := ?_)) | (apply WL.guardF; exact rfl; exact rfl) | (apply WL.gD; exact rfl; exact rfl; all_goals intro _))
      | (show Z _ _ _ _ _; first | apply Z.then_normal | apply Z.then_ret)
      | (show W _ _ _ _ _ _; first | apply W.seq | apply W.region | apply W.ret | (apply W.condT; exact rfl)))
    all_goals first
      | (exfalso; omega)
      | (refine Z.body1 Try.results174 rfl fun m => ⟨(Ext.refl w).at m, none, 0, ?_, ?_⟩; (rw [laneOf, if_pos hi]; rfl); (rw [laneOf, if_pos hi]; exact Own.nil))
  · refine Spec.of _ Try.func174 rfl Try.ntmps174 (by kernel_rfl) rfl ?_
    repeat' (first
      | (apply WL.gF; exact rfl; exact rfl; (focus (first | exact dec_true (by omega) | exact dec_false (by omega); done)))
      | (apply W.condKF; exact rfl; (focus (first | exact dec_true (by omega) | exact dec_false (by omega); done)))
      | (apply WL.make (w0 := w) tOk; exact rfl; exact rfl; exact rfl; exact rfl; exact rfl; exact rfl; exact rfl; exact rfl; exact rfl; exact encB_ok; exact rfl; exact rfl; (exact extA); (first | omega | (simp; omega) | (simp at *; omega)); intro gb w' hO hge hx)
      | (show WL _ _ _ _ _ _ _; first | apply WL.nil | (refine WL.au (k := ?_)))
      | (show Z _ _ _ _ _; apply Z.then_normal)
      | (show W _ _ _ _ _ _; first | apply W.seq | apply W.region | apply W.block | apply W.skip))
    have e0 : List.replicate ((v.length : Int)).toNat false = laneTo v i 0 := by simp [laneTo]
    rw [e0] at hO
    have e0l : (laneTo v i 0).length = v.length := laneTo_len v i 0 (by omega)
    refine W.loopW v.length (fun k w' => k ≤ v.length ∧ Ext w w' ∧ Own 1 encB 4 w.heap.size w' (some ⟨gb, 0, none⟩) v.length (laneTo v i k))
      (fun k => [(0, .slice a v.length cap), (1, .int .i64 i), (5, .slice (some ⟨gb, 0, none⟩) v.length v.length), (17, .slice a v.length cap), (18, .int .i64 v.length), (19, .int .i64 k)]) ⟨by omega, hx, hO⟩ (fun k w' h => h.1) ⟨rfl, rfl, by rw [e0, e0l]; rfl, rfl, rfl, rfl, trivial⟩ ?_
    rintro k w' ⟨hk, hx', hO'⟩
    have hll := laneTo_len v i k hk
    by_cases hlt : k < v.length
    · obtain ⟨u, hu⟩ := getI v hlt
      have hz := laneTo_get (i := i) hlt
      repeat' (first
        | (apply W.condKT; exact rfl; (focus (first | exact dec_true (by omega) | exact dec_false (by omega); done)))
        | (apply WL.uand; exact rfl; exact rfl; exact rfl; exact rfl; (first | exact rfl | exact u64_lit _ (by omega)); (first | exact rfl | exact u64_lit _ (by omega)))
        | (apply WL.ushr; exact rfl; exact rfl; exact rfl; exact rfl; (first | exact rfl | exact u64_lit _ (by omega)); omega)
        | (apply WL.indexO tOk; exact rfl; exact rfl; exact rfl; exact rfl; exact rfl; exact rfl; exact rfl; exact rfl; assumption; (exact extA); exact encB_ok; (first | exact rfl | (focus (simp only [List.length_set]; done)) | (focus (simp; done)) | (focus (simp [*]; done)) | omega | (focus (simp only [List.length_set]; omega))); omega; assumption; intro gb ha hc; cases ha; have hcc := hc; first | (obtain ⟨h1, h2, h3, _⟩ := hc) | (obtain ⟨h1, h2, _⟩ := hc) | (obtain ⟨h1, _⟩ := hc))
        | (apply WL.storeO tOk; exact rfl; exact rfl; exact rfl; exact rfl; assumption; (exact extA); exact rfl; exact rfl; exact rfl; exact encB_ok; assumption; exact rfl; (exact extA); intro w' hO hX' hU)
        | (show WL _ _ _ _ _ _ _; first | apply WL.nil | (refine WL.au (k := ?_)) | (apply WL.index tOk; exact rfl; exact rfl; exact rfl; exact rfl; exact rfl; exact rfl; exact rfl; exact rfl; assumption; (exact extA); exact rfl; omega; assumption; intro b off h; have hcc := h; first | (obtain ⟨h1, h2, h3, h4, h5, h6, _⟩ := h) | (obtain ⟨h1, h2, h3, _⟩ := h) | (obtain ⟨h1, h2, _⟩ := h) | (obtain ⟨h1, _⟩ := h)))
        | (show Z _ _ _ _ _; first | apply Z.then_normal | apply Z.block_normal)
        | (show W _ _ _ _ _ _; first | apply W.seq | apply W.region | apply W.block | apply W.skip))
      rw [bit_and, Int.toNat_natCast, laneTo_set hu] at hO
      exact Z.againW ⟨by omega, hX', hO⟩ ⟨rfl, rfl, rfl, rfl, rfl, rfl, trivial⟩
    · repeat' (first
        | (apply W.condKF; exact rfl; (focus (first | exact dec_true (by omega) | exact dec_false (by omega); done)))
        | (show WL _ _ _ _ _ _ _; first | apply WL.nil | (refine WL.au (k := ?_)))
        | (show Z _ _ _ _ _; first | apply Z.then_normal | apply Z.then_exit | apply Z.block_exit)
        | (show W _ _ _ _ _ _; first | apply W.seq | apply W.region | apply W.ret | apply W.exit))
      obtain rfl : k = v.length := by omega
      have e2 : laneTo v i v.length = laneOf v i := by rw [laneOf, if_neg hi, laneTo]; simp
      rw [e2] at hO' hll
      refine Z.body1 Try.results174 rfl fun m => ⟨hx'.at m, some ⟨gb, 0, none⟩, v.length, ?_, hO'⟩
      rw [hll]
end Go.Proofs.Ythpnahapiodflaa
namespace Go.Proofs.Ythpnahapiodflaa
open Go Go.Lt Go.RowKit
set_option linter.unusedVariables false
set_option linter.unusedSimpArgs false
set_option maxRecDepth 20000

def wstep (ins : List (BitVec 64)) (s : List (BitVec 64) × Nat) (x : Int × Int) : List (BitVec 64) × Nat :=
  if 0 ≤ x.1 then (s.1 ++ [wordOf s.1 x.1 &&& wordOf s.1 x.2], s.2) else (s.1 ++ [ins.getD s.2 0#64], s.2 + 1)
def wto (n : List (Int × Int)) (ins : List (BitVec 64)) (k : Nat) : List (BitVec 64) × Nat := (n.take k).foldl (wstep ins) ([0#64], 0)
def wvalues (n : List (Int × Int)) (ins : List (BitVec 64)) : List (BitVec 64) := (wto n ins n.length).1
theorem wto_succ {n : List (Int × Int)} {k : Nat} {x : Int × Int} (ins : List (BitVec 64)) (h : n[k]? = some x) : wto n ins (k + 1) = wstep ins (wto n ins k) x := by
  unfold wto; rw [take_succ' h, List.foldl_append]; rfl
theorem wto_len (n : List (Int × Int)) (ins : List (BitVec 64)) : ∀ k, k ≤ n.length → (wto n ins k).1.length = k + 1 ∧ (wto n ins k).2 ≤ k
  | 0, _ => by simp [wto]
  | k + 1, h => by
    obtain ⟨x, hx⟩ := getI n (show k < n.length by omega)
    have ih := wto_len n ins k (by omega)
    rw [wto_succ ins hx]; unfold wstep
    split <;> simp <;> omega

theorem sim_Words (a b : Option Addr) (cap cb : Nat) (n : List (Int × Int)) (ins : List (BitVec 64)) (w : World) (R : Row 2 encN w a n) (Rb : Row 1 encV w b ins) (hcb : ins.length ≤ cb) (hg : GoodNet n) (hn : n.length ≤ 1048576) :
    Lt.Spec Try.prog 175 [.slice a n.length cap, .slice b ins.length cb] w (IsFresh 1 encV 185 w (wvalues n ins)) := by
  have hlen := Rb.len
  refine Spec.of _ Try.func175 rfl Try.ntmps175 (by kernel_rfl) rfl ?_
  repeat' (first
    | (apply WL.makeC (w0 := w) (z := 0#64) tOk; exact rfl; exact rfl; exact rfl; exact rfl; exact rfl; exact rfl; exact rfl; exact rfl; exact rfl; exact encV_ok; exact rfl; exact rfl; (exact extA); (first | omega | (simp; omega) | (simp at *; omega)); intro gb w' hO hge hx)
    | (show WL _ _ _ _ _ _ _; first | apply WL.nil | (refine WL.au (k := ?_)))
    | (show Z _ _ _ _ _; apply Z.then_normal)
    | (show W _ _ _ _ _ _; first | apply W.seq | apply W.region | apply W.block))
  refine W.loopO2 n.length (fun k c cp b dp w' => k ≤ n.length ∧ Ext w w' ∧ Own 1 encV 185 w.heap.size w' c cp (wto n ins k).1 ∧ Row 1 encV w b (ins.drop (wto n ins k).2) ∧ (ins.drop (wto n ins k).2).length ≤ dp)
    (fun k c cp b dp => [(0, .slice a n.length cap), (1, .slice b (ins.drop (wto n ins k).2).length dp), (5, .slice c (wto n ins k).1.length cp), (13, .slice a n.length cap), (14, .int .i64 n.length), (15, .int .i64 k)])
    (some ⟨gb, 0, none⟩) _ b cb ⟨by omega, hx, hO, Rb, hcb⟩ (fun k c cp b dp w' h => h.1) ⟨rfl, rfl, rfl, rfl, rfl, rfl, trivial⟩ ?_
  rintro k c cp ba dp w' ⟨hk, hx', hO', Rb', hdp⟩
  have hvl := wto_len n ins k hk
  by_cases hlt : k < n.length
  · obtain ⟨x, hxn⟩ := getI n hlt
    have hs := wto_succ ins hxn
    by_cases hin : 0 ≤ x.1
    · have hgt := hg.gate hxn hin
      have e2 : (wto n ins (k + 1)).2 = (wto n ins k).2 := by rw [hs, wstep, if_pos hin]
      have e1 : (wto n ins (k + 1)).1 = (wto n ins k).1 ++ [wordOf (wto n ins k).1 x.1 &&& wordOf (wto n ins k).1 x.2] := by rw [hs, wstep, if_pos hin]
      repeat' (first
        | (apply W.condKT; exact rfl; (focus (first | exact dec_true (by omega) | exact dec_false (by omega); done)))
        | (apply QL.uand; exact rfl; exact rfl; exact rfl; exact rfl; (first | exact rfl | exact u64_lit _ (by omega)); (first | exact rfl | exact u64_lit _ (by omega)))
        | (apply WL.alloc tOk; exact rfl; exact rfl; exact rfl; intro gb w' hb hge hx)
        | (apply WL.storeB (w0 := w) tOk; exact rfl; exact rfl; exact rfl; exact rfl; assumption; (exact extA); exact rfl; exact rfl; exact rfl; (exact extA); (first | assumption | omega | (focus (apply Nat.le_trans; rotate_left; assumption; exact Below.size (by (exact extA)); done))); intro w' hb hc hX' hU; have hcc := hc; obtain ⟨h1, h2, _⟩ := hc; have hO3 := Upd.own hU (Own.ext hO' hx) (Own.blk_ne hO' hge))
        | ((show QL _ _ _ _ (⟨_, .call ⟨.value (.func 180), _, _⟩, _, _, _, _⟩ :: _) _ _); apply QL.callS; exact rfl; exact rfl; exact rfl; exact rfl; exact sim_Word _ _ _ _ _ (Own.row encV_ok (by assumption)) (by unfold inI64; omega))
        | (apply WL.lit tOk; exact rfl; exact rfl; exact rfl; exact rfl; exact rfl; exact rfl; (first | exact rfl | kernel_rfl | (simp [Instr.fill, catCells]; done)); exact rfl; intro gb w' hb hge hc hx)
        | (apply WL.append1 tOk encV_ok; exact rfl; exact rfl; exact rfl; exact rfl; exact rfl; exact rfl; exact rfl; exact rfl; exact rfl; exact rfl; assumption; (exact extA); (first | exact rfl | (focus (simp only [List.length_set]; done)) | (focus (simp; done)) | (focus (simp [*]; done)) | omega | (focus (simp only [List.length_set]; omega))); assumption; (first | exact rfl | exact (rfl : encV (_, _) = _)); exact rfl; (exact extA); (first | omega | (simp; omega) | (simp at *; omega)); intro a' cap' w' hO hX' hU hF)
        | (show WL _ _ _ _ _ _ _; first | apply WL.nil | (refine WL.au (k := ?_)) | (apply WL.index tOk; exact rfl; exact rfl; exact rfl; exact rfl; exact rfl; exact rfl; exact rfl; exact rfl; assumption; (exact extA); exact rfl; omega; assumption; intro b off h; have hcc := h; first | (obtain ⟨h1, h2, h3, h4, h5, h6, _⟩ := h) | (obtain ⟨h1, h2, h3, _⟩ := h) | (obtain ⟨h1, h2, _⟩ := h) | (obtain ⟨h1, _⟩ := h)))
        | (show QL _ _ _ _ _ _ _; first | apply QL.nil | (refine QL.au (k := ?_)))
        | (show Z _ _ _ _ _; first | apply Z.then_normal | apply Z.block_normal)
        | (show W _ _ _ _ _ _; first | apply W.seq | apply W.region | apply W.block | apply W.skip | (apply W.regionD tMix; kernel_rfl)))
      exact Z.againO2 a' cap' ba dp ⟨by omega, hX', by rw [e1]; exact hO, by rw [e2]; exact Rb', by rw [e2]; exact hdp⟩ (by repeat' first | exact trivial | (refine And.intro ?_ ?_) | exact rfl | (rw [e1]; exact rfl) | (rw [e2]; exact rfl))
    · have e2 : (wto n ins (k + 1)).2 = (wto n ins k).2 + 1 := by rw [hs, wstep, if_neg hin]
      have e1 : (wto n ins (k + 1)).1 = (wto n ins k).1 ++ [ins.getD (wto n ins k).2 0#64] := by rw [hs, wstep, if_neg hin]
      by_cases hki : (wto n ins k).2 < ins.length
      · obtain ⟨z, hz⟩ := getI ins hki
        have hz' : (ins.drop (wto n ins k).2)[0]? = some z := by rw [List.getElem?_drop]; exact hz
        have hdl : 0 < (ins.drop (wto n ins k).2).length := by rw [List.length_drop]; omega
        rw [getD_of hz] at e1
        have e3 : (ins.drop (wto n ins k).2).drop 1 = ins.drop (wto n ins (k + 1)).2 := by rw [e2, List.drop_drop]
        repeat' (first
          | (apply W.condKT; exact rfl; (focus (first | exact dec_true (by omega) | exact dec_false (by omega); done)))
          | (apply W.condKF; exact rfl; (focus (first | exact dec_true (by omega) | exact dec_false (by omega); done)))
          | (apply WL.alloc tOk; exact rfl; exact rfl; exact rfl; intro gb w' hb hge hx)
          | (apply WL.storeB (w0 := w) tOk; exact rfl; exact rfl; exact rfl; exact rfl; assumption; (exact extA); exact rfl; exact rfl; exact rfl; (exact extA); (first | assumption | omega | (focus (apply Nat.le_trans; rotate_left; assumption; exact Below.size (by (exact extA)); done))); intro w' hb hc hX' hU; have hcc := hc; obtain ⟨h1, h2, _⟩ := hc; have hO3 := Upd.own hU (Own.ext hO' hx) (Own.blk_ne hO' hge))
          | (apply QL.sliceL tOk; exact rfl; exact rfl; exact rfl; exact rfl; exact rfl; exact rfl; exact rfl; exact rfl; assumption; (first | exact rfl | (focus (simp only [List.length_set]; done)) | (focus (simp; done)) | (focus (simp [*]; done)) | omega | (focus (simp only [List.length_set]; omega))); (first | assumption | omega); (first | omega | (simp; omega) | (simp at *; omega)); intro as' cs' hR hcs)
          | (apply WL.lit tOk; exact rfl; exact rfl; exact rfl; exact rfl; exact rfl; exact rfl; (first | exact rfl | kernel_rfl | (simp [Instr.fill, catCells]; done)); exact rfl; intro gb w' hb hge hc hx)
          | (apply WL.append1 tOk encV_ok; exact rfl; exact rfl; exact rfl; exact rfl; exact rfl; exact rfl; exact rfl; exact rfl; exact rfl; exact rfl; assumption; (exact extA); (first | exact rfl | (focus (simp only [List.length_set]; done)) | (focus (simp; done)) | (focus (simp [*]; done)) | omega | (focus (simp only [List.length_set]; omega))); assumption; (first | exact rfl | exact (rfl : encV (_, _) = _)); exact rfl; (exact extA); (first | omega | (simp; omega) | (simp at *; omega)); intro a' cap' w' hO hX' hU hF)
          | (show WL _ _ _ _ _ _ _; first | apply WL.nil | (refine WL.au (k := ?_)) | (apply WL.index tOk; exact rfl; exact rfl; exact rfl; exact rfl; exact rfl; exact rfl; exact rfl; exact rfl; assumption; (exact extA); exact rfl; omega; assumption; intro b off h; have hcc := h; first | (obtain ⟨h1, h2, h3, h4, h5, h6, _⟩ := h) | (obtain ⟨h1, h2, h3, _⟩ := h) | (obtain ⟨h1, h2, _⟩ := h) | (obtain ⟨h1, _⟩ := h)))
          | (show QL _ _ _ _ _ _ _; first | apply QL.nil | (refine QL.au (k := ?_)) | (apply QL.index tOk; exact rfl; exact rfl; exact rfl; exact rfl; exact rfl; exact rfl; exact rfl; exact rfl; assumption; (exact extA); exact rfl; omega; assumption; intro b off h; have hcc := h; first | (obtain ⟨h1, h2, h3, h4, h5, h6, _⟩ := h) | (obtain ⟨h1, h2, h3, _⟩ := h) | (obtain ⟨h1, h2, _⟩ := h) | (obtain ⟨h1, _⟩ := h)))
          | (show Z _ _ _ _ _; first | apply Z.then_normal | apply Z.block_normal)
          | (show W _ _ _ _ _ _; first | apply W.seq | apply W.region | apply W.block | apply W.skip | (apply W.regionD tMix; kernel_rfl)))
        exact Z.againO2 a' cap' as' cs' ⟨by omega, hX', by rw [e1]; exact hO, by rw [← e3]; exact hR, by rw [← e3]; exact hcs⟩ (by repeat' first | exact trivial | (refine And.intro ?_ ?_) | exact rfl | (rw [e1]; exact rfl) | (rw [←e3]; exact rfl))
      · have hd0 : (ins.drop (wto n ins k).2).length = 0 := by rw [List.length_drop]; omega
        have e4 : ins.drop (wto n ins (k + 1)).2 = ins.drop (wto n ins k).2 := by rw [e2, List.drop_eq_nil_of_le (by omega), List.drop_eq_nil_of_le (by omega)]
        have e5 : ins.getD (wto n ins k).2 0#64 = 0#64 := by rw [List.getD, List.getElem?_eq_none (by omega)]; rfl
        rw [e5] at e1
        repeat' (first
          | (apply W.condKT; exact rfl; (focus (first | exact dec_true (by omega) | exact dec_false (by omega); done)))
          | (apply W.condKF; exact rfl; (focus (first | exact dec_true (by omega) | exact dec_false (by omega); done)))
          | (apply WL.alloc tOk; exact rfl; exact rfl; exact rfl; intro gb w' hb hge hx)
          | (apply WL.storeB (w0 := w) tOk; exact rfl; exact rfl; exact rfl; exact rfl; assumption; (exact extA); exact rfl; exact rfl; exact rfl; (exact extA); (first | assumption | omega | (focus (apply Nat.le_trans; rotate_left; assumption; exact Below.size (by (exact extA)); done))); intro w' hb hc hX' hU; have hcc := hc; obtain ⟨h1, h2, _⟩ := hc; have hO3 := Upd.own hU (Own.ext hO' hx) (Own.blk_ne hO' hge))
          | (apply WL.lit tOk; exact rfl; exact rfl; exact rfl; exact rfl; exact rfl; exact rfl; (first | exact rfl | kernel_rfl | (simp [Instr.fill, catCells]; done)); exact rfl; intro gb w' hb hge hc hx)
          | ((apply WL.append1 (z := 0#64) tOk encV_ok; exact rfl; exact rfl; exact rfl; exact rfl; exact rfl; exact rfl; exact rfl; exact rfl; exact rfl; exact rfl; assumption; (first | exact Ext.refl _ | assumption | exact Ext.trans (by assumption) (by assumption)); (first | exact rfl | omega); assumption; exact rfl; exact rfl; (first | exact Ext.refl _ | assumption | exact Ext.trans (by assumption) (by assumption)); omega; intro a' cap' w' hO hX' hU hF))
          | (show WL _ _ _ _ _ _ _; first | apply WL.nil | (refine WL.au (k := ?_)) | (apply WL.index tOk; exact rfl; exact rfl; exact rfl; exact rfl; exact rfl; exact rfl; exact rfl; exact rfl; assumption; (exact extA); exact rfl; omega; assumption; intro b off h; have hcc := h; first | (obtain ⟨h1, h2, h3, h4, h5, h6, _⟩ := h) | (obtain ⟨h1, h2, h3, _⟩ := h) | (obtain ⟨h1, h2, _⟩ := h) | (obtain ⟨h1, _⟩ := h)))
          | (show Z _ _ _ _ _; first | apply Z.then_normal | apply Z.block_normal)
          | (show W _ _ _ _ _ _; first | apply W.seq | apply W.region | apply W.block | apply W.skip))
        exact Z.againO2 a' cap' ba dp ⟨by omega, hX', by rw [e1]; exact hO, by rw [e4]; exact Rb', by rw [e4]; exact hdp⟩ (by repeat' first | exact trivial | (refine And.intro ?_ ?_) | exact rfl | (rw [e1]; exact rfl) | (rw [e4]; exact rfl))
  · repeat' (first
      | (apply W.condKF; exact rfl; (focus (exact dec_false (by omega); done)))
      | (show WL _ _ _ _ _ _ _; first | apply WL.nil | (refine WL.au (k := ?_)))
      | (show Z _ _ _ _ _; first | apply Z.then_normal | apply Z.then_exit | apply Z.block_exit)
      | (show W _ _ _ _ _ _; first | apply W.seq | apply W.region | apply W.ret | apply W.exit))
    obtain rfl : k = n.length := by omega
    exact Z.body1 Try.results175 rfl fun m => ⟨hx'.at m, c, cp, rfl, hO'⟩
end Go.Proofs.Ythpnahapiodflaa
namespace Go.Proofs.Ythpnahapiodflaa
open Go Go.Lt Go.RowKit
set_option linter.unusedVariables false
set_option linter.unusedSimpArgs false
set_option maxRecDepth 20000

/-- A row of rows: each element a slice value with the values behind it. -/
abbrev BRow := Option Addr × Nat × List Bool
abbrev encR : BRow → List Value := fun r => [.slice r.1 r.2.2.length r.2.1]
theorem encR_ok : Enc 1 encR := ⟨fun _ => rfl, fun x u hu => by simp at hu; subst hu; rfl, by decide⟩
def RowsIn (w : World) (rs : List BRow) : Prop := ∀ r ∈ rs, Row 1 encB w r.1 r.2.2 ∧ r.2.2.length ≤ r.2.1

def growW (v : List (BitVec 64)) (m : Nat) : List (BitVec 64) := v ++ List.replicate (m - v.length) 0#64
def rowTo (v : List (BitVec 64)) (i : Nat) (row : List Bool) : Nat → List (BitVec 64)
  | 0 => v
  | k + 1 => if row.getD k false then (rowTo v i row k).set k ((rowTo v i row k).getD k 0#64 ||| (1#64 <<< i)) else rowTo v i row k
def packTo (rs : List BRow) : Nat → List (BitVec 64)
  | 0 => []
  | i + 1 => rowTo (growW (packTo rs i) (rs.getD i (none, 0, [])).2.2.length) i (rs.getD i (none, 0, [])).2.2 (rs.getD i (none, 0, [])).2.2.length
def pack (rs : List BRow) : List (BitVec 64) := packTo rs (min rs.length 64)
theorem rowTo_len (v : List (BitVec 64)) (i : Nat) (row : List Bool) (k : Nat) : (rowTo v i row k).length = v.length := by
  induction k with
  | zero => rfl
  | succ k ih => unfold rowTo; split <;> simp [ih]
theorem growW_len (v : List (BitVec 64)) (m : Nat) : (growW v m).length = max v.length m := by simp [growW]; omega

theorem sim_Pack (a : Option Addr) (cap : Nat) (rs : List BRow) (w : World) (R : Row 1 encR w a rs) (hc : rs.length ≤ cap) (hRs : RowsIn w rs) (hb : ∀ r ∈ rs, r.2.2.length ≤ 1048576) :
    Lt.Spec Try.prog 176 [.slice a rs.length cap] w (IsFresh 1 encV 185 w (pack rs)) := by
  have hlen := R.len
  have hmm : (min (rs.length : Int) 64).toNat = min rs.length 64 := by omega
  refine Spec.of _ Try.func176 rfl Try.ntmps176 (by kernel_rfl) rfl ?_
  repeat' (first
    | (apply WL.sliceH tOk; exact rfl; exact rfl; exact rfl; exact rfl; exact rfl; exact rfl; exact rfl; assumption; (first | exact rfl | (focus (simp only [List.length_set]; done)) | (focus (simp; done)) | (focus (simp [*]; done)) | omega | (focus (simp only [List.length_set]; omega))); (first | assumption | omega); (first | omega | (simp; omega) | (simp at *; omega)); intro hR hc)
    | (apply WL.min; exact rfl; exact rfl; exact rfl; exact rfl)
    | (show WL _ _ _ _ _ _ _; first | apply WL.nil | (refine WL.au (k := ?_)))
    | (show Z _ _ _ _ _; apply Z.then_normal)
    | (show W _ _ _ _ _ _; first | apply W.seq | apply W.region | apply W.block))
  rw [hmm] at hR hc
  have hm : (rs.take (min rs.length 64)).length = min rs.length 64 := by rw [List.length_take]; omega
  refine W.loopO (min rs.length 64) (fun i c cp w' => i ≤ min rs.length 64 ∧ Ext w w' ∧ Own 1 encV 185 w.heap.size w' c cp (packTo rs i))
    (fun i c cp => [(3, .slice c (packTo rs i).length cp), (12, .slice a (rs.take (min rs.length 64)).length cap), (13, .int .i64 (rs.take (min rs.length 64)).length), (14, .int .i64 i)]) none 0 ⟨by omega, Ext.refl w, Own.nil⟩ (fun k c cp w' h => h.1) ⟨rfl, by rw [hmm]; rfl, by rw [hmm]; rfl, rfl, trivial⟩ ?_
  rintro i c cp w' ⟨hi, hx', hO'⟩
  by_cases hlt : i < min rs.length 64
  · obtain ⟨r, hr⟩ := getI rs (show i < rs.length by omega)
    have hrt : (rs.take (min rs.length 64))[i]? = some r := by rw [List.getElem?_take, if_pos hlt]; exact hr
    have hrr := hRs r (List.mem_of_getElem? hr)
    have hrl := hb r (List.mem_of_getElem? hr)
    have Rr := hrr.1
    have hrd : rs.getD i (none, 0, []) = r := getD_of hr
    have hnext : packTo rs (i + 1) = rowTo (growW (packTo rs i) r.2.2.length) i r.2.2 r.2.2.length := by rw [packTo, hrd]
    generalize packTo rs i = v at *
    repeat' (first
      | (apply W.condKT; exact rfl; (focus (first | exact dec_true (by omega) | exact dec_false (by omega); done)))
      | (show WL _ _ _ _ _ _ _; first | apply WL.nil | (refine WL.au (k := ?_)) | (apply WL.index tOk; exact rfl; exact rfl; exact rfl; exact rfl; exact rfl; exact rfl; exact rfl; exact rfl; assumption; (exact extA); exact rfl; omega; assumption; intro b off h; have hcc := h; first | (obtain ⟨h1, h2, h3, h4, h5, h6, _⟩ := h) | (obtain ⟨h1, h2, h3, _⟩ := h) | (obtain ⟨h1, h2, _⟩ := h) | (obtain ⟨h1, _⟩ := h)))
      | (show Z _ _ _ _ _; apply Z.then_normal)
      | (show W _ _ _ _ _ _; first | apply W.seq | apply W.region | apply W.block | apply W.skip))
    refine W.loopO (r.2.2.length - v.length) (fun j c cp w' => j ≤ r.2.2.length - v.length ∧ Ext w w' ∧ Own 1 encV 185 w.heap.size w' c cp (v ++ List.replicate j 0#64))
      (fun j c cp => [(3, .slice c (v ++ List.replicate j 0#64).length cp), (4, .int .i64 i), (5, .slice r.1 r.2.2.length r.2.1), (12, .slice a (rs.take (min rs.length 64)).length cap), (13, .int .i64 (rs.take (min rs.length 64)).length), (14, .int .i64 i)]) c cp ⟨by omega, hx', by simpa using hO'⟩ (fun k c cp w' h => h.1) ⟨by rw [List.replicate_zero, List.append_nil]; rfl, rfl, rfl, rfl, rfl, rfl, trivial⟩ ?_
    rintro j c cp w' ⟨hj, hx', hO'⟩
    have hjl : (v ++ List.replicate j 0#64).length = v.length + j := by simp
    by_cases hjt : j < r.2.2.length - v.length
    · have e1 : v ++ List.replicate (j + 1) 0#64 = (v ++ List.replicate j 0#64) ++ [0#64] := by rw [List.append_assoc, List.replicate_succ']
      repeat' (first
        | (apply W.condKT; exact rfl; (focus (first | exact dec_true (by omega) | exact dec_false (by omega); done)))
        | (apply WL.lit tOk; exact rfl; exact rfl; exact rfl; exact rfl; exact rfl; exact rfl; (first | exact rfl | kernel_rfl | (simp [Instr.fill, catCells]; done)); exact rfl; intro gb w' hb hge hc hx)
        | ((apply WL.append1 (z := 0#64) tOk encV_ok; exact rfl; exact rfl; exact rfl; exact rfl; exact rfl; exact rfl; exact rfl; exact rfl; exact rfl; exact rfl; assumption; (first | exact Ext.refl _ | assumption | exact Ext.trans (by assumption) (by assumption)); (first | exact rfl | omega); assumption; exact rfl; exact rfl; (first | exact Ext.refl _ | assumption | exact Ext.trans (by assumption) (by assumption)); omega; intro a' cap' w' hO hX' hU hF))
        | (show WL _ _ _ _ _ _ _; first | apply WL.nil | (refine WL.au (k := ?_)))
        | (show Z _ _ _ _ _; first | apply Z.then_normal | apply Z.block_normal)
        | (show W _ _ _ _ _ _; first | apply W.seq | apply W.region | apply W.block | apply W.skip))
      exact Z.againO a' cap' ⟨by omega, hX', by rw [e1]; exact hO⟩ (by repeat' first | exact trivial | (refine And.intro ?_ ?_) | exact rfl | (rw [e1]; exact rfl))
    · repeat' (first
        | (apply W.condKF; exact rfl; (focus (first | exact dec_true (by omega) | exact dec_false (by omega); done)))
        | (show WL _ _ _ _ _ _ _; first | apply WL.nil | (refine WL.au (k := ?_)))
        | (show Z _ _ _ _ _; first | apply Z.then_normal | apply Z.then_exit | apply Z.block_exit)
        | (show W _ _ _ _ _ _; first | apply W.seq | apply W.region | apply W.block | apply W.exit))
      obtain rfl : j = r.2.2.length - v.length := by omega
      have hgw : v ++ List.replicate (r.2.2.length - v.length) 0#64 = growW v r.2.2.length := rfl
      rw [hgw] at hO' hjl ⊢
      have hgl := growW_len v r.2.2.length
      refine W.loopW r.2.2.length (fun k w' => k ≤ r.2.2.length ∧ Ext w w' ∧ Own 1 encV 185 w.heap.size w' c cp (rowTo (growW v r.2.2.length) i r.2.2 k))
        (fun k => [(3, .slice c (rowTo (growW v r.2.2.length) i r.2.2 k).length cp), (4, .int .i64 i), (27, .slice r.1 r.2.2.length r.2.1), (28, .int .i64 r.2.2.length), (29, .int .i64 k), (12, .slice a (rs.take (min rs.length 64)).length cap), (13, .int .i64 (rs.take (min rs.length 64)).length), (14, .int .i64 i)]) ⟨by omega, hx', hO'⟩ (fun k w' h => h.1) ⟨rfl, rfl, rfl, rfl, rfl, rfl, rfl, rfl, trivial⟩ ?_
      rintro k w' ⟨hk, hx', hO'⟩
      have hrlen := rowTo_len (growW v r.2.2.length) i r.2.2 k
      by_cases hkt : k < r.2.2.length
      · obtain ⟨z, hz⟩ := getI r.2.2 hkt
        obtain ⟨u, hu⟩ := getI (rowTo (growW v r.2.2.length) i r.2.2 k) (show k < _ by omega)
        have e0 : rowTo (growW v r.2.2.length) i r.2.2 (k + 1) = if z then (rowTo (growW v r.2.2.length) i r.2.2 k).set k (u ||| (1#64 <<< i)) else rowTo (growW v r.2.2.length) i r.2.2 k := by rw [rowTo, getD_of hz, getD_of hu]
        have e5 : (rowTo (growW v r.2.2.length) i r.2.2 (k + 1)).length = (rowTo (growW v r.2.2.length) i r.2.2 k).length := by rw [rowTo_len, rowTo_len]
        repeat' (first
          | (apply W.condKT; exact rfl; (focus (first | exact dec_true (by omega) | exact dec_false (by omega); done)))
          | (apply QL.uor; exact rfl; exact rfl; exact rfl; exact rfl; (first | exact rfl | exact u64_lit _ (by omega)); (first | exact rfl | exact u64_lit _ (by omega)))
          | (apply QL.ushl; exact rfl; exact rfl; exact rfl; exact rfl; (first | exact rfl | exact u64_lit _ (by omega)); omega)
          | (apply W.regionQS 8 tMix; kernel_rfl; exact rfl; kernel_rfl; kernel_rfl)
          | (apply QL.indexO tOk; exact rfl; exact rfl; exact rfl; exact rfl; exact rfl; exact rfl; exact rfl; exact rfl; assumption; (exact extA); exact encV_ok; (first | exact rfl | (focus (simp only [List.length_set]; done)) | (focus (simp; done)) | (focus (simp [*]; done)) | omega | (focus (simp only [List.length_set]; omega))); omega; assumption; intro gb ha hc; cases ha; have hcc := hc; first | (obtain ⟨h1, h2, h3, _⟩ := hc) | (obtain ⟨h1, h2, _⟩ := hc) | (obtain ⟨h1, _⟩ := hc))
          | (apply WL.storeO tOk; exact rfl; exact rfl; exact rfl; exact rfl; assumption; (exact extA); exact rfl; exact rfl; exact rfl; exact encV_ok; assumption; exact rfl; (exact extA); intro w' hO hX' hU)
          | (show WL _ _ _ _ _ _ _; first | apply WL.nil | (refine WL.au (k := ?_)) | (apply WL.index tOk; exact rfl; exact rfl; exact rfl; exact rfl; exact rfl; exact rfl; exact rfl; exact rfl; assumption; (exact extA); exact rfl; omega; assumption; intro b off h; have hcc := h; first | (obtain ⟨h1, h2, h3, h4, h5, h6, _⟩ := h) | (obtain ⟨h1, h2, h3, _⟩ := h) | (obtain ⟨h1, h2, _⟩ := h) | (obtain ⟨h1, _⟩ := h)))
          | (show QL _ _ _ _ _ _ _; first | apply QL.nil | (refine QL.au (k := ?_)))
          | (show Z _ _ _ _ _; first | apply Z.tail | apply Z.then_normal | apply Z.block_normal)
          | (show W _ _ _ _ _ _; first | apply W.seq | apply W.region | apply W.block | apply W.skip | (apply W.condB; exact rfl; all_goals intro _)))
        · have hz1 : z = true := by assumption
          rw [hz1, if_pos rfl] at e0
          simp only [Int.toNat_natCast, show BitVec.ofInt 64 1 = 1#64 from rfl] at hO
          rw [← e0] at hO
          exact Z.againW ⟨by omega, hX', hO⟩ (by repeat' first | exact trivial | (refine And.intro ?_ ?_) | exact rfl | (rw [e5]; exact rfl))
        · have hz1 : z = false := by assumption
          rw [hz1, if_neg (by decide)] at e0
          exact Z.againW ⟨by omega, hx', by rw [e0]; exact hO'⟩ (by repeat' first | exact trivial | (refine And.intro ?_ ?_) | exact rfl | (rw [e5]; exact rfl))
      · repeat' (first
          | (apply W.condKF; exact rfl; (focus (first | exact dec_true (by omega) | exact dec_false (by omega); done)))
          | (show WL _ _ _ _ _ _ _; first | apply WL.nil | (refine WL.au (k := ?_)))
          | (show Z _ _ _ _ _; first | apply Z.then_normal | apply Z.block_normal | apply Z.then_exit | apply Z.block_exit)
          | (show W _ _ _ _ _ _; first | apply W.seq | apply W.region | apply W.exit))
        obtain rfl : k = r.2.2.length := by omega
        exact Z.againO c cp ⟨by omega, hx', by rw [hnext]; exact hO'⟩ (by repeat' first | exact trivial | (refine And.intro ?_ ?_) | exact rfl | (rw [hnext]; exact rfl))
  · repeat' (first
      | (apply W.condKF; exact rfl; (focus (first | exact dec_true (by omega) | exact dec_false (by omega); done)))
      | (show WL _ _ _ _ _ _ _; first | apply WL.nil | (refine WL.au (k := ?_)))
      | (show Z _ _ _ _ _; first | apply Z.then_normal | apply Z.then_exit | apply Z.block_exit)
      | (show W _ _ _ _ _ _; first | apply W.seq | apply W.region | apply W.ret | apply W.exit))
    obtain rfl : i = min rs.length 64 := by omega
    exact Z.body1 Try.results176 rfl fun m => ⟨hx'.at m, c, cp, rfl, hO'⟩
end Go.Proofs.Ythpnahapiodflaa
namespace Go.Proofs.Ythpnahapiodflaa
open Go Go.Lt Go.RowKit
set_option linter.unusedVariables false
set_option linter.unusedSimpArgs false
set_option maxRecDepth 20000

abbrev bitsOf (v : List (BitVec 64)) (i : Nat) : List Bool := v.map (fun u => u.getLsbD i)
theorem getD_bits (v : List (BitVec 64)) (i k : Nat) : (bitsOf v i).getD k false = (v.getD k 0#64).getLsbD i := by
  simp only [List.getD, bitsOf, List.getElem?_map]
  cases v[k]? <;> simp
theorem bit_wordOf {v : List (BitVec 64)} {l : Int} {i : Nat} (hv : v.getD 0 0#64 = 0#64) (h0 : 0 ≤ l) (h1 : l / 2 < v.length) (hi : i < 64) : (wordOf v l).getLsbD i = ofL (bitsOf v i) l := by
  rw [wordOf, if_neg (by omega), ofL, getD_bits]
  have hw : (if 0 < l / 2 then v.getD (l / 2).toNat 0#64 else 0#64) = v.getD (l / 2).toNat 0#64 := by
    split
    · rfl
    · rw [show (l / 2).toNat = 0 by omega, hv]
  rw [hw]
  split
  · simp [*]
  · simp [*]
theorem wto_head (n : List (Int × Int)) (W : List (BitVec 64)) : ∀ k, k ≤ n.length → (wto n W k).1.getD 0 0#64 = 0#64
  | 0, _ => by simp [wto]
  | k + 1, h => by
    obtain ⟨x, hx⟩ := getI n (show k < n.length by omega)
    have ih := wto_head n W k (by omega)
    have hl := wto_len n W k (by omega)
    rw [wto_succ W hx]; unfold wstep
    have happ : ∀ y : BitVec 64, ((wto n W k).1 ++ [y]).getD 0 0#64 = (wto n W k).1.getD 0 0#64 := fun y => by
      simp only [List.getD]
      rw [List.getElem?_append_left (by omega)]
    split <;> simp only [happ, ih]
theorem bits_to {n : List (Int × Int)} (hg : GoodNet n) (W : List (BitVec 64)) {i : Nat} (hi : i < 64) : ∀ k, k ≤ n.length → bitsOf (wto n W k).1 i = (vto n (bitsOf W i) k).1 ∧ (wto n W k).2 = (vto n (bitsOf W i) k).2
  | 0, _ => by simp [wto, vto, bitsOf]
  | k + 1, h => by
    obtain ⟨x, hx⟩ := getI n (show k < n.length by omega)
    obtain ⟨ih1, ih2⟩ := bits_to hg W hi k (by omega)
    have hl := wto_len n W k (by omega)
    have hh := wto_head n W k (by omega)
    rw [wto_succ W hx, vto_succ (bitsOf W i) hx]; unfold wstep vstep
    by_cases h0 : 0 ≤ x.1
    · have hgt := hg.gate hx h0
      rw [if_pos h0, if_neg (by omega)]
      refine ⟨?_, ih2⟩
      show bitsOf ((wto n W k).1 ++ [_]) i = _
      rw [bitsOf, List.map_append, List.map_cons, List.map_nil, ← bitsOf, ih1, BitVec.getLsbD_and, bit_wordOf hh h0 (by omega) hi, bit_wordOf hh (by omega) (by omega) hi, ih1]
    · rw [if_neg h0, if_pos (by omega)]
      refine ⟨?_, by show _ + 1 = _ + 1; rw [ih2]⟩
      show bitsOf ((wto n W k).1 ++ [_]) i = _
      rw [bitsOf, List.map_append, List.map_cons, List.map_nil, ← bitsOf, ih1, ← ih2, ← getD_bits]
theorem bits_wvalues {n : List (Int × Int)} (hg : GoodNet n) (W : List (BitVec 64)) {i : Nat} (hi : i < 64) : bitsOf (wvalues n W) i = values n (bitsOf W i) := (bits_to hg W hi n.length (Nat.le_refl _)).1

theorem getD_set {α : Type} (l : List α) (k q : Nat) (y d : α) : (l.set k y).getD q d = if q = k ∧ q < l.length then y else l.getD q d := by
  simp only [List.getD, List.getElem?_set]
  by_cases h : k = q
  · subst h
    by_cases h2 : k < l.length
    · simp [h2]
    · simp [h2]
  · rw [if_neg h, if_neg (fun hh => h hh.1.symm)]
theorem bit_pow (u : BitVec 64) (i t : Nat) (hi : i < 64) : (u ||| (1#64 <<< i)).getLsbD t = (u.getLsbD t || decide (t = i)) := by
  have h : (1#64 <<< i).getLsbD t = decide (t = i) := by
    show (BitVec.twoPow 64 i).getLsbD t = _
    rw [BitVec.getLsbD_twoPow]
    simp [hi, eq_comm]
  rw [BitVec.getLsbD_or, h]
theorem rowTo_bit (v : List (BitVec 64)) (i : Nat) (row : List Bool) (q t : Nat) (hi : i < 64) (ht : t < 64) : ∀ k, ((rowTo v i row k).getD q 0#64).getLsbD t = ((v.getD q 0#64).getLsbD t || (decide (t = i ∧ q < k ∧ q < v.length) && row.getD q false))
  | 0 => by simp [rowTo]
  | k + 1 => by
    have ih := rowTo_bit v i row q t hi ht k
    have hl := rowTo_len v i row k
    unfold rowTo
    by_cases hr : row.getD k false = true
    · rw [if_pos hr, getD_set]
      by_cases hqk : q = k ∧ q < (rowTo v i row k).length
      · obtain ⟨rfl, hq⟩ := hqk
        rw [if_pos ⟨rfl, hq⟩, bit_pow _ _ _ hi, ih, hr]
        rw [hl] at hq
        simp [hq]
      · rw [if_neg hqk, ih]
        congr 2
        rw [decide_eq_decide]
        rw [hl] at hqk
        omega
    · rw [if_neg hr, ih]
      by_cases hqk : q = k
      · subst hqk
        have : row.getD q false = false := by simpa using hr
        rw [this]; simp
      · congr 2
        rw [decide_eq_decide]
        omega
theorem grow_get (v : List (BitVec 64)) (m q : Nat) : (growW v m).getD q 0#64 = v.getD q 0#64 := by
  simp only [growW, List.getD, List.getElem?_append]
  split
  · rfl
  · rename_i h
    rw [List.getElem?_eq_none (l := v) (by omega), List.getElem?_replicate]
    split <;> rfl
theorem pack_bit (rs : List BRow) (q t : Nat) (ht : t < 64) : ∀ i, i ≤ 64 → ((packTo rs i).getD q 0#64).getLsbD t = (decide (t < i) && (rs.getD t (none, 0, [])).2.2.getD q false)
  | 0, _ => by simp [packTo]
  | i + 1, h => by
    rw [packTo, rowTo_bit _ _ _ _ _ (by omega) ht, grow_get, pack_bit rs q t ht i (by omega), growW_len]
    by_cases hti : t = i
    · subst hti
      by_cases hq : q < (rs.getD t (none, 0, [])).2.2.length
      · have : q < max (packTo rs t).length (rs.getD t (none, 0, [])).2.2.length := by omega
        rw [decide_eq_true (show t = t ∧ q < _ ∧ q < _ from ⟨rfl, hq, this⟩), decide_eq_true (Nat.lt_succ_self t)]
        simp
      · have : (rs.getD t (none, 0, [])).2.2.getD q false = false := by rw [List.getD, List.getElem?_eq_none (by omega)]; rfl
        rw [this]; simp
    · have h1 : decide (t < i + 1) = decide (t < i) := by rw [decide_eq_decide]; omega
      rw [h1]; simp [hti]

theorem sim_Eval (a b : Option Addr) (cap cb : Nat) (n : List (Int × Int)) (ins : List Bool) (w : World) (R : Row 2 encN w a n) (Rb : Row 1 encB w b ins) (hcb : ins.length ≤ cb) (hg : GoodNet n) (hn : n.length ≤ 1000000) (hi : ins.length ≤ 1048576) :
    Lt.Spec Try.prog 162 [.slice a n.length cap, .slice b ins.length cb] w (IsFresh 1 encB 4 w (values n ins)) := by
  have hpk : (pack [(b, cb, ins)]).length = ins.length := by
    show (rowTo (growW [] ins.length) 0 ins ins.length).length = _
    rw [rowTo_len, growW_len]; simp
  have hpb : bitsOf (pack [(b, cb, ins)]) 0 = ins := by
    apply List.ext_getElem?
    intro q
    by_cases hq : q < ins.length
    · have h1 := pack_bit [(b, cb, ins)] q 0 (by omega) 1 (by omega)
      have h2 : ((pack [(b, cb, ins)]).getD q 0#64).getLsbD 0 = ins.getD q false := by
        show ((packTo [(b, cb, ins)] 1).getD q 0#64).getLsbD 0 = _
        rw [h1]; rfl
      rw [← getD_bits] at h2
      have hbl : (bitsOf (pack [(b, cb, ins)]) 0).length = ins.length := by rw [bitsOf, List.length_map, hpk]
      obtain ⟨x, hx⟩ := getI (bitsOf (pack [(b, cb, ins)]) 0) (show q < _ by omega)
      obtain ⟨y, hy⟩ := getI ins hq
      rw [getD_of hx, getD_of hy] at h2
      rw [hx, hy, h2]
    · rw [List.getElem?_eq_none (by rw [bitsOf, List.length_map, hpk]; omega), List.getElem?_eq_none (by omega)]
  have hwl : (wvalues n (pack [(b, cb, ins)])).length = n.length + 1 := (wto_len n _ n.length (Nat.le_refl _)).1
  refine Spec.of _ Try.func162 rfl Try.ntmps162 (by kernel_rfl) rfl ?_
  repeat' (first
    | (apply WL.lit tOk; exact rfl; exact rfl; exact rfl; exact rfl; exact rfl; exact rfl; (first | exact rfl | kernel_rfl | (simp [Instr.fill, catCells]; done)); exact rfl; intro gb w' hb hge hc hx; have hO := Own.of_block ([(b, cb, ins)]) encR_ok hb hge rfl)
    | (show WL _ _ _ _ _ _ _; first | apply WL.nil | (refine WL.au (k := ?_)))
    | (show Z _ _ _ _ _; apply Z.then_normal)
    | (show W _ _ _ _ _ _; first | apply W.seq | apply W.region))
  have hrs : RowsIn w' [(b, cb, ins)] := fun r hr => by
    have : r = (b, cb, ins) := by simpa using hr
    subst this; exact ⟨Rb.ext hx, hcb⟩
  have hbs : ∀ r ∈ [((b, cb, ins) : BRow)], r.2.2.length ≤ 1048576 := fun r hr => by
    have : r = (b, cb, ins) := by simpa using hr
    subst this; exact hi
  have R1 := R.ext hx
  have hx2 := hx
  repeat' (first
    | ((show WL _ _ _ (⟨_, .call ⟨.value (.func 176), _, _⟩, _, _, _, _⟩ :: _) _ _ _); apply WL.call; exact rfl; exact rfl; exact rfl; exact rfl; exact sim_Pack _ _ [(b, cb, ins)] _ (Own.row encR_ok (by assumption)) (Nat.le_refl _) hrs hbs; rintro v' w' ⟨hx, a', cap', rfl, hO⟩))
  have hO1 := hO
  have hx1 := hx
  repeat' (first
    | ((show WL _ _ _ (⟨_, .call ⟨.value (.func 175), _, _⟩, _, _, _, _⟩ :: _) _ _ _); apply WL.call; exact rfl; exact rfl; exact rfl; exact rfl; exact sim_Words _ _ _ _ _ (pack [(b, cb, ins)]) _ (R1.ext hx1) (Own.row encV_ok hO1) hO1.capLe hg (by omega); rintro v' w' ⟨hx, a', cap', rfl, hO⟩))
  have hx3 := hx
  repeat' (first
    | ((show WL _ _ _ (⟨_, .call ⟨.value (.func 174), _, _⟩, _, _, _, _⟩ :: _) _ _ _); apply WL.call; exact rfl; exact rfl; exact rfl; exact rfl; exact sim_Lane _ _ (wvalues n (pack [(b, cb, ins)])) _ _ (Own.row encV_ok (by assumption)) (by omega); rintro v' w' ⟨hx, a', cap', rfl, hO⟩)
    | (show WL _ _ _ _ _ _ _; first | apply WL.nil | (refine WL.au (k := ?_)))
    | (show Z _ _ _ _ _; apply Z.then_normal)
    | (show W _ _ _ _ _ _; apply W.ret))
  have hl : laneOf (wvalues n (pack [(b, cb, ins)])) 0 = values n ins := by
    rw [laneOf, if_neg (by omega)]
    show bitsOf _ 0 = _
    rw [bits_wvalues hg _ (by omega), hpb]
  rw [hl] at hO
  refine Z.body1 Try.results162 rfl fun m => ⟨(hx2.trans (hx1.trans (hx3.trans hx))).at m, a', cap', by rw [hl], hO.base (Nat.le_trans hx2.size (Nat.le_trans hx1.size hx3.size))⟩
end Go.Proofs.Ythpnahapiodflaa
namespace Go.Lt
open Go.RowKit
set_option linter.unusedVariables false
section
variable {P : Program} {N : Nat} {e : Env} {w : World} {Q : Exit → Act → World → Prop} {ops : List Oper} {l : List Oper} {T : Tab}
  {d : Nat} {tt ty : TypeId} {ps : String} {af : Array Edge} {g : Option (Nat × Bool)} {t t2 : TypeId} {α : Type} {enc : α → List Value} {B : Nat} {ti ei : TI} {el : TypeId}
theorem WL.copyO {x y : Operand} {gb n cap m c : Nat} {b : Option Addr} {xs ys : List α} {wo w1 w0 : World} (hT : OkTab P T) (hE : Enc 1 enc) (hg : gate ops e g = some true) (hd : Nat.blt d N = true)
    (hx : ev e x = some (.slice (some ⟨gb, 0, none⟩) n cap)) (hy : ev e y = some (.slice b m c)) (ht : tget T t = some ti) (htd : ti.desc = .slice el) (he : tget T el = some ei) (hs : ei.size = 1)
    (ho : Own 1 enc el B wo (some ⟨gb, 0, none⟩) cap xs) (hwo : Ext wo w) (hn : xs.length = n) (hr : Row 1 enc w1 b ys) (hw1 : Ext w1 w) (hm : ys.length = m) (hB : w0.heap.size = B) (hX : Ext w0 w)
    (k : ∀ w', Own 1 enc el B w' (some ⟨gb, 0, none⟩) cap (ys.take xs.length ++ xs.drop ys.length) → Ext w0 w' → Upd B (some ⟨gb, 0, none⟩) w w' → WL P N ops.toArray l ((d, .int .i64 ((Min.min ys.length xs.length : Nat) : Int)) :: e) w' Q) :
    WL P N ops.toArray (⟨some d, .call ⟨.builtin .copy, ⟨[x, y]⟩, ⟨[t, t2]⟩⟩, tt, ps, af, g⟩ :: l) e w Q := by
  have hti := (hT.at ht).1
  rw [htd] at hti
  obtain ⟨j, hj1, hj2, _⟩ := (hT.at he).info
  have hinf : (P.info? el).map (·.size) = some 1 := by rw [hj1]; simp; omega
  have ho' := ho.ext hwo
  have hO := ho'
  subst hn; subst hm
  by_cases h0 : Min.min ys.length xs.length = 0
  · have hl : ys.take xs.length ++ xs.drop ys.length = xs := by
      cases xs with
      | nil => simp
      | cons z r =>
        cases ys with
        | nil => simp
        | cons z r => simp at h0
    refine WL.eff (v := .int .i64 0) (w' := fun m => at' w m) hg hd ?_ (fun m => ?_)
    · intro ρ hρ m
      have := run_copy_none (P := P) (at' w m) t t2 tt el (some ⟨gb, 0, none⟩) b xs.length cap ys.length c hti hinf h0
      simp only [execOp, resolve, invoke, builtin, Sem.run_bind, Sem.run_pure, Result.andThen_ok, List.map_toArray, List.map_cons, List.map_nil, hρ _ _ hx, hρ _ _ hy]
      rw [this]
      rfl
    · have := k (at' w m) (by rw [hl]; exact ho'.ext ((Ext.refl w).at m)) (hX.at m) ⟨⟨rfl, rfl, rfl, Nat.le_refl _, fun _ _ _ => rfl⟩, fun q hq => (ho'.blk_lt q hq).1⟩
      rw [h0] at this
      exact this
  · have hy0 : 0 < ys.length := by omega
    obtain ⟨z0, hz0⟩ : ∃ z, ys[0]? = some z := ⟨_, List.getElem?_eq_getElem hy0⟩
    obtain ⟨b', off, rfl, _⟩ := hr.elem 0 z0 hz0
    rcases ho'.2 with ⟨h1, _⟩ | ⟨g', c', cur, h1, h2, h3, h4, h5, h6, h7⟩
    · simp at h1
    simp only [Value.slice.injEq, Option.some.injEq, Addr.mk.injEq, and_true, true_and] at h1
    obtain ⟨rfl, rfl⟩ := h1
    have hcl : ((ys.take xs.length).flatMap enc).length = Min.min ys.length xs.length := by rw [length_flatMap' hE.len, List.length_take]; omega
    have hsrc : ∀ (j : Nat) v, ((ys.take xs.length).flatMap enc)[j]? = some v → w.cell? ((⟨b', off, none⟩ : Addr).add j) = some v := by
      intro j v hv
      have hjl := (List.getElem?_eq_some_iff.1 hv).1
      rw [hcl] at hjl
      obtain ⟨z, hz⟩ : ∃ z, ys[j]? = some z := ⟨_, List.getElem?_eq_getElem (by omega)⟩
      have hz' : (ys.take xs.length)[j]? = some z := by rw [List.getElem?_take, if_pos (by omega)]; exact hz
      have h9 := getElem?_flatMap' hE.len (ys.take xs.length) j 0 z hz' (by omega)
      rw [Nat.mul_one, Nat.add_zero, hv] at h9
      obtain ⟨b2, off2, ha2, hc2⟩ := hr.elem j z hz
      simp only [Option.some.injEq, Addr.mk.injEq, and_true] at ha2
      obtain ⟨rfl, rfl⟩ := ha2
      have hl9 := hE.len z
      obtain ⟨u, hu⟩ : ∃ u, enc z = [u] := by
        match hq : enc z, hl9 with
        | [u], _ => exact ⟨u, rfl⟩
      rw [hu] at h9 hc2
      simp at h9
      have hcell := (hw1.cell hc2.1)
      rw [Nat.mul_one] at hcell
      rw [Addr_add_none, hcell, h9]
    have h1c : ∀ v ∈ (ys.take xs.length).flatMap enc, v.oneCell' = true := fun v hv => by
      obtain ⟨z, _, hz⟩ := List.mem_flatMap.1 hv
      exact hE.one z v hz
    refine WL.eff (v := .int .i64 ((Min.min ys.length xs.length : Nat) : Int)) (w' := fun m => (at' w m).setRow gb (cur.toList.take 0 ++ (ys.take xs.length).flatMap enc ++ cur.toList.drop (0 + ((ys.take xs.length).flatMap enc).length)).toArray) hg hd ?_ (fun m => ?_)
    · intro ρ hρ m
      have := run_copy_row P (at' w m) t t2 tt el gb 0 xs.length cap ⟨b', off, none⟩ ys.length c cur el ((ys.take xs.length).flatMap enc) hti hinf h3 (by rw [hcl]) hsrc (by rw [hcl]; omega) h1c
      simp only [execOp, resolve, invoke, builtin, Sem.run_bind, Sem.run_pure, Result.andThen_ok, List.map_toArray, List.map_cons, List.map_nil, hρ _ _ hx, hρ _ _ hy]
      rw [this, hcl]
      rfl
    · have hU : Upd B (some ⟨gb, 0, none⟩) w ((at' w m).setRow gb (cur.toList.take 0 ++ (ys.take xs.length).flatMap enc ++ cur.toList.drop (0 + ((ys.take xs.length).flatMap enc).length)).toArray) :=
        ⟨⟨rfl, rfl, rfl, by simp [World.setRow], fun k hk hne => setRow_other (at' w m) gb k _ (fun hh => hne (by rw [hh]; rfl))⟩, fun k hk => (hO.blk_lt k hk).1⟩
      have hlen : (ys.take xs.length ++ xs.drop ys.length).length = xs.length := by rw [List.length_append, List.length_take, List.length_drop]; omega
      refine k _ ?_ (hU.ext hX (Nat.le_of_eq hB)) hU
      refine ⟨by rw [length_flatMap' hE.len], .inr ⟨gb, cap, _, by rw [hlen], h2, setRow_heap (at' w m) gb cur _ el _ h3, by rw [hlen]; exact h4, h5, ?_, ?_⟩⟩
      · simp only [List.size_toArray, List.length_append, List.length_take, List.length_drop, Array.length_toList, hcl, h6]
        omega
      · rw [hlen]
        simp only [List.take_zero, List.nil_append, Nat.zero_add, Nat.mul_one] at h7 ⊢
        have hd2 : (xs.drop ys.length).flatMap enc = (xs.flatMap enc).drop (Min.min ys.length xs.length) := by
          obtain ⟨q, hq⟩ : ∃ q, q = Min.min ys.length xs.length := ⟨_, rfl⟩
          have hsp : xs.flatMap enc = (xs.take q).flatMap enc ++ (xs.drop q).flatMap enc := by rw [← List.flatMap_append, List.take_append_drop]
          have hql : ((xs.take q).flatMap enc).length = q := by rw [length_flatMap' hE.len, List.length_take]; omega
          rw [← hq, hsp, List.drop_append_of_le_length (by omega), (show ((xs.take q).flatMap enc).drop q = [] from List.drop_eq_nil_of_le (by omega)), List.nil_append]
          by_cases hle : ys.length ≤ xs.length
          · rw [hq, Nat.min_eq_left hle]
          · rw [hq, Nat.min_eq_right (by omega), List.drop_length, (show xs.drop ys.length = [] from List.drop_eq_nil_of_le (by omega))]
        rw [List.flatMap_append, hd2, ← h7, List.take_append, hcl, List.take_of_length_le (by rw [hcl]; omega), List.drop_take]
end
end Go.Lt
namespace Go.Lt
open Go.RowKit
set_option linter.unusedVariables false

theorem and1_any (a : Int) : IntKind.i64.wrap (BitVec.ofInt IntKind.i64.bits a &&& BitVec.ofInt IntKind.i64.bits 1).toNat = a % 2 := by
  show IntKind.i64.wrap (BitVec.ofInt 64 a &&& BitVec.ofInt 64 1).toNat = a % 2
  have h1 : (BitVec.ofInt 64 a &&& BitVec.ofInt 64 1).toNat = (BitVec.ofInt 64 a).toNat % 2 := by
    rw [BitVec.toNat_and, show (BitVec.ofInt 64 1).toNat = 1 from rfl, Nat.and_one_is_mod]
  have h2 : ((BitVec.ofInt 64 a).toNat : Int) = a % 18446744073709551616 := by
    rw [BitVec.toNat_ofInt]
    have : (0 : Int) ≤ a % ((2 ^ 64 : Nat) : Int) := Int.emod_nonneg _ (by decide)
    rw [Int.toNat_of_nonneg this]
    rfl
  rw [h1, IntWalk.i64_in _ (by omega)]
  omega
section rules
variable {P : Program} {N : Nat} {e : Env} {w : World} {Q : Exit → Act → World → Prop} {K : Act → World → Prop} {C : World → Prop} {ops : List Oper} {l : List Oper} {Kf : Act → Prop}
  {d : Nat} {tt t ty : TypeId} {ps : String} {af : Array Edge} {g : Option (Nat × Bool)} {x y : Operand} {a : Int}
theorem yandA {dd : Option Tmp} (hx : ev e x = some (.int .i64 a)) (hy : ev e y = some (.int .i64 1)) : Yields P e ⟨dd, .binOp .and t x y ty, tt, ps, af, g⟩ (.int .i64 (a % 2)) := by
  have := Yields.bin (P := P) (d := dd) (op := .and) (t := t) (ty := ty) (tt := tt) (ps := ps) (af := af) (g := g) hx hy (v := .int .i64 (IntKind.i64.wrap (BitVec.ofInt IntKind.i64.bits a &&& BitVec.ofInt IntKind.i64.bits 1).toNat)) rfl
  rwa [and1_any a] at this
theorem WL.andA (hg : gate ops e g = some true) (hd : Nat.blt d N = true) (hx : ev e x = some (.int .i64 a)) (hy : ev e y = some (.int .i64 1)) (k : WL P N ops.toArray l ((d, .int .i64 (a % 2)) :: e) w Q) : WL P N ops.toArray (⟨some d, .binOp .and t x y ty, tt, ps, af, g⟩ :: l) e w Q := WL.step hg hd (yandA hx hy).in k
theorem QL.andA (hg : gate ops e g = some true) (hd : Nat.blt d N = true) (hx : ev e x = some (.int .i64 a)) (hy : ev e y = some (.int .i64 1)) (k : QL P N C ops.toArray l ((d, .int .i64 (a % 2)) :: e) Q) : QL P N C ops.toArray (⟨some d, .binOp .and t x y ty, tt, ps, af, g⟩ :: l) e Q := QL.step hg hd (yandA hx hy).in k
theorem FL.andA (hg : gate ops e g = some true) (hd : Nat.blt d N = true) (hx : ev e x = some (.int .i64 a)) (hy : ev e y = some (.int .i64 1)) (k : FL P N ops.toArray C l ((d, .int .i64 (a % 2)) :: e) w Kf) : FL P N ops.toArray C (⟨some d, .binOp .and t x y ty, tt, ps, af, g⟩ :: l) e w Kf := FL.step hg hd (yandA hx hy).in k
end rules
end Go.Lt
namespace Go.Proofs.Ythpnahapiodflaa
open Go Go.Lt Go.RowKit
set_option linter.unusedVariables false
set_option linter.unusedSimpArgs false
set_option maxRecDepth 20000

theorem brV_copy (l : List Bool) (m : Nat) : l.take (List.replicate m false).length ++ (List.replicate m false).drop l.length = brV l m := by
  apply List.ext_getElem?
  intro i
  by_cases hi : i < m
  · rw [brV_get l hi]
    by_cases h : i < l.length
    · rw [List.getElem?_append_left (by rw [List.length_take, List.length_replicate]; omega), List.getElem?_take, List.length_replicate, if_pos hi, List.getD, List.getElem?_eq_getElem h]; rfl
    · rw [List.getElem?_append_right (by rw [List.length_take]; omega), List.getElem?_drop, List.getElem?_replicate, if_pos (by rw [List.length_take, List.length_replicate]; omega), List.getD, List.getElem?_eq_none (by omega)]; rfl
  · rw [List.getElem?_eq_none (by simp; omega), List.getElem?_eq_none (by rw [brV_len]; omega)]
theorem step_brought (a : Option Addr) (cap : Nat) (l : List Bool) (m : Nat) (w : World) (R : Row 1 encB w a l) (hm : m ≤ 1048576) :
    Lt.Spec Try.prog 127 [.slice a l.length cap, .int .i64 (m : Nat)] w (IsFresh 1 encB 4 w (brV l m)) := by
  have e1 := brV_copy l m
  refine Spec.of _ Try.func127 rfl Try.ntmps127 (by kernel_rfl) rfl ?_
  repeat' (first
    | (apply WL.make (w0 := w) tOk; exact rfl; exact rfl; exact rfl; exact rfl; exact rfl; exact rfl; exact rfl; exact rfl; exact rfl; exact encB_ok; exact rfl; exact rfl; (exact extA); (first | omega | (simp; omega) | (simp at *; omega)); intro gb w' hO hge hx)
    | (apply WL.copyO tOk encB_ok; exact rfl; exact rfl; exact rfl; exact rfl; exact rfl; exact rfl; exact rfl; exact rfl; assumption; (exact extA); (first | exact rfl | (focus (simp only [List.length_set]; done)) | (focus (simp; done)) | (focus (simp [*]; done)) | omega | (focus (simp only [List.length_set]; omega))); assumption; (exact extA); (first | exact rfl | (focus (simp only [List.length_set]; done)) | (focus (simp; done)) | (focus (simp [*]; done)) | omega | (focus (simp only [List.length_set]; omega))); exact rfl; (exact extA); intro w' hO hX' hU)
    | (show WL _ _ _ _ _ _ _; first | apply WL.nil | (refine WL.au (k := ?_)))
    | (show Z _ _ _ _ _; apply Z.then_normal)
    | (show W _ _ _ _ _ _; first | apply W.seq | apply W.region | apply W.ret))
  have em : ((m : Nat) : Int).toNat = m := Int.toNat_natCast m
  rw [em] at hO ⊢
  rw [e1] at hO
  have hl : (brV l m).length = (List.replicate m false).length := by rw [brV_len, List.length_replicate]
  exact Z.body1 Try.results127 rfl fun q => ⟨hX'.at q, some ⟨gb, 0, none⟩, m, by rw [hl], hO.ext ((Ext.refl _).at q)⟩
theorem step_Inputs (gm : Nat) (c : Circ) (rn : RowV (Int × Int)) (ra : RowV Int) (w : World) (hM : MAt w gm c rn ra) : Still Try.prog 62 [.pointer (some ⟨gm, 0, none⟩)] w (.int .i64 c.ins.2.2.length) := by
  obtain ⟨y0, y1, y2, _⟩ := hM.cells
  refine Spec.of _ Try.func62 rfl Try.ntmps62 (by kernel_rfl) rfl ?_
  repeat' (first
    | (apply WL.nilc; exact rfl; exact rfl; exact rfl)
    | (apply WL.eqNilS tOk; exact rfl; exact rfl; exact rfl; exact rfl; exact rfl; exact rfl)
    | (show WL _ _ _ _ _ _ _; first | apply WL.nil | (refine WL.au (k := ?_)))
    | (show Z _ _ _ _ _; apply Z.then_normal)
    | (show W _ _ _ _ _ _; first | apply W.seq | apply W.region | apply W.skip | apply W.ret | (apply W.condF; exact rfl)))
  exact Z.body1 Try.results62 rfl fun m => ⟨rfl, m, rfl⟩
theorem step_Latches (gm : Nat) (c : Circ) (rn : RowV (Int × Int)) (ra : RowV Int) (w : World) (hM : MAt w gm c rn ra) : Still Try.prog 63 [.pointer (some ⟨gm, 0, none⟩)] w (.int .i64 c.lat.2.2.length) := by
  obtain ⟨y0, y1, y2, _⟩ := hM.cells
  refine Spec.of _ Try.func63 rfl Try.ntmps63 (by kernel_rfl) rfl ?_
  repeat' (first
    | (apply WL.nilc; exact rfl; exact rfl; exact rfl)
    | (apply WL.eqNilS tOk; exact rfl; exact rfl; exact rfl; exact rfl; exact rfl; exact rfl)
    | (show WL _ _ _ _ _ _ _; first | apply WL.nil | (refine WL.au (k := ?_)))
    | (show Z _ _ _ _ _; apply Z.then_normal)
    | (show W _ _ _ _ _ _; first | apply W.seq | apply W.region | apply W.skip | apply W.ret | (apply W.condF; exact rfl)))
  exact Z.body1 Try.results63 rfl fun m => ⟨rfl, m, rfl⟩
theorem litB_ofL {v : List Bool} {l : Int} (h : 0 ≤ l) (hl : (l / 2).toNat < v.length) (h0 : v.getD 0 false = false) : litB v l = ofL v l := by
  unfold litB ofL
  by_cases h1 : l = 0 ∨ l = 1
  · rw [if_pos h1, show (l / 2).toNat = 0 by omega, h0]
    rcases h1 with rfl | rfl <;> rfl
  · rw [if_neg h1, if_neg (by omega)]
/-- The values of a machine in a step, by value. -/
structure VAt (w : World) (c : Circ) (s i : List Bool) (rv : RowV Bool) (ra : RowV Int) : Prop where
  vals : Row 1 encB w rv.1 rv.2.2
  at_ : Row 1 encI w ra.1 ra.2.2
  ev : rv.2.2 = stepV c.t s i
  ea : ra.2.2 = (cNet c.t).2
  good : GoodC' c.t
  size : SzC c.t 100000
theorem VAt.ext {w w' : World} {c : Circ} {s i : List Bool} {rv : RowV Bool} {ra : RowV Int} (h : VAt w c s i rv ra) (hx : Ext w w') : VAt w' c s i rv ra := ⟨h.vals.ext hx, h.at_.ext hx, h.ev, h.ea, h.good, h.size⟩
set_option maxHeartbeats 1000000 in
theorem step_is (c : Circ) (s i : List Bool) (rv : RowV Bool) (ra : RowV Int) (l : Int) (w : World) (hV : VAt w c s i rv ra) (hl : l ∈ c.t.used) :
    Pure Try.prog 125 [.agg #[rowVal rv, rowVal ra], .int .i64 l] w (.bool (litV c.t s i l)) := by
  obtain ⟨Rv, Ra, ev, ea, hg, hz⟩ := hV
  have hnl := net_len hg hz
  obtain ⟨z, z1, z2, z3, z4⟩ := net_lit hg hl
  have hlu := hg.used l hl
  have hmx := hg.max
  have hrange := litI_range hg hl
  have hvl := values_len' (cNet c.t).1 (insV c.t s i)
  have hv0 := values_zero (cNet c.t).1 (insV c.t s i)
  rw [show values (cNet c.t).1 (insV c.t s i) = rv.2.2 from ev.symm] at hvl hv0
  rw [← ea] at z1 hrange
  have e1 := litI_some z1
  have e2 : litV c.t s i l = litB rv.2.2 (litI ra.2.2 l) := by
    rw [litB_ofL hrange.1 (by omega) hv0, ev, ea]; rfl
  have hin : inI64 (litI ra.2.2 l) := ⟨by omega, by omega⟩
  rw [e1] at e2 hin
  have hxb : 0 ≤ l % 2 ∧ l % 2 ≤ 1 := by omega
  refine Spec.of _ Try.func125 rfl Try.ntmps125 (by kernel_rfl) rfl ?_
  repeat' (first
    | (apply WL.box; exact rfl; exact rfl; exact rfl; intro gb w' hb hge hc hx; have hcc := hc; (first | (obtain ⟨h1, h2, h3, _⟩ := hc) | (obtain ⟨h1, h2, _⟩ := hc)))
    | (apply QL.andA; exact rfl; exact rfl; exact rfl; exact rfl)
    | (apply QL.xorI; exact rfl; exact rfl; exact rfl; exact rfl; omega; omega)
    | ((show QL _ _ _ _ (⟨_, .call ⟨.value (.func 163), _, _⟩, _, _, _, _⟩ :: _) _ _); apply QL.callS; exact rfl; exact rfl; exact rfl; exact rfl; exact sim_Lit _ _ rv.2.2 (xorI z (l % 2)) _ (Rv.ext (by (exact extA))) hin)
    | (show WL _ _ _ _ _ _ _; first | apply WL.nil | (refine WL.au (k := ?_)))
    | (show QL _ _ _ _ _ _ _; first | apply QL.nil | (refine QL.au (k := ?_)) | (apply QL.index tOk; exact rfl; exact rfl; exact rfl; exact rfl; exact rfl; exact rfl; exact rfl; exact rfl; assumption; (exact extA); exact rfl; omega; assumption; intro b off h; have hcc := h; first | (obtain ⟨h1, h2, h3, h4, h5, h6, _⟩ := h) | (obtain ⟨h1, h2, h3, _⟩ := h) | (obtain ⟨h1, h2, _⟩ := h) | (obtain ⟨h1, _⟩ := h)))
    | (show Z _ _ _ _ _; apply Z.then_normal)
    | (show W _ _ _ _ _ _; first | apply W.seq | apply W.region | apply W.ret | (apply W.regionD tMix; kernel_rfl)))
  exact Z.body1 Try.results125 rfl fun m => ⟨by rw [e2], Ext.at (by (exact extA)) m⟩
set_option maxHeartbeats 1000000 in
theorem step_all (c : Circ) (s i : List Bool) (rv : RowV Bool) (ra : RowV Int) (a : Option Addr) (cap : Nat) (L : List Int) (w : World) (hV : VAt w c s i rv ra) (RL : Row 1 encI w a L) (hL : ∀ l ∈ L, l ∈ c.t.used) :
    Pure Try.prog 126 [.agg #[rowVal rv, rowVal ra], .slice a L.length cap] w (.bool (dec (∀ l ∈ L, litV c.t s i l = true))) := by
  have hll := RL.len
  refine Spec.of _ Try.func126 rfl Try.ntmps126 (by kernel_rfl) rfl ?_
  repeat' (first
    | (apply WL.box; exact rfl; exact rfl; exact rfl; intro gb w' hb hge hc hx; have hcc := hc; (first | (obtain ⟨h1, h2, h3, _⟩ := hc) | (obtain ⟨h1, h2, _⟩ := hc)); (obtain ⟨gv, rfl⟩ : ∃ x, x = gb := ⟨_, rfl⟩; obtain ⟨w1, rfl⟩ : ∃ x, x = w' := ⟨_, rfl⟩; obtain ⟨hx1, rfl⟩ : ∃ x, x = hx := ⟨_, rfl⟩))
    | (show WL _ _ _ _ _ _ _; first | apply WL.nil | (refine WL.au (k := ?_)))
    | (show Z _ _ _ _ _; apply Z.then_normal)
    | (show W _ _ _ _ _ _; first | apply W.seq | apply W.region | apply W.block))
  refine W.loopW L.length (fun k w' => k ≤ L.length ∧ Ext w1 w' ∧ ∀ (j : Nat) l, j < k → L[j]? = some l → litV c.t s i l = true) (fun k => [(2, .pointer (some ⟨gv, 0, none⟩)), (7, .slice a L.length cap), (8, .int .i64 L.length), (9, .int .i64 k)]) ⟨Nat.zero_le _, Ext.refl _, fun j l h => by omega⟩ (fun k w' h => h.1) ⟨rfl, rfl, rfl, rfl, trivial⟩ ?_
  rintro k w2 ⟨hk, hx2, hall⟩
  have hX2 : Ext w w2 := hx1.trans hx2
  have RL2 := RL.ext hX2
  have hcv : Cells w1 gv 0 [rowVal rv, rowVal ra] := hcc
  have hcv2 := hcv.ext hx2
  by_cases hlt : k < L.length
  · obtain ⟨l, hl⟩ := getI L hlt
    have hr := fun (w9 : World) (h9 : Ext w w9) => step_is c s i rv ra l w9 (hV.ext h9) (hL l (List.mem_of_getElem? hl))
    obtain ⟨v0, v1, _⟩ := hcv2
    cases hv : litV c.t s i l <;> rw [hv] at hr
    · have e : dec (∀ l ∈ L, litV c.t s i l = true) = false := dec_false fun h => by have := h l (List.mem_of_getElem? hl); rw [hv] at this; cases this
      repeat' (first
        | (apply W.condKT; exact rfl; (focus (first | exact dec_true (by omega); done)))
        | (((show WL _ _ _ (⟨_, .call ⟨.value (.func 125), _, _⟩, _, _, _, _⟩ :: _) _ _ _); apply WL.callP; exact rfl; exact rfl; exact rfl; exact rfl; exact hr _ (by (exact extA)); intro w' hx))
        | (show WL _ _ _ _ _ _ _; first | apply WL.nil | (refine WL.au (k := ?_)) | (apply WL.index tOk; exact rfl; exact rfl; exact rfl; exact rfl; exact rfl; exact rfl; exact rfl; exact rfl; assumption; (exact extA); exact rfl; omega; assumption; intro b off h; have hcc := h; first | (obtain ⟨h1, h2, h3, h4, h5, h6, _⟩ := h) | (obtain ⟨h1, h2, h3, _⟩ := h) | (obtain ⟨h1, h2, _⟩ := h) | (obtain ⟨h1, _⟩ := h)))
        | (show Z _ _ _ _ _; first | apply Z.then_normal | apply Z.then_ret | apply Z.block_ret)
        | (show W _ _ _ _ _ _; first | apply W.seq | apply W.region | apply W.block | apply W.skip | apply W.ret | (apply W.condT; exact rfl)))
      exact Z.body1 Try.results126 rfl fun m => ⟨by rw [e], Ext.at (by (exact extA)) m⟩
    · repeat' (first
        | (apply W.condKT; exact rfl; (focus (first | exact dec_true (by omega); done)))
        | (((show WL _ _ _ (⟨_, .call ⟨.value (.func 125), _, _⟩, _, _, _, _⟩ :: _) _ _ _); apply WL.callP; exact rfl; exact rfl; exact rfl; exact rfl; exact hr _ (by (exact extA)); intro w' hx))
        | (show WL _ _ _ _ _ _ _; first | apply WL.nil | (refine WL.au (k := ?_)) | (apply WL.index tOk; exact rfl; exact rfl; exact rfl; exact rfl; exact rfl; exact rfl; exact rfl; exact rfl; assumption; (exact extA); exact rfl; omega; assumption; intro b off h; have hcc := h; first | (obtain ⟨h1, h2, h3, h4, h5, h6, _⟩ := h) | (obtain ⟨h1, h2, h3, _⟩ := h) | (obtain ⟨h1, h2, _⟩ := h) | (obtain ⟨h1, _⟩ := h)))
        | (show Z _ _ _ _ _; first | apply Z.then_normal | apply Z.block_normal)
        | (show W _ _ _ _ _ _; first | apply W.seq | apply W.region | apply W.block | apply W.skip | (apply W.condF; exact rfl)))
      refine Z.againW ⟨by omega, (by (exact extA)), fun j l' hj h1 => ?_⟩ ⟨rfl, rfl, rfl, rfl, trivial⟩
      by_cases hjk : j = k
      · subst hjk; rw [hl] at h1; cases h1; exact hv
      · exact hall j l' (by omega) h1
  · obtain rfl : k = L.length := by omega
    have e : dec (∀ l ∈ L, litV c.t s i l = true) = true := dec_true fun l h => by
      obtain ⟨j, hj⟩ := List.mem_iff_getElem?.1 h
      exact hall j l (lt_of_get hj) hj
    repeat' (first
      | (apply W.condKF; exact rfl; (focus (exact dec_false (by omega); done)))
      | (show WL _ _ _ _ _ _ _; first | apply WL.nil | (refine WL.au (k := ?_)))
      | (show Z _ _ _ _ _; first | apply Z.then_normal | apply Z.then_exit | apply Z.block_exit)
      | (show W _ _ _ _ _ _; first | apply W.seq | apply W.region | apply W.ret | apply W.exit))
    exact Z.body1 Try.results126 rfl fun m => ⟨by rw [e], Ext.at (by (exact extA)) m⟩

/-- A machine in a step, by value. -/
abbrev momV (gm : Nat) (rv : RowV Bool) (ra : RowV Int) : Value := .agg #[.pointer (some ⟨gm, 0, none⟩), rowVal rv, rowVal ra]
set_option maxHeartbeats 1000000 in
theorem step_in (gm : Nat) (c : Circ) (rn : RowV (Int × Int)) (ra : RowV Int) (a b : Option Addr) (ca cb : Nat) (s i : List Bool) (w : World) (hM : MAt w gm c rn ra) (Rs : Row 1 encB w a s) (Ri : Row 1 encB w b i) :
    Lt.Spec Try.prog 122 [.pointer (some ⟨gm, 0, none⟩), .slice a s.length ca, .slice b i.length cb] w (fun v w' => Ext w w' ∧ ∃ rv, v = momV gm rv ra ∧ VAt w' c s i rv ra) := by
  have hM' := hM
  obtain ⟨hcells, hC, Rn, Ra, en, ea, hg, hz⟩ := hM
  have hnl := net_len hg hz
  have hng := (cNet_ok hg).2
  rw [← en] at hnl hng
  have k1 : c.ins.2.2.length ≤ 100000 := hz.1
  have k2 : c.lat.2.2.length ≤ 100000 := hz.2.1
  have b1 := brV_len i c.ins.2.2.length
  have b2 := brV_len s c.lat.2.2.length
  have evv : values rn.2.2 (brV i c.ins.2.2.length ++ brV s c.lat.2.2.length) = stepV c.t s i := by rw [en]; rfl
  refine Spec.of _ Try.func122 rfl Try.ntmps122 (by kernel_rfl) rfl ?_
  repeat' (first
    | (apply WL.alloc tOk; exact rfl; exact rfl; exact rfl; intro gb w' hb hge hx; (obtain ⟨g6, rfl⟩ : ∃ x, x = gb := ⟨_, rfl⟩; obtain ⟨hb6, rfl⟩ : ∃ x, x = hb := ⟨_, rfl⟩; obtain ⟨hge6, rfl⟩ : ∃ x, x = hge := ⟨_, rfl⟩; obtain ⟨hx6, rfl⟩ : ∃ x, x = hx := ⟨_, rfl⟩; obtain ⟨w6, rfl⟩ : ∃ x, x = w' := ⟨_, rfl⟩))
    | ((show WL _ _ _ (⟨_, .call ⟨.value (.func 62), _, _⟩, _, _, _, _⟩ :: _) _ _ _); apply WL.callS; exact rfl; exact rfl; exact rfl; exact rfl; exact step_Inputs gm c rn ra _ (hM'.ext (by (exact extA))))
    | ((show WL _ _ _ (⟨_, .call ⟨.value (.func 63), _, _⟩, _, _, _, _⟩ :: _) _ _ _); apply WL.callS; exact rfl; exact rfl; exact rfl; exact rfl; exact step_Latches gm c rn ra _ (hM'.ext (by (exact extA))))
    | ((show WL _ _ _ (⟨_, .call ⟨.value (.func 127), _, _⟩, _, _, _, _⟩ :: _) _ _ _); apply WL.call; exact rfl; exact rfl; exact rfl; exact rfl; exact step_brought _ _ i c.ins.2.2.length _ (Ri.ext (by (exact extA))) (by omega); rintro v' w' ⟨hx, a', cap', rfl, hO⟩; (obtain ⟨hO1, rfl⟩ : ∃ x, x = hO := ⟨_, rfl⟩; obtain ⟨a1, rfl⟩ : ∃ x, x = a' := ⟨_, rfl⟩; obtain ⟨c1, rfl⟩ : ∃ x, x = cap' := ⟨_, rfl⟩; obtain ⟨w1, rfl⟩ : ∃ x, x = w' := ⟨_, rfl⟩))
    | ((show WL _ _ _ (⟨_, .call ⟨.value (.func 127), _, _⟩, _, _, _, _⟩ :: _) _ _ _); apply WL.call; exact rfl; exact rfl; exact rfl; exact rfl; exact step_brought _ _ s c.lat.2.2.length _ (Rs.ext (by (exact extA))) (by omega); rintro v' w' ⟨hx, a', cap', rfl, hO⟩; (obtain ⟨hO2, rfl⟩ : ∃ x, x = hO := ⟨_, rfl⟩; obtain ⟨a2, rfl⟩ : ∃ x, x = a' := ⟨_, rfl⟩; obtain ⟨c2, rfl⟩ : ∃ x, x = cap' := ⟨_, rfl⟩; have R2 := hO2.row encB_ok; have n2 := hO2.noneCap))
    | (apply WL.appendS tOk encB_ok; exact rfl; exact rfl; exact rfl; exact rfl; exact rfl; exact rfl; exact rfl; exact rfl; exact rfl; exact rfl; assumption; (exact extA); (first | exact rfl | (focus (simp only [List.length_set]; done)) | (focus (simp; done)) | (focus (simp [*]; done)) | omega | (focus (simp only [List.length_set]; omega))); assumption; (exact extA); (first | exact rfl | (focus (simp only [List.length_set]; done)) | (focus (simp; done)) | (focus (simp [*]; done)) | omega | (focus (simp only [List.length_set]; omega))); (first | assumption | (intro h; cases h) | exact Own.noneCap (by assumption)); exact rfl; (exact extA); (first | omega | (simp; omega) | (simp at *; omega)); intro a' cap' w' hO hX' hU hF)
    | (show WL _ _ _ _ _ _ _; first | apply WL.nil | (refine WL.au (k := ?_)))
    | (show Z _ _ _ _ _; apply Z.then_normal)
    | (show W _ _ _ _ _ _; first | apply W.seq | apply W.region))
  have hXa : Ext w w' := hx6.trans hX'
  have RI := hO.row encB_ok
  have hcap := hO.capLe
  have hcells1 := hcells.ext hXa
  obtain ⟨y0, y1, y2, y3, y4, y5, y6, y7, y8, y9, y10, _⟩ := hcells1
  have Ra1 := Ra.ext hXa
  have Rn1 := Rn.ext hXa
  have hb6' := hb6
  have hblk : w'.heap[g6]? = w6.heap[g6]? := hX'.block g6 (heap_lt hb6)
  rw [hb6] at hblk
  clear hb6' hO hU hF hX'
  obtain ⟨w7, rfl⟩ : ∃ x, x = w' := ⟨_, rfl⟩
  repeat' (first
    | (apply FL.nilc; exact rfl; exact rfl; exact rfl)
    | (show W _ _ (.region 2 _ _) _ _ _; apply W.regionGX (.fl true 0 (.fl true 1 (.fl true 2 (.fl true 3 (.fl true 5 (.fl true 7 (.fl true 8 (.fl true 9 (.fl false 4 (.fl false 10 (.br 6 (.fl true 11 (.fl true 12 (.br 13 .done .stop))) .stop))))))))))) [6, 10, 11, 12] tMix; kernel_rfl)
    | (apply FL.build tOk; exact rfl; exact rfl; exact rfl; exact rfl; exact rfl; exact rfl; exact rfl; kernel_rfl)
    | ((show WL _ _ _ (⟨_, .call ⟨.value (.func 162), _, _⟩, _, _, _, _⟩ :: _) _ _ _); apply WL.call; exact rfl; exact rfl; exact rfl; exact rfl; exact sim_Eval _ _ _ _ rn.2.2 _ _ (Rn1.ext (by (exact extA))) (RI.ext (by (exact extA))) hcap hng (by omega) (by rw [List.length_append, b1, b2]; omega); rintro v' w' ⟨hx, a', cap', rfl, hO⟩; (obtain ⟨hOv, rfl⟩ : ∃ x, x = hO := ⟨_, rfl⟩; obtain ⟨av, rfl⟩ : ∃ x, x = a' := ⟨_, rfl⟩; obtain ⟨cv, rfl⟩ : ∃ x, x = cap' := ⟨_, rfl⟩))
    | (apply WL.storeB (w0 := w) tOk; exact rfl; exact rfl; exact rfl; exact rfl; assumption; (exact extA); exact rfl; exact rfl; exact rfl; (exact extA); (first | assumption | omega | (focus (apply Nat.le_trans; rotate_left; assumption; exact Below.size (by (exact extA)); done))); intro w' hb hc hX' hU; have hcc := hc; obtain ⟨h1, h2, _⟩ := hc)
    | (show SX _ _ _ _ _ _ _ _ _; first | (apply SX.done; intro w' hx) | (apply SX.fl0; exact rfl) | (apply SX.fl1; exact rfl; (exact extA)) | (apply SX.br1; exact rfl; intro w' hx))
    | (show FL _ _ _ _ _ _ _ _; first | apply FL.nilX | (apply FL.loadE tOk; exact rfl; exact rfl; exact rfl; exact rfl; exact rfl; assumption))
    | (show FL _ _ _ _ _ _ _ _; (refine FL.au (k := ?_)))
    | (show Z _ _ _ _ _; first | (apply Z.sxL; exact rfl) | (apply Z.sxE; (exact extA)))
    | (show WL _ _ _ _ _ _ _; apply WL.nil)
    | (show Z _ _ _ _ _; apply Z.then_normal)
    | (show W _ _ _ _ _ _; apply W.ret))
  have hne : ∀ k, blk av = some k → k ≠ g6 := fun k hk he => by
    have : g6 < k := Nat.lt_of_lt_of_le (Nat.lt_of_lt_of_le (heap_lt hblk) (Below.size (by (exact extA)))) (hOv.blk_lt k hk).1
    omega
  have RV := (Own.keep (Own.ext hOv (by (exact extA))) (fun k hk => hU.grown.block k (Nat.lt_of_lt_of_le (hOv.blk_lt k hk).2 (Below.size (by (exact extA)))) (fun he => hne k hk (by simpa [blk] using he)))).row encB_ok
  have Raf := Ra.ext hX'
  have hcf : Cells _ g6 0 [.pointer (some ⟨gm, 0, none⟩), .slice av (values rn.2.2 (brV i c.ins.2.2.length ++ brV s c.lat.2.2.length)).length cv, rowVal ra] := hcc
  exact Z.bodyC tOk Try.results122 rfl rfl rfl rfl (hcf.ext (by (exact extA))) fun m => ⟨Ext.at (by (exact extA)) m, (av, cv, values rn.2.2 (brV i c.ins.2.2.length ++ brV s c.lat.2.2.length)), rfl, (VAt.mk (RV.ext (Ext.at (by (exact extA)) m)) (Raf.ext (Ext.at (by (exact extA)) m)) evv ea hg hz : VAt _ c s i (av, cv, values rn.2.2 (brV i c.ins.2.2.length ++ brV s c.lat.2.2.length)) ra)⟩
end Go.Proofs.Ythpnahapiodflaa
namespace Go.Lt
open Go.RowKit
set_option linter.unusedVariables false
section
variable {P : Program} {N : Nat} {e : Env} {w : World} {C : World → Prop} {ops : List Oper} {l : List Oper} {Kf : Act → Prop} {Q : Exit → Act → World → Prop} {T : Tab}
  {d : Nat} {tt t ty : TypeId} {ps : String} {af : Array Edge} {g : Option (Nat × Bool)} {x y : Operand} {i : TI} {el : TypeId}
theorem QL.neNilS {q : Addr} (hT : OkTab P T) (hg : gate ops e g = some true) (hd : Nat.blt d N = true) (hx : ev e x = some (.pointer (some q))) (hy : ev e y = some (.pointer none)) (ht : tget T t = some i) (htd : i.desc = .pointer el) (k : QL P N C ops.toArray l ((d, .bool true) :: e) Q) : QL P N C ops.toArray (⟨some d, .binOp .neq t x y ty, tt, ps, af, g⟩ :: l) e Q := by
  refine QL.step hg hd ?_ k
  have := (yneNil (P := P) (dd := some d) (ty := ty) (tt := tt) (ps := ps) (af := af) (g := g) hT hx hy ht htd)
  rw [dec_true (by simp)] at this
  exact this.in
theorem QL.eqNilS {q : Addr} (hT : OkTab P T) (hg : gate ops e g = some true) (hd : Nat.blt d N = true) (hx : ev e x = some (.pointer (some q))) (hy : ev e y = some (.pointer none)) (ht : tget T t = some i) (htd : i.desc = .pointer el) (k : QL P N C ops.toArray l ((d, .bool false) :: e) Q) : QL P N C ops.toArray (⟨some d, .binOp .eql t x y ty, tt, ps, af, g⟩ :: l) e Q := by
  refine QL.step hg hd ?_ k
  have := (yeqNil (P := P) (dd := some d) (ty := ty) (tt := tt) (ps := ps) (af := af) (g := g) hT hx hy ht htd)
  rw [dec_false (by simp)] at this
  exact this.in
theorem FL.neNilS {q : Addr} (hT : OkTab P T) (hg : gate ops e g = some true) (hd : Nat.blt d N = true) (hx : ev e x = some (.pointer (some q))) (hy : ev e y = some (.pointer none)) (ht : tget T t = some i) (htd : i.desc = .pointer el) (k : FL P N ops.toArray C l ((d, .bool true) :: e) w Kf) : FL P N ops.toArray C (⟨some d, .binOp .neq t x y ty, tt, ps, af, g⟩ :: l) e w Kf := by
  refine FL.step hg hd ?_ k
  have := (yneNil (P := P) (dd := some d) (ty := ty) (tt := tt) (ps := ps) (af := af) (g := g) hT hx hy ht htd)
  rw [dec_true (by simp)] at this
  exact this.in
theorem FL.eqNilS {q : Addr} (hT : OkTab P T) (hg : gate ops e g = some true) (hd : Nat.blt d N = true) (hx : ev e x = some (.pointer (some q))) (hy : ev e y = some (.pointer none)) (ht : tget T t = some i) (htd : i.desc = .pointer el) (k : FL P N ops.toArray C l ((d, .bool false) :: e) w Kf) : FL P N ops.toArray C (⟨some d, .binOp .eql t x y ty, tt, ps, af, g⟩ :: l) e w Kf := by
  refine FL.step hg hd ?_ k
  have := (yeqNil (P := P) (dd := some d) (ty := ty) (tt := tt) (ps := ps) (af := af) (g := g) hT hx hy ht htd)
  rw [dec_false (by simp)] at this
  exact this.in
end
end Go.Lt
namespace Go.Proofs.Ythpnahapiodflaa
open Go Go.Lt Go.RowKit
set_option linter.unusedVariables false
set_option linter.unusedSimpArgs false
set_option maxRecDepth 20000

/-- Told up to a place. -/
def fillT {α : Type} (L : List α) (f : α → Bool) (k : Nat) : List Bool := (L.take k).map f ++ List.replicate (L.length - k) false
theorem fillT_len {α : Type} (L : List α) (f : α → Bool) {k : Nat} (h : k ≤ L.length) : (fillT L f k).length = L.length := by
  unfold fillT; rw [List.length_append, List.length_map, List.length_take, List.length_replicate]; omega
theorem fillT_set {α : Type} {L : List α} {f : α → Bool} {k : Nat} {x : α} (h : L[k]? = some x) : (fillT L f k).set k (f x) = fillT L f (k + 1) := by
  have hk := lt_of_get h
  unfold fillT
  have hl : ((L.take k).map f).length = k := by rw [List.length_map, List.length_take]; omega
  rw [take_succ' h, List.map_append, List.set_append_right _ _ (by omega), hl, Nat.sub_self, show L.length - k = (L.length - (k + 1)) + 1 by omega, List.replicate_succ, List.set_cons_zero]
  simp
theorem fillT_get {α : Type} {L : List α} {f : α → Bool} {k : Nat} (h : k < L.length) : (fillT L f k)[k]? = some false := by
  have hl : ((L.take k).map f).length = k := by rw [List.length_map, List.length_take]; omega
  unfold fillT
  rw [List.getElem?_append_right (by omega), hl, Nat.sub_self, List.getElem?_replicate, if_pos (by omega)]
theorem fillT_all {α : Type} (L : List α) (f : α → Bool) : fillT L f L.length = L.map f := by unfold fillT; simp
set_option maxHeartbeats 2000000 in
theorem step_next (gm : Nat) (c : Circ) (rn : RowV (Int × Int)) (ra : RowV Int) (rv : RowV Bool) (s i : List Bool) (w : World) (hM : MAt w gm c rn ra) (hV : VAt w c s i rv ra) :
    Lt.Spec Try.prog 123 [momV gm rv ra] w (IsFresh 1 encB 4 w (nextV c.t s i)) := by
  have hM' := hM
  obtain ⟨hcells, hC, Rn, Ra, en, ea, hg, hz⟩ := hM
  have k2 : c.lat.2.2.length ≤ 100000 := hz.2.1
  refine Spec.of _ Try.func123 rfl Try.ntmps123 (by kernel_rfl) rfl ?_
  repeat' (first
    | (apply WL.box; exact rfl; exact rfl; exact rfl; intro gb w' hb hge hc hx; have hcc := hc; (first | (obtain ⟨h1, h2, h3, _⟩ := hc) | (obtain ⟨h1, h2, _⟩ := hc)); (obtain ⟨gv, rfl⟩ : ∃ x, x = gb := ⟨_, rfl⟩; obtain ⟨w1, rfl⟩ : ∃ x, x = w' := ⟨_, rfl⟩; obtain ⟨hx1, rfl⟩ : ∃ x, x = hx := ⟨_, rfl⟩))
    | (show WL _ _ _ _ _ _ _; first | apply WL.nil | (refine WL.au (k := ?_)))
    | (show Z _ _ _ _ _; apply Z.then_normal)
    | (show W _ _ _ _ _ _; first | apply W.seq | apply W.region))
  have hcv : Cells w1 gv 0 [.pointer (some ⟨gm, 0, none⟩), rowVal rv, rowVal ra] := hcc
  obtain ⟨v0, v1, v2, _⟩ := id hcv
  have hc1 := hcells.ext hx1
  obtain ⟨y0, y1, y2, _⟩ := hc1
  repeat' (first
    | (apply WL.nilc; exact rfl; exact rfl; exact rfl)
    | ((show WL _ _ _ (⟨_, .call ⟨.value (.func 63), _, _⟩, _, _, _, _⟩ :: _) _ _ _); apply WL.callS; exact rfl; exact rfl; exact rfl; exact rfl; exact step_Latches gm c rn ra _ (hM'.ext (by (exact extA))))
    | (apply WL.make (w0 := w1) (z := (false)) tOk; exact rfl; exact rfl; exact rfl; exact rfl; exact rfl; exact rfl; exact rfl; exact rfl; exact rfl; exact encB_ok; exact rfl; exact rfl; (exact extA); (first | omega | (simp; omega) | (simp at *; omega)); intro gb w' hO hge hx; (obtain ⟨gs, rfl⟩ : ∃ x, x = gb := ⟨_, rfl⟩))
    | (show WL _ _ _ _ _ _ _; first | apply WL.nil | (refine WL.au (k := ?_)))
    | (show Z _ _ _ _ _; apply Z.then_normal)
    | (show W _ _ _ _ _ _; first | apply W.seq | apply W.region | apply W.block))
  have ez : ((c.lat.2.2.length : Nat) : Int).toNat = c.lat.2.2.length := Int.toNat_natCast _
  rw [ez] at hO ⊢
  have hlr : (List.replicate c.lat.2.2.length false).length = c.lat.2.2.length := List.length_replicate
  have hO0 : Own 1 encB 4 w1.heap.size w' (some ⟨gs, 0, none⟩) c.lat.2.2.length (fillT c.t.lat (fun x => litV c.t s i x.2.1) 0) := by
    have e0 : fillT c.t.lat (fun x => litV c.t s i x.2.1) 0 = List.replicate c.lat.2.2.length false := by unfold fillT; rfl
    rw [e0]; exact hO
  refine W.loopW c.lat.2.2.length (fun k w' => k ≤ c.lat.2.2.length ∧ Ext w1 w' ∧ Own 1 encB 4 w1.heap.size w' (some ⟨gs, 0, none⟩) c.lat.2.2.length (fillT c.t.lat (fun x => litV c.t s i x.2.1) k))
    (fun k => [(1, .pointer (some ⟨gv, 0, none⟩)), (3, .slice (some ⟨gs, 0, none⟩) c.lat.2.2.length c.lat.2.2.length), (15, rowVal c.lat), (16, .int .i64 c.lat.2.2.length), (17, .int .i64 k)]) ⟨Nat.zero_le _, (by (exact extA)), hO0⟩ (fun k w' h => h.1) (by repeat' first | exact trivial | (refine And.intro ?_ ?_) | exact rfl | (rw [hlr]; exact rfl)) ?_
  clear hO hO0
  rintro k w2 ⟨hk, hX2, hO'⟩
  have hfl := fillT_len c.t.lat (fun x => litV c.t s i x.2.1) (k := k) hk
  have hfl' : (fillT c.t.lat (fun x => litV c.t s i x.2.1) k).length = c.lat.2.2.length := hfl
  have hX0 : Ext w w2 := hx1.trans hX2
  have Rl := hC.lat.row.ext hX0
  have hcv2 := hcv.ext hX2
  by_cases hlt : k < c.lat.2.2.length
  · obtain ⟨x, hxx⟩ := getI c.lat.2.2 hlt
    have hu : x.2.1 ∈ c.t.used := used_next (List.mem_of_getElem? hxx)
    have hr := fun (w9 : World) (h9 : Ext w2 w9) => step_is c s i rv ra x.2.1 w9 (hV.ext (hX0.trans h9)) hu
    have e1 := fillT_set (L := c.t.lat) (f := fun x => litV c.t s i x.2.1) (k := k) (x := x) hxx
    have e2 := fillT_get (f := fun x => litV c.t s i x.2.1) (show k < c.t.lat.length from hlt)
    have u12 : Cells w2 gv (0 + 1) [rowVal rv, rowVal ra] := hcv2.2
    obtain ⟨u0, u1, u2, _⟩ := hcv2
    obtain ⟨bb, hbb⟩ : ∃ bb, bb = litV c.t s i x.2.1 := ⟨_, rfl⟩
    rw [← hbb] at hr
    have e1 : (fillT c.t.lat (fun x => litV c.t s i x.2.1) k).set k bb = fillT c.t.lat (fun x => litV c.t s i x.2.1) (k + 1) := by rw [hbb]; exact e1
    obtain ⟨FF, hFF⟩ : ∃ FF, FF = fillT c.t.lat (fun x => litV c.t s i x.2.1) k := ⟨_, rfl⟩
    rw [← hFF] at e1 e2 hO' hfl'
    have e2 : FF[((k : Nat) : Int).toNat]? = some false := by rw [Int.toNat_natCast]; exact e2
    repeat' (first
      | (show WL _ _ _ _ _ _ _; first | apply WL.nil | (refine WL.au (k := ?_)))
      | (show Z _ _ _ _ _; apply Z.then_normal)
      | (show W _ _ _ _ _ _; first | apply W.seq | apply W.region))
    refine W.condKT rfl (dec_true (by omega)) ?_
    repeat' (first
      | (apply WL.alloc tOk; exact rfl; exact rfl; exact rfl; intro gb w' hb hge hx)
      | (apply WL.storeB (w0 := w2) tOk; exact rfl; exact rfl; exact rfl; exact rfl; assumption; (exact extA); exact rfl; exact rfl; exact rfl; (exact extA); (first | assumption | omega | (focus (apply Nat.le_trans; rotate_left; assumption; exact Below.size (by (exact extA)); done))); intro w' hb hc hX' hU; have hcc := hc; obtain ⟨h1, h2, _⟩ := hc; (obtain ⟨w6, rfl⟩ : ∃ x, x = w' := ⟨_, rfl⟩; obtain ⟨hb6, rfl⟩ : ∃ x, x = hb := ⟨_, rfl⟩; obtain ⟨hX6, rfl⟩ : ∃ x, x = hX' := ⟨_, rfl⟩; have hC8 := cells_heap hb6; obtain ⟨i0, i1, i2, _⟩ := hC8))
      | (((show WL _ _ _ (⟨_, .call ⟨.value (.func 125), _, _⟩, _, _, _, _⟩ :: _) _ _ _); apply WL.callP; exact rfl; exact rfl; exact rfl; exact rfl; exact hr _ (by (exact extA)); intro w' hx))
      | (apply WL.indexO tOk; exact rfl; exact rfl; exact rfl; exact rfl; exact rfl; exact rfl; exact rfl; exact rfl; assumption; (exact extA); exact encB_ok; (first | exact rfl | (focus (simp only [List.length_set]; done)) | (focus (simp; done)) | (focus (simp [*]; done)) | omega | (focus (simp only [List.length_set]; omega))); omega; assumption; intro gb ha hc; cases ha; have hcc := hc; first | (obtain ⟨h1, h2, h3, _⟩ := hc) | (obtain ⟨h1, h2, _⟩ := hc) | (obtain ⟨h1, _⟩ := hc))
      | (apply WL.storeO (z' := (bb)) tOk; exact rfl; exact rfl; exact rfl; exact rfl; assumption; (exact extA); exact rfl; exact rfl; exact rfl; exact encB_ok; assumption; exact rfl; (exact extA); intro w' hO hX' hU)
      | (show WL _ _ _ _ _ _ _; first | apply WL.nil | (refine WL.au (k := ?_)) | (apply WL.index tOk; exact rfl; exact rfl; exact rfl; exact rfl; exact rfl; exact rfl; exact rfl; exact rfl; assumption; (exact extA); exact rfl; omega; assumption; intro b off h; have hcc := h; first | (obtain ⟨h1, h2, h3, h4, h5, h6, _⟩ := h) | (obtain ⟨h1, h2, h3, _⟩ := h) | (obtain ⟨h1, h2, _⟩ := h) | (obtain ⟨h1, _⟩ := h)))
      | (show Z _ _ _ _ _; first | apply Z.then_normal | apply Z.block_normal)
      | (show W _ _ _ _ _ _; first | apply W.seq | apply W.region | apply W.block | apply W.skip))
    rw [Int.toNat_natCast, e1] at hO
    exact Z.againW ⟨by omega, hX', hO⟩ ⟨rfl, congrArg (fun z => some (Value.slice (some ⟨gs, 0, none⟩) z c.lat.2.2.length)) (show c.lat.2.2.length = c.lat.2.2.length from rfl), rfl, rfl, rfl, trivial⟩
  · obtain rfl : k = c.lat.2.2.length := by omega
    have e9 : fillT c.t.lat (fun x => litV c.t s i x.2.1) c.lat.2.2.length = nextV c.t s i := fillT_all _ _
    rw [e9] at hO'
    repeat' (first
      | (show WL _ _ _ _ _ _ _; first | apply WL.nil | (refine WL.au (k := ?_)))
      | (show Z _ _ _ _ _; apply Z.then_normal)
      | (show W _ _ _ _ _ _; first | apply W.seq | apply W.region))
    refine W.condKF rfl (dec_false (by omega)) ?_
    repeat' (first
      | (show WL _ _ _ _ _ _ _; first | apply WL.nil | (refine WL.au (k := ?_)))
      | (show Z _ _ _ _ _; first | apply Z.then_normal | apply Z.then_exit | apply Z.block_exit)
      | (show W _ _ _ _ _ _; first | apply W.seq | apply W.region | apply W.ret | apply W.exit))
    exact Z.body1 Try.results123 rfl fun m => ⟨hX0.at m, some ⟨gs, 0, none⟩, c.lat.2.2.length, congrArg (fun z => Value.slice (some ⟨gs, 0, none⟩) z c.lat.2.2.length) (nextV_len c.t s i).symm, (hO'.base (Below.size hx1)).ext ((Ext.refl _).at m)⟩

theorem step_Next (gm : Nat) (c : Circ) (rn : RowV (Int × Int)) (ra : RowV Int) (a b : Option Addr) (ca cb : Nat) (s i : List Bool) (w : World) (hM : MAt w gm c rn ra) (Rs : Row 1 encB w a s) (Ri : Row 1 encB w b i) :
    Lt.Spec Try.prog 67 [.pointer (some ⟨gm, 0, none⟩), .slice a s.length ca, .slice b i.length cb] w (IsFresh 1 encB 4 w (nextV c.t s i)) := by
  refine Spec.of _ Try.func67 rfl Try.ntmps67 (by kernel_rfl) rfl ?_
  repeat' (first
    | (apply WL.eqNilS tOk; exact rfl; exact rfl; exact rfl; exact rfl; exact rfl; exact rfl)
    | (((show WL _ _ _ (⟨_, .call ⟨.value (.func 122), _, _⟩, _, _, _, _⟩ :: _) _ _ _); apply WL.call; exact rfl; exact rfl; exact rfl; exact rfl; exact step_in gm c rn ra _ _ _ _ s i _ (hM.ext (by (exact extA))) (Rs.ext (by (exact extA))) (Ri.ext (by (exact extA))); rintro v' w4 ⟨hx4, rv, rfl, hV⟩))
    | ((show WL _ _ _ (⟨_, .call ⟨.value (.func 123), _, _⟩, _, _, _, _⟩ :: _) _ _ _); apply WL.call; exact rfl; exact rfl; exact rfl; exact rfl; exact step_next gm c rn ra rv s i _ (hM.ext (by (exact extA))) (hV.ext (by (exact extA))); rintro v' w' ⟨hx, a', cap', rfl, hO⟩)
    | (show WL _ _ _ _ _ _ _; first | apply WL.nil | (refine WL.au (k := ?_)))
    | (show Z _ _ _ _ _; apply Z.then_normal)
    | (show W _ _ _ _ _ _; first | apply W.seq | apply W.region | apply W.skip | apply W.ret | (apply W.condF; exact rfl)))
  exact Z.body1 Try.results67 rfl fun m => ⟨Ext.at (by (exact extA)) m, a', cap', rfl, (hO.base (Below.size (by (exact extA)))).ext ((Ext.refl _).at m)⟩

set_option maxHeartbeats 1000000 in
theorem step_Holds (gm : Nat) (c : Circ) (rn : RowV (Int × Int)) (ra : RowV Int) (a b : Option Addr) (ca cb : Nat) (s i : List Bool) (w : World) (hM : MAt w gm c rn ra) (Rs : Row 1 encB w a s) (Ri : Row 1 encB w b i) :
    Pure Try.prog 71 [.pointer (some ⟨gm, 0, none⟩), .slice a s.length ca, .slice b i.length cb] w (.bool (dec (HoldsP c.t s i))) := by
  obtain ⟨y0, y1, y2, y3, y4, y5, _⟩ := hM.cells
  have Rc := hM.cat.cons.row
  refine Spec.of _ Try.func71 rfl Try.ntmps71 (by kernel_rfl) rfl ?_
  repeat' (first
    | (apply FL.nilc; exact rfl; exact rfl; exact rfl)
    | (apply FL.neNilS tOk; exact rfl; exact rfl; exact rfl; exact rfl; exact rfl; exact rfl)
    | (show W _ _ (.region 1 _ _) _ _ _; apply W.regionGX (.fl true 0 (.fl true 1 (.fl true 2 (.fl true 3 (.fl true 4 (.fl true 5 (.fl true 8 (.fl true 9 (.fl true 10 (.fl true 11 (.fl false 12 (.br 6 (.fl true 7 (.br 13 (.fl true 14 (.fl true 15 .done)) .stop)) .stop)))))))))))) [6, 7, 14] tMix; kernel_rfl)
    | (((show WL _ _ _ (⟨_, .call ⟨.value (.func 122), _, _⟩, _, _, _, _⟩ :: _) _ _ _); apply WL.call; exact rfl; exact rfl; exact rfl; exact rfl; exact step_in gm c rn ra _ _ _ _ s i _ (hM.ext (by (exact extA))) (Rs.ext (by (exact extA))) (Ri.ext (by (exact extA))); rintro v' w4 ⟨hx4, rv, rfl, hV⟩))
    | ((show WL _ _ _ (⟨_, .call ⟨.value (.func 126), _, _⟩, _, _, _, _⟩ :: _) _ _ _); apply WL.callP; exact rfl; exact rfl; exact rfl; exact rfl; exact step_all c s i rv ra _ _ c.cons.2.2 _ (hV.ext (by (exact extA))) (Rc.ext (by (exact extA))) (fun l hl => used_con hl); intro w' hx)
    | (show SX _ _ _ _ _ _ _ _ _; first | (apply SX.done; intro w' hx) | (apply SX.fl0; exact rfl) | (apply SX.fl1; exact rfl; (exact extA)) | (apply SX.br1; exact rfl; intro w' hx))
    | (show FL _ _ _ _ _ _ _ _; first | apply FL.nilX | (apply FL.loadE tOk; exact rfl; exact rfl; exact rfl; exact rfl; exact rfl; assumption))
    | (show FL _ _ _ _ _ _ _ _; (refine FL.au (k := ?_)))
    | (show Z _ _ _ _ _; first | (apply Z.sxL; exact rfl) | (apply Z.sxE; (exact extA)))
    | (show WL _ _ _ _ _ _ _; first | apply WL.nil | (refine WL.au (k := ?_)))
    | (show Z _ _ _ _ _; apply Z.then_normal)
    | (show W _ _ _ _ _ _; first | apply W.seq | apply W.region | apply W.ret))
  exact Z.body1 Try.results71 rfl fun m => ⟨rfl, Ext.at (by (exact extA)) m⟩

set_option maxHeartbeats 8000000 in
theorem step_Bad (gm : Nat) (c : Circ) (rn : RowV (Int × Int)) (ra : RowV Int) (a b : Option Addr) (ca cb : Nat) (s i : List Bool) (p : Int) (w : World) (hM : MAt w gm c rn ra) (Rs : Row 1 encB w a s) (Ri : Row 1 encB w b i) :
    Pure Try.prog 69 [.pointer (some ⟨gm, 0, none⟩), .slice a s.length ca, .slice b i.length cb, .int .i64 p] w (.bool (dec (BadP c.t s i p))) := by
  obtain ⟨y0, y1, y2, y3, y4, _⟩ := hM.cells
  have Rb := hM.cat.bads.row
  have hbl := Rb.len
  by_cases q1 : 0 ≤ p
  · by_cases q2 : p < c.bads.2.2.length
    · obtain ⟨l, hl⟩ := getI c.bads.2.2 (show p.toNat < c.bads.2.2.length by omega)
      have e : dec (BadP c.t s i p) = litV c.t s i l := by
        cases hv : litV c.t s i l
        · refine dec_false fun h => ?_
          obtain ⟨_, l', h1, h2⟩ := h
          have : c.bads.2.2[p.toNat]? = some l' := h1
          rw [hl] at this; cases this
          rw [hv] at h2; cases h2
        · exact dec_true ⟨q1, l, hl, hv⟩
      refine Spec.of _ Try.func69 rfl Try.ntmps69 (by kernel_rfl) rfl ?_
      repeat' (first
        | (apply FL.nilc; exact rfl; exact rfl; exact rfl)
        | (apply FL.neNilS tOk; exact rfl; exact rfl; exact rfl; exact rfl; exact rfl; exact rfl)
        | (show W _ _ (.region 1 _ _) _ _ _; apply W.regionGX (.fl true 0 (.fl true 1 (.fl true 2 (.fl true 3 (.fl true 4 (.fl true 5 (.fl true 6 (.fl true 7 (.fl true 8 (.fl true 9 (.fl true 10 (.fl true 11 (.fl false 12 (.fl true 13 (.fl true 14 (.fl true 15 (.fl true 16 (.fl true 17 (.fl true 18 (.fl true 19 (.fl true 22 (.fl true 23 (.fl true 24 (.fl true 25 (.fl true 27 (.fl false 26 (.fl true 28 (.fl false 29 (.br 20 (.fl true 21 (.br 30 (.fl true 31 (.fl true 32 .done)) .stop)) .stop))))))))))))))))))))))))))))) [14, 15, 16, 17, 18, 19, 20, 21, 22, 23, 24, 25, 26, 27, 28, 29, 30, 31] tMix; kernel_rfl)
        | (apply FL.gT; exact rfl; exact rfl; (focus (exact dec_true (by omega); done)))
        | (((show WL _ _ _ (⟨_, .call ⟨.value (.func 122), _, _⟩, _, _, _, _⟩ :: _) _ _ _); apply WL.call; exact rfl; exact rfl; exact rfl; exact rfl; exact step_in gm c rn ra _ _ _ _ s i _ (hM.ext (by (exact extA))) (Rs.ext (by (exact extA))) (Ri.ext (by (exact extA))); rintro v' w4 ⟨hx4, rv, rfl, hV⟩))
        | ((show WL _ _ _ (⟨_, .call ⟨.value (.func 125), _, _⟩, _, _, _, _⟩ :: _) _ _ _); apply WL.callP; exact rfl; exact rfl; exact rfl; exact rfl; exact step_is c s i rv ra l _ (hV.ext (by (exact extA))) (used_bad (List.mem_of_getElem? hl)); intro w' hx)
        | (show SX _ _ _ _ _ _ _ _ _; first | (apply SX.done; intro w' hx) | (apply SX.fl0; exact rfl) | (apply SX.fl1; exact rfl; (exact extA)) | (apply SX.br1; exact rfl; intro w' hx))
        | (show FL _ _ _ _ _ _ _ _; first | apply FL.nilX | (apply FL.loadE tOk; exact rfl; exact rfl; exact rfl; exact rfl; exact rfl; assumption) | (apply FL.indexE tOk; exact rfl; exact rfl; exact rfl; exact rfl; exact rfl; exact rfl; exact rfl; exact rfl; assumption; exact rfl; omega; assumption; intro b off h; have hcc := h; first | (obtain ⟨h1, h2, h3, h4, h5, h6, _⟩ := h) | (obtain ⟨h1, h2, h3, _⟩ := h) | (obtain ⟨h1, h2, _⟩ := h) | (obtain ⟨h1, _⟩ := h)))
        | (show FL _ _ _ _ _ _ _ _; (refine FL.au (k := ?_)))
        | (show Z _ _ _ _ _; (apply Z.sxE; (exact extA)))
        | (show WL _ _ _ _ _ _ _; first | apply WL.nil | (refine WL.au (k := ?_)))
        | (show Z _ _ _ _ _; apply Z.then_normal)
        | (show W _ _ _ _ _ _; first | apply W.seq | apply W.region | apply W.ret))
      all_goals exact Z.body1 Try.results69 rfl fun m => ⟨by rw [e], Ext.at (by (exact extA)) m⟩
    · have e : dec (BadP c.t s i p) = false := dec_false fun h => by
        obtain ⟨_, l', h1, h2⟩ := h
        have := lt_of_get h1
        have : p.toNat < c.bads.2.2.length := this
        omega
      refine Spec.of _ Try.func69 rfl Try.ntmps69 (by kernel_rfl) rfl ?_
      repeat' (first
        | (apply QL.nilc; exact rfl; exact rfl; exact rfl)
        | (apply QL.neNilS tOk; exact rfl; exact rfl; exact rfl; exact rfl; exact rfl; exact rfl)
        | (apply QL.gT; exact rfl; exact rfl; (focus (first | exact dec_true (by omega) | exact dec_false (by omega); done)))
        | (apply QL.gF; exact rfl; exact rfl; (focus (first | exact dec_true (by omega) | exact dec_false (by omega); done)))
        | (show WL _ _ _ _ _ _ _; first | apply WL.nil | (refine WL.au (k := ?_)))
        | (show QL _ _ _ _ _ _ _; first | apply QL.nil | (refine QL.au (k := ?_)) | (apply QL.guardF; exact rfl; exact rfl))
        | (show Z _ _ _ _ _; apply Z.then_normal)
        | (show W _ _ _ _ _ _; first | apply W.seq | apply W.region | apply W.ret | (apply W.regionD tMix; kernel_rfl)))
      exact Z.body1 Try.results69 rfl fun m => ⟨by rw [e], Ext.at (by (exact extA)) m⟩
  · have e : dec (BadP c.t s i p) = false := dec_false fun h => q1 h.1
    refine Spec.of _ Try.func69 rfl Try.ntmps69 (by kernel_rfl) rfl ?_
    repeat' (first
      | (apply QL.neNilS tOk; exact rfl; exact rfl; exact rfl; exact rfl; exact rfl; exact rfl)
      | (apply QL.gF; exact rfl; exact rfl; (focus (exact dec_false (by omega); done)))
      | (show WL _ _ _ _ _ _ _; first | apply WL.nil | (refine WL.au (k := ?_)))
      | (show QL _ _ _ _ _ _ _; first | apply QL.nil | (refine QL.au (k := ?_)) | (apply QL.guardF; exact rfl; exact rfl))
      | (show Z _ _ _ _ _; apply Z.then_normal)
      | (show W _ _ _ _ _ _; first | apply W.seq | apply W.region | apply W.ret | (apply W.regionD tMix; kernel_rfl)))
    exact Z.body1 Try.results69 rfl fun m => ⟨by rw [e], Ext.at (by (exact extA)) m⟩

theorem step_Starts (gm : Nat) (c : Circ) (rn : RowV (Int × Int)) (ra : RowV Int) (a : Option Addr) (ca : Nat) (s : List Bool) (w : World) (hM : MAt w gm c rn ra) (Rs : Row 1 encB w a s) :
    Pure Try.prog 64 [.pointer (some ⟨gm, 0, none⟩), .slice a s.length ca] w (.bool (dec (StartsP c.t s))) := by
  have hM' := hM
  obtain ⟨hcells, hC, Rn, Ra, en, ea, hg, hz⟩ := hM
  obtain ⟨y0, y1, y2, _⟩ := hcells
  have k2 : c.lat.2.2.length ≤ 100000 := hz.2.1
  have Rl := hC.lat.row
  have hres := hg.res
  by_cases he : s.length = c.lat.2.2.length
  rotate_left
  · have e : dec (StartsP c.t s) = false := dec_false fun h => he h.1
    refine Spec.of _ Try.func64 rfl Try.ntmps64 (by kernel_rfl) rfl ?_
    repeat' (first
      | (apply WL.eqNilS tOk; exact rfl; exact rfl; exact rfl; exact rfl; exact rfl; exact rfl)
      | ((show WL _ _ _ (⟨_, .call ⟨.value (.func 63), _, _⟩, _, _, _, _⟩ :: _) _ _ _); apply WL.callS; exact rfl; exact rfl; exact rfl; exact rfl; exact step_Latches gm c rn ra _ (hM'.ext (by (exact extA))))
      | (apply W.condKT; exact rfl; (focus (exact dec_true (by omega); done)))
      | (show WL _ _ _ _ _ _ _; first | apply WL.nil | (refine WL.au (k := ?_)))
      | (show Z _ _ _ _ _; first | apply Z.then_normal | apply Z.then_ret)
      | (show W _ _ _ _ _ _; first | apply W.seq | apply W.region | apply W.ret))
    exact Z.body1 Try.results64 rfl fun m => ⟨by rw [e], Ext.at (by (exact extA)) m⟩
  refine Spec.of _ Try.func64 rfl Try.ntmps64 (by kernel_rfl) rfl ?_
  repeat' (first
    | (apply WL.nilc; exact rfl; exact rfl; exact rfl)
    | (apply WL.eqNilS tOk; exact rfl; exact rfl; exact rfl; exact rfl; exact rfl; exact rfl)
    | ((show WL _ _ _ (⟨_, .call ⟨.value (.func 63), _, _⟩, _, _, _, _⟩ :: _) _ _ _); apply WL.callS; exact rfl; exact rfl; exact rfl; exact rfl; exact step_Latches gm c rn ra _ (hM'.ext (by (exact extA))))
    | (apply W.condKF; exact rfl; (focus (exact dec_false (by omega); done)))
    | (show WL _ _ _ _ _ _ _; first | apply WL.nil | (refine WL.au (k := ?_)))
    | (show Z _ _ _ _ _; apply Z.then_normal)
    | (show W _ _ _ _ _ _; first | apply W.seq | apply W.region | apply W.block | apply W.skip))
  refine W.loopW c.lat.2.2.length (fun k w' => k ≤ c.lat.2.2.length ∧ Ext w w' ∧ ∀ (j : Nat) x b, j < k → c.lat.2.2[j]? = some x → s[j]? = some b → ¬ (x.2.2 = 0 ∧ b = true) ∧ ¬ (x.2.2 = 1 ∧ b = false)) (fun k => [(1, .slice a s.length ca), (20, rowVal c.lat), (21, .int .i64 c.lat.2.2.length), (22, .int .i64 k)]) ⟨Nat.zero_le _, Ext.refl _, fun j x b h => by omega⟩ (fun k w' h => h.1) ⟨rfl, rfl, rfl, rfl, trivial⟩ ?_
  rintro k w2 ⟨hk, hX2, hall⟩
  have Rl2 := Rl.ext hX2
  have Rs2 := Rs.ext hX2
  by_cases hlt : k < c.lat.2.2.length
  · obtain ⟨sb, hsb⟩ := getI s (show k < s.length by omega)
    obtain ⟨x, hxx⟩ := getI c.lat.2.2 hlt
    have hstep : (¬ (x.2.2 = 0 ∧ sb = true) ∧ ¬ (x.2.2 = 1 ∧ sb = false)) → ∀ (j : Nat) x b, j < k + 1 → c.lat.2.2[j]? = some x → s[j]? = some b → ¬ (x.2.2 = 0 ∧ b = true) ∧ ¬ (x.2.2 = 1 ∧ b = false) := by
      intro h j y d hj h1 h2
      by_cases hjk : j = k
      · subst hjk; rw [hxx] at h1; rw [hsb] at h2; cases h1; cases h2; exact h
      · exact hall j y d (by omega) h1 h2
    have hown := hg.own x.1 (List.mem_append_left _ (List.mem_append_right _ (List.mem_map.2 ⟨x, List.mem_of_getElem? hxx, rfl⟩)))
    have hrx := hres x (List.mem_of_getElem? hxx)
    repeat' (first
      | (show WL _ _ _ _ _ _ _; first | apply WL.nil | (refine WL.au (k := ?_)))
      | (show Z _ _ _ _ _; apply Z.then_normal)
      | (show W _ _ _ _ _ _; first | apply W.seq | apply W.region))
    refine W.condKT rfl (dec_true (by omega)) ?_
    repeat' (first
      | (apply WL.alloc tOk; exact rfl; exact rfl; exact rfl; intro gb w' hb hge hx)
      | (apply WL.storeB (w0 := w2) tOk; exact rfl; exact rfl; exact rfl; exact rfl; assumption; (exact extA); exact rfl; exact rfl; exact rfl; (exact extA); (first | assumption | omega | (focus (apply Nat.le_trans; rotate_left; assumption; exact Below.size (by (exact extA)); done))); intro w' hb hc hX' hU; have hcc := hc; obtain ⟨h1, h2, _⟩ := hc; (obtain ⟨w6, rfl⟩ : ∃ x, x = w' := ⟨_, rfl⟩; obtain ⟨hb6, rfl⟩ : ∃ x, x = hb := ⟨_, rfl⟩; obtain ⟨hX6, rfl⟩ : ∃ x, x = hX' := ⟨_, rfl⟩; have hC8 := cells_heap hb6; obtain ⟨i0, i1, i2, _⟩ := hC8))
      | (show WL _ _ _ _ _ _ _; first | apply WL.nil | (refine WL.au (k := ?_)) | (apply WL.index tOk; exact rfl; exact rfl; exact rfl; exact rfl; exact rfl; exact rfl; exact rfl; exact rfl; assumption; (exact extA); exact rfl; omega; assumption; intro b off h; have hcc := h; first | (obtain ⟨h1, h2, h3, h4, h5, h6, _⟩ := h) | (obtain ⟨h1, h2, h3, _⟩ := h) | (obtain ⟨h1, h2, _⟩ := h) | (obtain ⟨h1, _⟩ := h)))
      | (show Z _ _ _ _ _; apply Z.then_normal)
      | (show W _ _ _ _ _ _; first | apply W.seq | apply W.region | apply W.block | apply W.skip))
    have Rs6 := Rs2.ext hX6
    by_cases h0 : x.2.2 = 0
    · cases sb
      · repeat' (first
          | (apply QL.gT; exact rfl; exact rfl; (focus (first | exact dec_true (by omega) | exact dec_false (by omega) | (rw [dec_false (show ¬ x.2.2 = 1 by omega)]; first | exact dec_true (by decide) | exact dec_false (by decide)); done)))
          | (apply W.condKF; exact rfl; (focus (first | exact dec_true (by omega) | exact dec_false (by omega) | (rw [dec_false (show ¬ x.2.2 = 1 by omega)]; first | exact dec_true (by decide) | exact dec_false (by decide)); done)))
          | (show WL _ _ _ _ _ _ _; first | apply WL.nil | (refine WL.au (k := ?_)))
          | (show QL _ _ _ _ _ _ _; first | apply QL.nil | (refine QL.au (k := ?_)) | (apply QL.index tOk; exact rfl; exact rfl; exact rfl; exact rfl; exact rfl; exact rfl; exact rfl; exact rfl; assumption; (exact extA); exact rfl; omega; assumption; intro b off h; have hcc := h; first | (obtain ⟨h1, h2, h3, h4, h5, h6, _⟩ := h) | (obtain ⟨h1, h2, h3, _⟩ := h) | (obtain ⟨h1, h2, _⟩ := h) | (obtain ⟨h1, _⟩ := h)))
          | (show Z _ _ _ _ _; first | apply Z.then_normal | apply Z.block_normal)
          | (show W _ _ _ _ _ _; first | apply W.region | apply W.skip | (apply W.regionD tMix; kernel_rfl)))
        exact Z.againW ⟨by omega, (by (exact extA)), hstep ⟨by simp, by omega⟩⟩ ⟨rfl, rfl, rfl, rfl, trivial⟩
      · have e : dec (StartsP c.t s) = false := dec_false fun h => (h.2 k x true hxx hsb).1 ⟨h0, rfl⟩
        repeat' (first
          | (apply QL.gT; exact rfl; exact rfl; (focus (first | exact dec_true (by omega) | exact dec_false (by omega) | (rw [dec_false (show ¬ x.2.2 = 1 by omega)]; first | exact dec_true (by decide) | exact dec_false (by decide)); done)))
          | (apply W.condKT; exact rfl; (focus (first | exact dec_true (by omega) | exact dec_false (by omega) | (rw [dec_false (show ¬ x.2.2 = 1 by omega)]; first | exact dec_true (by decide) | exact dec_false (by decide)); done)))
          | (show WL _ _ _ _ _ _ _; first | apply WL.nil | (refine WL.au (k := ?_)))
          | (show QL _ _ _ _ _ _ _; first | apply QL.nil | (refine QL.au (k := ?_)) | (apply QL.index tOk; exact rfl; exact rfl; exact rfl; exact rfl; exact rfl; exact rfl; exact rfl; exact rfl; assumption; (exact extA); exact rfl; omega; assumption; intro b off h; have hcc := h; first | (obtain ⟨h1, h2, h3, h4, h5, h6, _⟩ := h) | (obtain ⟨h1, h2, h3, _⟩ := h) | (obtain ⟨h1, h2, _⟩ := h) | (obtain ⟨h1, _⟩ := h)))
          | (show Z _ _ _ _ _; first | apply Z.then_normal | apply Z.then_ret | apply Z.block_ret)
          | (show W _ _ _ _ _ _; first | apply W.seq | apply W.region | apply W.ret | (apply W.regionD tMix; kernel_rfl)))
        exact Z.body1 Try.results64 rfl fun m => ⟨by rw [e], Ext.at (by (exact extA)) m⟩
    · by_cases h1 : x.2.2 = 1
      · cases sb
        · have e : dec (StartsP c.t s) = false := dec_false fun h => (h.2 k x false hxx hsb).2 ⟨h1, rfl⟩
          repeat' (first
            | (apply QL.gT; exact rfl; exact rfl; (focus (first | exact dec_true (by omega) | exact dec_false (by omega) | (rw [dec_true (show x.2.2 = 1 by omega)]; first | exact dec_true (by decide) | exact dec_false (by decide)); done)))
            | (apply W.condKT; exact rfl; (focus (first | exact dec_true (by omega) | exact dec_false (by omega) | (rw [dec_true (show x.2.2 = 1 by omega)]; first | exact dec_true (by decide) | exact dec_false (by decide)); done)))
            | (show WL _ _ _ _ _ _ _; first | apply WL.nil | (refine WL.au (k := ?_)))
            | (show QL _ _ _ _ _ _ _; first | apply QL.nil | (refine QL.au (k := ?_)) | (apply QL.index tOk; exact rfl; exact rfl; exact rfl; exact rfl; exact rfl; exact rfl; exact rfl; exact rfl; assumption; (exact extA); exact rfl; omega; assumption; intro b off h; have hcc := h; first | (obtain ⟨h1, h2, h3, h4, h5, h6, _⟩ := h) | (obtain ⟨h1, h2, h3, _⟩ := h) | (obtain ⟨h1, h2, _⟩ := h) | (obtain ⟨h1, _⟩ := h)))
            | (show Z _ _ _ _ _; first | apply Z.then_normal | apply Z.then_ret | apply Z.block_ret)
            | (show W _ _ _ _ _ _; first | apply W.seq | apply W.region | apply W.ret | (apply W.regionD tMix; kernel_rfl)))
          exact Z.body1 Try.results64 rfl fun m => ⟨by rw [e], Ext.at (by (exact extA)) m⟩
        · repeat' (first
            | (apply QL.gT; exact rfl; exact rfl; (focus (first | exact dec_true (by omega) | exact dec_false (by omega) | (rw [dec_true (show x.2.2 = 1 by omega)]; first | exact dec_true (by decide) | exact dec_false (by decide)); done)))
            | (apply W.condKF; exact rfl; (focus (first | exact dec_true (by omega) | exact dec_false (by omega) | (rw [dec_true (show x.2.2 = 1 by omega)]; first | exact dec_true (by decide) | exact dec_false (by decide)); done)))
            | (show WL _ _ _ _ _ _ _; first | apply WL.nil | (refine WL.au (k := ?_)))
            | (show QL _ _ _ _ _ _ _; first | apply QL.nil | (refine QL.au (k := ?_)) | (apply QL.index tOk; exact rfl; exact rfl; exact rfl; exact rfl; exact rfl; exact rfl; exact rfl; exact rfl; assumption; (exact extA); exact rfl; omega; assumption; intro b off h; have hcc := h; first | (obtain ⟨h1, h2, h3, h4, h5, h6, _⟩ := h) | (obtain ⟨h1, h2, h3, _⟩ := h) | (obtain ⟨h1, h2, _⟩ := h) | (obtain ⟨h1, _⟩ := h)))
            | (show Z _ _ _ _ _; first | apply Z.then_normal | apply Z.block_normal)
            | (show W _ _ _ _ _ _; first | apply W.region | apply W.skip | (apply W.regionD tMix; kernel_rfl)))
          exact Z.againW ⟨by omega, (by (exact extA)), hstep ⟨by omega, by simp⟩⟩ ⟨rfl, rfl, rfl, rfl, trivial⟩
      · repeat' (first
          | (apply QL.gF; exact rfl; exact rfl; (focus (first | exact dec_true (by omega) | exact dec_false (by omega); done)))
          | (show WL _ _ _ _ _ _ _; first | apply WL.nil | (refine WL.au (k := ?_)))
          | (show QL _ _ _ _ _ _ _; first | apply QL.nil | (refine QL.au (k := ?_)) | (apply QL.guardF; exact rfl; exact rfl))
          | (show Z _ _ _ _ _; first | apply Z.then_normal | apply Z.block_normal)
          | (show W _ _ _ _ _ _; first | apply W.region | apply W.skip | (apply W.condF; exact rfl) | (apply W.regionD tMix; kernel_rfl)))
        exact Z.againW ⟨by omega, (by (exact extA)), hstep ⟨by omega, by omega⟩⟩ ⟨rfl, rfl, rfl, rfl, trivial⟩
  · obtain rfl : k = c.lat.2.2.length := by omega
    have e : dec (StartsP c.t s) = true := dec_true ⟨he, fun j x b h1 h2 => hall j x b (lt_of_get h1) h1 h2⟩
    repeat' (first
      | (apply W.condKF; exact rfl; (focus (exact dec_false (by omega); done)))
      | (show WL _ _ _ _ _ _ _; first | apply WL.nil | (refine WL.au (k := ?_)))
      | (show Z _ _ _ _ _; first | apply Z.then_normal | apply Z.then_exit | apply Z.block_exit)
      | (show W _ _ _ _ _ _; first | apply W.seq | apply W.region | apply W.ret | apply W.exit))
    exact Z.body1 Try.results64 rfl fun m => ⟨by rw [e], Ext.at (by (exact extA)) m⟩
end Go.Proofs.Ythpnahapiodflaa
namespace Go.Proofs.Ythpnahapiodflaa
open Go Go.Lt Go.RowKit
set_option linter.unusedVariables false
set_option linter.unusedSimpArgs false
set_option maxRecDepth 20000

theorem few_iff {c : CirT} {m : Int} : FewC c m ↔ (c.ins.length : Int) ≤ m ∧ (c.lat.length : Int) ≤ m ∧ (c.gates.length : Int) ≤ m ∧ (c.outs.length : Int) ≤ m ∧ (c.bads.length : Int) ≤ m ∧ (c.cons.length : Int) ≤ m ∧ (c.syms.length : Int) ≤ m ∧ (c.com.size : Int) ≤ 300 := Iff.rfl
set_option maxHeartbeats 16000000 in
set_option maxRecDepth 10000 in
theorem law11_Few (c : Circ) (m : Int) (w : World) : Pure Try.prog 56 [c.val, .int .i64 m] w (.bool (dec (FewC c.t m))) := by
  by_cases f0 : (c.ins.2.2.length : Int) ≤ m
  rotate_left
  · skip
    refine Spec.of _ Try.func56 rfl Try.ntmps56 (by kernel_rfl) rfl ?_
    repeat' (first
      | (apply WL.box; exact rfl; exact rfl; exact rfl; intro gb w' hb hge hc hx; have hcc := hc; (first | (obtain ⟨h1, h2, h3, _⟩ := hc) | (obtain ⟨h1, h2, _⟩ := hc)); (obtain ⟨y0, y1, y2, y3, y4, y5, y6, y7, y8, _⟩ := hcc))
      | (apply WL.gF; exact rfl; exact rfl; (focus (first | exact dec_false f0; done)))
      | (show WL _ _ _ _ _ _ _; first | apply WL.nil | (refine WL.au (k := ?_)) | (apply WL.guardF; exact rfl; exact rfl))
      | (show Z _ _ _ _ _; apply Z.then_normal)
      | (show W _ _ _ _ _ _; first | apply W.seq | apply W.region | apply W.ret))
    exact Z.body1 Try.results56 rfl fun q => ⟨congrArg Value.bool (by rw [dec_false (show ¬ FewC c.t m from fun h => f0 (few_iff.1 h).1)] <;> exact dec_false f0), Ext.at (by (exact extA)) q⟩
  by_cases f1 : (c.lat.2.2.length : Int) ≤ m
  rotate_left
  · skip
    refine Spec.of _ Try.func56 rfl Try.ntmps56 (by kernel_rfl) rfl ?_
    repeat' (first
      | (apply WL.box; exact rfl; exact rfl; exact rfl; intro gb w' hb hge hc hx; have hcc := hc; (first | (obtain ⟨h1, h2, h3, _⟩ := hc) | (obtain ⟨h1, h2, _⟩ := hc)); (obtain ⟨y0, y1, y2, y3, y4, y5, y6, y7, y8, _⟩ := hcc))
      | (apply WL.gT; exact rfl; exact rfl; (focus (first | exact dec_true f0 | exact dec_false f1; done)))
      | (apply WL.gF; exact rfl; exact rfl; (focus (first | exact dec_true f0 | exact dec_false f1; done)))
      | (show WL _ _ _ _ _ _ _; first | apply WL.nil | (refine WL.au (k := ?_)) | (apply WL.guardF; exact rfl; exact rfl))
      | (show Z _ _ _ _ _; apply Z.then_normal)
      | (show W _ _ _ _ _ _; first | apply W.seq | apply W.region | apply W.ret))
    exact Z.body1 Try.results56 rfl fun q => ⟨congrArg Value.bool (by rw [dec_false (show ¬ FewC c.t m from fun h => f1 (few_iff.1 h).2.1)] <;> exact dec_false f1), Ext.at (by (exact extA)) q⟩
  by_cases f2 : (c.gates.2.2.length : Int) ≤ m
  rotate_left
  · skip
    refine Spec.of _ Try.func56 rfl Try.ntmps56 (by kernel_rfl) rfl ?_
    repeat' (first
      | (apply WL.box; exact rfl; exact rfl; exact rfl; intro gb w' hb hge hc hx; have hcc := hc; (first | (obtain ⟨h1, h2, h3, _⟩ := hc) | (obtain ⟨h1, h2, _⟩ := hc)); (obtain ⟨y0, y1, y2, y3, y4, y5, y6, y7, y8, _⟩ := hcc))
      | (apply WL.gT; exact rfl; exact rfl; (focus (first | exact dec_true f0 | exact dec_true f1 | exact dec_false f2; done)))
      | (apply WL.gF; exact rfl; exact rfl; (focus (first | exact dec_true f0 | exact dec_true f1 | exact dec_false f2; done)))
      | (show WL _ _ _ _ _ _ _; first | apply WL.nil | (refine WL.au (k := ?_)) | (apply WL.guardF; exact rfl; exact rfl))
      | (show Z _ _ _ _ _; apply Z.then_normal)
      | (show W _ _ _ _ _ _; first | apply W.seq | apply W.region | apply W.ret))
    exact Z.body1 Try.results56 rfl fun q => ⟨congrArg Value.bool (by rw [dec_false (show ¬ FewC c.t m from fun h => f2 (few_iff.1 h).2.2.1)] <;> exact dec_false f2), Ext.at (by (exact extA)) q⟩
  by_cases f3 : (c.outs.2.2.length : Int) ≤ m
  rotate_left
  · skip
    refine Spec.of _ Try.func56 rfl Try.ntmps56 (by kernel_rfl) rfl ?_
    repeat' (first
      | (apply WL.box; exact rfl; exact rfl; exact rfl; intro gb w' hb hge hc hx; have hcc := hc; (first | (obtain ⟨h1, h2, h3, _⟩ := hc) | (obtain ⟨h1, h2, _⟩ := hc)); (obtain ⟨y0, y1, y2, y3, y4, y5, y6, y7, y8, _⟩ := hcc))
      | (apply WL.gT; exact rfl; exact rfl; (focus (first | exact dec_true f0 | exact dec_true f1 | exact dec_true f2 | exact dec_false f3; done)))
      | (apply WL.gF; exact rfl; exact rfl; (focus (first | exact dec_true f0 | exact dec_true f1 | exact dec_true f2 | exact dec_false f3; done)))
      | (show WL _ _ _ _ _ _ _; first | apply WL.nil | (refine WL.au (k := ?_)) | (apply WL.guardF; exact rfl; exact rfl))
      | (show Z _ _ _ _ _; apply Z.then_normal)
      | (show W _ _ _ _ _ _; first | apply W.seq | apply W.region | apply W.ret))
    exact Z.body1 Try.results56 rfl fun q => ⟨congrArg Value.bool (by rw [dec_false (show ¬ FewC c.t m from fun h => f3 (few_iff.1 h).2.2.2.1)] <;> exact dec_false f3), Ext.at (by (exact extA)) q⟩
  by_cases f4 : (c.bads.2.2.length : Int) ≤ m
  rotate_left
  · skip
    refine Spec.of _ Try.func56 rfl Try.ntmps56 (by kernel_rfl) rfl ?_
    repeat' (first
      | (apply WL.box; exact rfl; exact rfl; exact rfl; intro gb w' hb hge hc hx; have hcc := hc; (first | (obtain ⟨h1, h2, h3, _⟩ := hc) | (obtain ⟨h1, h2, _⟩ := hc)); (obtain ⟨y0, y1, y2, y3, y4, y5, y6, y7, y8, _⟩ := hcc))
      | (apply WL.gT; exact rfl; exact rfl; (focus (first | exact dec_true f0 | exact dec_true f1 | exact dec_true f2 | exact dec_true f3 | exact dec_false f4; done)))
      | (apply WL.gF; exact rfl; exact rfl; (focus (first | exact dec_true f0 | exact dec_true f1 | exact dec_true f2 | exact dec_true f3 | exact dec_false f4; done)))
      | (show WL _ _ _ _ _ _ _; first | apply WL.nil | (refine WL.au (k := ?_)) | (apply WL.guardF; exact rfl; exact rfl))
      | (show Z _ _ _ _ _; apply Z.then_normal)
      | (show W _ _ _ _ _ _; first | apply W.seq | apply W.region | apply W.ret))
    exact Z.body1 Try.results56 rfl fun q => ⟨congrArg Value.bool (by rw [dec_false (show ¬ FewC c.t m from fun h => f4 (few_iff.1 h).2.2.2.2.1)] <;> exact dec_false f4), Ext.at (by (exact extA)) q⟩
  by_cases f5 : (c.cons.2.2.length : Int) ≤ m
  rotate_left
  · skip
    refine Spec.of _ Try.func56 rfl Try.ntmps56 (by kernel_rfl) rfl ?_
    repeat' (first
      | (apply WL.box; exact rfl; exact rfl; exact rfl; intro gb w' hb hge hc hx; have hcc := hc; (first | (obtain ⟨h1, h2, h3, _⟩ := hc) | (obtain ⟨h1, h2, _⟩ := hc)); (obtain ⟨y0, y1, y2, y3, y4, y5, y6, y7, y8, _⟩ := hcc))
      | (apply WL.gT; exact rfl; exact rfl; (focus (first | exact dec_true f0 | exact dec_true f1 | exact dec_true f2 | exact dec_true f3 | exact dec_true f4 | exact dec_false f5; done)))
      | (apply WL.gF; exact rfl; exact rfl; (focus (first | exact dec_true f0 | exact dec_true f1 | exact dec_true f2 | exact dec_true f3 | exact dec_true f4 | exact dec_false f5; done)))
      | (show WL _ _ _ _ _ _ _; first | apply WL.nil | (refine WL.au (k := ?_)) | (apply WL.guardF; exact rfl; exact rfl))
      | (show Z _ _ _ _ _; apply Z.then_normal)
      | (show W _ _ _ _ _ _; first | apply W.seq | apply W.region | apply W.ret))
    exact Z.body1 Try.results56 rfl fun q => ⟨congrArg Value.bool (by rw [dec_false (show ¬ FewC c.t m from fun h => f5 (few_iff.1 h).2.2.2.2.2.1)] <;> exact dec_false f5), Ext.at (by (exact extA)) q⟩
  by_cases f6 : (c.syms.2.2.length : Int) ≤ m
  rotate_left
  · skip
    refine Spec.of _ Try.func56 rfl Try.ntmps56 (by kernel_rfl) rfl ?_
    repeat' (first
      | (apply WL.box; exact rfl; exact rfl; exact rfl; intro gb w' hb hge hc hx; have hcc := hc; (first | (obtain ⟨h1, h2, h3, _⟩ := hc) | (obtain ⟨h1, h2, _⟩ := hc)); (obtain ⟨y0, y1, y2, y3, y4, y5, y6, y7, y8, _⟩ := hcc))
      | (apply WL.gT; exact rfl; exact rfl; (focus (first | exact dec_true f0 | exact dec_true f1 | exact dec_true f2 | exact dec_true f3 | exact dec_true f4 | exact dec_true f5 | exact dec_false f6; done)))
      | (apply WL.gF; exact rfl; exact rfl; (focus (first | exact dec_true f0 | exact dec_true f1 | exact dec_true f2 | exact dec_true f3 | exact dec_true f4 | exact dec_true f5 | exact dec_false f6; done)))
      | (show WL _ _ _ _ _ _ _; first | apply WL.nil | (refine WL.au (k := ?_)) | (apply WL.guardF; exact rfl; exact rfl))
      | (show Z _ _ _ _ _; apply Z.then_normal)
      | (show W _ _ _ _ _ _; first | apply W.seq | apply W.region | apply W.ret))
    exact Z.body1 Try.results56 rfl fun q => ⟨congrArg Value.bool (by rw [dec_false (show ¬ FewC c.t m from fun h => f6 (few_iff.1 h).2.2.2.2.2.2.1)] <;> exact dec_false f6), Ext.at (by (exact extA)) q⟩
  by_cases f7 : (c.com.size : Int) ≤ 300
  rotate_left
  · skip
    refine Spec.of _ Try.func56 rfl Try.ntmps56 (by kernel_rfl) rfl ?_
    repeat' (first
      | (apply WL.box; exact rfl; exact rfl; exact rfl; intro gb w' hb hge hc hx; have hcc := hc; (first | (obtain ⟨h1, h2, h3, _⟩ := hc) | (obtain ⟨h1, h2, _⟩ := hc)); (obtain ⟨y0, y1, y2, y3, y4, y5, y6, y7, y8, _⟩ := hcc))
      | (apply WL.gT; exact rfl; exact rfl; (focus (first | exact dec_true f0 | exact dec_true f1 | exact dec_true f2 | exact dec_true f3 | exact dec_true f4 | exact dec_true f5 | exact dec_true f6 | exact dec_false f7; done)))
      | (show WL _ _ _ _ _ _ _; first | apply WL.nil | (refine WL.au (k := ?_)))
      | (show Z _ _ _ _ _; apply Z.then_normal)
      | (show W _ _ _ _ _ _; first | apply W.seq | apply W.region | apply W.ret))
    exact Z.body1 Try.results56 rfl fun q => ⟨congrArg Value.bool (by rw [dec_false (show ¬ FewC c.t m from fun h => f7 (few_iff.1 h).2.2.2.2.2.2.2)] <;> exact dec_false f7), Ext.at (by (exact extA)) q⟩
  refine Spec.of _ Try.func56 rfl Try.ntmps56 (by kernel_rfl) rfl ?_
  repeat' (first
    | (apply WL.box; exact rfl; exact rfl; exact rfl; intro gb w' hb hge hc hx; have hcc := hc; (first | (obtain ⟨h1, h2, h3, _⟩ := hc) | (obtain ⟨h1, h2, _⟩ := hc)); (obtain ⟨y0, y1, y2, y3, y4, y5, y6, y7, y8, _⟩ := hcc))
    | (apply WL.gT; exact rfl; exact rfl; (focus (first | exact dec_true f0 | exact dec_true f1 | exact dec_true f2 | exact dec_true f3 | exact dec_true f4 | exact dec_true f5 | exact dec_true f6 | exact dec_true f7; done)))
    | (show WL _ _ _ _ _ _ _; first | apply WL.nil | (refine WL.au (k := ?_)))
    | (show Z _ _ _ _ _; apply Z.then_normal)
    | (show W _ _ _ _ _ _; first | apply W.seq | apply W.region | apply W.ret))
  exact Z.body1 Try.results56 rfl fun q => ⟨congrArg Value.bool (by rw [dec_true (show FewC c.t m from few_iff.2 ⟨f0, f1, f2, f3, f4, f5, f6, f7⟩)] <;> exact dec_true f7), Ext.at (by (exact extA)) q⟩
end Go.Proofs.Ythpnahapiodflaa
namespace Go.Proofs.Ythpnahapiodflaa
open Go Go.Lt Go.RowKit
set_option linter.unusedVariables false
set_option linter.unusedSimpArgs false
set_option maxRecDepth 20000

set_option maxHeartbeats 16000000 in
theorem circ_defined (c : Circ) (w : World) (hC : CAt w c) (hz : SzC c.t 100000) :
    Lt.Spec Try.prog 154 [c.val] w (IsFresh 1 encI 3 w c.t.own) := by
  have z1 : c.ins.2.2.length ≤ 100000 := hz.1
  have z2 : c.lat.2.2.length ≤ 100000 := hz.2.1
  have z6 : c.gates.2.2.length ≤ 100000 := hz.2.2.2.2.2
  refine Spec.of _ Try.func154 rfl Try.ntmps154 (by kernel_rfl) rfl ?_
  repeat' (first
    | (apply WL.box; exact rfl; exact rfl; exact rfl; intro gb w' hb hge hc hx; have hcc := hc; (first | (obtain ⟨h1, h2, h3, _⟩ := hc) | (obtain ⟨h1, h2, _⟩ := hc)); (have hcells := hcc; obtain ⟨y0, y1, y2, y3, y4, y5, y6, _⟩ := hcc; obtain ⟨gc, rfl⟩ : ∃ x, x = gb := ⟨_, rfl⟩; obtain ⟨wc, rfl⟩ : ∃ x, x = w' := ⟨_, rfl⟩; obtain ⟨hxc, rfl⟩ : ∃ x, x = hx := ⟨_, rfl⟩))
    | ((show WL _ _ _ (⟨_, .call ⟨.value (.func 139), _, _⟩, _, _, _, _⟩ :: _) _ _ _); apply WL.call; exact rfl; exact rfl; exact rfl; exact rfl; exact slices_CloneI _ _ c.ins.2.2 _ (hC.ins.row.ext (by (exact extA))) hC.ins.none (by omega); rintro v' w' ⟨hx, a', cap', rfl, hO⟩; (obtain ⟨hOc, rfl⟩ : ∃ x, x = hO := ⟨_, rfl⟩; obtain ⟨hxl, rfl⟩ : ∃ x, x = hx := ⟨_, rfl⟩; obtain ⟨wl, rfl⟩ : ∃ x, x = w' := ⟨_, rfl⟩; obtain ⟨al, rfl⟩ : ∃ x, x = a' := ⟨_, rfl⟩; obtain ⟨cl, rfl⟩ : ∃ x, x = cap' := ⟨_, rfl⟩))
    | (show WL _ _ _ _ _ _ _; first | apply WL.nil | (refine WL.au (k := ?_)))
    | (show Z _ _ _ _ _; apply Z.then_normal)
    | (show W _ _ _ _ _ _; first | apply W.seq | apply W.region | apply W.block))
  have Rl := hC.lat.row.ext hxc
  have Rg := hC.gates.row.ext hxc
  have hXl : Ext wc wl := (by (exact extA))
  have hS : Lt.Sep wc.heap.size wl [prow 1 encI 3 wc.heap.size al cl c.ins.2.2] := Sep.none'.newRow' hxl hOc (Nat.le_refl _)
  refine W.loopO c.lat.2.2.length (fun k a cp w' => k ≤ c.lat.2.2.length ∧ Ext wc w' ∧ Lt.Sep wc.heap.size w' [prow 1 encI 3 wc.heap.size a cp (c.ins.2.2 ++ (c.lat.2.2.take k).map (·.1))]) (fun k a cp => [(1, .pointer (some ⟨gc, 0, none⟩)), (3, .slice a (c.ins.2.2 ++ (c.lat.2.2.take k).map (·.1)).length cp), (12, rowVal c.lat), (13, .int .i64 (c.lat.2.2.length : Nat)), (14, .int .i64 k)]) al cl ⟨Nat.zero_le _, hXl, by simpa using hS⟩ (fun k a cp w' h => h.1) (by rw [List.take_zero, List.map_nil, List.append_nil]; exact ⟨rfl, rfl, rfl, rfl, rfl, trivial⟩) ?_
  clear hS
  rintro k a cp w3 ⟨hk, hX3, hS⟩
  have hR0 := hS.row (i := 0) rfl
  have hlk : (c.ins.2.2 ++ (c.lat.2.2.take k).map (·.1)).length = c.ins.2.2.length + k := by simp; omega
  by_cases hlt : k < c.lat.2.2.length
  · obtain ⟨x, hgx⟩ := getI c.lat.2.2 hlt
    have e1 := map_take_succ (·.1) hgx
    repeat' (first
      | (apply W.condKT; exact rfl; (focus (exact dec_true (by omega); done)))
      | (apply WL.alloc tOk; exact rfl; exact rfl; exact rfl; intro gb w' hb hge hx; replace hS := Sep.newCell (Sep.ext hS (by (exact extA))) hx hb hge (by (first | exact Nat.le_refl _ | exact Below.size (by (exact extA)))); (try simp only [List.set_cons_zero, List.set_cons_succ] at hS); (try have hR0 := hS.row (i := 0) rfl); (try have hR1 := hS.row (i := 1) rfl); (try have hR2 := hS.row (i := 2) rfl); (try have hR3 := hS.row (i := 3) rfl); (try have hR4 := hS.row (i := 4) rfl); (try have hC0 := hS.cell (i := 0) rfl); (try have hD0 := (cells_heap hC0).1); (try have hE0 := (cells_heap hC0).2.1); (try have hF0 := (cells_heap hC0).2.2.1); (try have hG0 := (cells_heap hC0).2.2.2.1); (try have hC1 := hS.cell (i := 1) rfl); (try have hD1 := (cells_heap hC1).1); (try have hE1 := (cells_heap hC1).2.1); (try have hF1 := (cells_heap hC1).2.2.1); (try have hG1 := (cells_heap hC1).2.2.2.1); (try have hC2 := hS.cell (i := 2) rfl); (try have hD2 := (cells_heap hC2).1); (try have hE2 := (cells_heap hC2).2.1); (try have hF2 := (cells_heap hC2).2.2.1); (try have hG2 := (cells_heap hC2).2.2.2.1); (try have hC3 := hS.cell (i := 3) rfl); (try have hD3 := (cells_heap hC3).1); (try have hE3 := (cells_heap hC3).2.1); (try have hF3 := (cells_heap hC3).2.2.1); (try have hG3 := (cells_heap hC3).2.2.2.1); (try have hC4 := hS.cell (i := 4) rfl); (try have hD4 := (cells_heap hC4).1); (try have hE4 := (cells_heap hC4).2.1); (try have hF4 := (cells_heap hC4).2.2.1); (try have hG4 := (cells_heap hC4).2.2.2.1); (try have hM0 := hS.map (i := 0) rfl); (try have hM1 := hS.map (i := 1) rfl); (try have hM2 := hS.map (i := 2) rfl); (try have hM3 := hS.map (i := 3) rfl); (try have hM4 := hS.map (i := 4) rfl))
      | (apply WL.storeB (w0 := wc) tOk; exact rfl; exact rfl; exact rfl; exact rfl; assumption; (exact extA); exact rfl; exact rfl; exact rfl; (exact extA); (first | assumption | omega | (focus (apply Nat.le_trans; rotate_left; assumption; exact Below.size (by (exact extA)); done))); intro w' hb hc hX' hU; have hcc := hc; obtain ⟨h1, h2, _⟩ := hc; replace hS := Sep.updCell (i := 0) rfl hU hb hS (by (exact extA)) (by (first | exact Nat.le_refl _ | exact Below.size (by (exact extA)))); (try simp only [List.set_cons_zero, List.set_cons_succ] at hS); (try have hR0 := hS.row (i := 0) rfl); (try have hR1 := hS.row (i := 1) rfl); (try have hR2 := hS.row (i := 2) rfl); (try have hR3 := hS.row (i := 3) rfl); (try have hR4 := hS.row (i := 4) rfl); (try have hC0 := hS.cell (i := 0) rfl); (try have hD0 := (cells_heap hC0).1); (try have hE0 := (cells_heap hC0).2.1); (try have hF0 := (cells_heap hC0).2.2.1); (try have hG0 := (cells_heap hC0).2.2.2.1); (try have hC1 := hS.cell (i := 1) rfl); (try have hD1 := (cells_heap hC1).1); (try have hE1 := (cells_heap hC1).2.1); (try have hF1 := (cells_heap hC1).2.2.1); (try have hG1 := (cells_heap hC1).2.2.2.1); (try have hC2 := hS.cell (i := 2) rfl); (try have hD2 := (cells_heap hC2).1); (try have hE2 := (cells_heap hC2).2.1); (try have hF2 := (cells_heap hC2).2.2.1); (try have hG2 := (cells_heap hC2).2.2.2.1); (try have hC3 := hS.cell (i := 3) rfl); (try have hD3 := (cells_heap hC3).1); (try have hE3 := (cells_heap hC3).2.1); (try have hF3 := (cells_heap hC3).2.2.1); (try have hG3 := (cells_heap hC3).2.2.2.1); (try have hC4 := hS.cell (i := 4) rfl); (try have hD4 := (cells_heap hC4).1); (try have hE4 := (cells_heap hC4).2.1); (try have hF4 := (cells_heap hC4).2.2.1); (try have hG4 := (cells_heap hC4).2.2.2.1); (try have hM0 := hS.map (i := 0) rfl); (try have hM1 := hS.map (i := 1) rfl); (try have hM2 := hS.map (i := 2) rfl); (try have hM3 := hS.map (i := 3) rfl); (try have hM4 := hS.map (i := 4) rfl))
      | (apply WL.lit tOk; exact rfl; exact rfl; exact rfl; exact rfl; exact rfl; exact rfl; (first | exact rfl | kernel_rfl | (simp [Instr.fill, catCells]; done)); exact rfl; intro gb w' hb hge hc hx)
      | (apply WL.append1 (z := (x.1)) tOk encI_ok; exact rfl; exact rfl; exact rfl; exact rfl; exact rfl; exact rfl; exact rfl; exact rfl; exact rfl; exact rfl; assumption; (exact extA); (first | exact rfl | (focus (simp only [List.length_set]; done)) | (focus (simp; done)) | (focus (simp [*]; done)) | omega | (focus (simp only [List.length_set]; omega))); assumption; exact rfl; exact rfl; (exact extA); (first | omega | (simp; omega) | (simp at *; omega)); intro a' cap' w' hO hX' hU hF; (first | replace hS := Sep.updRow (i := 0) rfl hU hO hF hS (by (exact extA)) (by (first | exact Nat.le_refl _ | exact Below.size (by (exact extA)))) | replace hS := Sep.updRow (i := 1) rfl hU hO hF hS (by (exact extA)) (by (first | exact Nat.le_refl _ | exact Below.size (by (exact extA)))) | replace hS := Sep.updRow (i := 2) rfl hU hO hF hS (by (exact extA)) (by (first | exact Nat.le_refl _ | exact Below.size (by (exact extA)))) | replace hS := Sep.updRow (i := 3) rfl hU hO hF hS (by (exact extA)) (by (first | exact Nat.le_refl _ | exact Below.size (by (exact extA)))) | replace hS := Sep.updRow (i := 4) rfl hU hO hF hS (by (exact extA)) (by (first | exact Nat.le_refl _ | exact Below.size (by (exact extA)))) | replace hS := Sep.updRow (i := 5) rfl hU hO hF hS (by (exact extA)) (by (first | exact Nat.le_refl _ | exact Below.size (by (exact extA))))); (try simp only [List.set_cons_zero, List.set_cons_succ] at hS); (try have hR0 := hS.row (i := 0) rfl); (try have hR1 := hS.row (i := 1) rfl); (try have hR2 := hS.row (i := 2) rfl); (try have hR3 := hS.row (i := 3) rfl); (try have hR4 := hS.row (i := 4) rfl); (try have hC0 := hS.cell (i := 0) rfl); (try have hD0 := (cells_heap hC0).1); (try have hE0 := (cells_heap hC0).2.1); (try have hF0 := (cells_heap hC0).2.2.1); (try have hG0 := (cells_heap hC0).2.2.2.1); (try have hC1 := hS.cell (i := 1) rfl); (try have hD1 := (cells_heap hC1).1); (try have hE1 := (cells_heap hC1).2.1); (try have hF1 := (cells_heap hC1).2.2.1); (try have hG1 := (cells_heap hC1).2.2.2.1); (try have hC2 := hS.cell (i := 2) rfl); (try have hD2 := (cells_heap hC2).1); (try have hE2 := (cells_heap hC2).2.1); (try have hF2 := (cells_heap hC2).2.2.1); (try have hG2 := (cells_heap hC2).2.2.2.1); (try have hC3 := hS.cell (i := 3) rfl); (try have hD3 := (cells_heap hC3).1); (try have hE3 := (cells_heap hC3).2.1); (try have hF3 := (cells_heap hC3).2.2.1); (try have hG3 := (cells_heap hC3).2.2.2.1); (try have hC4 := hS.cell (i := 4) rfl); (try have hD4 := (cells_heap hC4).1); (try have hE4 := (cells_heap hC4).2.1); (try have hF4 := (cells_heap hC4).2.2.1); (try have hG4 := (cells_heap hC4).2.2.2.1); (try have hM0 := hS.map (i := 0) rfl); (try have hM1 := hS.map (i := 1) rfl); (try have hM2 := hS.map (i := 2) rfl); (try have hM3 := hS.map (i := 3) rfl); (try have hM4 := hS.map (i := 4) rfl))
      | (show WL _ _ _ _ _ _ _; first | apply WL.nil | (refine WL.au (k := ?_)) | (apply WL.index tOk; exact rfl; exact rfl; exact rfl; exact rfl; exact rfl; exact rfl; exact rfl; exact rfl; assumption; (exact extA); exact rfl; omega; assumption; intro b off h; have hcc := h; first | (obtain ⟨h1, h2, h3, h4, h5, h6, _⟩ := h) | (obtain ⟨h1, h2, h3, _⟩ := h) | (obtain ⟨h1, h2, _⟩ := h) | (obtain ⟨h1, _⟩ := h)))
      | (show Z _ _ _ _ _; first | apply Z.then_normal | apply Z.block_normal)
      | (show W _ _ _ _ _ _; first | apply W.seq | apply W.region | apply W.block | apply W.skip))
    exact Z.againO a' cap' ⟨by omega, (by (exact extA)), by rw [e1, ← List.append_assoc]; exact hS.drop 1⟩ ⟨rfl, by rw [e1, ← List.append_assoc]; exact rfl, rfl, rfl, rfl, trivial⟩
  obtain rfl : k = c.lat.2.2.length := by omega
  rw [List.take_length] at hS hR0 hlk ⊢
  repeat' (first
    | (apply W.condKF; exact rfl; (focus (exact dec_false (by omega); done)))
    | (show WL _ _ _ _ _ _ _; first | apply WL.nil | (refine WL.au (k := ?_)))
    | (show Z _ _ _ _ _; first | apply Z.then_normal | apply Z.then_exit | apply Z.block_exit)
    | (show W _ _ _ _ _ _; first | apply W.seq | apply W.region | apply W.block | apply W.exit))
  refine W.loopO c.gates.2.2.length (fun k a cp w' => k ≤ c.gates.2.2.length ∧ Ext wc w' ∧ Lt.Sep wc.heap.size w' [prow 1 encI 3 wc.heap.size a cp (c.ins.2.2 ++ c.lat.2.2.map (·.1) ++ (c.gates.2.2.take k).map (·.1))]) (fun k a cp => [(1, .pointer (some ⟨gc, 0, none⟩)), (3, .slice a (c.ins.2.2 ++ c.lat.2.2.map (·.1) ++ (c.gates.2.2.take k).map (·.1)).length cp), (25, rowVal c.gates), (26, .int .i64 (c.gates.2.2.length : Nat)), (27, .int .i64 k)]) a cp ⟨Nat.zero_le _, hX3, by simpa using hS⟩ (fun k a cp w' h => h.1) (by rw [List.take_zero, List.map_nil, List.append_nil]; exact ⟨rfl, rfl, rfl, rfl, rfl, trivial⟩) ?_
  clear hS hX3 hR0
  rintro k a cp w3 ⟨hk, hX3, hS⟩
  have hR0 := hS.row (i := 0) rfl
  have hlk2 : (c.ins.2.2 ++ c.lat.2.2.map (·.1) ++ (c.gates.2.2.take k).map (·.1)).length = c.ins.2.2.length + c.lat.2.2.length + k := by simp; omega
  by_cases hlt : k < c.gates.2.2.length
  · obtain ⟨x, hgx⟩ := getI c.gates.2.2 hlt
    have e1 := map_take_succ (·.1) hgx
    repeat' (first
      | (apply W.condKT; exact rfl; (focus (exact dec_true (by omega); done)))
      | (apply WL.alloc tOk; exact rfl; exact rfl; exact rfl; intro gb w' hb hge hx; replace hS := Sep.newCell (Sep.ext hS (by (exact extA))) hx hb hge (by (first | exact Nat.le_refl _ | exact Below.size (by (exact extA)))); (try simp only [List.set_cons_zero, List.set_cons_succ] at hS); (try have hR0 := hS.row (i := 0) rfl); (try have hR1 := hS.row (i := 1) rfl); (try have hR2 := hS.row (i := 2) rfl); (try have hR3 := hS.row (i := 3) rfl); (try have hR4 := hS.row (i := 4) rfl); (try have hC0 := hS.cell (i := 0) rfl); (try have hD0 := (cells_heap hC0).1); (try have hE0 := (cells_heap hC0).2.1); (try have hF0 := (cells_heap hC0).2.2.1); (try have hG0 := (cells_heap hC0).2.2.2.1); (try have hC1 := hS.cell (i := 1) rfl); (try have hD1 := (cells_heap hC1).1); (try have hE1 := (cells_heap hC1).2.1); (try have hF1 := (cells_heap hC1).2.2.1); (try have hG1 := (cells_heap hC1).2.2.2.1); (try have hC2 := hS.cell (i := 2) rfl); (try have hD2 := (cells_heap hC2).1); (try have hE2 := (cells_heap hC2).2.1); (try have hF2 := (cells_heap hC2).2.2.1); (try have hG2 := (cells_heap hC2).2.2.2.1); (try have hC3 := hS.cell (i := 3) rfl); (try have hD3 := (cells_heap hC3).1); (try have hE3 := (cells_heap hC3).2.1); (try have hF3 := (cells_heap hC3).2.2.1); (try have hG3 := (cells_heap hC3).2.2.2.1); (try have hC4 := hS.cell (i := 4) rfl); (try have hD4 := (cells_heap hC4).1); (try have hE4 := (cells_heap hC4).2.1); (try have hF4 := (cells_heap hC4).2.2.1); (try have hG4 := (cells_heap hC4).2.2.2.1); (try have hM0 := hS.map (i := 0) rfl); (try have hM1 := hS.map (i := 1) rfl); (try have hM2 := hS.map (i := 2) rfl); (try have hM3 := hS.map (i := 3) rfl); (try have hM4 := hS.map (i := 4) rfl))
      | (apply WL.storeB (w0 := wc) tOk; exact rfl; exact rfl; exact rfl; exact rfl; assumption; (exact extA); exact rfl; exact rfl; exact rfl; (exact extA); (first | assumption | omega | (focus (apply Nat.le_trans; rotate_left; assumption; exact Below.size (by (exact extA)); done))); intro w' hb hc hX' hU; have hcc := hc; obtain ⟨h1, h2, _⟩ := hc; replace hS := Sep.updCell (i := 0) rfl hU hb hS (by (exact extA)) (by (first | exact Nat.le_refl _ | exact Below.size (by (exact extA)))); (try simp only [List.set_cons_zero, List.set_cons_succ] at hS); (try have hR0 := hS.row (i := 0) rfl); (try have hR1 := hS.row (i := 1) rfl); (try have hR2 := hS.row (i := 2) rfl); (try have hR3 := hS.row (i := 3) rfl); (try have hR4 := hS.row (i := 4) rfl); (try have hC0 := hS.cell (i := 0) rfl); (try have hD0 := (cells_heap hC0).1); (try have hE0 := (cells_heap hC0).2.1); (try have hF0 := (cells_heap hC0).2.2.1); (try have hG0 := (cells_heap hC0).2.2.2.1); (try have hC1 := hS.cell (i := 1) rfl); (try have hD1 := (cells_heap hC1).1); (try have hE1 := (cells_heap hC1).2.1); (try have hF1 := (cells_heap hC1).2.2.1); (try have hG1 := (cells_heap hC1).2.2.2.1); (try have hC2 := hS.cell (i := 2) rfl); (try have hD2 := (cells_heap hC2).1); (try have hE2 := (cells_heap hC2).2.1); (try have hF2 := (cells_heap hC2).2.2.1); (try have hG2 := (cells_heap hC2).2.2.2.1); (try have hC3 := hS.cell (i := 3) rfl); (try have hD3 := (cells_heap hC3).1); (try have hE3 := (cells_heap hC3).2.1); (try have hF3 := (cells_heap hC3).2.2.1); (try have hG3 := (cells_heap hC3).2.2.2.1); (try have hC4 := hS.cell (i := 4) rfl); (try have hD4 := (cells_heap hC4).1); (try have hE4 := (cells_heap hC4).2.1); (try have hF4 := (cells_heap hC4).2.2.1); (try have hG4 := (cells_heap hC4).2.2.2.1); (try have hM0 := hS.map (i := 0) rfl); (try have hM1 := hS.map (i := 1) rfl); (try have hM2 := hS.map (i := 2) rfl); (try have hM3 := hS.map (i := 3) rfl); (try have hM4 := hS.map (i := 4) rfl))
      | (apply WL.lit tOk; exact rfl; exact rfl; exact rfl; exact rfl; exact rfl; exact rfl; (first | exact rfl | kernel_rfl | (simp [Instr.fill, catCells]; done)); exact rfl; intro gb w' hb hge hc hx)
      | (apply WL.append1 (z := (x.1)) tOk encI_ok; exact rfl; exact rfl; exact rfl; exact rfl; exact rfl; exact rfl; exact rfl; exact rfl; exact rfl; exact rfl; assumption; (exact extA); (first | exact rfl | (focus (simp only [List.length_set]; done)) | (focus (simp; done)) | (focus (simp [*]; done)) | omega | (focus (simp only [List.length_set]; omega))); assumption; exact rfl; exact rfl; (exact extA); (first | omega | (simp; omega) | (simp at *; omega)); intro a' cap' w' hO hX' hU hF; (first | replace hS := Sep.updRow (i := 0) rfl hU hO hF hS (by (exact extA)) (by (first | exact Nat.le_refl _ | exact Below.size (by (exact extA)))) | replace hS := Sep.updRow (i := 1) rfl hU hO hF hS (by (exact extA)) (by (first | exact Nat.le_refl _ | exact Below.size (by (exact extA)))) | replace hS := Sep.updRow (i := 2) rfl hU hO hF hS (by (exact extA)) (by (first | exact Nat.le_refl _ | exact Below.size (by (exact extA)))) | replace hS := Sep.updRow (i := 3) rfl hU hO hF hS (by (exact extA)) (by (first | exact Nat.le_refl _ | exact Below.size (by (exact extA)))) | replace hS := Sep.updRow (i := 4) rfl hU hO hF hS (by (exact extA)) (by (first | exact Nat.le_refl _ | exact Below.size (by (exact extA)))) | replace hS := Sep.updRow (i := 5) rfl hU hO hF hS (by (exact extA)) (by (first | exact Nat.le_refl _ | exact Below.size (by (exact extA))))); (try simp only [List.set_cons_zero, List.set_cons_succ] at hS); (try have hR0 := hS.row (i := 0) rfl); (try have hR1 := hS.row (i := 1) rfl); (try have hR2 := hS.row (i := 2) rfl); (try have hR3 := hS.row (i := 3) rfl); (try have hR4 := hS.row (i := 4) rfl); (try have hC0 := hS.cell (i := 0) rfl); (try have hD0 := (cells_heap hC0).1); (try have hE0 := (cells_heap hC0).2.1); (try have hF0 := (cells_heap hC0).2.2.1); (try have hG0 := (cells_heap hC0).2.2.2.1); (try have hC1 := hS.cell (i := 1) rfl); (try have hD1 := (cells_heap hC1).1); (try have hE1 := (cells_heap hC1).2.1); (try have hF1 := (cells_heap hC1).2.2.1); (try have hG1 := (cells_heap hC1).2.2.2.1); (try have hC2 := hS.cell (i := 2) rfl); (try have hD2 := (cells_heap hC2).1); (try have hE2 := (cells_heap hC2).2.1); (try have hF2 := (cells_heap hC2).2.2.1); (try have hG2 := (cells_heap hC2).2.2.2.1); (try have hC3 := hS.cell (i := 3) rfl); (try have hD3 := (cells_heap hC3).1); (try have hE3 := (cells_heap hC3).2.1); (try have hF3 := (cells_heap hC3).2.2.1); (try have hG3 := (cells_heap hC3).2.2.2.1); (try have hC4 := hS.cell (i := 4) rfl); (try have hD4 := (cells_heap hC4).1); (try have hE4 := (cells_heap hC4).2.1); (try have hF4 := (cells_heap hC4).2.2.1); (try have hG4 := (cells_heap hC4).2.2.2.1); (try have hM0 := hS.map (i := 0) rfl); (try have hM1 := hS.map (i := 1) rfl); (try have hM2 := hS.map (i := 2) rfl); (try have hM3 := hS.map (i := 3) rfl); (try have hM4 := hS.map (i := 4) rfl))
      | (show WL _ _ _ _ _ _ _; first | apply WL.nil | (refine WL.au (k := ?_)) | (apply WL.index tOk; exact rfl; exact rfl; exact rfl; exact rfl; exact rfl; exact rfl; exact rfl; exact rfl; assumption; (exact extA); exact rfl; omega; assumption; intro b off h; have hcc := h; first | (obtain ⟨h1, h2, h3, h4, h5, h6, _⟩ := h) | (obtain ⟨h1, h2, h3, _⟩ := h) | (obtain ⟨h1, h2, _⟩ := h) | (obtain ⟨h1, _⟩ := h)))
      | (show Z _ _ _ _ _; first | apply Z.then_normal | apply Z.block_normal)
      | (show W _ _ _ _ _ _; first | apply W.seq | apply W.region | apply W.block | apply W.skip))
    exact Z.againO a' cap' ⟨by omega, (by (exact extA)), by rw [e1, ← List.append_assoc]; exact hS.drop 1⟩ ⟨rfl, by rw [e1, ← List.append_assoc]; exact rfl, rfl, rfl, rfl, trivial⟩
  obtain rfl : k = c.gates.2.2.length := by omega
  rw [List.take_length] at hR0 ⊢
  repeat' (first
    | (apply W.condKF; exact rfl; (focus (exact dec_false (by omega); done)))
    | (show WL _ _ _ _ _ _ _; first | apply WL.nil | (refine WL.au (k := ?_)))
    | (show Z _ _ _ _ _; first | apply Z.then_normal | apply Z.then_exit | apply Z.block_exit)
    | (show W _ _ _ _ _ _; first | apply W.seq | apply W.region | apply W.ret | apply W.exit))
  have hwc := Below.size hxc
  exact Z.body1 Try.results154 rfl fun m => ⟨Ext.at (by (exact extA)) m, a, cp, rfl, (hR0.base hwc).ext ((Ext.refl _).at m)⟩
end Go.Proofs.Ythpnahapiodflaa
namespace Go.Proofs.Ythpnahapiodflaa
open Go Go.Lt Go.RowKit
set_option linter.unusedVariables false
set_option linter.unusedSimpArgs false
set_option maxRecDepth 20000

theorem few_sz {c : CirT} {m : Int} (hm : m ≤ 100000) (h : FewC c m) : SzC c 100000 := by
  obtain ⟨h1, h2, h3, h4, h5, h6, _, _⟩ := few_iff.1 h
  exact ⟨by omega, by omega, by omega, by omega, by omega, by omega⟩
set_option maxHeartbeats 16000000 in
theorem law11_Small (c : Circ) (m : Int) (w : World) (hC : CAt w c) (hm : m ≤ 100000) : Pure Try.prog 27 [c.val, .int .i64 m] w (.bool (dec (FewC c.t m ∧ c.max ≤ 300 ∧ GoodC' c.t))) := by
  by_cases f0 : FewC c.t m
  rotate_left
  · refine Spec.of _ Try.func27 rfl Try.ntmps27 (by kernel_rfl) rfl ?_
    repeat' (first
      | (apply WL.box; exact rfl; exact rfl; exact rfl; intro gb w' hb hge hc hx; have hcc := hc; (first | (obtain ⟨h1, h2, h3, _⟩ := hc) | (obtain ⟨h1, h2, _⟩ := hc)); (have hcells := hcc; obtain ⟨y0, _⟩ := hcc))
      | ((show WL _ _ _ (⟨_, .call ⟨.value (.func 56), _, _⟩, _, _, _, _⟩ :: _) _ _ _); apply WL.callP; exact rfl; exact rfl; exact rfl; exact rfl; exact law11_Few c m _; intro w' hx)
      | (apply WL.gF; exact rfl; exact rfl; (focus (exact dec_false f0; done)))
      | (show WL _ _ _ _ _ _ _; first | apply WL.nil | (refine WL.au (k := ?_)) | (apply WL.guardF; exact rfl; exact rfl))
      | (show Z _ _ _ _ _; apply Z.then_normal)
      | (show W _ _ _ _ _ _; first | apply W.seq | apply W.region | apply W.ret))
    exact Z.body1 Try.results27 rfl fun q => ⟨congrArg Value.bool (by rw [dec_false (show ¬ (FewC c.t m ∧ c.max ≤ 300 ∧ GoodC' c.t) from fun h => f0 h.1)] <;> exact dec_false f0), Ext.at (by (exact extA)) q⟩
  by_cases f1 : c.max ≤ 300
  rotate_left
  · refine Spec.of _ Try.func27 rfl Try.ntmps27 (by kernel_rfl) rfl ?_
    repeat' (first
      | (apply WL.box; exact rfl; exact rfl; exact rfl; intro gb w' hb hge hc hx; have hcc := hc; (first | (obtain ⟨h1, h2, h3, _⟩ := hc) | (obtain ⟨h1, h2, _⟩ := hc)); (have hcells := hcc; obtain ⟨y0, _⟩ := hcc))
      | ((show WL _ _ _ (⟨_, .call ⟨.value (.func 56), _, _⟩, _, _, _, _⟩ :: _) _ _ _); apply WL.callP; exact rfl; exact rfl; exact rfl; exact rfl; exact law11_Few c m _; intro w' hx)
      | (apply WL.gT; exact rfl; exact rfl; (focus (first | exact dec_true f0 | exact dec_false f1; done)))
      | (apply WL.gF; exact rfl; exact rfl; (focus (first | exact dec_true f0 | exact dec_false f1; done)))
      | (show WL _ _ _ _ _ _ _; first | apply WL.nil | (refine WL.au (k := ?_)) | (apply WL.guardF; exact rfl; exact rfl))
      | (show Z _ _ _ _ _; apply Z.then_normal)
      | (show W _ _ _ _ _ _; first | apply W.seq | apply W.region | apply W.ret))
    exact Z.body1 Try.results27 rfl fun q => ⟨congrArg Value.bool (by rw [dec_false (show ¬ (FewC c.t m ∧ c.max ≤ 300 ∧ GoodC' c.t) from fun h => f1 h.2.1)] <;> exact dec_false f1), Ext.at (by (exact extA)) q⟩
  have hz := few_sz hm f0
  refine Spec.of _ Try.func27 rfl Try.ntmps27 (by kernel_rfl) rfl ?_
  repeat' (first
    | (apply WL.box; exact rfl; exact rfl; exact rfl; intro gb w' hb hge hc hx; have hcc := hc; (first | (obtain ⟨h1, h2, h3, _⟩ := hc) | (obtain ⟨h1, h2, _⟩ := hc)); (have hcells := hcc; obtain ⟨y0, _⟩ := hcc))
    | ((show WL _ _ _ (⟨_, .call ⟨.value (.func 56), _, _⟩, _, _, _, _⟩ :: _) _ _ _); apply WL.callP; exact rfl; exact rfl; exact rfl; exact rfl; exact law11_Few c m _; intro w' hx)
    | ((show WL _ _ _ (⟨_, .call ⟨.value (.func 53), _, _⟩, _, _, _, _⟩ :: _) _ _ _); apply WL.callP; exact rfl; exact rfl; exact rfl; exact rfl; exact ref11_Check c _ (hC.ext (by (exact extA))) hz; intro w' hx)
    | (apply WL.gT; exact rfl; exact rfl; (focus (first | exact dec_true f0 | exact dec_true f1; done)))
    | (show WL _ _ _ _ _ _ _; first | apply WL.nil | (refine WL.au (k := ?_)))
    | (show Z _ _ _ _ _; apply Z.then_normal)
    | (show W _ _ _ _ _ _; first | apply W.seq | apply W.region | apply W.ret))
  by_cases f2 : chkC c.t = 0
  · exact Z.body1 Try.results27 rfl fun q => ⟨congrArg Value.bool (by rw [dec_true (show FewC c.t m ∧ c.max ≤ 300 ∧ GoodC' c.t from ⟨f0, f1, chkC_good.1 f2⟩)] <;> exact dec_true f2), Ext.at (by (exact extA)) q⟩
  · exact Z.body1 Try.results27 rfl fun q => ⟨congrArg Value.bool (by rw [dec_false (show ¬ (FewC c.t m ∧ c.max ≤ 300 ∧ GoodC' c.t) from fun h => f2 (chkC_good.2 h.2.2))] <;> exact dec_false f2), Ext.at (by (exact extA)) q⟩
end Go.Proofs.Ythpnahapiodflaa
namespace Go.Lt
open Go.RowKit
set_option linter.unusedVariables false
set_option linter.unusedSimpArgs false

/-- What is known of an operation's value; which block is its own. -/
inductive Pr where
  | any : Pr
  | is : Value → Pr
  | ex (F : Value → World → Prop) (b : Value → Option Nat) (keep : ∀ x w w', F x w → Ext w w' → F x w') (lt : ∀ x w k, F x w → b x = some k → k < w.heap.size) : Pr
def Pr.holds : Pr → Value → World → Prop
  | .any, _, _ => True
  | .is v, x, _ => x = v
  | .ex F _ _ _, x, w => F x w
def Pr.bl : Pr → Value → Option Nat
  | .ex _ b _ _, x => b x
  | _, _ => none
theorem Pr.keeps : ∀ {p : Pr} {x : Value} {w w' : World}, p.holds x w → Ext w w' → p.holds x w'
  | .any, _, _, _, _, _ => trivial
  | .is _, _, _, _, h, _ => h
  | .ex _ _ k _, _, _, _, h, hx => k _ _ _ h hx
theorem Pr.lts : ∀ {p : Pr} {x : Value} {w : World} {k : Nat}, p.holds x w → p.bl x = some k → k < w.heap.size
  | .any, _, _, _, _, hb => by cases hb
  | .is _, _, _, _, _, hb => by cases hb
  | .ex _ _ _ l, _, _, _, h, hb => l _ _ _ h hb
def prAt : List Pr → Nat → Pr
  | [], _ => .any
  | p :: _, 0 => p
  | _ :: r, i + 1 => prAt r i

section
variable {P : Program} {N : Nat} {prs : List Pr} {pre : List Oper}

/-- Slots become known, one by one. -/
def need (prs : List Pr) (pre : List Oper) (w : World) (K : Env → List (Option Nat) → Prop) : List Nat → Env → List (Option Nat) → Prop
  | [], E, bs => K E bs
  | j :: r, E, bs =>
    match dstAt pre j with
    | none => need prs pre w K r E bs
    | some d =>
      match prAt prs j with
      | .any => need prs pre w K r E bs
      | .is v => need prs pre w K r ((d, v) :: E) bs
      | .ex F b _ _ => ∀ x, F x w → need prs pre w K r ((d, x) :: E) (b x :: bs)

def valO (pre : List Oper) (a : Act) (j : Nat) : Value :=
  match dstAt pre j with
  | some d => a.tmps.getD d undef
  | none => undef
def bsOf (prs : List Pr) (pre : List Oper) (a : Act) : List Nat → List (Option Nat) → List (Option Nat)
  | [], bs => bs
  | j :: r, bs =>
    match dstAt pre j with
    | none => bsOf prs pre a r bs
    | some d =>
      match prAt prs j with
      | .ex _ b _ _ => bsOf prs pre a r (b (valO pre a j) :: bs)
      | _ => bsOf prs pre a r bs

theorem Fit.cons {e : Env} {a : Act} (h : Fit N e a) {d : Nat} {v : Value} (hd : a.tmps[d]? = some v) : Fit N ((d, v) :: e) a := by
  refine ⟨h.size, h.defers, fun t u hu => ?_⟩
  rw [get_cons] at hu
  by_cases hdt : d = t
  · subst hdt; rw [if_pos rfl] at hu; cases hu; exact hd
  · rw [if_neg hdt] at hu; exact h.slots _ _ hu
theorem get_appE (e1 e2 : Env) (t : Nat) : get (e1 ++ e2) t = (get e1 t).or (get e2 t) := by
  induction e1 with
  | nil => simp [get]
  | cons p r ih =>
    obtain ⟨k, v⟩ := p
    rw [List.cons_append, get_cons, get_cons]
    by_cases hk : k = t
    · rw [if_pos hk, if_pos hk]; rfl
    · rw [if_neg hk, if_neg hk, ih]
/-- All slots of a frame. -/
def slotsE (a : Act) : Nat → Env
  | 0 => []
  | n + 1 => (n, a.tmps.getD n undef) :: slotsE a n
theorem slotsE_get {a : Act} : ∀ {n t : Nat}, t < n → get (slotsE a n) t = some (a.tmps.getD t undef)
  | n + 1, t, h => by
    rw [slotsE, get_cons]
    by_cases hk : n = t
    · subst hk; rw [if_pos rfl]
    · rw [if_neg hk]; exact slotsE_get (by omega)
theorem slotsE_lt {a : Act} : ∀ {n t : Nat} {v : Value}, get (slotsE a n) t = some v → t < n
  | 0, t, v, h => by cases h
  | n + 1, t, v, h => by
    rw [slotsE, get_cons] at h
    by_cases hk : n = t
    · omega
    · rw [if_neg hk] at h; have := slotsE_lt h; omega
theorem getD_some {a : Act} {t : Nat} (h : t < a.tmps.size) : a.tmps[t]? = some (a.tmps.getD t undef) := by
  simp [Array.getD_eq_getD_getElem?, h]
theorem Fit.all {e : Env} {a : Act} (h : Fit N e a) : Fit N (e ++ slotsE a N) a := by
  refine ⟨h.size, h.defers, fun t u hu => ?_⟩
  rw [get_appE] at hu
  cases hg : get e t with
  | some x => rw [hg] at hu; simp at hu; subst hu; exact h.slots _ _ hg
  | none =>
    rw [hg] at hu
    simp at hu
    have hlt := slotsE_lt hu
    rw [slotsE_get hlt] at hu
    cases hu
    exact getD_some (by rw [h.size]; exact hlt)

theorem need_out {w : World} {K : Env → List (Option Nat) → Prop} {a : Act} (hN : ∀ j d, dstAt pre j = some d → d < N) : ∀ (ds : List Nat) (E : Env) (bs : List (Option Nat)), need prs pre w K ds E bs → Fit N E a → (∀ j ∈ ds, (prAt prs j).holds (valO pre a j) w) →
    ∃ E', K E' (bsOf prs pre a ds bs) ∧ Fit N E' a ∧ ∀ t, get E t ≠ none → get E' t ≠ none
  | [], E, bs, h, hf, _ => ⟨E, h, hf, fun t ht => ht⟩
  | j :: r, E, bs, h, hf, hh => by
    have hr : ∀ k ∈ r, (prAt prs k).holds (valO pre a k) w := fun k hk => hh k (by simp [hk])
    unfold need at h
    unfold bsOf
    cases hd : dstAt pre j with
    | none => rw [hd] at h; exact need_out hN r E bs h hf hr
    | some d =>
      rw [hd] at h
      have hv : valO pre a j = a.tmps.getD d undef := by unfold valO; rw [hd]
      have hs : a.tmps[d]? = some (a.tmps.getD d undef) := getD_some (by rw [hf.size]; exact hN j d hd)
      have hj := hh j (by simp)
      cases hp : prAt prs j with
      | any => rw [hp] at h; exact need_out hN r E bs h hf hr
      | is v =>
        rw [hp] at h hj
        have hj' : valO pre a j = v := hj
        have hf' : Fit N ((d, v) :: E) a := hf.cons (by rw [hs, ← hv, hj'])
        obtain ⟨E', k1, k2, k3⟩ := need_out hN r _ bs h hf' hr
        refine ⟨E', k1, k2, fun t ht => k3 t ?_⟩
        rw [get_cons]; split
        · simp
        · exact ht
      | ex F b kp lt =>
        rw [hp] at h hj
        have hf' : Fit N ((d, valO pre a j) :: E) a := hf.cons (by rw [hs, ← hv])
        obtain ⟨E', k1, k2, k3⟩ := need_out hN r _ _ (h _ hj) hf' hr
        refine ⟨E', k1, k2, fun t ht => k3 t ?_⟩
        rw [get_cons]; split
        · simp
        · exact ht

abbrev Apart (bs : List (Option Nat)) : Prop := bs.Pairwise fun x y => x = none ∨ x ≠ y
theorem bsOf_apart {a : Act} : ∀ (ds : List Nat) (bs : List (Option Nat)), ds.Nodup → Apart bs → (∀ i ∈ ds, ∀ b ∈ bs, (prAt prs i).bl (valO pre a i) = none ∨ (prAt prs i).bl (valO pre a i) ≠ b) →
    (∀ i ∈ ds, ∀ j ∈ ds, i ≠ j → (prAt prs i).bl (valO pre a i) = none ∨ (prAt prs i).bl (valO pre a i) ≠ (prAt prs j).bl (valO pre a j)) → Apart (bsOf prs pre a ds bs)
  | [], bs, _, h, _, _ => h
  | j :: r, bs, hn, h, h1, h2 => by
    have hn' := List.nodup_cons.1 hn
    have e1 : ∀ i ∈ r, ∀ b ∈ bs, (prAt prs i).bl (valO pre a i) = none ∨ (prAt prs i).bl (valO pre a i) ≠ b := fun i hi => h1 i (by simp [hi])
    have e2 : ∀ i ∈ r, ∀ k ∈ r, i ≠ k → (prAt prs i).bl (valO pre a i) = none ∨ (prAt prs i).bl (valO pre a i) ≠ (prAt prs k).bl (valO pre a k) := fun i hi k hk => h2 i (by simp [hi]) k (by simp [hk])
    unfold bsOf
    cases hd : dstAt pre j with
    | none => exact bsOf_apart r bs hn'.2 h e1 e2
    | some d =>
      cases hp : prAt prs j with
      | any => exact bsOf_apart r bs hn'.2 h e1 e2
      | is v => exact bsOf_apart r bs hn'.2 h e1 e2
      | ex F b kp lt =>
        have hb : (prAt prs j).bl (valO pre a j) = b (valO pre a j) := by rw [hp]; rfl
        refine bsOf_apart r _ hn'.2 (List.pairwise_cons.2 ⟨fun y hy => ?_, h⟩) (fun i hi y hy => ?_) e2
        · rw [← hb]; exact h1 j (by simp) y hy
        · rcases List.mem_cons.1 hy with rfl | hy
          · rw [← hb]; exact h2 i (by simp [hi]) j (by simp) (fun he => hn'.1 (he ▸ hi))
          · exact e1 i hi y hy

def postI (N d : Nat) (p : Pr) (w : World) (E : Env) : Exit → Act → World → Prop := onlyN fun a w' => ∃ v, Fit N ((d, v) :: E) a ∧ Ext w w' ∧ p.holds v w' ∧ ∀ k, p.bl v = some k → w.heap.size ≤ k
structure NO (P : Program) (N : Nat) (pre : List Oper) (prs : List Pr) (o : Oper) (d : Nat) (p : Pr) (w : World) (ds : List Nat) (E : Env) : Prop where
  go : ∀ bs, need prs pre w (fun E' _ => WL P N pre.toArray [o] E' w (postI N d p w E')) ds E bs
def depsOf (o : Oper) : List Nat := o.after.toList.filterMap fun e => if Region.binds .any e then some e.on else none
structure OBL (P : Program) (N : Nat) (pre : List Oper) (prs : List Pr) (e : Env) (w : World) (i : Nat) (l : List Oper) : Prop where
  go : ∀ (k : Nat) (o : Oper), l[k]? = some o → ∃ d, o.dst = some d ∧ d < N ∧ ∀ w', Ext w w' → ∀ rest, NO P N pre prs o d (prAt prs (i + k)) w' (depsOf o) (e ++ rest)
theorem OBL.nil {e : Env} {w : World} {i : Nat} : OBL P N pre prs e w i [] := ⟨fun k o h => by simp at h⟩
theorem OBL.cons {e : Env} {w : World} {i d : Nat} {o : Oper} {r : List Oper} {p : Pr} {ds : List Nat} (hd : o.dst = some d) (hN : Nat.blt d N = true) (hp : prAt prs i = p) (hds : depsOf o = ds)
    (h : ∀ w', Ext w w' → ∀ rest, NO P N pre prs o d p w' ds (e ++ rest)) (k : OBL P N pre prs e w (i + 1) r) : OBL P N pre prs e w i (o :: r) := by
  refine ⟨fun j o' hj => ?_⟩
  cases j with
  | zero => simp at hj; subst hj; exact ⟨d, hd, by simpa [Nat.blt_eq] using hN, by rw [Nat.add_zero, hp, hds]; exact h⟩
  | succ j =>
    have := k.go j o' (by simpa using hj)
    rwa [show i + 1 + j = i + (j + 1) by omega] at this
theorem NO.nil {o : Oper} {d : Nat} {p : Pr} {w : World} {E : Env} (h : WL P N pre.toArray [o] E w (postI N d p w E)) : NO P N pre prs o d p w [] E := ⟨fun _ => h⟩
theorem NO.any {o : Oper} {d j : Nat} {p : Pr} {w : World} {E : Env} {r : List Nat} (hp : prAt prs j = .any) (h : NO P N pre prs o d p w r E) : NO P N pre prs o d p w (j :: r) E := ⟨fun bs => by
  unfold need
  cases dstAt pre j with
  | none => exact h.go bs
  | some d => dsimp only; rw [hp]; exact h.go bs⟩
theorem NO.is {o : Oper} {d dj j : Nat} {p : Pr} {w : World} {E : Env} {v : Value} {r : List Nat} (hd : dstAt pre j = some dj) (hp : prAt prs j = .is v) (h : NO P N pre prs o d p w r ((dj, v) :: E)) : NO P N pre prs o d p w (j :: r) E := ⟨fun bs => by
  unfold need
  rw [hd]; dsimp only; rw [hp]; exact h.go bs⟩
theorem NO.ex {o : Oper} {d dj j : Nat} {p : Pr} {w : World} {E : Env} {F : Value → World → Prop} {b : Value → Option Nat} {kp : ∀ x w w', F x w → Ext w w' → F x w'} {lt : ∀ x w k, F x w → b x = some k → k < w.heap.size} {r : List Nat} (hd : dstAt pre j = some dj) (hp : prAt prs j = .ex F b kp lt)
    (h : ∀ x, F x w → NO P N pre prs o d p w r ((dj, x) :: E)) : NO P N pre prs o d p w (j :: r) E := ⟨fun bs => by
  unfold need
  rw [hd]; dsimp only; rw [hp]; exact fun x hx => (h x hx).go _⟩

def dstsB (e : Env) : List Oper → Bool
  | [] => true
  | o :: r => (match o.dst with
    | some d => (match get e d with | some _ => false | none => true) && r.all (fun q => match q.dst with | some d' => !Nat.beq d d' | none => true)
    | none => false) && dstsB e r
theorem dstsB_spec {e : Env} : ∀ {l : List Oper}, dstsB e l = true → (∀ j d, dstAt l j = some d → get e d = none) ∧ ∀ i j d d', dstAt l i = some d → dstAt l j = some d' → i ≠ j → d ≠ d'
  | [], _ => ⟨fun j d h => (by cases h), fun i j d d' h => (by cases h)⟩
  | o :: r, h => by
    simp only [dstsB, Bool.and_eq_true] at h
    obtain ⟨h1, h2⟩ := h
    obtain ⟨k1, k2⟩ := dstsB_spec h2
    cases hd : o.dst with
    | none => rw [hd] at h1; cases h1
    | some d0 =>
      rw [hd] at h1
      simp only [Bool.and_eq_true] at h1
      have hno : get e d0 = none := by
        cases hg : get e d0 with
        | none => rfl
        | some x => rw [hg] at h1; exact absurd h1.1 (by simp)
      have hall : ∀ j d, dstAt r j = some d → d0 ≠ d := by
        intro j d hj
        rw [← dstAt_eq] at hj
        cases ho : r.toArray[j]? with
        | none => rw [ho] at hj; cases hj
        | some q =>
          rw [ho] at hj
          simp only [Option.bind_some] at hj
          have hq : q ∈ r := by have : r[j]? = some q := by simpa using ho
                                exact List.mem_of_getElem? this
          have := List.all_eq_true.1 h1.2 q hq
          rw [hj] at this
          intro he
          subst he
          simp at this
      refine ⟨fun j d hj => ?_, fun i j d d' hi hj hne => ?_⟩
      · cases j with
        | zero => simp only [dstAt, hd] at hj; cases hj; exact hno
        | succ j => exact k1 j d hj
      · cases i with
        | zero =>
          simp only [dstAt, hd] at hi; cases hi
          cases j with
          | zero => exact absurd rfl hne
          | succ j => exact hall j d' hj
        | succ i =>
          cases j with
          | zero => simp only [dstAt, hd] at hj; cases hj; exact fun he => hall i d hi he.symm
          | succ j => exact k2 i j d d' hi hj (by omega)

structure InvI (N : Nat) (prs : List Pr) (pre : List Oper) (e : Env) (w0 : World) (L : Array Bool) (a : Act) (w : World) : Prop where
  ext : Ext w0 w
  fit : Fit N e a
  holds : ∀ i, i < pre.length → L.getD i false = true → (prAt prs i).holds (valO pre a i) w
  apart : ∀ i j, i < pre.length → j < pre.length → L.getD i false = true → L.getD j false = true → i ≠ j → (prAt prs i).bl (valO pre a i) = none ∨ (prAt prs i).bl (valO pre a i) ≠ (prAt prs j).bl (valO pre a j)

theorem dstAt_of {l : List Oper} {i d : Nat} {o : Oper} (h : l[i]? = some o) (hd : o.dst = some d) : dstAt l i = some d := by
  rw [← dstAt_eq, show l.toArray[i]? = some o by simpa using h]; exact hd

theorem wpAny_inv {e : Env} {w0 : World} {Q' : Exit → Act → World → Prop} (hO : OBL P N pre prs e w0 0 pre) (hlow : lowB pre.toArray pre.length = true) (hd : dstsB e pre = true)
    (hK : ∀ L a w, InvI N prs pre e w0 L a w → (∀ i, i < pre.length → L.getD i false = true) → Q' .normal a w) : ∀ (f : Nat) (L : Array Bool) (a : Act) (w : World), L.size = pre.length → todo L pre.length = f → InvI N prs pre e w0 L a w → wpAny P .any pre.toArray Q' f L a w := by
  obtain ⟨hd1, hd2⟩ := dstsB_spec hd
  have hN : ∀ j d, dstAt pre j = some d → d < N := fun j d hj => by
    rw [← dstAt_eq] at hj
    cases ho : pre.toArray[j]? with
    | none => rw [ho] at hj; cases hj
    | some q =>
      rw [ho] at hj
      simp only [Option.bind_some] at hj
      obtain ⟨d', h1, h2, _⟩ := hO.go j q (by simpa using ho)
      rw [h1] at hj; cases hj; exact h2
  intro f
  induction f with
  | zero =>
    intro L a w hsz ht hI
    refine ⟨?_, hK L a w hI fun i hi => todo_zero ht hi⟩
    rw [List.eq_nil_iff_forall_not_mem]
    intro i hi
    have h1 := (mem_ready.1 hi).1
    by_cases hin : i < pre.length
    · have := todo_zero ht hin
      simp [Array.getD_eq_getD_getElem?, show i < L.size by omega] at h1 this
      rw [this] at h1; cases h1
    · simp [Array.getD_eq_getD_getElem?, Array.getElem?_eq_none (show L.size ≤ i by omega)] at h1
  | succ f ih =>
    intro L a w hsz ht hI
    have hun : ∃ i, i < pre.length ∧ L.getD i false = false ∧ ∀ j, j < i → L.getD j false = true := by
      by_cases hall : ∀ i, i < pre.length → L.getD i false = true
      · exfalso
        have : todo L pre.length = 0 := List.countP_eq_zero.2 (fun i hi => by simp [hall i (List.mem_range.1 hi)])
        omega
      · simp only [Classical.not_forall] at hall
        have hex : ∃ i, i < pre.length ∧ L.getD i false = false := by
          obtain ⟨i, hi, hf⟩ := hall
          exact ⟨i, hi, by simpa using hf⟩
        obtain ⟨i, ⟨hi, hf⟩, hmin⟩ := exists_least (p := fun i => i < pre.length ∧ L.getD i false = false) hex
        refine ⟨i, hi, hf, fun j hj => ?_⟩
        cases hb : L.getD j false with
        | true => rfl
        | false => have := hmin j ⟨by omega, hb⟩; omega
    obtain ⟨i0, hi0, hf0, hmin0⟩ := hun
    have hi0r : i0 ∈ Region.ready .any pre.toArray L := by
      obtain ⟨o, ho, hedge, _⟩ := lowB_spec hlow hi0
      exact mem_ready.2 ⟨getD_in (by omega) hf0, o, ho, fun e he hb => hmin0 _ (hedge e he hb)⟩
    refine ⟨fun h0 => (by rw [h0] at hi0r; cases hi0r), fun i hir => ?_⟩
    obtain ⟨h1, o, ho, hdeps⟩ := mem_ready.1 hir
    have hin : i < pre.length := by have := (Array.getElem?_eq_some_iff.1 ho).1; simpa using this
    have hfi : L.getD i false = false := getD_both h1
    have ho' : pre[i]? = some o := by simpa using ho
    obtain ⟨d, hod, hdN, hno⟩ := hO.go i o ho'
    rw [Nat.zero_add] at hno
    have hdi : dstAt pre i = some d := dstAt_of ho' hod
    obtain ⟨E', k1, k2, k3⟩ := need_out (K := fun E' _ => WL P N pre.toArray [o] E' w (postI N d (prAt prs i) w E')) hN (depsOf o) _ [] ((hno w hI.ext (slotsE a N)).go []) hI.fit.all (fun j hj => by
      obtain ⟨ed, hed, hj'⟩ := List.mem_filterMap.1 hj
      split at hj'
      · rename_i hb
        cases hj'
        have hl := hdeps ed (by simpa using hed) hb
        refine hI.holds _ ?_ hl
        refine Classical.byContradiction fun hge => ?_
        simp [Array.getD_eq_getD_getElem?, Array.getElem?_eq_none (show L.size ≤ ed.on by omega)] at hl
      · cases hj')
    have hfull : ∀ t, t < N → ∃ u, get E' t = some u := fun t ht => by
      have := k3 t (by rw [get_appE, slotsE_get ht]; cases get e t <;> simp)
      cases hg : get E' t with
      | none => exact absurd hg this
      | some u => exact ⟨u, rfl⟩
    refine wpOp_of_list ho (k1.go a w.drawn k2) _ fun a' w' h' => ?_
    have h'' : ∃ v, Fit N ((d, v) :: E') a' ∧ Ext w w' ∧ (prAt prs i).holds v w' ∧ ∀ k, (prAt prs i).bl v = some k → w.heap.size ≤ k := h'
    obtain ⟨v, g1, g2, g3, g4⟩ := h''
    have same : ∀ t, t ≠ d → t < N → a'.tmps[t]? = a.tmps[t]? := fun t htd ht => by
      obtain ⟨u, hu⟩ := hfull t ht
      rw [k2.slots t u hu]
      exact g1.slots t u (by rw [get_cons, if_neg (fun h => htd h.symm)]; exact hu)
    have hvi : valO pre a' i = v := by
      unfold valO
      rw [hdi]
      have := g1.slots d v (by rw [get_cons, if_pos rfl])
      simp [Array.getD_eq_getD_getElem?, this]
    have hvj : ∀ j, j ≠ i → valO pre a' j = valO pre a j := fun j hj => by
      unfold valO
      cases hdj : dstAt pre j with
      | none => rfl
      | some d' =>
        have := same d' (hd2 j i d' d hdj hdi hj) (hN j d' hdj)
        simp [Array.getD_eq_getD_getElem?, this]
    have hLi : ∀ j, j ≠ i → (L.setIfInBounds i true).getD j false = L.getD j false := fun j hj => getD_set_ne false (Ne.symm hj)
    refine ih _ a' w' (by simp [hsz]) (by have := todo_set (listed := L) (by omega) hfi pre.length hin; omega) ⟨hI.ext.trans g2, ⟨g1.size, g1.defers, fun t u hu => ?_⟩, fun j hj hl => ?_, fun j k hj hk hlj hlk hjk => ?_⟩
    · have htd : t ≠ d := fun h => by rw [h, hd1 i d hdi] at hu; cases hu
      have hat := hI.fit.slots t u hu
      have htN : t < N := by have := (Array.getElem?_eq_some_iff.1 hat).1; rw [hI.fit.size] at this; exact this
      rw [same t htd htN, hat]
    · by_cases hji : j = i
      · subst hji; rw [hvi]; exact g3
      · rw [hLi j hji] at hl; rw [hvj j hji]; exact Pr.keeps (hI.holds j hj hl) g2
    · by_cases hji : j = i
      · have hki : k ≠ i := fun h => hjk (by rw [hji, h])
        rw [hLi k hki] at hlk
        rw [hji, hvi, hvj k hki]
        cases hb : (prAt prs i).bl v with
        | none => exact .inl rfl
        | some q =>
          refine .inr fun he => ?_
          have h5 := g4 q hb
          have h6 := Pr.lts (hI.holds k hk hlk) he.symm
          omega
      · rw [hLi j hji] at hlj
        rw [hvj j hji]
        by_cases hki : k = i
        · rw [hki, hvi]
          cases hb : (prAt prs j).bl (valO pre a j) with
          | none => exact .inl rfl
          | some q =>
            refine .inr fun he => ?_
            have h5 := g4 q he.symm
            have h6 := Pr.lts (hI.holds j hj hlj) hb
            omega
        · rw [hLi k hki] at hlk
          rw [hvj k hki]
          exact hI.apart j k hj hk hlj hlk hjk

structure NF (P : Program) (N : Nat) (pre : List Oper) (prs : List Pr) (w : World) (K : Env → Prop) (ds : List Nat) (E : Env) (bs : List (Option Nat)) : Prop where
  go : need prs pre w (fun E' bs' => Apart bs' → K E') ds E bs
theorem NF.any {w : World} {K : Env → Prop} {E : Env} {bs : List (Option Nat)} {j : Nat} {r : List Nat} (hp : prAt prs j = .any) (h : NF P N pre prs w K r E bs) : NF P N pre prs w K (j :: r) E bs := ⟨by
  unfold need
  cases dstAt pre j with
  | none => exact h.go
  | some d => dsimp only; rw [hp]; exact h.go⟩
theorem NF.is {w : World} {K : Env → Prop} {E : Env} {bs : List (Option Nat)} {j dj : Nat} {v : Value} {r : List Nat} (hd : dstAt pre j = some dj) (hp : prAt prs j = .is v) (h : NF P N pre prs w K r ((dj, v) :: E) bs) : NF P N pre prs w K (j :: r) E bs := ⟨by
  unfold need
  rw [hd]; dsimp only; rw [hp]; exact h.go⟩
theorem NF.ex {w : World} {K : Env → Prop} {E : Env} {bs : List (Option Nat)} {j dj : Nat} {F : Value → World → Prop} {b : Value → Option Nat} {kp : ∀ x w w', F x w → Ext w w' → F x w'} {lt : ∀ x w k, F x w → b x = some k → k < w.heap.size} {r : List Nat} (hd : dstAt pre j = some dj) (hp : prAt prs j = .ex F b kp lt)
    (h : ∀ x, F x w → NF P N pre prs w K r ((dj, x) :: E) (b x :: bs)) : NF P N pre prs w K (j :: r) E bs := ⟨by
  unfold need
  rw [hd]; dsimp only; rw [hp]; exact fun x hx => (h x hx).go⟩
theorem NF.nilT {l tail : List Oper} {w : World} {Q : Exit → Act → World → Prop} {E : Env} {bs : List (Option Nat)} (h : Apart bs → WL P N l.toArray tail E w Q) : NF P N pre prs w (fun E' => WL P N l.toArray tail E' w Q) [] E bs := ⟨h⟩
def uptoL : Nat → List Nat
  | 0 => []
  | n + 1 => uptoL n ++ [n]
theorem mem_uptoL : ∀ {n i : Nat}, i ∈ uptoL n ↔ i < n
  | 0, i => by simp [uptoL]
  | n + 1, i => by simp only [uptoL, List.mem_append, mem_uptoL, List.mem_singleton]; omega
theorem uptoL_nodup : ∀ n : Nat, (uptoL n).Nodup
  | 0 => by simp [uptoL]
  | n + 1 => by
    simp only [uptoL]
    rw [List.nodup_append]
    exact ⟨uptoL_nodup n, by simp, fun x hx y hy => by have := mem_uptoL.1 hx; simp at hy; omega⟩

theorem inv_done {e : Env} {w0 w : World} {L : Array Bool} {a : Act} {K : Env → Prop} (hN : ∀ j d, dstAt pre j = some d → d < N) (hI : InvI N prs pre e w0 L a w) (hall : ∀ i, i < pre.length → L.getD i false = true) (h : NF P N pre prs w K (uptoL pre.length) e []) : ∃ E', K E' ∧ Fit N E' a := by
  obtain ⟨E', k1, k2, _⟩ := need_out hN _ _ _ h.go hI.fit (fun j hj => hI.holds j (mem_uptoL.1 hj) (hall j (mem_uptoL.1 hj)))
  exact ⟨E', k1 (bsOf_apart _ _ (uptoL_nodup _) List.Pairwise.nil (fun i _ b hb => by cases hb) fun i hi j hj hne => hI.apart i j (mem_uptoL.1 hi) (mem_uptoL.1 hj) (hall i (mem_uptoL.1 hi)) (hall j (mem_uptoL.1 hj)) hne), k2⟩
theorem InvI.start {e : Env} {w0 : World} {a : Act} {m n : Nat} (hf : Fit N e a) : InvI N prs pre e w0 (Array.replicate n false) a (at' w0 m) :=
  ⟨(Ext.refl _).at m, hf, fun i _ h => (by rw [getD_replicate_false] at h; cases h), fun i j _ _ h => (by rw [getD_replicate_false] at h; cases h)⟩
theorem OBL.lt {e : Env} {w0 : World} (hO : OBL P N pre prs e w0 0 pre) : ∀ j d, dstAt pre j = some d → d < N := fun j d hj => by
  rw [← dstAt_eq] at hj
  cases ho : pre.toArray[j]? with
  | none => rw [ho] at hj; cases hj
  | some q =>
    rw [ho] at hj
    simp only [Option.bind_some] at hj
    obtain ⟨d', h1, h2, _⟩ := hO.go j q (by simpa using ho)
    rw [h1] at hj; cases hj; exact h2

theorem todo_start (n m : Nat) : todo (Array.replicate m false) n = n := by
  unfold todo
  rw [List.countP_eq_length.2 (fun i _ => by rw [getD_replicate_false]; rfl)]
  simp

/-- The first n operations so; the others in their order. -/
theorem W.regionI {id : Nat} {l tail : List Oper} {e : Env} {w : World} {Q : Exit → Act → World → Prop} {ds : List Nat} (n : Nat) (prs : List Pr) (hm : P.follows .mixedOrders = true) (hB : Region.lexTailB .any l.toArray n = true) (hc : cutAt n l = some (pre, tail))
    (hlow : lowB l.toArray n = true) (hl : lowB pre.toArray n = true) (hd : dstsB e pre = true) (hds : uptoL n = ds)
    (hO : OBL P N pre prs e w 0 pre) (k : ∀ w', Ext w w' → NF P N pre prs w' (fun E' => WL P N l.toArray tail E' w' Q) ds e []) : W P N (.region id l.toArray true) e w Q := by
  refine ⟨fun a m hf => ?_⟩
  subst hds
  obtain ⟨h1, h2⟩ := cutAt_eq hc
  simp only [Region.lexTailB, Bool.and_eq_true, decide_eq_true_eq] at hB
  obtain ⟨⟨⟨⟨hsel, hn⟩, hs⟩, hcb⟩, hlex⟩ := hB
  have hn' : n < l.length := by simpa using hn
  have hpl : pre.length = n := by rw [← h1]; simp; omega
  have htl : tail.length = l.length - n := by rw [← h2]; simp
  have hH : ∀ j, j < n → pre.toArray[j]? = l.toArray[j]? := fun j hj => by rw [← h1]; simp [hj]
  refine wp_region_any hm ?_
  have hany : wpAny P .any pre.toArray (fun x a' w' => match x with | .normal => wpList P l.toArray Q tail a' w' | _ => False) n (Array.replicate n false) a (at' w (m + 1)) := by
    have := wpAny_inv (P := P) (Q' := fun x a' w' => match x with | .normal => wpList P l.toArray Q tail a' w' | _ => False) hO (by rw [hpl]; exact hl) hd (fun L a w' hI hall => by
      obtain ⟨E', h1, h2⟩ := inv_done hO.lt hI hall (by rw [hpl]; exact k w' hI.ext)
      exact h1.go a w'.drawn h2) n (Array.replicate n false) a (at' w (m + 1)) (by simp [hpl]) (by rw [hpl]; exact todo_start _ _) (InvI.start hf)
    exact this
  have inv0 : HeadInv .any l.toArray n (Array.replicate l.toArray.size false) :=
    ⟨by simp, fun j oj _ hl => (by rw [getD_replicate_false] at hl; cases hl), fun t _ ht => getD_in (by simpa using ht) (getD_replicate_false _ _)⟩
  have key := sim (P := P) (g := l.length - n) (Q := Q) hH (by simpa using hpl) hn hs hcb hlow (fun listed a' w' hsz hfull hrest hk => ?_) (fun x a' w' hx hk => ?_) n (Array.replicate n false) (Array.replicate l.toArray.size false) a (at' w (m + 1)) (by simp) (by simp)
    (fun j hj => by rw [getD_replicate_false, getD_replicate_false]) inv0 (todo_start _ _) hany
  · rw [show n + (l.length - n) = l.toArray.size by simp; omega] at key
    exact key
  · have hseq : Region.seqB .any l.toArray (l.length - n) n listed = true := by
      have : ∀ (f k : Nat) (L : Array Bool), L.size = l.toArray.size → k + f = n → (∀ j, j < k → L.getD j false = true) → (∀ j, k ≤ j → L.getD j false = false) → Region.lexHead .any l.toArray (l.length - n) f k L = true → ∃ L', L'.size = l.toArray.size ∧ (∀ j, j < n → L'.getD j false = true) ∧ (∀ j, n ≤ j → L'.getD j false = false) ∧ Region.seqB .any l.toArray (l.length - n) n L' = true := by
        intro f
        induction f with
        | zero =>
          intro k L h1 h2 h3 h4 h5
          have hkn : k = n := by omega
          rw [hkn] at h3 h4 h5
          exact ⟨L, h1, h3, h4, h5⟩
        | succ f ih =>
          intro k L h1 h2 h3 h4 h5
          simp only [Region.lexHead, Bool.and_eq_true] at h5
          refine ih (k + 1) _ (by simpa using h1) (by omega) (fun j hj => ?_) (fun j hj => ?_) h5.2
          · by_cases hjk : k = j
            · subst hjk
              simp [Array.getD_eq_getD_getElem?, Array.getElem?_setIfInBounds, show k < L.size by rw [h1]; simp; omega]
            · have := h3 j (by omega)
              simpa [Array.getD_eq_getD_getElem?, Array.getElem?_setIfInBounds, hjk] using this
          · have := h4 j (by omega)
            simpa [Array.getD_eq_getD_getElem?, Array.getElem?_setIfInBounds, show k ≠ j by omega] using this
      obtain ⟨L', g1, g2, g3, g4⟩ := this n 0 (Array.replicate l.toArray.size false) (by simp) (by omega) (fun j hj => by omega) (fun j _ => getD_replicate_false _ _) (by simpa using hlex)
      have : listed = L' := by
        apply Array.ext
        · rw [hsz, g1]
        · intro i hi1 hi2
          rcases Nat.lt_or_ge i n with hlt | hge
          · have e1 := hfull i hlt
            have e2 := g2 i hlt
            simp [Array.getD_eq_getD_getElem?, hi1] at e1
            simp [Array.getD_eq_getD_getElem?, hi2] at e2
            rw [e1, e2]
          · have e1 := hrest i hge
            have e2 := g3 i hge
            simp [Array.getD_eq_getD_getElem?, hi1] at e1
            simp [Array.getD_eq_getD_getElem?, hi2] at e2
            rw [e1, e2]
      rw [this]; exact g4
    have := wpAny_of_seq (P := P) (md := .any) (Q' := Q) tail n listed a' w' (fun j => by rw [← h2]; simp [List.getElem?_drop]) (by rw [htl]; exact hseq) hk
    rwa [htl] at this
  · cases x with
    | normal => exact absurd rfl hx
    | _ => exact hk.elim

theorem Z.invIs {d : Nat} {v : Value} {w w' : World} {E : Env} (hx : Ext w w') : Z N (postI N d (.is v) w E) .normal ((d, v) :: E) w' :=
  ⟨fun a m hf => ⟨v, hf, hx.at m, rfl, fun k hk => by cases hk⟩⟩
theorem Z.invEx {d : Nat} {v : Value} {w w' : World} {E : Env} {F : Value → World → Prop} {b : Value → Option Nat} {kp : ∀ x w w', F x w → Ext w w' → F x w'} {lt : ∀ x w k, F x w → b x = some k → k < w.heap.size}
    (hx : Ext w w') (hF : F v w') (hb : ∀ k, b v = some k → w.heap.size ≤ k) : Z N (postI N d (.ex F b kp lt) w E) .normal ((d, v) :: E) w' :=
  ⟨fun a m hf => ⟨v, hf, hx.at m, kp _ _ _ hF ((Ext.refl w').at m), hb⟩⟩
end

/-- An empty slice that is written out. -/
def isLit (el B : Nat) (x : Value) (w : World) : Prop := ∃ gb, x = .slice (some ⟨gb, 0, none⟩) 0 0 ∧ w.heap[gb]? = some (.cells #[] el (0, 0)) ∧ B ≤ gb
def prLit (el B : Nat) : Pr := .ex (isLit el B) (fun _ => none) (fun x w w' ⟨gb, h1, h2, h3⟩ hx => ⟨gb, h1, by rw [hx.block gb (heap_lt h2)]; exact h2, h3⟩) (fun x w k _ h => by cases h)
def sliceBlk : Value → Option Nat
  | .slice a _ _ => blk a
  | _ => none
/-- A row of one's own. -/
def isRow {α : Type} (s : Nat) (enc : α → List Value) (el B : Nat) (l : List α) (x : Value) (w : World) : Prop := ∃ a cap, x = .slice a l.length cap ∧ Own s enc el B w a cap l
open Classical in
noncomputable def prRow {α : Type} (s : Nat) (enc : α → List Value) (el B : Nat) (l : List α) : Pr := .ex (isRow s enc el B l) (fun x => if l = [] then none else sliceBlk x)
  (fun x w w' ⟨a, cap, h1, h2⟩ hx => ⟨a, cap, h1, h2.ext hx⟩) (fun x w k ⟨a, cap, h1, h2⟩ h => by
    subst h1
    by_cases hl : l = []
    · rw [if_pos hl] at h; cases h
    · rw [if_neg hl] at h; exact (h2.blk_lt k h).2)
section
variable {N : Nat}
theorem Z.invLit {d el B gb : Nat} {w w' : World} {E : Env} (hx : Ext w w') (hb : w'.heap[gb]? = some (.cells #[] el (0, 0))) (hge : B ≤ gb) : Z N (postI N d (prLit el B) w E) .normal ((d, .slice (some ⟨gb, 0, none⟩) 0 0) :: E) w' :=
  Z.invEx hx ⟨gb, rfl, hb, hge⟩ (fun k h => by cases h)
theorem Z.invRow {α : Type} {s : Nat} {enc : α → List Value} {d el B cap : Nat} {l : List α} {a : Option Addr} {w w' : World} {E : Env} (hx : Ext w w') (hO : Own s enc el B w' a cap l) (hf : l = [] ∨ ∀ k, blk a = some k → w.heap.size ≤ k) :
    Z N (postI N d (prRow s enc el B l) w E) .normal ((d, .slice a l.length cap) :: E) w' :=
  Z.invEx hx ⟨a, cap, rfl, hO⟩ (fun k h => by
    by_cases hl : l = []
    · rw [if_pos hl] at h; cases h
    · rw [if_neg hl] at h; exact (hf.resolve_left hl) k h)
end

theorem row_cells {α : Type} {s : Nat} {enc : α → List Value} {w : World} {ad : Addr} {ys : List α} (hE : Enc s enc) (hr : Row s enc w (some ad) ys) : ∀ i u, (ys.flatMap enc)[i]? = some u → w.cell? (ad.add i) = some u := by
  intro i u hu
  have hpos := hE.pos
  have hlt : i < ys.length * s := by have := (List.getElem?_eq_some_iff.1 hu).1; rwa [length_flatMap' hE.len] at this
  have hdiv : i / s < ys.length := by rw [Nat.div_lt_iff_lt_mul hpos]; exact hlt
  have hyy : ys[i / s]? = some ys[i / s] := by simp [hdiv]
  obtain ⟨bb, off, hbb, hc⟩ := hr.elem _ _ hyy
  simp only [Option.some.injEq] at hbb
  subst hbb
  have hmod : i % s < s := Nat.mod_lt _ hpos
  have h1 := getElem?_flatMap' hE.len ys (i / s) (i % s) _ hyy hmod
  have h2 : i / s * s + i % s = i := by rw [Nat.mul_comm]; exact Nat.div_add_mod i s
  rw [h2, hu] at h1
  have key : ∀ (L : List Value) (o jj : Nat) (u : Value), Cells w bb o L → L[jj]? = some u → w.cell? ⟨bb, o + jj, none⟩ = some u := by
    intro L
    induction L with
    | nil => intro o jj u _ h; simp at h
    | cons v r ih =>
      intro o jj u hcc h
      cases jj with
      | zero => simp only [List.getElem?_cons_zero, Option.some.injEq] at h; subst h; exact hcc.1
      | succ jj => have := ih (o + 1) jj u hcc.2 (by simpa using h); rwa [show o + 1 + jj = o + (jj + 1) by omega] at this
  have := key _ _ _ u hc h1.symm
  rw [Addr_add_none]
  rw [show off + i / s * s + i % s = off + i by omega] at this
  exact this

section rules
variable {P : Program} {N : Nat} {e : Env} {w : World} {Q : Exit → Act → World → Prop} {ops : List Oper} {l : List Oper} {T : Tab}
  {d : Nat} {tt : TypeId} {ps : String} {af : Array Edge} {g : Option (Nat × Bool)} {t : TypeId} {α : Type} {s : Nat} {enc : α → List Value} {B : Nat} {ti ei : TI} {el : TypeId}
/-- 'append([]T{}, ys...)'. -/
theorem WL.append0 {x y : Operand} {b : Option Addr} {gb m c : Nat} {ys : List α} {wo w1 : World} (hT : OkTab P T) (hE : Enc s enc) (hg : gate ops e g = some true) (hd : Nat.blt d N = true)
    (hx : ev e x = some (.slice (some ⟨gb, 0, none⟩) 0 0)) (hy : ev e y = some (.slice b m c)) (ht : tget T t = some ti) (htd : ti.desc = .slice el) (he : tget T el = some ei) (hs : ei.size = s) (hz : ei.zero.cells.size = s) (hby : Nat.ble ei.bytes 1024 = true)
    (ho : wo.heap[gb]? = some (.cells #[] el (0, 0))) (hB : B ≤ gb) (hwo : Ext wo w) (hr : Row s enc w1 b ys) (hw1 : Ext w1 w) (hm : ys.length = m) (hmc : b = none → c = 0) (hbd : ys.length ≤ 137438953472)
    (k : ∀ a' cap' w', Own s enc el B w' a' cap' ys → Ext w w' → (ys = [] ∨ ∀ k, blk a' = some k → w.heap.size ≤ k) → WL P N ops.toArray l ((d, .slice a' ys.length cap') :: e) w' Q) :
    WL P N ops.toArray (⟨some d, .call ⟨.builtin .append, ⟨[x, y]⟩, ⟨[t, t]⟩⟩, tt, ps, af, g⟩ :: l) e w Q := by
  have hb' := Nat.le_of_ble_eq_true hby
  have hgw : w.heap[gb]? = some (.cells #[] el (0, 0)) := by rw [hwo.block gb (heap_lt ho)]; exact ho
  have hgl := heap_lt hgw
  have hO0 : Own s enc el B w (some ⟨gb, 0, none⟩) 0 ([] : List α) := Own.of_block0 hgw hB
  obtain ⟨j, hj1, hj2, hj3, hj4⟩ := (hT.at he).info
  have hti := (hT.at ht).1
  rw [htd] at hti
  subst hm
  by_cases hy0 : ys = []
  · subst hy0
    refine WL.eff (v := .slice (some ⟨gb, 0, none⟩) 0 0) (w' := fun m => at' w m) hg hd ?_ (fun m => ?_)
    · intro ρ hρ m
      simp only [execOp, resolve, invoke, builtin, Sem.run_bind, Sem.run_pure, Result.andThen_ok, List.map_toArray, List.map_cons, List.map_nil, hρ _ _ hx, hρ _ _ hy]
      by_cases hb : b = none
      · subst hb
        obtain rfl := hmc rfl
        have := run_append_nothing (P := P) (tt := tt) (n := 0) hT ht htd he (w' := at' w m) (xs := ([] : List α)) hO0 hs
        simp only [List.length_nil] at this ⊢
        rw [this]; rfl
      · obtain ⟨ad, rfl⟩ := Option.ne_none_iff_exists'.1 hb
        have := run_append_room (P := P) (at' w m) t tt el j hti hj1 gb 0 0 #[] hgw ad 0 c [] (by simp) (fun q u hq => by simp at hq) (fun u hu => by cases hu) (by omega) (by simp)
        simp only [List.length_nil] at this ⊢
        rw [this]
        have hset : (at' w m).setRow gb #[] = at' w m := by
          have key : ∀ (u : World) (h : Array Obj), h = u.heap → { u with heap := h } = u := fun u h e => by subst e; rfl
          unfold World.setRow
          refine key (at' w m) _ ?_
          apply Array.ext
          · simp
          · intro i h1 h2
            rw [Array.getElem_modify]
            split
            · rename_i hi
              subst hi
              have : (at' w m).heap[gb]? = some (.cells #[] el (0, 0)) := hgw
              rw [Array.getElem?_eq_getElem h2] at this
              simp only [Option.some.injEq] at this
              rw [this]
            · rfl
        simp [hset]
    · have hX : Ext w (at' w m) := (Ext.refl w).at m
      exact k (some ⟨gb, 0, none⟩) 0 (at' w m) (hO0.ext hX) hX (.inl rfl)
  · have hb : b ≠ none := by
      intro h
      subst h
      cases ys with
      | nil => exact hy0 rfl
      | cons z r => obtain ⟨b', off, h1, _⟩ := hr.elem 0 z rfl; cases h1
    have hpos : 0 < ys.length := by cases ys with | nil => exact absurd rfl hy0 | cons z r => simp
    have hbytes : (0 + ys.length) * ei.bytes ≤ 140737488355328 := by
      rw [Nat.zero_add]
      calc ys.length * ei.bytes ≤ 137438953472 * 1024 := Nat.mul_le_mul hbd hb'
        _ ≤ _ := by decide
    obtain ⟨ad, rfl⟩ := Option.ne_none_iff_exists'.1 hb
    have hnews : ∀ (q : Nat) i u, (ys.flatMap enc)[i]? = some u → (at' w q).cell? (ad.add i) = some u := fun q i u hu => row_cells hE (hr.ext hw1) i u hu
    have hone : ∀ u ∈ ys.flatMap enc, u.oneCell' = true := fun u hu => by
      obtain ⟨z, _, hz'⟩ := List.mem_flatMap.1 hu
      exact hE.one z u hz'
    have hlY : (ys.flatMap enc).length = ys.length * j.size := by rw [length_flatMap' hE.len, hj2.trans hs]
    have hfit := growslice_fits (need := 0 + ys.length) (old := 0) (bytes := j.bytes) (by omega) (by rw [hj3]; exact hbytes)
    have hgr : ∀ q, (Builtin.append_ #[t, t] tt #[.slice (some ⟨gb, 0, none⟩) 0 0, .slice (some ad) ys.length c]).run P (at' w q) = .ok (.slice (some ⟨w.heap.size, 0, none⟩) (0 + ys.length) (grownCap (at' w q) (0 + ys.length) 0 el)) ((at' w q).drew.alloc (.cells (([] : List Value).toArray ++ (ys.flatMap enc).toArray ++ Builtin.zeroCells ei.zero.cells (grownCap (at' w q) (0 + ys.length) 0 el - (0 + ys.length))) el)) := fun q =>
      run_append_grow (P := P) (at' w q) t tt el j ei.zero hti hj1 hj4 ⟨gb, 0, none⟩ 0 0 [] (by simp) (fun i u h => by simp at h) ad ys.length c (ys.flatMap enc) hlY (hnews q) (by omega) (by simp only [Nat.zero_add]; omega) hfit
    refine ⟨fun ac q hf => ?_⟩
    unfold wpList
    rw [if_pos (by rw [gate_wanted hf (o := ⟨some d, .call ⟨.builtin .append, ⟨[x, y]⟩, ⟨[t, t]⟩⟩, tt, ps, af, g⟩) hg])]
    refine .inl ?_
    obtain ⟨v', w', hrun, h2, _, _⟩ := run_append_own (P := P) (at' w q) B t tt el j ei.zero s ei.bytes hti hj1 hj4 (hj2.trans hs) hj3 hz hE.pos (.slice (some ⟨gb, 0, none⟩) 0 0) 0 [] hO0 ad ys.length c (ys.flatMap enc)
      (by rw [length_flatMap' hE.len]) (hnews q) hone (by simp only [maxLen]; omega) hbytes (by show B ≤ w.heap.size; omega)
    have hg' := hgr q
    rw [hg'] at hrun
    simp only [Result.ok.injEq] at hrun
    obtain ⟨hv, hw⟩ := hrun
    have hexec : (execOp ac.eval ⟨some d, .call ⟨.builtin .append, ⟨[x, y]⟩, ⟨[t, t]⟩⟩, tt, ps, af, g⟩).run P (at' w q) = .ok (.value v') w' := by
      simp only [execOp, resolve, invoke, builtin, Sem.run_bind, Sem.run_pure, Result.andThen_ok, List.map_toArray, List.map_cons, List.map_nil, hf.eval hx, hf.eval hy, hg', hv, hw]
    unfold Oper.wp
    rw [hexec]
    have hX : Ext w w' := by rw [← hw]; exact ⟨rfl, rfl, rfl, by simp, fun k hk => heap_alloc_old (at' w q).drew _ hk⟩
    have hO : Own s enc el B w' (some ⟨w.heap.size, 0, none⟩) (grownCap (at' w q) (0 + ys.length) 0 el) ys := by
      rw [← hv] at h2
      simp only [List.nil_append, Nat.zero_add] at h2 ⊢
      exact h2
    subst hv
    have := (k _ _ w' hO hX (.inr fun k hk => by simp only [blk, Option.map_some, Option.some.injEq] at hk; omega)).go _ w'.drawn (hf.put (by simpa [Nat.blt_eq] using hd) _)
    simp only [Nat.zero_add] at this ⊢
    exact this
end rules

open Classical in
/-- A row of one's own; if it is empty, nothing is said of it. -/
noncomputable def prowZ {α : Type} (s : Nat) (enc : α → List Value) (el B : Nat) (a : Option Addr) (cap : Nat) (l : List α) : Piece :=
  ⟨if l = [] then none else blk a, fun w => l ≠ [] → Own s enc el B w a cap l, fun {w w'} h hb hl => (h hl).keep fun k hk => hb k (by rw [if_neg hl]; exact hk)⟩
theorem prowZ_b {α : Type} {s : Nat} {enc : α → List Value} {el B cap : Nat} {a : Option Addr} {l : List α} (hl : l ≠ []) : (prowZ s enc el B a cap l).b = blk a := if_neg hl
theorem Sep.rowZ {α : Type} {s : Nat} {enc : α → List Value} {el B cap i : Nat} {a : Option Addr} {l : List α} {w : World} {ps : List Piece} (hS : Sep B w ps) (h : ps[i]? = some (prowZ s enc el B a cap l)) (hl : l ≠ []) : Own s enc el B w a cap l := (hS.holds i _ h).1 hl
theorem Sep.news {B : Nat} {w w' : World} {ps : List Piece} (qs : List Piece) (hS : Sep B w ps) (hx : Ext w w') (hp : ∀ q ∈ qs, q.P w' ∧ ∀ k, q.b = some k → w.heap.size ≤ k ∧ k < w'.heap.size) (ha : Apart (qs.map (·.b))) (hB : B ≤ w.heap.size) : Sep B w' (qs ++ ps) := by
  induction qs with
  | nil => exact hS.ext hx
  | cons q r ih =>
    have ha' := List.pairwise_cons.1 (show List.Pairwise _ (q.b :: r.map (·.b)) from ha)
    have ih' := ih (fun p h => hp p (by simp [h])) ha'.2
    obtain ⟨hq1, hq2⟩ := hp q (by simp)
    have key : ∀ (j : Nat) (p : Piece), (r ++ ps)[j]? = some p → (q.b = none ∨ q.b ≠ p.b) ∧ (p.b = none ∨ p.b ≠ q.b) := by
      intro j p hj
      have base : q.b = none ∨ q.b ≠ p.b := by
        by_cases hlt : j < r.length
        · rw [List.getElem?_append_left hlt] at hj
          exact ha'.1 p.b (List.mem_map.2 ⟨p, List.mem_of_getElem? hj, rfl⟩)
        · rw [List.getElem?_append_right (by omega)] at hj
          cases hb : q.b with
          | none => exact .inl rfl
          | some k =>
            refine .inr fun he => ?_
            have h1 := (hq2 k hb).1
            have h2 := ((hS.holds _ p hj).2 k he.symm).2
            omega
      refine ⟨base, ?_⟩
      rcases base with h | h
      · cases hb : p.b with
        | none => exact .inl rfl
        | some k => exact .inr (by rw [h]; simp)
      · exact .inr (Ne.symm h)
    refine ⟨fun i p h => ?_, fun i j p p' h1 h2 hne => ?_⟩
    · cases i with
      | zero => simp at h; subst h; exact ⟨hq1, fun k hk => ⟨Nat.le_trans hB (hq2 k hk).1, (hq2 k hk).2⟩⟩
      | succ i => exact ih'.holds i p (by simpa using h)
    · cases i with
      | zero =>
        simp at h1; subst h1
        cases j with
        | zero => exact absurd rfl hne
        | succ j => exact (key j p' (by simpa using h2)).1
      | succ i =>
        cases j with
        | zero => simp at h2; subst h2; exact (key i p (by simpa using h1)).2
        | succ j => exact ih'.apart i j p p' (by simpa using h1) (by simpa using h2) (by omega)
theorem prowZ_new {α : Type} {s : Nat} {enc : α → List Value} {el B C cap : Nat} {a : Option Addr} {l : List α} {w : World} (h : Own s enc el B w a cap l) (hB : C ≤ B) : (prowZ s enc el C a cap l).P w ∧ ∀ k, (prowZ s enc el C a cap l).b = some k → B ≤ k ∧ k < w.heap.size := by
  refine ⟨fun _ => h.base hB, fun k hk => ?_⟩
  by_cases hl : l = []
  · have : (prowZ s enc el C a cap l).b = none := if_pos hl
    rw [this] at hk; cases hk
  · rw [prowZ_b hl] at hk; exact h.blk_lt k hk
/-- What is apart stays so where some are left out. -/
theorem apartS {bs cs : List (Option Nat)} (h : Apart bs) (hs : List.Sublist cs bs := by repeat' (first | exact List.Sublist.slnil | apply List.Sublist.cons_cons | apply List.Sublist.cons)) : Apart cs := List.Pairwise.sublist hs h
theorem Sep.takeN {B : Nat} {w : World} {ps : List Piece} (hS : Sep B w ps) (n : Nat) : Sep B w (ps.take n) := by
  have key : ∀ (i : Nat) (p : Piece), (ps.take n)[i]? = some p → ps[i]? = some p := fun i p h => by
    rw [List.getElem?_take] at h; split at h
    · exact h
    · cases h
  exact ⟨fun i p h => hS.holds i p (key i p h), fun i j p q h1 h2 hne => hS.apart i j p q (key i p h1) (key j q h2) hne⟩
end Go.Lt
