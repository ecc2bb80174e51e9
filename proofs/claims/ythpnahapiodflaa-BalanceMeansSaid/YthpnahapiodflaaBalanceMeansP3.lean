/- Part 3 of what the claim BalanceMeans needs: lemmas and contracts, printed from longer texts. No conditions. -/
import Derived.Test.YthpnahapiodflaaRows
import Derived.Lib.SmallJoins
import Derived.KernelRfl
import Derived.WalkKit
import Derived.ProofKit
import Derived.Deep.Quiet
import Derived.Deep.LoopGhost
import Derived.StillTail
import Derived.Test.YthpnahapiodflaaProg
import Derived.OpenShut
import Derived.ShutString
import Derived.ChangeOld
import Derived.Deep.Slices
import Derived.SizedLaws
import Derived.Laws.StructEq
import Derived.Laws.Externs
import Derived.MapKept
import Derived.Test.YthpnahapiodflaaBalanceMeansP2
namespace Go.Proofs.Ythpnahapiodflaa
open Go Go.Lt Go.RowKit
set_option linter.unusedVariables false
set_option linter.unusedSimpArgs false
set_option maxRecDepth 20000

/-- Nodes, and where variables are. -/
abbrev NA := List (Int × Int) × List Int
noncomputable def cput (s : NA) (l : Int) (x : Int × Int) : NA := (s.1 ++ [x], s.2.set (l / 2).toNat (2 * ((s.1.length : Int) + 1)))
abbrev gAt (gs : List G3) (i : Nat) : G3 := gs.getD i (0, 0, 0)
def cAt0 (m : Int) : List Int := 0 :: List.replicate m.toNat (-1)
structure PutOk (s : NA) (q : List Int) (m : Nat) : Prop where
  len1 : s.1.length = q.length
  len2 : s.2.length = m + 1
  zero : s.2[0]? = some 0
  has : ∀ (i : Nat) (l : Int), q[i]? = some l → s.2[(l / 2).toNat]? = some (2 * ((i : Int) + 1))
  not : ∀ v : Nat, 1 ≤ v → v ≤ m → (∀ l ∈ q, (l / 2).toNat ≠ v) → s.2[v]? = some (-1)
theorem PutOk.start (m : Nat) : PutOk ([], cAt0 (m : Int)) [] m := by
  refine ⟨rfl, by simp [cAt0], rfl, fun i l h => by simp at h, fun v h1 h2 _ => ?_⟩
  show (0 :: List.replicate (m : Int).toNat (-1 : Int))[v]? = _
  obtain ⟨u, rfl⟩ : ∃ u, v = u + 1 := ⟨v - 1, by omega⟩
  rw [List.getElem?_cons_succ, List.getElem?_replicate, if_pos (by omega)]
theorem PutOk.push {s : NA} {q : List Int} {m : Nat} (h : PutOk s q m) {l : Int} (hl : 2 ≤ l ∧ l % 2 = 0 ∧ l ≤ 2 * (m : Int)) (hq : ∀ y ∈ q, 2 ≤ y ∧ y % 2 = 0) (hn : l ∉ q) (x : Int × Int) : PutOk (cput s l x) (q ++ [l]) m := by
  have hlen := h.len2
  have hs : ∀ y ∈ q, (l / 2).toNat ≠ (y / 2).toNat := fun y hy he => hn (by have := hq y hy; rw [show l = y by omega]; exact hy)
  refine ⟨by simp [cput, h.len1], by simp [cput, h.len2], ?_, fun i y hy => ?_, fun v h1 h2 h3 => ?_⟩
  · show (s.2.set _ _)[0]? = _
    rw [List.getElem?_set_ne (by omega)]; exact h.zero
  · show (s.2.set _ _)[(y / 2).toNat]? = _
    by_cases hi : i < q.length
    · rw [List.getElem?_append_left hi] at hy
      rw [List.getElem?_set_ne (hs y (List.mem_of_getElem? hy))]
      exact h.has i y hy
    · rw [List.getElem?_append_right (by omega)] at hy
      have h0 : i - q.length = 0 := by have := lt_of_get hy; simpa using this
      obtain rfl : i = q.length := by omega
      simp at hy; subst hy
      rw [List.getElem?_set_self (by omega), h.len1]
  · show (s.2.set _ _)[v]? = _
    rw [List.getElem?_set_ne (h3 l (by simp))]
    exact h.not v h1 h2 fun y hy => h3 y (by simp [hy])
/-- The literals in the order in which they are put. -/
noncomputable abbrev CirT.seq (c : CirT) : List Int := c.ins ++ c.lat.map (·.1) ++ (ordL c.gates).map (fun i => (gAt c.gates i).1)
abbrev CirT.inl (c : CirT) : List Int := c.ins ++ c.lat.map (·.1)
theorem GoodC'.gate {c : CirT} (h : GoodC' c) {i : Nat} {g : G3} (hg : c.gates[i]? = some g) : (2 ≤ g.1 ∧ g.1 % 2 = 0 ∧ g.1 ≤ 2 * c.max) ∧ (0 ≤ g.2.1 ∧ g.2.1 ≤ 2 * c.max + 1) ∧ (0 ≤ g.2.2 ∧ g.2.2 ≤ 2 * c.max + 1) := by
  have hm := List.mem_of_getElem? hg
  refine ⟨h.own _ (List.mem_append_right _ (List.mem_map.2 ⟨g, hm, rfl⟩)), h.used _ (List.mem_append_right _ (List.mem_flatMap.2 ⟨g, hm, by simp⟩)), h.used _ (List.mem_append_right _ (List.mem_flatMap.2 ⟨g, hm, by simp⟩))⟩
end Go.Proofs.Ythpnahapiodflaa
namespace Go.Proofs.Ythpnahapiodflaa
open Go Go.Lt Go.RowKit
set_option linter.unusedVariables false
set_option linter.unusedSimpArgs false
set_option maxRecDepth 20000

/-- The first m nodes are inputs, and no others are. -/
structure OnlyG (m : Nat) (N : List (Int × Int)) : Prop where
  le : m ≤ N.length
  inp : ∀ i x, N[i]? = some x → i < m → x = (-1, 0)
  gate : ∀ i x, N[i]? = some x → m ≤ i → 0 ≤ x.1
theorem OnlyG.start (m : Nat) : OnlyG m (List.replicate m (-1, 0)) := by
  refine ⟨by simp, fun i x h hm => ?_, fun i x h hm => ?_⟩
  · rw [List.getElem?_replicate, if_pos hm] at h
    exact (Option.some.inj h).symm
  · have := lt_of_get h; simp at this; omega
/-- What else there is beside latches and gates. -/
structure Rest where
  outs : List Int
  bads : List Int
  cons : List Int
  syms : List Sy
  com : ByteArray
section
variable {nin : Nat} {next reset : List Int} {bad : Rest} {N : List (Int × Int)}
end
end Go.Proofs.Ythpnahapiodflaa
namespace Go.Lt
open Go.RowKit
set_option linter.unusedVariables false
set_option linter.unusedSimpArgs false

section arr
variable {P : Program} {T : Tab} {e : Env} {dd : Option Tmp} {t tt ty : TypeId} {x y : Operand} {ps : String} {af : Array Edge} {g : Option (Nat × Bool)}
end arr
section rules
variable {P : Program} {N : Nat} {e : Env} {w : World} {Q : Exit → Act → World → Prop} {C : World → Prop} {ops : List Oper} {l : List Oper} {T : Tab}
  {d : Nat} {tt t ty : TypeId} {ps : String} {af : Array Edge} {g : Option (Nat × Bool)} {x y : Operand}
end rules

section lift
variable {H : Type} {enc : TypeId × Value → H} {P : Program} {w : World} {base : Nat} {spare : Nat → Bool} {held : Bool}
end lift
end Go.Lt
namespace Go.Lt
open Go.ChangeShapes Go.WideShapes Go.ChangeAt Go.RowKit Go.Deep
end Go.Lt
namespace Go.Lt
open Go.RowKit
set_option linter.unusedVariables false
set_option linter.unusedSimpArgs false

/-- The block g holds these cells. -/
abbrev CellC (g : Nat) (cs : Array Value) (t : Nat) (w : World) : Prop := w.heap[g]? = some (.cells cs t (0, 0))
section
variable {P : Program} {T : Tab} {N d : Nat} {e : Env} {w : World} {ops l : List Oper} {Kf : Act → Prop} {tt t ty ct : TypeId} {ps : String} {af : Array Edge} {g : Option (Nat × Bool)} {x y : Operand}
theorem FL.loadC {gb off : Nat} {cs : Array Value} {v : Value} {i : TI} (hT : OkTab P T) (hg : gate ops e g = some true) (hd : Nat.blt d N = true) (hx : ev e x = some (.pointer (some ⟨gb, off, none⟩))) (ht : tget T t = some i) (ha : isAggD i.desc = false) (hv : cs[off]? = some v)
    (k : FL P N ops.toArray (CellC gb cs ct) l ((d, v) :: e) w Kf) : FL P N ops.toArray (CellC gb cs ct) (⟨some d, .load t x, tt, ps, af, g⟩ :: l) e w Kf := by
  refine FL.step hg hd ?_ k
  intro ρ hρ w' hw'
  have h1 := run_isAgg' (hT.at ht); rw [ha] at h1
  have h2 : w'.cell? ⟨gb, off, none⟩ = some v := by
    have hc := cells_heap hw'
    have key : ∀ (l : List Value) (o q : Nat) (u : Value), Cells w' gb o l → l[q]? = some u → w'.cell? ⟨gb, o + q, none⟩ = some u := by
      intro l
      induction l with
      | nil => intro o q u _ h; simp at h
      | cons a r ih =>
        intro o q u hl h
        obtain ⟨h3, h4⟩ := hl
        cases q with
        | zero => simp at h; subst h; exact h3
        | succ q =>
          have := ih (o + 1) q u h4 (by simpa using h)
          rw [show o + (q + 1) = o + 1 + q by omega]; exact this
    have := key _ 0 off v hc (by simpa using hv)
    simpa using this
  simp [execOp, hρ _ _ hx, Instr.loadAt, Instr.sureAddr, loadVar, h1, h2]
end
end Go.Lt
namespace Go.Lt
open Go.RowKit
set_option linter.unusedVariables false
set_option linter.unusedSimpArgs false

section
variable {P : Program} {T : Tab} {N : Nat} {e : Env} {w : World} {Q : Exit → Act → World → Prop} {ops : List Oper} {l : List Oper}
  {d : Nat} {tt t ty kt et : TypeId} {ps : String} {af : Array Edge} {g : Option (Nat × Bool)} {x y : Operand} {i : TI} {dd : Option Tmp}
end
end Go.Lt
namespace Go.Proofs.Ythpnahapiodflaa
open Go Go.Lt Go.RowKit
set_option linter.unusedVariables false
set_option linter.unusedSimpArgs false
set_option maxRecDepth 20000

theorem aig_NetV (gs r cap : Nat) (a : Option Addr) (N : List (Int × Int)) (rest : List Piece) (w w0 : World) (hS : Sep w0.heap.size w (stN w0.heap.size gs a cap r N ++ rest)) (hN : N.length ≤ 1048576) :
    Lt.Spec Try.prog 103 [.pointer (some ⟨gs, 0, none⟩)] w (IsFresh 2 encN 104 w N) := by
  have hC0 := hS.cell (i := 0) rfl
  have hR1 := hS.row (i := 1) rfl
  obtain ⟨hD0, _⟩ := cells_heap hC0
  refine Spec.of _ Try.func103 rfl Try.ntmps103 (by kernel_rfl) rfl ?_
  repeat' (first
    | (apply WL.nilc; exact rfl; exact rfl; exact rfl)
    | (apply WL.eqNilS tOk; exact rfl; exact rfl; exact rfl; exact rfl; exact rfl; exact rfl)
    | ((show WL _ _ _ (⟨_, .call ⟨.value (.func 147), _, _⟩, _, _, _, _⟩ :: _) _ _ _); apply WL.call; exact rfl; exact rfl; exact rfl; exact rfl; exact slices_CloneN _ _ N _ (Own.row encN_ok hR1) (Own.noneCap hR1) hN; rintro v' w' ⟨hx, a', cap', rfl, hO⟩)
    | (show WL _ _ _ _ _ _ _; first | apply WL.nil | (refine WL.au (k := ?_)))
    | (show Z _ _ _ _ _; apply Z.then_normal)
    | (show W _ _ _ _ _ _; first | apply W.seq | apply W.region | apply W.skip | apply W.ret | (apply W.condF; exact rfl)))
  exact Z.body1 Try.results103 rfl fun m => ⟨Ext.at (by (exact extA)) m, a', cap', rfl, hO⟩
end Go.Proofs.Ythpnahapiodflaa
namespace Go.Proofs.Ythpnahapiodflaa
open Go Go.Lt Go.RowKit
set_option linter.unusedVariables false
set_option linter.unusedSimpArgs false
set_option maxRecDepth 20000

theorem OnlyG.and {m : Nat} {N : List (Int × Int)} (h : OnlyG m N) (x y : Int) : OnlyG m (andV N x y).2 := by
  obtain ⟨a, b, _, _, hw⟩ := andV_ways N x y
  rcases hw with ⟨_, hw⟩ | ⟨_, _, hw⟩ | ⟨_, _, _, hw⟩ | ⟨_, _, _, _, _, _, hw⟩ | ⟨h0, h1, h2, hw⟩ <;> rw [hw]
  · exact h
  · exact h
  · exact h
  · exact h
  · refine ⟨by have := h.le; simp; omega, fun i z hz hi => ?_, fun i z hz hi => ?_⟩
    · rcases get_snoc hz with k | ⟨rfl, rfl⟩
      · exact h.inp i z k hi
      · have := h.le; omega
    · rcases get_snoc hz with k | ⟨rfl, rfl⟩
      · exact h.gate i z k hi
      · show 0 ≤ a; omega
inductive GrowG : List (Int × Int) → List (Int × Int) → Prop
  | refl (N) : GrowG N N
  | gate {N M} (x y : Int) : GrowG N M → GrowG N (andV M x y).2
theorem GrowG.trans {N M K : List (Int × Int)} (h : GrowG N M) (k : GrowG M K) : GrowG N K := by
  induction k with
  | refl => exact h
  | gate x y _ ih => exact .gate x y ih
theorem GrowG.grow {N M : List (Int × Int)} (h : GrowG N M) : Grow N M := by
  induction h with
  | refl => exact .refl _
  | gate x y _ ih => exact .gate x y ih
theorem GrowG.only {m : Nat} {N M : List (Int × Int)} (h : GrowG N M) (hN : OnlyG m N) : OnlyG m M := by
  induction h with
  | refl => exact hN
  | gate x y _ ih => exact ih.and x y
theorem tidy_ins : ∀ m : Nat, Tidy (List.replicate m (-1, 0))
  | 0 => Tidy.nil
  | m + 1 => by rw [List.replicate_succ']; exact (tidy_ins m).input

end Go.Proofs.Ythpnahapiodflaa
namespace Go.Proofs.Ythpnahapiodflaa
open Go Go.Lt Go.RowKit
set_option linter.unusedVariables false
set_option linter.unusedSimpArgs false
set_option maxRecDepth 20000

theorem cnt_only {m : Nat} {N : List (Int × Int)} (h : OnlyG m N) : ∀ k, k ≤ m → cnt N k = k
  | 0, _ => rfl
  | k + 1, hk => by
    have hle := h.le
    obtain ⟨x, hx⟩ := getI N (show k < N.length by omega)
    rw [cnt_in hx (by rw [h.inp k x hx (by omega)]; decide), cnt_only h k (by omega)]
theorem ofL_even (V : List Bool) (k : Nat) : ofL V (2 * ((k : Int) + 1)) = V.getD (k + 1) false := by
  unfold ofL
  rw [show (2 * ((k : Int) + 1) / 2).toNat = k + 1 by omega, decide_eq_false (show ¬ 2 * ((k : Int) + 1) % 2 = 1 by omega)]
  simp
end Go.Proofs.Ythpnahapiodflaa
namespace Go.Proofs.Ythpnahapiodflaa
open Go Go.Lt Go.RowKit
set_option linter.unusedVariables false
set_option linter.unusedSimpArgs false
set_option maxRecDepth 20000

theorem only_lit {m : Nat} {N : List (Int × Int)} (h : OnlyG m N) (E : List Bool) {k : Nat} (hk : k < m) : ofL (values N E) (2 * ((k : Int) + 1)) = E.getD k false := by
  have hle := h.le
  obtain ⟨x, hx⟩ := getI N (show k < N.length by omega)
  have hxe := h.inp k x hx hk
  rw [ofL_even, values_in E hx (by rw [hxe]; decide), cnt_only h k (by omega)]

section
variable {nin : Nat} {next reset : List Int} {b : Int} {N : List (Int × Int)}
end

end Go.Proofs.Ythpnahapiodflaa
namespace Go.Proofs.Ythpnahapiodflaa
open Go Go.Lt Go.RowKit
set_option linter.unusedVariables false
set_option linter.unusedSimpArgs false
set_option maxRecDepth 20000

theorem only_ins (m : Nat) (E : List Bool) {k : Nat} (hk : k < m) : ofL (values (List.replicate m (-1, 0)) E) (2 * ((k : Int) + 1)) = E.getD k false := only_lit (OnlyG.start m) E hk

end Go.Proofs.Ythpnahapiodflaa
namespace Go.Proofs.Ythpnahapiodflaa
open Go Go.Lt Go.RowKit
set_option linter.unusedVariables false
set_option linter.unusedSimpArgs false
set_option maxRecDepth 20000

theorem lto_pre {N : List (Int × Int)} {k : Nat} : ∀ m, k ≤ m → m ≤ N.length → ∀ j, j ≤ k → (lto N m).getD j 0 = (lto N k).getD j 0 := by
  intro m
  induction m with
  | zero => intro h _ j _; obtain rfl : k = 0 := by omega
            rfl
  | succ m ih =>
    intro h hm j hj
    by_cases hk : k = m + 1
    · rw [hk]
    · obtain ⟨x, hx⟩ := getI N (show m < N.length by omega)
      have hl := lto_len N m (by omega)
      rw [lto_succ hx, ← ih (by omega) (by omega) j hj]
      unfold lstep
      rw [List.getD, List.getElem?_append_left (by omega), ← List.getD]
theorem lv_gate {N : List (Int × Int)} (hg : GoodNet N) {i : Nat} {x : Int × Int} (hx : N[i]? = some x) (h0 : 0 ≤ x.1) : (levels N).getD (i + 1) 0 = 1 + max ((levels N).getD (x.1 / 2).toNat 0) ((levels N).getD (x.2 / 2).toNat 0) := by
  have hi := lt_of_get hx
  have hgg := hg.gate hx h0
  have hl := lto_len N i (by omega)
  unfold levels
  rw [lto_pre (k := i + 1) N.length (by omega) (Nat.le_refl _) (i + 1) (Nat.le_refl _), lto_pre (k := i) N.length (by omega) (Nat.le_refl _) (x.1 / 2).toNat (by omega), lto_pre (k := i) N.length (by omega) (Nat.le_refl _) (x.2 / 2).toNat (by omega), lto_succ hx]
  unfold lstep
  rw [List.getD, List.getElem?_append_right (by omega), hl, Nat.sub_self, List.getElem?_cons_zero, Option.getD_some, if_pos h0]
theorem lv_input {N : List (Int × Int)} {i : Nat} {x : Int × Int} (hx : N[i]? = some x) (h0 : x.1 < 0) : (levels N).getD (i + 1) 0 = 0 := by
  have hi := lt_of_get hx
  have hl := lto_len N i (by omega)
  unfold levels
  rw [lto_pre (k := i + 1) N.length (by omega) (Nat.le_refl _) (i + 1) (Nat.le_refl _), lto_succ hx]
  unfold lstep
  rw [List.getD, List.getElem?_append_right (by omega), hl, Nat.sub_self, List.getElem?_cons_zero, Option.getD_some, if_neg (by omega)]
theorem lv_zero (N : List (Int × Int)) : (levels N).getD 0 0 = 0 := by
  unfold levels
  rw [lto_pre (k := 0) N.length (by omega) (Nat.le_refl _) 0 (Nat.le_refl _)]; rfl
theorem lv_pos (N : List (Int × Int)) (v : Nat) : 0 ≤ (levels N).getD v 0 := (lto_le N N.length (Nat.le_refl _) v).1
theorem lto_grow {N M : List (Int × Int)} (h : Grow N M) : lto M N.length = levels N := by
  have hp : M.take N.length = N := by
    apply List.ext_getElem?
    intro i
    by_cases hi : i < N.length
    · obtain ⟨x, hx⟩ := getI N hi
      rw [List.getElem?_take, if_pos hi, hx, h.pre hx]
    · rw [List.getElem?_take, if_neg hi, List.getElem?_eq_none (by omega)]
  unfold levels lto
  rw [hp, List.take_length]
/-- A literal's level. -/
def lvL (N : List (Int × Int)) (l : Int) : Int := (levels N).getD (l / 2).toNat 0
theorem lvL_pos (N : List (Int × Int)) (l : Int) : 0 ≤ lvL N l := lv_pos N _
theorem lvL_grow {N M : List (Int × Int)} (h : Grow N M) {l : Int} (hl : hasL N l) : lvL M l = lvL N l := by
  have := h.len
  unfold hasL at hl
  unfold lvL
  rw [← lto_grow h]
  exact lto_pre M.length (by omega) (Nat.le_refl _) _ (by omega)
theorem lvL_xor1 (N : List (Int × Int)) (l : Int) : lvL N (Lt.xor1 l) = lvL N l := by
  unfold lvL Lt.xor1
  split
  · rw [show (l + 1) / 2 = l / 2 by omega]
  · rw [show (l - 1) / 2 = l / 2 by omega]
theorem lvL_and {N : List (Int × Int)} (hT : Tidy N) {x y : Int} (hx : hasL N x) (hy : hasL N y) : lvL (andV N x y).2 (andV N x y).1 ≤ 1 + max (lvL N x) (lvL N y) := by
  obtain ⟨a, b, hab, hle, hw⟩ := andV_ways N x y
  have hh : hasL N a ∧ hasL N b := by rcases hab with ⟨rfl, rfl⟩ | ⟨rfl, rfl⟩; exact ⟨hx, hy⟩; exact ⟨hy, hx⟩
  have he : max (lvL N x) (lvL N y) = max (lvL N a) (lvL N b) := by rcases hab with ⟨rfl, rfl⟩ | ⟨rfl, rfl⟩; rfl; exact Int.max_comm _ _
  have p1 := lvL_pos N a
  have p2 := lvL_pos N b
  have hT2 := hT.and x y
  have hG : Grow N (andV N x y).2 := .gate x y (.refl N)
  rw [he]
  rcases hw with ⟨h1, _⟩ | ⟨_, h1, hw⟩ | ⟨_, _, h1, hw⟩ | ⟨_, h1, i, i1, i2, i3, hw⟩ | ⟨h0, h1, h2, hw⟩
  · exact absurd hh h1
  · rw [hw]
    show lvL N 0 ≤ _
    have : lvL N 0 = 0 := lv_zero N
    omega
  · rw [hw]
    show lvL N b ≤ _
    omega
  · rw [hw]
    show (levels N).getD (2 * ((i : Int) + 1) / 2).toNat 0 ≤ _
    rw [show (2 * ((i : Int) + 1) / 2).toNat = i + 1 by omega, lv_gate hT.good i2 (by show 0 ≤ a; omega)]
    exact Int.le_refl _
  · have ha := lvL_grow hG hh.1
    have hb := lvL_grow hG hh.2
    rw [hw] at hT2 ha hb ⊢
    have hx2 : (N ++ [(a, b)])[N.length]? = some (a, b) := by simp
    show (levels (N ++ [(a, b)])).getD (2 * ((N.length : Int) + 1) / 2).toNat 0 ≤ _
    rw [show (2 * ((N.length : Int) + 1) / 2).toNat = N.length + 1 by omega, lv_gate hT2.good hx2 (by show 0 ≤ a; omega)]
    show 1 + max (lvL (N ++ [(a, b)]) a) (lvL (N ++ [(a, b)]) b) ≤ _
    rw [ha, hb]
    exact Int.le_refl _

def fstTo (N : List (Int × Int)) (L : List Int) : Nat → Nat
  | 0 => 0
  | m + 1 => if lvL N (L.getD m 0) < lvL N (L.getD (fstTo N L m) 0) then m else fstTo N L m
def fstP (N : List (Int × Int)) (L : List Int) : Nat := fstTo N L L.length
theorem fstTo_lt (N : List (Int × Int)) (L : List Int) : ∀ m, 1 ≤ m → fstTo N L m < m
  | 0, h => by omega
  | 1, _ => by
    show (if lvL N (L.getD 0 0) < lvL N (L.getD 0 0) then 0 else 0) < 1
    split <;> omega
  | m + 2, _ => by
    have := fstTo_lt N L (m + 1) (by omega)
    rw [fstTo]; split <;> omega
theorem fstTo_le (N : List (Int × Int)) (L : List Int) : ∀ m q, q < m → lvL N (L.getD (fstTo N L m) 0) ≤ lvL N (L.getD q 0)
  | 0, q, h => by omega
  | m + 1, q, h => by
    have ih := fun q h => fstTo_le N L m q h
    rw [fstTo]
    by_cases hq : q = m
    · subst hq; split <;> omega
    · have := ih q (by omega)
      split <;> omega
theorem fstP_lt {N : List (Int × Int)} {L : List Int} (h : 1 ≤ L.length) : fstP N L < L.length := fstTo_lt N L _ h
/-- Two of them made one. -/
noncomputable def mrgA (N : List (Int × Int)) (L : List Int) : Int × List (Int × Int) := andV N (L.getD (fstP N L) 0) ((L.eraseIdx (fstP N L)).getD (fstP N (L.eraseIdx (fstP N L))) 0)
def mrgR (N : List (Int × Int)) (L : List Int) : List Int := (L.eraseIdx (fstP N L)).eraseIdx (fstP N (L.eraseIdx (fstP N L)))
noncomputable def allB : Nat → List (Int × Int) → List Int → Int × List (Int × Int)
  | 0, N, L => (L.getD 0 0, N)
  | f + 1, N, L => if L.length ≤ 1 then (L.getD 0 0, N) else allB f (mrgA N L).2 (mrgR N L ++ [(mrgA N L).1])
theorem mrgR_len {N : List (Int × Int)} {L : List Int} (h : 2 ≤ L.length) : (mrgR N L).length = L.length - 2 := by
  have h1 := fstP_lt (N := N) (L := L) (by omega)
  have h2 : (L.eraseIdx (fstP N L)).length = L.length - 1 := List.length_eraseIdx_of_lt h1
  have h3 := fstP_lt (N := N) (L := L.eraseIdx (fstP N L)) (by omega)
  unfold mrgR
  rw [List.length_eraseIdx_of_lt h3, h2]; omega
theorem mem_erase {L : List Int} {i : Nat} {z : Int} (h : z ∈ L.eraseIdx i) : z ∈ L := List.mem_of_mem_eraseIdx h
theorem getD_mem {L : List Int} {i : Nat} (h : i < L.length) : L.getD i 0 ∈ L := by
  obtain ⟨z, hz⟩ := getI L h
  rw [getD_of hz]; exact List.mem_of_getElem? hz
theorem mrg_mem {N : List (Int × Int)} {L : List Int} (h : 2 ≤ L.length) : L.getD (fstP N L) 0 ∈ L ∧ (L.eraseIdx (fstP N L)).getD (fstP N (L.eraseIdx (fstP N L))) 0 ∈ L ∧ ∀ z ∈ mrgR N L, z ∈ L := by
  have h1 := fstP_lt (N := N) (L := L) (by omega)
  have h2 : (L.eraseIdx (fstP N L)).length = L.length - 1 := List.length_eraseIdx_of_lt h1
  have h3 := fstP_lt (N := N) (L := L.eraseIdx (fstP N L)) (by omega)
  exact ⟨getD_mem h1, mem_erase (getD_mem h3), fun z hz => mem_erase (mem_erase hz)⟩
/-- A sum over all but one, and that one. -/
theorem sum_erase (g : Int → Nat) : ∀ (L : List Int) (i : Nat), i < L.length → (L.map g).sum = g (L.getD i 0) + ((L.eraseIdx i).map g).sum
  | x :: L, 0, _ => by simp
  | x :: L, i + 1, h => by
    have := sum_erase g L i (by simpa using h)
    simp only [List.map_cons, List.sum_cons, List.eraseIdx_cons_succ, List.getD_cons_succ] at this ⊢
    omega
theorem all_erase (p : Int → Bool) : ∀ (L : List Int) (i : Nat), i < L.length → L.all p = (p (L.getD i 0) && (L.eraseIdx i).all p)
  | x :: L, 0, _ => by simp
  | x :: L, i + 1, h => by
    have := all_erase p L i (by simpa using h)
    simp only [List.all_cons, List.eraseIdx_cons_succ, List.getD_cons_succ] at this ⊢
    rw [this]
    cases p x <;> cases p (L.getD i 0) <;> simp
theorem mrg_sum {N : List (Int × Int)} {L : List Int} (g : Int → Nat) (h : 2 ≤ L.length) : (L.map g).sum = g (L.getD (fstP N L) 0) + (g ((L.eraseIdx (fstP N L)).getD (fstP N (L.eraseIdx (fstP N L))) 0) + ((mrgR N L).map g).sum) := by
  have h1 := fstP_lt (N := N) (L := L) (by omega)
  have h2 : (L.eraseIdx (fstP N L)).length = L.length - 1 := List.length_eraseIdx_of_lt h1
  have h3 := fstP_lt (N := N) (L := L.eraseIdx (fstP N L)) (by omega)
  rw [sum_erase g L _ h1, sum_erase g _ _ h3]; rfl
theorem mrg_all {N : List (Int × Int)} {L : List Int} (p : Int → Bool) (h : 2 ≤ L.length) : L.all p = (p (L.getD (fstP N L) 0) && (p ((L.eraseIdx (fstP N L)).getD (fstP N (L.eraseIdx (fstP N L))) 0) && (mrgR N L).all p)) := by
  have h1 := fstP_lt (N := N) (L := L) (by omega)
  have h2 : (L.eraseIdx (fstP N L)).length = L.length - 1 := List.length_eraseIdx_of_lt h1
  have h3 := fstP_lt (N := N) (L := L.eraseIdx (fstP N L)) (by omega)
  rw [all_erase p L _ h1, all_erase p _ _ h3]; rfl
theorem mrg_least {N : List (Int × Int)} {L : List Int} (h : 2 ≤ L.length) : lvL N (L.getD (fstP N L) 0) ≤ lvL N ((L.eraseIdx (fstP N L)).getD (fstP N (L.eraseIdx (fstP N L))) 0) ∧ ∀ z ∈ mrgR N L, lvL N ((L.eraseIdx (fstP N L)).getD (fstP N (L.eraseIdx (fstP N L))) 0) ≤ lvL N z := by
  have h1 := fstP_lt (N := N) (L := L) (by omega)
  have h2 : (L.eraseIdx (fstP N L)).length = L.length - 1 := List.length_eraseIdx_of_lt h1
  have h3 := fstP_lt (N := N) (L := L.eraseIdx (fstP N L)) (by omega)
  constructor
  · obtain ⟨i, hi⟩ := List.mem_iff_getElem?.1 (mem_erase (getD_mem h3))
    have := fstTo_le N L L.length i (lt_of_get hi)
    rw [getD_of hi] at this
    exact this
  · intro z hz
    obtain ⟨i, hi⟩ := List.mem_iff_getElem?.1 (mem_erase hz)
    have := fstTo_le N (L.eraseIdx (fstP N L)) (L.eraseIdx (fstP N L)).length i (lt_of_get hi)
    rw [getD_of hi] at this
    exact this
/-- The bound is kept by making one of the least two. -/
theorem kraft_step {a b M S : Nat} (hab : a ≤ b) (hS : 2 ^ b ∣ S) (h : 2 ^ a + (2 ^ b + S) ≤ 2 ^ M) : S + 2 ^ (b + 1) ≤ 2 ^ M := by
  have pa : 0 < 2 ^ a := Nat.pow_pos (by decide)
  have pb : 0 < 2 ^ b := Nat.pow_pos (by decide)
  have hbM : b < M := by
    rcases Nat.lt_or_ge b M with h1 | h1
    · exact h1
    · have := Nat.pow_le_pow_right (show 0 < 2 by decide) h1; omega
  obtain ⟨k, rfl⟩ := hS
  obtain ⟨d, rfl⟩ : ∃ d, M = b + (d + 1) := ⟨M - b - 1, by omega⟩
  rw [Nat.pow_add 2 b (d + 1)] at h ⊢
  rw [Nat.pow_succ]
  have h2 : 2 ^ b * (k + 1) < 2 ^ b * 2 ^ (d + 1) := by rw [Nat.mul_add, Nat.mul_one]; omega
  have h3 := Nat.lt_of_mul_lt_mul_left h2
  have h4 : 2 ^ b * (k + 2) ≤ 2 ^ b * 2 ^ (d + 1) := Nat.mul_le_mul_left _ (by omega)
  rw [Nat.mul_add] at h4
  omega
theorem dvd_sum (m : Nat) : ∀ l : List Nat, (∀ z ∈ l, m ∣ z) → m ∣ l.sum
  | [], _ => Nat.dvd_zero m
  | x :: l, h => by
    rw [List.sum_cons]
    exact Nat.dvd_add (h x (by simp)) (dvd_sum m l fun z hz => h z (by simp [hz]))
/-- Two to the level. -/
def pw (N : List (Int × Int)) (l : Int) : Nat := 2 ^ (lvL N l).toNat
theorem pw_grow {N M : List (Int × Int)} (h : Grow N M) {l : Int} (hl : hasL N l) : pw M l = pw N l := by unfold pw; rw [lvL_grow h hl]
structure AllOk (N : List (Int × Int)) (L : List Int) (r : Int × List (Int × Int)) : Prop where
  has : hasL r.2 r.1
  grow : GrowG N r.2
  len : r.2.length ≤ N.length + (L.length - 1)
  val : ∀ ins, ofL (values r.2 ins) r.1 = L.all fun z => ofL (values N ins) z
  deep : ∀ M, (L.map (pw N)).sum ≤ 2 ^ M → (lvL r.2 r.1).toNat ≤ M
theorem map_congr_mem {α β : Type} {f g : α → β} : ∀ {l : List α}, (∀ z ∈ l, f z = g z) → l.map f = l.map g := fun h => List.map_congr_left h
theorem allB_ok : ∀ (f : Nat) (N : List (Int × Int)) (L : List Int), Tidy N → (∀ z ∈ L, hasL N z) → 1 ≤ L.length → L.length ≤ f + 1 → AllOk N L (allB f N L) := by
  have one : ∀ (N : List (Int × Int)) (L : List Int), (∀ z ∈ L, hasL N z) → L.length = 1 → AllOk N L (L.getD 0 0, N) := by
    intro N L hh h1
    obtain ⟨x, rfl⟩ : ∃ x, L = [x] := by
      match L, h1 with
      | [x], _ => exact ⟨x, rfl⟩
    refine ⟨hh x (by simp), .refl _, Nat.le_add_right _ _, fun ins => by simp, fun M h => ?_⟩
    have h' : 2 ^ (lvL N x).toNat ≤ 2 ^ M := by simpa [pw] using h
    exact (Nat.pow_le_pow_iff_right (by decide)).1 h'
  intro f
  induction f with
  | zero => intro N L hT hh h1 h2; exact one N L hh (by omega)
  | succ f ih =>
    intro N L hT hh h1 h2
    rw [allB]
    by_cases hL : L.length ≤ 1
    · rw [if_pos hL]; exact one N L hh (by omega)
    · rw [if_neg hL]
      have hm := mrg_mem (N := N) (L := L) (by omega)
      have hx := hh _ hm.1
      have hy := hh _ hm.2.1
      have hl := mrgR_len (N := N) (L := L) (by omega)
      have hle := mrg_least (N := N) (L := L) (by omega)
      have hsum := mrg_sum (N := N) (L := L) (pw N) (by omega)
      have hall := fun p => mrg_all (N := N) (L := L) p (by omega)
      have hR : ∀ z ∈ mrgR N L, hasL N z := fun z hz => hh z (hm.2.2 z hz)
      generalize mrgR N L = R at *
      unfold mrgA
      generalize (L.eraseIdx (fstP N L)).getD (fstP N (L.eraseIdx (fstP N L))) 0 = y at *
      generalize L.getD (fstP N L) 0 = x at *
      have la := andV_len N x y
      have ha := andV_has hx hy
      have va := fun ins => andV_of hT ins hx hy
      have da := lvL_and hT hx hy
      have ga : GrowG N (andV N x y).2 := .gate _ _ (.refl _)
      generalize andV N x y = A at *
      have hR2 : ∀ z ∈ R ++ [A.1], hasL A.2 z := fun z hz => by
        rcases List.mem_append.1 hz with h | h
        · exact hasL_mono (hR z h) la.1
        · rw [List.mem_singleton.1 h]; exact ha
      have hl2 : (R ++ [A.1]).length = L.length - 1 := by rw [List.length_append, hl]; show L.length - 2 + 1 = _; omega
      have hk := ih A.2 (R ++ [A.1]) (ga.grow.tidy hT) hR2 (by omega) (by omega)
      refine ⟨hk.has, ga.trans hk.grow, by have := hk.len; omega, fun ins => ?_, fun M hM => hk.deep M ?_⟩
      · have e1 : R.all (fun z => ofL (values A.2 ins) z) = R.all fun z => ofL (values N ins) z := by
          have key : ∀ l : List Int, (∀ z ∈ l, hasL N z) → l.all (fun z => ofL (values A.2 ins) z) = l.all fun z => ofL (values N ins) z := by
            intro l
            induction l with
            | nil => intro _; rfl
            | cons c l ihl => intro h; rw [List.all_cons, List.all_cons, ga.grow.of ins (h c (by simp)), ihl fun z hz => h z (by simp [hz])]
          exact key R hR
        rw [hk.val ins, hall, List.all_append, e1, List.all_cons, List.all_nil, va ins]
        cases ofL (values N ins) x <;> cases ofL (values N ins) y <;> cases (R.all fun z => ofL (values N ins) z) <;> rfl
      · have e1 : R.map (pw A.2) = R.map (pw N) := map_congr_mem fun z hz => pw_grow ga.grow (hR z hz)
        rw [List.map_append, List.sum_append, e1]
        show (R.map (pw N)).sum + (2 ^ (lvL A.2 A.1).toNat + 0) ≤ _
        rw [hsum] at hM
        have px := lvL_pos N x
        have py := lvL_pos N y
        have pA := lvL_pos A.2 A.1
        have hd : 2 ^ (lvL N y).toNat ∣ (R.map (pw N)).sum := dvd_sum _ _ fun q hq => by
          obtain ⟨z, hz, rfl⟩ := List.mem_map.1 hq
          have := hle.2 z hz
          exact Nat.pow_dvd_pow 2 (by omega)
        have hks := kraft_step (a := (lvL N x).toNat) (b := (lvL N y).toNat) (by have := hle.1; omega) hd hM
        have h4 : 2 ^ (lvL A.2 A.1).toNat ≤ 2 ^ ((lvL N y).toNat + 1) := Nat.pow_le_pow_right (by decide) (by have := hle.1; omega)
        omega
end Go.Proofs.Ythpnahapiodflaa
namespace Go.Proofs.Ythpnahapiodflaa
open Go Go.Lt Go.RowKit
set_option linter.unusedVariables false
set_option linter.unusedSimpArgs false
set_option maxRecDepth 20000

theorem leaf_all {n : List (Int × Int)} {U : List Int} (hg : GoodNet n) : ∀ (f : Nat) (v : Int), v ≤ (f : Int) → gateN n v →
    (1 ≤ (leafF n U f v).length) ∧ (∀ z ∈ leafF n U f v, 0 ≤ z ∧ z / 2 < v) ∧ (∀ ins, (leafF n U f v).all (fun z => ofL (values n ins) z) = (values n ins).getD v.toNat false) ∧ ((leafF n U f v).map (pw n)).sum ≤ 2 ^ ((levels n).getD v.toNat 0).toNat := by
  intro f
  induction f with
  | zero => intro v hv h; have := h.1; omega
  | succ f ih =>
    intro v hv h
    have hgt := h
    obtain ⟨i, x, rfl, hx, h0, hd⟩ := gate_at h
    have hgg := hg.gate hx h0
    have e : leafF n U (f + 1) ((i : Int) + 1) = leafX n U (leafF n U f) x.1 ++ leafX n U (leafF n U f) x.2 := by rw [leafF, dec_true hgt, hd]; rfl
    have key : ∀ y : Int, 0 ≤ y → y / 2 < (i : Int) + 1 → (1 ≤ (leafX n U (leafF n U f) y).length) ∧ (∀ z ∈ leafX n U (leafF n U f) y, 0 ≤ z ∧ z / 2 < (i : Int) + 1) ∧ (∀ ins, (leafX n U (leafF n U f) y).all (fun z => ofL (values n ins) z) = ofL (values n ins) y) ∧ ((leafX n U (leafF n U f) y).map (pw n)).sum ≤ 2 ^ (lvL n y).toNat := by
      intro y hy0 hy
      unfold leafX
      by_cases hin : innN n U y
      · rw [dec_true hin]
        obtain ⟨a1, a2, a3, a4⟩ := ih (y / 2) (by omega) hin.2.1
        refine ⟨a1, fun z hz => ⟨(a2 z hz).1, by have := (a2 z hz).2; omega⟩, fun ins => ?_, a4⟩
        rw [cond_true, a3 ins]
        unfold ofL
        have h2 := hin.1
        rw [decide_eq_false (by omega)]; simp
      · rw [dec_false hin]
        refine ⟨Nat.le_refl _, fun z hz => ?_, fun ins => by simp, ?_⟩
        · rw [cond_false, List.mem_singleton] at hz
          subst hz; exact ⟨hy0, hy⟩
        · simp [pw]
    obtain ⟨a1, a2, a3, a4⟩ := key x.1 (by omega) (by omega)
    obtain ⟨b1, b2, b3, b4⟩ := key x.2 (by omega) (by omega)
    rw [e]
    refine ⟨by rw [List.length_append]; omega, fun z hz => ?_, fun ins => ?_, ?_⟩
    · rcases List.mem_append.1 hz with h | h
      · exact a2 z h
      · exact b2 z h
    · rw [List.all_append, a3 ins, b3 ins, show ((i : Int) + 1).toNat = i + 1 by omega, values_gate hg ins hx h0]
    · rw [List.map_append, List.sum_append, show ((i : Int) + 1).toNat = i + 1 by omega, lv_gate hg hx h0]
      have p1 := lvL_pos n x.1
      have p2 := lvL_pos n x.2
      show _ ≤ 2 ^ (1 + max (lvL n x.1) (lvL n x.2)).toNat
      have q1 : 2 ^ (lvL n x.1).toNat ≤ 2 ^ (max (lvL n x.1) (lvL n x.2)).toNat := Nat.pow_le_pow_right (by decide) (by omega)
      have q2 : 2 ^ (lvL n x.2).toNat ≤ 2 ^ (max (lvL n x.1) (lvL n x.2)).toNat := Nat.pow_le_pow_right (by decide) (by omega)
      rw [show (1 + max (lvL n x.1) (lvL n x.2)).toNat = (max (lvL n x.1) (lvL n x.2)).toNat + 1 by omega, Nat.pow_succ]
      omega

structure BSt where
  N : List (Int × Int)
  O : List Int
noncomputable def negB (x l : Int) : Int := if l % 2 = 1 then Lt.xor1 x else x
abbrev ownO (O : List Int) (l : Int) : Int := O.getD (l / 2).toNat (-1)
noncomputable def putsTo (put : BSt → Int → Int × BSt) (s : BSt) (L : List Int) : Nat → List Int × BSt
  | 0 => ([], s)
  | k + 1 => ((putsTo put s L k).1 ++ [(put (putsTo put s L k).2 (L.getD k 0)).1], (put (putsTo put s L k).2 (L.getD k 0)).2)
theorem putsTo_succ {put : BSt → Int → Int × BSt} {s : BSt} {L : List Int} {k : Nat} {x : Int} (h : L[k]? = some x) : putsTo put s L (k + 1) = ((putsTo put s L k).1 ++ [(put (putsTo put s L k).2 x).1], (put (putsTo put s L k).2 x).2) := by rw [putsTo, getD_of h]
noncomputable def leafL (n : List (Int × Int)) (U : List Int) (v : Int) : List Int := leafF n U n.length v
noncomputable def putG (put : BSt → Int → Int × BSt) (n : List (Int × Int)) (U : List Int) (s : BSt) (l : Int) : Int × BSt :=
  (negB (allB (putsTo put s (leafL n U (l / 2)) (leafL n U (l / 2)).length).1.length (putsTo put s (leafL n U (l / 2)) (leafL n U (l / 2)).length).2.N (putsTo put s (leafL n U (l / 2)) (leafL n U (l / 2)).length).1).1 l,
    ⟨(allB (putsTo put s (leafL n U (l / 2)) (leafL n U (l / 2)).length).1.length (putsTo put s (leafL n U (l / 2)) (leafL n U (l / 2)).length).2.N (putsTo put s (leafL n U (l / 2)) (leafL n U (l / 2)).length).1).2,
     (putsTo put s (leafL n U (l / 2)) (leafL n U (l / 2)).length).2.O.set (l / 2).toNat (allB (putsTo put s (leafL n U (l / 2)) (leafL n U (l / 2)).length).1.length (putsTo put s (leafL n U (l / 2)) (leafL n U (l / 2)).length).2.N (putsTo put s (leafL n U (l / 2)) (leafL n U (l / 2)).length).1).1⟩)
noncomputable def putF (n : List (Int × Int)) (U : List Int) : Nat → BSt → Int → Int × BSt
  | 0, s, _ => (0, s)
  | f + 1, s, l => if 0 ≤ ownO s.O l then (negB (ownO s.O l) l, s) else putG (putF n U f) n U s l
def cntO (O : List Int) : Nat := O.countP fun x => decide (0 ≤ x)
theorem cntO_set {O : List Int} {v : Nat} (hv : v < O.length) (h : ¬ 0 ≤ O.getD v (-1)) {x : Int} (hx : 0 ≤ x) : cntO (O.set v x) = cntO O + 1 := by
  unfold cntO
  obtain ⟨z, hz⟩ := getI O hv
  rw [getD_of hz] at h
  have hz' : O[v] = z := by rw [List.getElem?_eq_getElem hv] at hz; exact Option.some.inj hz
  rw [List.countP_set hv, hz', if_neg (by rw [decide_eq_true_iff]; exact h), if_pos (decide_eq_true hx), Nat.sub_zero]
theorem set_getD {O : List Int} {v u : Nat} {x : Int} (hv : v < O.length) : (O.set v x).getD u (-1) = if v = u then x else O.getD u (-1) := by
  rw [List.getD, List.getElem?_set]
  by_cases h : v = u
  · rw [if_pos h, if_pos h, if_pos hv]; rfl
  · rw [if_neg h, if_neg h, List.getD]
structure BOk (n : List (Int × Int)) (s : BSt) : Prop where
  len : s.O.length = n.length + 1
  grow : GrowG (List.replicate (cnt n n.length) (-1, 0)) s.N
  has : ∀ v : Nat, 0 ≤ s.O.getD v (-1) → hasL s.N (s.O.getD v (-1))
  inp : ∀ v : Nat, v ≤ n.length → ¬ gateN n v → 0 ≤ s.O.getD v (-1)
  val : ∀ (ins : List Bool) (v : Nat), 0 ≤ s.O.getD v (-1) → ofL (values s.N ins) (s.O.getD v (-1)) = (values n ins).getD v false
  deep : ∀ v : Nat, 0 ≤ s.O.getD v (-1) → lvL s.N (s.O.getD v (-1)) ≤ (levels n).getD v 0
  size : s.N.length ≤ (n.length + 1) * cntO s.O
theorem BOk.tidy {n : List (Int × Int)} {s : BSt} (h : BOk n s) : Tidy s.N := h.grow.grow.tidy (tidy_ins _)
theorem BOk.bound {n : List (Int × Int)} {s : BSt} (h : BOk n s) : s.N.length ≤ (n.length + 1) * (n.length + 1) := by
  have h1 : cntO s.O ≤ n.length + 1 := by rw [← h.len]; exact List.countP_le_length
  exact Nat.le_trans h.size (Nat.mul_le_mul_left _ h1)
/-- What a literal put comes to. -/
structure BPut (n : List (Int × Int)) (s : BSt) (l : Int) (r : Int × BSt) : Prop where
  ok : BOk n r.2
  grow : GrowG s.N r.2.N
  old : ∀ v : Nat, 0 ≤ s.O.getD v (-1) → r.2.O.getD v (-1) = s.O.getD v (-1)
  far : ∀ v : Nat, l / 2 < (v : Int) → r.2.O.getD v (-1) = s.O.getD v (-1)
  has : hasL r.2.N r.1
  val : ∀ ins, ofL (values r.2.N ins) r.1 = ofL (values n ins) l
  deep : lvL r.2.N r.1 ≤ lvL n l
theorem negB_has {N : List (Int × Int)} {x : Int} (l : Int) (h : hasL N x) : hasL N (negB x l) := by
  unfold negB Lt.xor1 hasL at *
  split
  · split <;> omega
  · exact h
theorem negB_val {n N : List (Int × Int)} {x l : Int} (ins : List Bool) (hx : 0 ≤ x) (hl : 0 ≤ l) (h : ofL (values N ins) x = (values n ins).getD (l / 2).toNat false) : ofL (values N ins) (negB x l) = ofL (values n ins) l := by
  unfold negB
  by_cases hp : l % 2 = 1
  · rw [if_pos hp, ofL_xor1 _ hx, h]
    unfold ofL; rw [decide_eq_true hp]; simp
  · rw [if_neg hp, h]
    unfold ofL; rw [decide_eq_false hp]; simp
theorem negB_lv {N : List (Int × Int)} {x l : Int} : lvL N (negB x l) = lvL N x := by
  unfold negB; split
  · exact lvL_xor1 N x
  · rfl
structure BPuts (n : List (Int × Int)) (s : BSt) (L : List Int) (k : Nat) (r : List Int × BSt) : Prop where
  len : r.1.length = k
  ok : BOk n r.2
  grow : GrowG s.N r.2.N
  old : ∀ v : Nat, 0 ≤ s.O.getD v (-1) → r.2.O.getD v (-1) = s.O.getD v (-1)
  far : ∀ v : Nat, (∀ z ∈ L, z / 2 < (v : Int)) → r.2.O.getD v (-1) = s.O.getD v (-1)
  has : ∀ z ∈ r.1, hasL r.2.N z
  val : ∀ (ins : List Bool) (j : Nat) (z l : Int), r.1[j]? = some z → L[j]? = some l → ofL (values r.2.N ins) z = ofL (values n ins) l
  deep : ∀ (j : Nat) (z l : Int), r.1[j]? = some z → L[j]? = some l → lvL r.2.N z ≤ lvL n l
theorem puts_ok {n : List (Int × Int)} {put : BSt → Int → Int × BSt} {L : List Int} {s : BSt} (hs : BOk n s) (hput : ∀ s l, BOk n s → l ∈ L → BPut n s l (put s l)) : ∀ k, k ≤ L.length → BPuts n s L k (putsTo put s L k)
  | 0, _ => ⟨rfl, hs, .refl _, fun _ _ => rfl, fun _ _ => rfl, fun z hz => absurd hz (by simp [putsTo]), fun ins j z l h => by
      have h' : ([] : List Int)[j]? = some z := h
      simp at h', fun j z l h => by
      have h' : ([] : List Int)[j]? = some z := h
      simp at h'⟩
  | k + 1, hk => by
    obtain ⟨x, hx⟩ := getI L (show k < L.length by omega)
    have hxm := List.mem_of_getElem? hx
    have ih := puts_ok hs hput k (by omega)
    rw [putsTo_succ hx]
    have hp := hput (putsTo put s L k).2 x ih.ok hxm
    generalize putsTo put s L k = q at *
    generalize put q.2 x = r at *
    refine ⟨by rw [List.length_append, ih.len]; rfl, hp.ok, ih.grow.trans hp.grow, fun v hv => ?_, fun v hv => ?_, fun z hz => ?_, fun ins j z l hz hl => ?_, fun j z l hz hl => ?_⟩
    · have e := ih.old v hv
      rw [hp.old v (by rw [e]; exact hv), e]
    · rw [hp.far v (hv x hxm), ih.far v hv]
    · rcases List.mem_append.1 hz with h | h
      · exact hasL_mono (ih.has z h) hp.grow.grow.len
      · rw [List.mem_singleton.1 h]; exact hp.has
    · rcases get_snoc hz with h | ⟨rfl, rfl⟩
      · show ofL (values r.2.N ins) z = _
        rw [hp.grow.grow.of ins (ih.has z (List.mem_of_getElem? h))]; exact ih.val ins j z l h hl
      · rw [ih.len, hx] at hl; cases hl
        exact hp.val ins
    · rcases get_snoc hz with h | ⟨rfl, rfl⟩
      · show lvL r.2.N z ≤ _
        rw [lvL_grow hp.grow.grow (ih.has z (List.mem_of_getElem? h))]; exact ih.deep j z l h hl
      · rw [ih.len, hx] at hl; cases hl
        exact hp.deep
theorem all_pair {p q : Int → Bool} : ∀ {A B : List Int}, A.length = B.length → (∀ (j : Nat) (z l : Int), A[j]? = some z → B[j]? = some l → p z = q l) → A.all p = B.all q
  | [], [], _, _ => rfl
  | [], _ :: _, h, _ => by simp at h
  | _ :: _, [], h, _ => by simp at h
  | a :: A, b :: B, h, k => by
    rw [List.all_cons, List.all_cons, k 0 a b rfl rfl, all_pair (A := A) (B := B) (by simpa using h) fun j z l h1 h2 => k (j + 1) z l h1 h2]
theorem sum_pair {p q : Int → Nat} : ∀ {A B : List Int}, A.length = B.length → (∀ (j : Nat) (z l : Int), A[j]? = some z → B[j]? = some l → p z ≤ q l) → (A.map p).sum ≤ (B.map q).sum
  | [], [], _, _ => Nat.le_refl _
  | [], _ :: _, h, _ => by simp at h
  | _ :: _, [], h, _ => by simp at h
  | a :: A, b :: B, h, k => by
    have h1 := k 0 a b rfl rfl
    have h2 := sum_pair (A := A) (B := B) (by simpa using h) fun j z l h1 h2 => k (j + 1) z l h1 h2
    simp only [List.map_cons, List.sum_cons]; omega
theorem put_old {n : List (Int × Int)} {s : BSt} (hs : BOk n s) {l : Int} (hl : 0 ≤ l) (h : 0 ≤ ownO s.O l) : BPut n s l (negB (ownO s.O l) l, s) :=
  ⟨hs, .refl _, fun _ _ => rfl, fun _ _ => rfl, negB_has l (hs.has _ h), fun ins => negB_val ins h hl (hs.val ins _ h), by rw [negB_lv]; exact hs.deep _ h⟩
theorem put_ok {n : List (Int × Int)} {outs : List Int} (hg : GoodNet n) : ∀ (f : Nat) (s : BSt) (l : Int), BOk n s → 0 ≤ l → l / 2 ≤ (f : Int) → l / 2 ≤ n.length → BPut n s l (putF n (usesV n outs) (f + 1) s l) := by
  intro f
  induction f with
  | zero =>
    intro s l hs h0 hf hn
    have h1 : 0 ≤ ownO s.O l := hs.inp _ (by omega) (fun h => by have := h.1; omega)
    rw [putF, if_pos h1]; exact put_old hs h0 h1
  | succ f ih =>
    intro s l hs h0 hf hn
    rw [putF]
    by_cases h1 : 0 ≤ ownO s.O l
    · rw [if_pos h1]; exact put_old hs h0 h1
    · rw [if_neg h1]
      have hgt : gateN n (l / 2) := by
        refine Classical.byContradiction fun h => h1 (hs.inp _ (by omega) ?_)
        rw [show (((l / 2).toNat : Nat) : Int) = l / 2 by omega]; exact h
      obtain ⟨a1, a2, a3, a4⟩ := leaf_all (U := usesV n outs) hg n.length (l / 2) (by omega) hgt
      have a5 := leaf_len (outs := outs) hg n.length (l / 2)
      unfold putG leafL
      generalize leafF n (usesV n outs) n.length (l / 2) = L at *
      have hq := puts_ok (put := putF n (usesV n outs) (f + 1)) hs (fun s z hs hz => ih s z hs (a2 z hz).1 (by have := (a2 z hz).2; omega) (by have := (a2 z hz).2; omega)) L.length (Nat.le_refl _)
      generalize putsTo (putF n (usesV n outs) (f + 1)) s L L.length = q at *
      have hA := allB_ok q.1.length q.2.N q.1 hq.ok.tidy hq.has (by rw [hq.len]; exact a1) (Nat.le_succ _)
      have hAl := hA.len
      have hv : ∀ ins, ofL (values (allB q.1.length q.2.N q.1).2 ins) (allB q.1.length q.2.N q.1).1 = (values n ins).getD (l / 2).toNat false := fun ins => by
        rw [hA.val ins, ← a3 ins]; exact all_pair hq.len fun j z l' h1 h2 => hq.val ins j z l' h1 h2
      have hd : lvL (allB q.1.length q.2.N q.1).2 (allB q.1.length q.2.N q.1).1 ≤ (levels n).getD (l / 2).toNat 0 := by
        have := hA.deep _ (Nat.le_trans (sum_pair hq.len fun j z l' h1 h2 => Nat.pow_le_pow_right (by decide) (by have := hq.deep j z l' h1 h2; omega)) a4)
        have p1 := lv_pos n (l / 2).toNat
        omega
      have hfar : q.2.O.getD (l / 2).toNat (-1) = s.O.getD (l / 2).toNat (-1) := hq.far _ fun z hz => by have := (a2 z hz).2; omega
      have hlen := hq.ok.len
      have hgA := hA.grow
      have hhA := hA.has
      generalize allB q.1.length q.2.N q.1 = A at *
      have hvl : (l / 2).toNat < q.2.O.length := by omega
      have hA0 : 0 ≤ A.1 := hhA.1
      have hO : ∀ u, (q.2.O.set (l / 2).toNat A.1).getD u (-1) = if (l / 2).toNat = u then A.1 else q.2.O.getD u (-1) := fun u => set_getD hvl
      refine ⟨⟨?_, hq.ok.grow.trans hgA, fun v => ?_, fun v hvn hvg => ?_, fun ins v => ?_, fun v => ?_, ?_⟩, hq.grow.trans hgA, fun v hv0 => ?_, fun v hvf => ?_, negB_has l hhA, fun ins => negB_val ins hA0 h0 (hv ins), by rw [negB_lv]; exact hd⟩
      · show (q.2.O.set _ _).length = _; rw [List.length_set]; exact hlen
      · show 0 ≤ (q.2.O.set _ _).getD v (-1) → hasL A.2 ((q.2.O.set _ _).getD v (-1))
        rw [hO]
        by_cases he : (l / 2).toNat = v
        · rw [if_pos he]; exact fun _ => hhA
        · rw [if_neg he]; exact fun h => hasL_mono (hq.ok.has v h) hgA.grow.len
      · show 0 ≤ (q.2.O.set _ _).getD v (-1)
        rw [hO]
        split
        · exact hA0
        · exact hq.ok.inp v hvn hvg
      · show 0 ≤ (q.2.O.set _ _).getD v (-1) → ofL (values A.2 ins) ((q.2.O.set _ _).getD v (-1)) = _
        rw [hO]
        by_cases he : (l / 2).toNat = v
        · rw [if_pos he, ← he]; exact fun _ => hv ins
        · rw [if_neg he]; exact fun h => by rw [hgA.grow.of ins (hq.ok.has v h)]; exact hq.ok.val ins v h
      · show 0 ≤ (q.2.O.set _ _).getD v (-1) → lvL A.2 ((q.2.O.set _ _).getD v (-1)) ≤ _
        rw [hO]
        by_cases he : (l / 2).toNat = v
        · rw [if_pos he, ← he]; exact fun _ => hd
        · rw [if_neg he]; exact fun h => by rw [lvL_grow hgA.grow (hq.ok.has v h)]; exact hq.ok.deep v h
      · show A.2.length ≤ (n.length + 1) * cntO (q.2.O.set _ _)
        rw [cntO_set hvl (by rw [hfar]; exact h1) hA0, Nat.mul_add, Nat.mul_one]
        have := hq.ok.size
        have := hq.len
        omega
      · show (q.2.O.set _ _).getD v (-1) = _
        rw [hO, if_neg (fun he => h1 (by subst he; exact hv0)), hq.old v hv0]
      · show (q.2.O.set _ _).getD v (-1) = _
        rw [hO, if_neg (by omega)]
        exact hq.far v fun z hz => by have := (a2 z hz).2; omega

def iniO (n : List (Int × Int)) : Nat → List Int
  | 0 => [0]
  | k + 1 => iniO n k ++ [if (n.getD k (0, 0)).1 < 0 then 2 * ((cnt n k : Int) + 1) else -1]
theorem iniO_len (n : List (Int × Int)) : ∀ k, (iniO n k).length = k + 1
  | 0 => rfl
  | k + 1 => by rw [iniO, List.length_append, iniO_len n k]; rfl
theorem iniO_get {n : List (Int × Int)} : ∀ k (v : Nat), (iniO n k).getD v (-1) = if v = 0 then 0 else if v ≤ k ∧ (n.getD (v - 1) (0, 0)).1 < 0 then 2 * ((cnt n (v - 1) : Int) + 1) else -1
  | 0, v => by
    match v with
    | 0 => rfl
    | v + 1 => rw [if_neg (by omega), if_neg (by omega)]; simp [iniO]
  | k + 1, v => by
    have ih := iniO_get (n := n) k v
    have hl := iniO_len n k
    rw [iniO, List.getD]
    by_cases hv : v ≤ k
    · rw [List.getElem?_append_left (by omega), ← List.getD, ih]
      by_cases h0 : v = 0
      · rw [if_pos h0, if_pos h0]
      · rw [if_neg h0, if_neg h0]
        by_cases h2 : (n.getD (v - 1) (0, 0)).1 < 0
        · rw [if_pos ⟨hv, h2⟩, if_pos ⟨by omega, h2⟩]
        · rw [if_neg (fun h => h2 h.2), if_neg (fun h => h2 h.2)]
    · rw [if_neg (show ¬ v = 0 by omega), List.getElem?_append_right (by omega), hl]
      by_cases hk : v = k + 1
      · subst hk
        rw [Nat.sub_self, List.getElem?_cons_zero, Option.getD_some, Nat.add_sub_cancel]
        by_cases h2 : (n.getD k (0, 0)).1 < 0
        · rw [if_pos h2, if_pos ⟨Nat.le_refl _, h2⟩]
        · rw [if_neg h2, if_neg (fun h => h2 h.2)]
      · rw [List.getElem?_eq_none (by simp; omega), if_neg (fun h => by have := h.1; omega)]; rfl
theorem bcnt_in {n : List (Int × Int)} {k : Nat} {x : Int × Int} (h : n[k]? = some x) (h0 : x.1 < 0) : cnt n (k + 1) = cnt n k + 1 := by rw [cnt, h]; exact if_pos h0
theorem bcnt_gate {n : List (Int × Int)} {k : Nat} {x : Int × Int} (h : n[k]? = some x) (h0 : 0 ≤ x.1) : cnt n (k + 1) = cnt n k := by rw [cnt, h]; exact if_neg (by omega)
theorem bcnt_mono {n : List (Int × Int)} {i : Nat} : ∀ j, i ≤ j → cnt n i ≤ cnt n j
  | 0, h => by obtain rfl : i = 0 := by omega
               exact Nat.le_refl _
  | j + 1, h => by
    by_cases he : i = j + 1
    · rw [he]; exact Nat.le_refl _
    · have := bcnt_mono (n := n) j (show i ≤ j by omega)
      rw [cnt]
      split
      · split <;> omega
      · exact this
theorem cntO_ini (n : List (Int × Int)) : ∀ k, k ≤ n.length → cnt n k + 1 ≤ cntO (iniO n k)
  | 0, _ => by
    show 0 + 1 ≤ cntO [0]
    decide
  | k + 1, h => by
    obtain ⟨x, hx⟩ := getI n (show k < n.length by omega)
    have ih := cntO_ini n k (by omega)
    unfold cntO at ih ⊢
    rw [iniO, List.countP_append, getD_of hx]
    by_cases h0 : x.1 < 0
    · rw [bcnt_in hx h0, if_pos h0]
      have : List.countP (fun x : Int => decide (0 ≤ x)) [2 * ((cnt n k : Int) + 1)] = 1 := by
        rw [List.countP_cons, List.countP_nil, if_pos (decide_eq_true (by omega))]
      omega
    · rw [bcnt_gate hx (by omega)]; omega
noncomputable def iniS (n : List (Int × Int)) : BSt := ⟨List.replicate (cnt n n.length) (-1, 0), iniO n n.length⟩
theorem ini_ok {n : List (Int × Int)} (hg : GoodNet n) : BOk n (iniS n) := by
  have key : ∀ v : Nat, 0 ≤ (iniO n n.length).getD v (-1) → v = 0 ∧ (iniO n n.length).getD v (-1) = 0 ∨ ∃ x, v ≤ n.length ∧ 1 ≤ v ∧ n[v - 1]? = some x ∧ x.1 < 0 ∧ (iniO n n.length).getD v (-1) = 2 * ((cnt n (v - 1) : Int) + 1) ∧ cnt n (v - 1) < cnt n n.length := by
    intro v hv
    rw [iniO_get] at hv ⊢
    by_cases h0 : v = 0
    · rw [if_pos h0]; exact .inl ⟨h0, rfl⟩
    · rw [if_neg h0] at hv ⊢
      by_cases h2 : v ≤ n.length ∧ (n.getD (v - 1) (0, 0)).1 < 0
      · rw [if_pos h2]
        obtain ⟨x, hx⟩ := getI n (show v - 1 < n.length by omega)
        have hx0 := h2.2
        rw [getD_of hx] at hx0
        refine .inr ⟨x, h2.1, by omega, hx, hx0, rfl, ?_⟩
        have h3 := bcnt_in hx hx0
        have h4 := bcnt_mono (n := n) (i := v - 1 + 1) n.length (by omega)
        omega
      · rw [if_neg h2] at hv; omega
  refine ⟨iniO_len n _, .refl _, fun v hv => ?_, fun v hvn hvg => ?_, fun ins v hv => ?_, fun v hv => ?_, ?_⟩
  · show hasL (List.replicate (cnt n n.length) (-1, 0)) ((iniO n n.length).getD v (-1))
    rcases key v hv with ⟨rfl, e⟩ | ⟨x, h1, h2, h3, h4, e, h5⟩
    · rw [e]; unfold hasL; omega
    · rw [e]; unfold hasL; rw [List.length_replicate]; omega
  · show 0 ≤ (iniO n n.length).getD v (-1)
    rw [iniO_get]
    by_cases h0 : v = 0
    · rw [if_pos h0]; exact Int.le_refl _
    · obtain ⟨x, hx⟩ := getI n (show v - 1 < n.length by omega)
      have hneg : x.1 < 0 := by
        refine Classical.byContradiction fun h => hvg ⟨by omega, by omega, ?_⟩
        rw [show ((v : Int) - 1).toNat = v - 1 by omega, getD_of hx]; omega
      rw [if_neg h0, if_pos ⟨hvn, by rw [getD_of hx]; exact hneg⟩]; omega
  · show ofL (values (List.replicate (cnt n n.length) (-1, 0)) ins) ((iniO n n.length).getD v (-1)) = _
    rcases key v hv with ⟨rfl, e⟩ | ⟨x, h1, h2, h3, h4, e, h5⟩
    · rw [e, ofL_zero, values_zero]
    · rw [e, only_ins _ _ h5]
      have := values_in ins h3 h4
      rw [show v - 1 + 1 = v by omega] at this
      rw [this]
  · show lvL (List.replicate (cnt n n.length) (-1, 0)) ((iniO n n.length).getD v (-1)) ≤ _
    have p := lv_pos n v
    rcases key v hv with ⟨rfl, e⟩ | ⟨x, h1, h2, h3, h4, e, h5⟩
    · rw [e]
      have : lvL (List.replicate (cnt n n.length) ((-1, 0) : Int × Int)) 0 = 0 := lv_zero _
      omega
    · rw [e]
      unfold lvL
      have h6 : (List.replicate (cnt n n.length) ((-1, 0) : Int × Int))[cnt n (v - 1)]? = some (-1, 0) := by rw [List.getElem?_replicate, if_pos h5]
      rw [show (2 * ((cnt n (v - 1) : Int) + 1) / 2).toNat = cnt n (v - 1) + 1 by omega, lv_input h6 (by decide)]
      exact p
  · show (List.replicate (cnt n n.length) ((-1, 0) : Int × Int)).length ≤ (n.length + 1) * cntO (iniO n n.length)
    rw [List.length_replicate]
    have h1 := cntO_ini n n.length (Nat.le_refl _)
    have h2 : cntO (iniO n n.length) * 1 ≤ cntO (iniO n n.length) * (n.length + 1) := Nat.mul_le_mul_left _ (by omega)
    rw [Nat.mul_comm (n.length + 1)]
    omega
/-- All outs put. -/
noncomputable def balV (n : List (Int × Int)) (outs : List Int) : List Int × BSt := putsTo (putF n (usesV n outs) (n.length + 1)) (iniS n) outs outs.length
theorem bal_ok {n : List (Int × Int)} {outs : List Int} (hg : GoodNet n) (ho : ∀ l ∈ outs, 0 ≤ l ∧ l ≤ 2 * (n.length : Int) + 1) : ∀ k, k ≤ outs.length → BPuts n (iniS n) outs k (putsTo (putF n (usesV n outs) (n.length + 1)) (iniS n) outs k) :=
  fun k hk => puts_ok (ini_ok hg) (fun s l hs hl => put_ok hg n.length s l hs (ho l hl).1 (by have := (ho l hl).2; omega) (by have := (ho l hl).2; omega)) k hk
theorem BOk.small {n : List (Int × Int)} {s : BSt} (h : BOk n s) (hn : n.length ≤ 100) : s.N.length ≤ 10201 := Nat.le_trans h.bound (Nat.mul_le_mul (show n.length + 1 ≤ 101 by omega) (show n.length + 1 ≤ 101 by omega))
theorem BOk.own {n : List (Int × Int)} {s : BSt} (h : BOk n s) (hn : n.length ≤ 100) {l : Int} (h1 : 0 ≤ ownO s.O l) : 0 ≤ ownO s.O l ∧ ownO s.O l ≤ 100000 := by
  have h2 := h.has _ h1
  have h3 := h.small hn
  have h4 : ownO s.O l < 2 * ((s.N.length : Int) + 1) := h2.2
  exact ⟨h1, by omega⟩
end Go.Proofs.Ythpnahapiodflaa
namespace Go.Lt
open Go.RowKit
set_option linter.unusedVariables false
set_option linter.unusedSimpArgs false

section
variable {P : Program}
theorem run_sliceLH {T : Tab} (hT : OkTab P T) {t : TypeId} {ti : TI} {el : TypeId} {ei : TI} {ao : Option Addr} {n cap : Nat} {kl kh : IntKind} {l h : Int} (ht : tget T t = some ti) (htd : ti.desc = .slice el) (he : tget T el = some ei) (h0 : 0 ≤ l ∧ l ≤ h ∧ h ≤ cap) (w : World) :
    (Instr.sliceAt t (.slice ao n cap) (some (.int kl l)) (some (.int kh h)) none).run P w = .ok (.slice (if cap = l.toNat then ao else ao.map (·.add (l.toNat * ei.size))) (h.toNat - l.toNat) (cap - l.toNat)) w := by
  have h1 := run_underlying' (hT.at ht); rw [htd] at h1
  have h2 := run_sizeOf' (hT.at he)
  obtain ⟨h3, h4, h5⟩ := h0
  have h6 : 0 ≤ h := Int.le_trans h3 h4
  simp [Instr.sliceAt, Instr.slice, h1, h2, Instr.sliceBounds, Instr.sliceBound, asIntOf, h3, h4, h5, h6, Int.max_eq_left h6, Int.not_lt.2 h4]
theorem run_sliceLHM {T : Tab} (hT : OkTab P T) {t : TypeId} {ti : TI} {el : TypeId} {ei : TI} {ao : Option Addr} {n cap : Nat} {kl kh km : IntKind} {l h m : Int} (ht : tget T t = some ti) (htd : ti.desc = .slice el) (he : tget T el = some ei) (h0 : 0 ≤ l ∧ l ≤ h ∧ h ≤ m ∧ m ≤ cap) (w : World) :
    (Instr.sliceAt t (.slice ao n cap) (some (.int kl l)) (some (.int kh h)) (some (.int km m))).run P w = .ok (.slice (if m.toNat = l.toNat then ao else ao.map (·.add (l.toNat * ei.size))) (h.toNat - l.toNat) (m.toNat - l.toNat)) w := by
  have h1 := run_underlying' (hT.at ht); rw [htd] at h1
  have h2 := run_sizeOf' (hT.at he)
  obtain ⟨h3, h4, h5, h7⟩ := h0
  have h6 : 0 ≤ h := Int.le_trans h3 h4
  have h8 : 0 ≤ m := Int.le_trans h6 h5
  simp [Instr.sliceAt, Instr.slice, h1, h2, Instr.sliceBounds, Instr.sliceBound, asIntOf, h3, h4, h5, h6, h7, h8, Int.max_eq_left h6, Int.max_eq_left h8, Int.not_lt.2 h4, Int.not_lt.2 h5]
end
section rules
variable {P : Program} {N : Nat} {e : Env} {w : World} {Q : Exit → Act → World → Prop} {ops : List Oper} {l : List Oper} {T : Tab}
  {d : Nat} {tt : TypeId} {ps : String} {af : Array Edge} {g : Option (Nat × Bool)} {t : TypeId} {α : Type} {s : Nat} {enc : α → List Value} {B : Nat} {ti ei : TI} {el : TypeId}
theorem subA_some (a : Addr) (cap i s : Nat) : subA (some a) cap i s ≠ none := by
  unfold subA; split
  · exact fun h => by cases h
  · exact fun h => by cases h
/-- own[l:h] -/
theorem WL.sliceLH {x y z : Operand} {a : Option Addr} {n cap : Nat} {kl kh : IntKind} {lo h : Int} (hT : OkTab P T) (hg : gate ops e g = some true) (hd : Nat.blt d N = true)
    (hx : ev e x = some (.slice a n cap)) (hy : ev e y = some (.int kl lo)) (hz : ev e z = some (.int kh h)) (ht : tget T t = some ti) (htd : ti.desc = .slice el) (he : tget T el = some ei) (hs : ei.size = s) (h0 : 0 ≤ lo ∧ lo ≤ h ∧ h ≤ cap)
    (k : WL P N ops.toArray l ((d, .slice (subA a cap lo.toNat s) (h.toNat - lo.toNat) (cap - lo.toNat)) :: e) w Q) : WL P N ops.toArray (⟨some d, .slice t x (some y) (some z) none, tt, ps, af, g⟩ :: l) e w Q := by
  refine WL.step hg hd (Yields.in ?_) k
  intro ρ hρ w'
  have := run_sliceLH (P := P) hT (t := t) (ao := a) (n := n) (cap := cap) (kl := kl) (kh := kh) ht htd he h0 w'
  rw [hs] at this
  simp [execOp, hρ _ _ hx, hρ _ _ hy, hρ _ _ hz, this, subA]
/-- own[l:h:m]; what it is plays no part -/
theorem WL.sliceLHM {x y z u : Operand} {a : Option Addr} {n cap : Nat} {kl kh km : IntKind} {lo h m : Int} (hT : OkTab P T) (hg : gate ops e g = some true) (hd : Nat.blt d N = true)
    (hx : ev e x = some (.slice a n cap)) (hy : ev e y = some (.int kl lo)) (hz : ev e z = some (.int kh h)) (hu : ev e u = some (.int km m)) (ht : tget T t = some ti) (htd : ti.desc = .slice el) (he : tget T el = some ei) (h0 : 0 ≤ lo ∧ lo ≤ h ∧ h ≤ m ∧ m ≤ cap)
    (k : ∀ v, WL P N ops.toArray l ((d, v) :: e) w Q) : WL P N ops.toArray (⟨some d, .slice t x (some y) (some z) (some u), tt, ps, af, g⟩ :: l) e w Q := by
  refine WL.step hg hd (Yields.in ?_) (k (.slice (if m.toNat = lo.toNat then a else a.map (·.add (lo.toNat * ei.size))) (h.toNat - lo.toNat) (m.toNat - lo.toNat)))
  intro ρ hρ w'
  have := run_sliceLHM (P := P) hT (t := t) (ao := a) (n := n) (cap := cap) (kl := kl) (kh := kh) (km := km) ht htd he h0 w'
  simp [execOp, hρ _ _ hx, hρ _ _ hy, hρ _ _ hz, hρ _ _ hu, this]
/-- 'append(own[:i], ys...)' where there is room. -/
theorem WL.appendIn {x y : Operand} {gb i cap m c : Nat} {b : Option Addr} {xs ys : List α} {wo w1 w0 : World} (hT : OkTab P T) (hE : Enc s enc) (hg : gate ops e g = some true) (hd : Nat.blt d N = true)
    (hx : ev e x = some (.slice (some ⟨gb, 0, none⟩) i cap)) (hy : ev e y = some (.slice b m c)) (ht : tget T t = some ti) (htd : ti.desc = .slice el) (he : tget T el = some ei) (hs : ei.size = s)
    (ho : Own s enc el B wo (some ⟨gb, 0, none⟩) cap xs) (hwo : Ext wo w) (hi : i + m ≤ xs.length) (hr : Row s enc w1 b ys) (hw1 : Ext w1 w) (hm : ys.length = m) (hb : b ≠ none) (hB : w0.heap.size = B) (hX : Ext w0 w)
    (k : ∀ w', Own s enc el B w' (some ⟨gb, 0, none⟩) cap (xs.take i ++ ys ++ xs.drop (i + m)) → Ext w0 w' → Upd B (some ⟨gb, 0, none⟩) w w' → WL P N ops.toArray l ((d, .slice (some ⟨gb, 0, none⟩) (i + m) cap) :: e) w' Q) :
    WL P N ops.toArray (⟨some d, .call ⟨.builtin .append, ⟨[x, y]⟩, ⟨[t, t]⟩⟩, tt, ps, af, g⟩ :: l) e w Q := by
  obtain ⟨j, hj1, hj2, hj3, hj4⟩ := (hT.at he).info
  have hti := (hT.at ht).1
  rw [htd] at hti
  obtain ⟨ad, rfl⟩ := Option.ne_none_iff_exists'.1 hb
  have ho' := ho.ext hwo
  have hO := ho'
  have hr' := hr.ext hw1
  have hpos := hE.pos
  have hcapx := ho.capLe
  rcases ho'.2 with ⟨g1, g2⟩ | ⟨g', c', cur, g1, g2, g3, g4, g5, g6, g7⟩
  · simp at g1
  simp only [Value.slice.injEq, Option.some.injEq, Addr.mk.injEq, and_true, true_and] at g1
  obtain ⟨rfl, rfl⟩ := g1
  subst hm
  have hnews : ∀ q i u, (ys.flatMap enc)[i]? = some u → (at' w q).cell? (ad.add i) = some u := by
    intro q i u hu
    have hlt : i < ys.length * s := by have := (List.getElem?_eq_some_iff.1 hu).1; rwa [length_flatMap' hE.len] at this
    have hdiv : i / s < ys.length := by rw [Nat.div_lt_iff_lt_mul hpos]; exact hlt
    have hyy : ys[i / s]? = some ys[i / s] := by simp [hdiv]
    obtain ⟨bb, off, hbb, hc⟩ := hr'.elem _ _ hyy
    simp only [Option.some.injEq] at hbb
    subst hbb
    have hmod : i % s < s := Nat.mod_lt _ hpos
    have h1 := getElem?_flatMap' hE.len ys (i / s) (i % s) _ hyy hmod
    have h2 : i / s * s + i % s = i := by rw [Nat.mul_comm]; exact Nat.div_add_mod i s
    rw [h2, hu] at h1
    have key : ∀ (L : List Value) (o jj : Nat) (u : Value), Cells w bb o L → L[jj]? = some u → w.cell? ⟨bb, o + jj, none⟩ = some u := by
      intro L
      induction L with
      | nil => intro o jj u _ h; simp at h
      | cons v r ih =>
        intro o jj u hcc h
        cases jj with
        | zero => simp only [List.getElem?_cons_zero, Option.some.injEq] at h; subst h; exact hcc.1
        | succ jj => have := ih (o + 1) jj u hcc.2 (by simpa using h); rwa [show o + 1 + jj = o + (jj + 1) by omega] at this
    have := key _ _ _ u hc h1.symm
    rw [Addr_add_none]
    rw [show off + i / s * s + i % s = off + i by omega] at this
    exact this
  have hone : ∀ u ∈ ys.flatMap enc, u.oneCell' = true := by
    intro u hu
    obtain ⟨z, _, hz'⟩ := List.mem_flatMap.1 hu
    exact hE.one z u hz'
  have hlY : (ys.flatMap enc).length = ys.length * s := length_flatMap' hE.len _
  have hle1 : (i + ys.length) * s ≤ xs.length * s := Nat.mul_le_mul_right s hi
  have hle2 : xs.length * s ≤ cap * s := Nat.mul_le_mul_right s g4
  rw [Nat.add_mul] at hle1
  refine WL.eff (v := .slice (some ⟨gb, 0, none⟩) (i + ys.length) cap) (w' := fun m => (at' w m).setRow gb (cur.toList.take (i * s) ++ ys.flatMap enc ++ cur.toList.drop (i * s + ys.length * s)).toArray) hg hd ?_ (fun m => ?_)
  · intro ρ hρ m
    have hr := run_append_room (P := P) (at' w m) t tt el j hti hj1 gb i cap cur g3 ad ys.length c (ys.flatMap enc) (by rw [hlY, hj2, hs]) (hnews m) hone (by omega) (by rw [hlY, hj2, hs, g6]; omega)
    simp only [execOp, resolve, invoke, builtin, Sem.run_bind, Sem.run_pure, Result.andThen_ok, List.map_toArray, List.map_cons, List.map_nil, hρ _ _ hx, hρ _ _ hy]
    rw [hr, hlY, hj2, hs]
    rfl
  · have hU : Upd B (some ⟨gb, 0, none⟩) w ((at' w m).setRow gb (cur.toList.take (i * s) ++ ys.flatMap enc ++ cur.toList.drop (i * s + ys.length * s)).toArray) :=
      ⟨⟨rfl, rfl, rfl, by simp [World.setRow], fun k hk hne => setRow_other (at' w m) gb k _ (fun hh => hne (by rw [hh]; rfl))⟩, fun k hk => (hO.blk_lt k hk).1⟩
    have hlen : (xs.take i ++ ys ++ xs.drop (i + ys.length)).length = xs.length := by simp only [List.length_append, List.length_take, List.length_drop]; omega
    refine k _ ?_ (hU.ext hX (Nat.le_of_eq hB)) hU
    refine ⟨by rw [length_flatMap' hE.len], .inr ⟨gb, cap, _, by rw [hlen], g2, setRow_heap (at' w m) gb cur _ el _ g3, by rw [hlen]; exact g4, g5, ?_, ?_⟩⟩
    · simp only [List.size_toArray, List.length_append, List.length_take, List.length_drop, Array.length_toList, hlY, g6]
      omega
    · simp only [hlen]
      rw [splice_take cur.toList _ (i * s) (ys.length * s) (xs.length * s) hlY (by omega) (by simp [g6]; exact hle2), g7, List.flatMap_append, List.flatMap_append]
      have e1 : xs.flatMap enc = (xs.take i).flatMap enc ++ (xs.drop i).flatMap enc := by rw [← List.flatMap_append, List.take_append_drop]
      have e2 : xs.flatMap enc = (xs.take (i + ys.length)).flatMap enc ++ (xs.drop (i + ys.length)).flatMap enc := by rw [← List.flatMap_append, List.take_append_drop]
      congr 1
      · congr 1
        rw [e1, List.take_left' (by rw [length_flatMap' hE.len, List.length_take]; congr 1; omega)]
      · rw [e2, List.drop_left' (by rw [length_flatMap' hE.len, List.length_take, ← Nat.add_mul]; congr 1; omega)]
end rules
end Go.Lt
namespace Go.Lt
open Go.RowKit
set_option linter.unusedVariables false
theorem Sep.cons_iff {B : Nat} {w : World} {p : Piece} {ps : List Piece} : Sep B w (p :: ps) ↔ (p.P w ∧ ∀ k, p.b = some k → B ≤ k ∧ k < w.heap.size) ∧ (∀ q ∈ ps, p.b = none ∨ p.b ≠ q.b) ∧ (∀ q ∈ ps, q.b = none ∨ q.b ≠ p.b) ∧ Sep B w ps := by
  constructor
  · intro h
    refine ⟨h.holds 0 p rfl, fun q hq => ?_, fun q hq => ?_, ⟨fun i q hi => h.holds (i + 1) q hi, fun i j q r h1 h2 hne => h.apart (i + 1) (j + 1) q r h1 h2 (by omega)⟩⟩
    · obtain ⟨i, hi⟩ := List.mem_iff_getElem?.1 hq
      exact h.apart 0 (i + 1) p q rfl hi (by omega)
    · obtain ⟨i, hi⟩ := List.mem_iff_getElem?.1 hq
      exact h.apart (i + 1) 0 q p hi rfl (by omega)
  · rintro ⟨h1, h2, h3, h4⟩
    refine ⟨fun i q hi => ?_, fun i j q r hi hj hne => ?_⟩
    · cases i with
      | zero => cases hi; exact h1
      | succ i => exact h4.holds i q hi
    · cases i with
      | zero =>
        cases hi
        cases j with
        | zero => exact absurd rfl hne
        | succ j => exact h2 r (List.mem_of_getElem? (i := j) hj)
      | succ i =>
        cases j with
        | zero => cases hj; exact h3 q (List.mem_of_getElem? (i := i) hi)
        | succ j => exact h4.apart i j q r hi hj (by omega)
theorem Sep.ofPerm {B : Nat} {w : World} {ps qs : List Piece} (hp : ps.Perm qs) : Sep B w ps → Sep B w qs := by
  induction hp with
  | nil => exact id
  | cons x hp ih =>
    intro h
    obtain ⟨h1, h2, h3, h4⟩ := Sep.cons_iff.1 h
    exact Sep.cons_iff.2 ⟨h1, fun q hq => h2 q (hp.mem_iff.2 hq), fun q hq => h3 q (hp.mem_iff.2 hq), ih h4⟩
  | swap x y l =>
    intro h
    obtain ⟨h1, h2, h3, h4⟩ := Sep.cons_iff.1 h
    obtain ⟨k1, k2, k3, k4⟩ := Sep.cons_iff.1 h4
    refine Sep.cons_iff.2 ⟨k1, fun q hq => ?_, fun q hq => ?_, Sep.cons_iff.2 ⟨h1, fun q hq => h2 q (List.mem_cons_of_mem _ hq), fun q hq => h3 q (List.mem_cons_of_mem _ hq), k4⟩⟩
    · rcases List.mem_cons.1 hq with rfl | hq
      · exact h3 x (List.mem_cons_self ..)
      · exact k2 q hq
    · rcases List.mem_cons.1 hq with rfl | hq
      · exact h2 x (List.mem_cons_self ..)
      · exact k3 q hq
  | trans _ _ ih1 ih2 => exact fun h => ih2 (ih1 h)
end Go.Lt
namespace Go.Proofs.Ythpnahapiodflaa
open Go Go.Lt Go.RowKit
set_option linter.unusedVariables false
set_option linter.unusedSimpArgs false
set_option maxRecDepth 20000

theorem Own.some' {α : Type} {s : Nat} {enc : α → List Value} {el : TypeId} {B : Nat} {w : World} {a : Option Addr} {cap : Nat} {l : List α} (h : Own s enc el B w a cap l) (hl : 1 ≤ l.length) : ∃ g, a = some ⟨g, 0, none⟩ := by
  rcases h.2 with ⟨_, h2⟩ | ⟨g, c, cur, h1, _⟩
  · omega
  · simp only [Value.slice.injEq] at h1; exact ⟨g, h1.1⟩
set_option maxHeartbeats 4000000 in
theorem slices_DeleteO (w0 w : World) (a : Option Addr) (cap : Nat) (L : List Int) (i : Nat) (hX : Ext w0 w) (hO : Own 1 encI 3 w0.heap.size w a cap L) (hi : i < L.length) (hl : L.length ≤ 1000000) :
    Lt.Spec Try.prog 168 [.slice a L.length cap, .int .i64 i, .int .i64 ((i : Int) + 1)] w (fun v w' => v = .slice a (L.eraseIdx i).length cap ∧ Own 1 encI 3 w0.heap.size w' a cap (L.eraseIdx i) ∧ Ext w0 w' ∧ But w (blk a) w') := by
  obtain ⟨gb, rfl⟩ := Own.some' hO (by omega)
  have hcap := hO.capLe
  have hel : (L.eraseIdx i).length = L.length - 1 := List.length_eraseIdx_of_lt hi
  have R := hO.row encI_ok
  have RD : Row 1 encI w (subA (some ⟨gb, 0, none⟩) cap ((i : Int) + 1).toNat 1) (L.drop (i + 1)) := by
    have := R.dropAt (i + 1) cap hcap
    rw [Nat.mul_one] at this
    rw [show ((i : Int) + 1).toNat = i + 1 by omega]
    unfold subA
    rw [Nat.mul_one]
    exact this
  have hdl : (L.drop (i + 1)).length = L.length - ((i : Int) + 1).toNat := by rw [List.length_drop]; omega
  refine Spec.of _ Try.func168 rfl Try.ntmps168 (by kernel_rfl) rfl ?_
  repeat' (first
    | ((apply WL.sliceLHM tOk; exact rfl; exact rfl; exact rfl; exact rfl; exact rfl; exact rfl; exact rfl; exact rfl; exact rfl; omega; intro v9))
    | (show WL _ _ _ _ _ _ _; first | apply WL.nil | (refine WL.au (k := ?_)))
    | (show Z _ _ _ _ _; apply Z.then_normal)
    | (show W _ _ _ _ _ _; first | apply W.seq | apply W.region)
    | fail)
  refine W.condKF rfl (dec_false (by omega)) ?_
  repeat' (first
    | (show W _ _ (.region 5 _ _) _ _ _; apply W.regionGX (.fl true 0 (.fl true 1 (.fl true 2 (.fl true 3 (.fl true 4 (.fl true 5 (.br 6 (.fl true 7 .done) .stop))))))) [] tMix; kernel_rfl)
    | (apply FL.sliceH0 tOk; exact rfl; exact rfl; exact rfl; exact rfl; exact rfl; exact rfl; exact rfl; omega)
    | (apply FL.sliceL0 tOk; exact rfl; exact rfl; exact rfl; exact rfl; exact rfl; exact rfl; exact rfl; exact rfl; omega)
    | ((apply WL.appendIn tOk encI_ok; exact rfl; exact rfl; exact rfl; exact rfl; exact rfl; exact rfl; exact rfl; exact rfl; exact hO; exact (by (exact extA)); omega; exact RD; exact (by (exact extA)); exact hdl; exact subA_some _ _ _ _; exact rfl; exact Ext.trans hX (by (exact extA)); intro w1 hO' hX1 hU1))
    | (show SX _ _ _ _ _ _ _ _ _; first | (apply SX.done; intro w' hx) | (apply SX.fl0; exact rfl) | (apply SX.br1; exact rfl; intro w' hx))
    | (show FL _ _ _ _ _ _ _ _; apply FL.nilX)
    | (show FL _ _ _ _ _ _ _ _; (refine FL.au (k := ?_)))
    | (show Z _ _ _ _ _; (apply Z.sxL; exact rfl))
    | (show WL _ _ _ _ _ _ _; first | apply WL.nil | (refine WL.au (k := ?_)))
    | (show Z _ _ _ _ _; apply Z.then_normal)
    | (show W _ _ _ _ _ _; first | apply W.seq | apply W.region | apply W.skip)
    | fail)
  have hMl : (L.take ((i : Nat) : Int).toNat ++ L.drop (i + 1) ++ L.drop (((i : Nat) : Int).toNat + (L.length - ((i : Int) + 1).toNat))).length = ((L.length : Nat) : Int).toNat := by simp only [List.length_append, List.length_take, List.length_drop]; omega
  repeat' (first
    | ((apply WL.sliceLH (s := 1) tOk; exact rfl; exact rfl; exact rfl; exact rfl; exact rfl; exact rfl; exact rfl; exact rfl; exact rfl; omega))
    | ((apply WL.clearT (z := (0 : Int)) tOk encI_ok; exact rfl; exact rfl; exact rfl; exact rfl; exact rfl; exact rfl; exact rfl; exact hO'; exact (by (exact extA)); exact hMl; omega; exact rfl; exact (show Ext w0 _ from (by (exact extA))); intro w2 hO2 hX2 hU2))
    | (show WL _ _ _ _ _ _ _; first | apply WL.nil | (refine WL.au (k := ?_)))
    | (show Z _ _ _ _ _; apply Z.then_normal)
    | (show W _ _ _ _ _ _; first | apply W.seq | apply W.region | apply W.ret)
    | fail)
  have e : (L.take ((i : Nat) : Int).toNat ++ L.drop (i + 1) ++ L.drop (((i : Nat) : Int).toNat + (L.length - ((i : Int) + 1).toNat))).take (((((i : Nat) : Int).toNat + (L.length - ((i : Int) + 1).toNat) : Nat) : Int)).toNat = L.eraseIdx i := by
    rw [List.eraseIdx_eq_take_drop_succ, Int.toNat_natCast, Int.toNat_natCast, List.take_append_of_le_length (by rw [List.length_append, List.length_take, List.length_drop]; omega), List.take_of_length_le (by rw [List.length_append, List.length_take, List.length_drop]; omega)]
  have hO3 := hO2.take encI_ok (L.length - 1)
  rw [List.take_append_of_le_length (by rw [List.length_take, hMl]; omega), List.take_take, Nat.min_eq_left (by omega)] at hO3
  have e2 : (L.take ((i : Nat) : Int).toNat ++ L.drop (i + 1) ++ L.drop (((i : Nat) : Int).toNat + (L.length - ((i : Int) + 1).toNat))).take (L.length - 1) = L.eraseIdx i := by
    rw [← e]; congr 1; omega
  rw [e2] at hO3
  have e3 : ((i : Nat) : Int).toNat + (L.length - ((i : Int) + 1).toNat) = (L.eraseIdx i).length := by rw [hel]; omega
  rw [e3]
  refine Z.body1 Try.results168 rfl fun m => ⟨rfl, hO3.ext ((Ext.refl _).at m), hX2.at m, ?_⟩
  exact ((But.trans (But.trans (But.trans (But.ext (show Ext w _ from (by (exact extA)))) (But.upd hU1)) (But.ext (show Ext w1 _ from (by (exact extA))))) (But.upd hU2))).of_at m
theorem slices_IndexE (a : Option Addr) (cap : Nat) (L : List Int) (x : Int) (w : World) (R : Row 1 encI w a L) :
    Lt.Spec Try.prog 146 [.slice a L.length cap, .int .i64 x] w (fun v w' => (∃ z : Int, v = .int .i64 z) ∧ Ext w w') := by
  have hlen := R.len
  refine Spec.of _ Try.func146 rfl Try.ntmps146 (by kernel_rfl) rfl ?_
  repeat' (first
    | (show WL _ _ _ _ _ _ _; first | apply WL.nil | (refine WL.au (k := ?_)))
    | (show Z _ _ _ _ _; apply Z.then_normal)
    | (show W _ _ _ _ _ _; first | apply W.seq | apply W.region | apply W.block)
    | fail)
  refine W.loop1 L.length (fun k => k ≤ L.length) (fun k => [(0, .slice a L.length cap), (1, .int .i64 x), (7, .int .i64 L.length), (8, .int .i64 k)]) (Nat.zero_le _) (fun k h => h) ⟨rfl, rfl, rfl, rfl, trivial⟩ ?_
  rintro k hk
  by_cases hlt : k < L.length
  · obtain ⟨y, hy⟩ := getI L hlt
    repeat' (first
      | (show WL _ _ _ _ _ _ _; first | apply WL.nil | (refine WL.au (k := ?_)))
      | (show Z _ _ _ _ _; apply Z.then_normal)
      | (show W _ _ _ _ _ _; first | apply W.seq | apply W.region)
      | fail)
    refine W.condKT rfl (dec_true (by omega)) ?_
    repeat' (first
      | (show WL _ _ _ _ _ _ _; first | apply WL.nil | (refine WL.au (k := ?_)) | (apply WL.index tOk; exact rfl; exact rfl; exact rfl; exact rfl; exact rfl; exact rfl; exact rfl; exact rfl; assumption; (exact extA); exact rfl; omega; assumption; intro b off h; have hcc := h; first | (obtain ⟨h1, h2, h3, h4, h5, h6, _⟩ := h) | (obtain ⟨h1, h2, h3, _⟩ := h) | (obtain ⟨h1, h2, _⟩ := h) | (obtain ⟨h1, _⟩ := h)))
      | (show Z _ _ _ _ _; apply Z.then_normal)
      | (show W _ _ _ _ _ _; first | apply W.seq | apply W.region | apply W.block | apply W.skip)
      | fail)
    by_cases he : x = y
    · refine W.condKT rfl (dec_true he) ?_
      repeat' (first
        | (show WL _ _ _ _ _ _ _; first | apply WL.nil | (refine WL.au (k := ?_)))
        | (show Z _ _ _ _ _; first | apply Z.then_normal | apply Z.then_ret | apply Z.block_ret)
        | (show W _ _ _ _ _ _; first | apply W.seq | apply W.region | apply W.ret)
        | fail)
      exact Z.body1 Try.results146 rfl fun m => ⟨⟨_, rfl⟩, (Ext.refl _).at m⟩
    · refine W.condKF rfl (dec_false he) ?_
      repeat' (first
        | (show WL _ _ _ _ _ _ _; first | apply WL.nil | (refine WL.au (k := ?_)))
        | (show Z _ _ _ _ _; first | apply Z.then_normal | apply Z.block_normal)
        | (show W _ _ _ _ _ _; first | apply W.region | apply W.skip)
        | fail)
      exact Z.again1 (by omega) ⟨rfl, rfl, rfl, rfl, trivial⟩
  · repeat' (first
      | (show WL _ _ _ _ _ _ _; first | apply WL.nil | (refine WL.au (k := ?_)))
      | (show Z _ _ _ _ _; apply Z.then_normal)
      | (show W _ _ _ _ _ _; first | apply W.seq | apply W.region)
      | fail)
    refine W.condKF rfl (dec_false (by omega)) ?_
    repeat' (first
      | (show WL _ _ _ _ _ _ _; first | apply WL.nil | (refine WL.au (k := ?_)))
      | (show Z _ _ _ _ _; first | apply Z.then_normal | apply Z.then_exit | apply Z.block_exit)
      | (show W _ _ _ _ _ _; first | apply W.seq | apply W.region | apply W.ret | apply W.exit)
      | fail)
    exact Z.body1 Try.results146 rfl fun m => ⟨⟨_, rfl⟩, (Ext.refl _).at m⟩
theorem andV_comm (N : List (Int × Int)) (x y : Int) : andV N x y = andV N y x := by
  unfold andV
  by_cases h : x ≤ y
  · by_cases h2 : y ≤ x
    · obtain rfl : x = y := by omega
      rfl
    · rw [if_pos h, if_neg h2]
  · rw [if_neg h, if_pos (by omega)]
theorem Sep.setNew {B : Nat} {w : World} {ps : List Piece} {p' : Piece} (i : Nat) (hS : Lt.Sep B w (p' :: ps)) : Lt.Sep B w (ps.set i p') := by
  refine Lt.Sep.pick (fun j => if j = i then 0 else j + 1) hS (fun j p h => ?_) (fun j k _ _ hne => ?_)
  · rw [List.getElem?_set] at h
    by_cases hj : i = j
    · rw [if_pos hj] at h
      rw [if_pos hj.symm]
      split at h
      · exact h
      · cases h
    · rw [if_neg hj] at h
      rw [if_neg (fun h => hj h.symm)]
      exact h
  · split <;> split <;> omega
/-- A builder: its store, and levels. -/
abbrev blP (B gb gs : Nat) (la : Option Addr) (lc : Nat) (V : List Int) : List Piece := [pcell gb #[.pointer (some ⟨gs, 0, none⟩), .slice la V.length lc] 116, prow 1 encI 3 B la lc V]
def LvOk (N : List (Int × Int)) (V : List Int) : Prop := V = levels N ∨ V.length ≤ N.length
theorem levels_len (N : List (Int × Int)) : (levels N).length = N.length + 1 := lto_len N N.length (Nat.le_refl _)
set_option maxHeartbeats 4000000 in
theorem balance_level (gs gb r cap lc : Nat) (a la : Option Addr) (N : List (Int × Int)) (V : List Int) (l : Int) (rest : List Piece) (w w0 : World) (hX : Ext w0 w) (hS : Lt.Sep w0.heap.size w (stN w0.heap.size gs a cap r N ++ (blP w0.heap.size gb gs la lc V ++ rest))) (hg : GoodNet N) (hN : N.length ≤ 1000000) (hV : LvOk N V) (hl : hasL N l) :
    Lt.Spec Try.prog 167 [.pointer (some ⟨gb, 0, none⟩), .int .i64 l] w (fun v w' => v = .int .i64 (lvL N l) ∧ Ext w0 w' ∧ ∃ la lc, Lt.Sep w0.heap.size w' (stN w0.heap.size gs a cap r N ++ (blP w0.heap.size gb gs la lc (levels N) ++ rest))) := by
  have hll := levels_len N
  have hCs := hS.cell (i := 0) rfl
  have hCb := hS.cell (i := 3) rfl
  obtain ⟨n0, n1, _⟩ := cells_heap hCb
  have hlx : 0 ≤ l / 2 ∧ (l / 2).toNat < (levels N).length := by unfold hasL at hl; omega
  obtain ⟨z, hz⟩ := getI (levels N) hlx.2
  have hzv : lvL N l = z := getD_of hz
  refine Spec.of _ Try.func167 rfl Try.ntmps167 (by kernel_rfl) rfl ?_
  repeat' (first
    | (apply FL.nilc; exact rfl; exact rfl; exact rfl)
    | (show W _ _ (.region 1 _ _) _ _ _; apply W.regionG (.fl true 0 (.fl true 1 (.fl true 2 (.fl true 5 (.fl true 6 (.fl true 7 (.fl false 3 (.fl true 4 (.fl false 8 (.fl false 9 (.fl true 10 .done))))))))))) [8, 9, 10] (Ext w) tMix; kernel_rfl)
    | (apply SG.flS; exact rfl; (focus ((intro m; first | assumption | (apply Ext.at; (exact extA)) | apply But.of_at; first | exact But.upd (by assumption) | exact But.ext (by (exact extA)) | (refine But.trans ?_ (But.upd (by assumption)); exact But.ext (by (exact extA))) | exact But.at _ _ _); done)); exact rfl; exact rfl; exact rfl; exact rfl; (focus (intro w9 hw9; exact aig_Len gs cap a N.length (.map (some r)) _ (Ext.heap hw9 hCs))))
    | (show WL _ _ _ _ _ _ _; first | apply WL.nil | (refine WL.au (k := ?_)))
    | (show SG _ _ _ _ _ _ _ _ _; first | apply SG.done | (apply SG.fl0; exact rfl) | (apply SG.fl1; exact rfl; (focus ((intro m; first | assumption | (apply Ext.at; (exact extA)) | apply But.of_at; first | exact But.upd (by assumption) | exact But.ext (by (exact extA)) | (refine But.trans ?_ (But.upd (by assumption)); exact But.ext (by (exact extA))) | exact But.at _ _ _); done))))
    | (show FL _ _ _ _ _ _ _ _; (apply FL.loadE tOk; exact rfl; exact rfl; exact rfl; exact rfl; exact rfl; assumption))
    | (show FL _ _ _ _ _ _ _ _; first | apply FL.nilS | (refine FL.au (k := ?_)))
    | (show Z _ _ _ _ _; apply Z.then_normal)
    | (show W _ _ _ _ _ _; first | apply W.seq | apply W.region)
    | fail)
  refine W.cutT (σ := (Option Addr × Nat) × World) (fun s => Ext w0 s.2 ∧ Lt.Sep w0.heap.size s.2 (stN w0.heap.size gs a cap r N ++ (blP w0.heap.size gb gs s.1.1 s.1.2 (levels N) ++ rest))) (fun _ => [(0, .pointer (some ⟨gb, 0, none⟩)), (1, .int .i64 l)]) (fun s => s.2) ?_ ?_
  · by_cases hv : V.length ≤ N.length
    · refine W.condKT rfl (dec_true (by omega)) ?_
      have hB := Below.size hX
      repeat' (first
        | (apply WL.nilc; exact rfl; exact rfl; exact rfl)
        | ((show WL _ _ _ (⟨_, .call ⟨.value (.func 103), _, _⟩, _, _, _, _⟩ :: _) _ _ _); apply WL.call; exact rfl; exact rfl; exact rfl; exact rfl; exact aig_NetV gs r cap a N (blP w0.heap.size gb gs la lc V ++ rest) _ w0 (hS.ext (by (exact extA))) (by omega); rintro v' w' ⟨hx, a', cap', rfl, hO⟩; (obtain ⟨wN, rfl⟩ : ∃ x, x = w' := ⟨_, rfl⟩; obtain ⟨aN, rfl⟩ : ∃ x, x = a' := ⟨_, rfl⟩; obtain ⟨cN, rfl⟩ : ∃ x, x = cap' := ⟨_, rfl⟩; obtain ⟨hON, rfl⟩ : ∃ x, x = hO := ⟨_, rfl⟩; obtain ⟨hxN, rfl⟩ : ∃ x, x = hx := ⟨_, rfl⟩))
        | ((show WL _ _ _ (⟨_, .call ⟨.value (.func 178), _, _⟩, _, _, _, _⟩ :: _) _ _ _); apply WL.call; exact rfl; exact rfl; exact rfl; exact rfl; exact aig_Levels aN cN N wN (hON.row encN_ok) hg (by omega); rintro v' w' ⟨hx, a', cap', rfl, hO⟩; (obtain ⟨wL, rfl⟩ : ∃ x, x = w' := ⟨_, rfl⟩; obtain ⟨aL, rfl⟩ : ∃ x, x = a' := ⟨_, rfl⟩; obtain ⟨cL, rfl⟩ : ∃ x, x = cap' := ⟨_, rfl⟩; obtain ⟨hOL, rfl⟩ : ∃ x, x = hO := ⟨_, rfl⟩; obtain ⟨hxL, rfl⟩ : ∃ x, x = hx := ⟨_, rfl⟩; have hXwN : Ext w wN := (by (exact extA)); have hSL : Lt.Sep w0.heap.size wL (stN w0.heap.size gs a cap r N ++ ([pcell gb #[.pointer (some ⟨gs, 0, none⟩), .slice la V.length lc] 116, prow 1 encI 3 w0.heap.size aL cL (levels N)] ++ rest)) := Sep.setNew 4 (Sep.newRow' (Sep.ext hS hXwN) hxL hOL (Below.size (hX.trans hXwN))); have hC2 := hSL.cell (i := 3) rfl))
        | ((apply WL.storeF (w0 := w0) tOk; exact rfl; exact rfl; exact rfl; exact rfl; exact hC2; exact (by (exact extA)); exact rfl; exact rfl; exact rfl; exact rfl; exact (by (exact extA)); exact (hSL.lt (i := 3) rfl rfl).1; intro w2 hb2 hX2 hU2))
        | (show WL _ _ _ _ _ _ _; first | apply WL.nil | (refine WL.au (k := ?_)))
        | (show W _ _ _ _ _ _; apply W.region)
        | fail)
      exact Z.cut ((aL, cL), w2) ⟨hX2, Sep.updCell (i := 3) rfl hU2 hb2 hSL (by (exact extA)) (Below.size (show Ext w0 wL from hX.trans (by (exact extA))))⟩ ⟨rfl, rfl, trivial⟩ rfl
    · have hVe : V = levels N := hV.resolve_right hv
      refine W.condKF rfl (dec_false (by omega)) ?_
      repeat' (first
        | (show W _ _ _ _ _ _; apply W.skip)
        | fail)
      exact Z.cut ((la, lc), w) ⟨hX, by rw [← hVe]; exact hS⟩ ⟨rfl, rfl, trivial⟩ rfl
  rintro ⟨⟨la2, lc2⟩, w2⟩ ⟨hX2, hS2⟩
  dsimp only at hX2 hS2 ⊢
  clear n0 n1 hCs hCb
  obtain ⟨n0, n1, _⟩ := cells_heap (hS2.cell (i := 3) rfl)
  have RL := (hS2.row (i := 4) rfl).row encI_ok
  repeat' (first
    | (apply WL.nilc; exact rfl; exact rfl; exact rfl)
    | (show WL _ _ _ _ _ _ _; first | apply WL.nil | (refine WL.au (k := ?_)) | (apply WL.index tOk; exact rfl; exact rfl; exact rfl; exact rfl; exact rfl; exact rfl; exact rfl; exact rfl; assumption; (exact extA); exact rfl; omega; assumption; intro b off h; have hcc := h; first | (obtain ⟨h1, h2, h3, h4, h5, h6, _⟩ := h) | (obtain ⟨h1, h2, h3, _⟩ := h) | (obtain ⟨h1, h2, _⟩ := h) | (obtain ⟨h1, _⟩ := h)))
    | (show Z _ _ _ _ _; apply Z.then_normal)
    | (show W _ _ _ _ _ _; first | apply W.seq | apply W.region | apply W.ret)
    | fail)
  exact Z.body1 Try.results167 rfl fun m => ⟨by rw [hzv], hX2.at m, la2, lc2, hS2.ext ((Ext.refl _).at m)⟩
set_option maxHeartbeats 8000000 in
theorem balance_take (gs gb r cap lc lp : Nat) (a la ll : Option Addr) (N : List (Int × Int)) (V L : List Int) (rest : List Piece) (w w0 : World) (hX : Ext w0 w) (hS : Lt.Sep w0.heap.size w (stN w0.heap.size gs a cap r N ++ (blP w0.heap.size gb gs la lc V ++ (prow 1 encI 3 w0.heap.size ll lp L :: rest)))) (hg : GoodNet N) (hN : N.length ≤ 1000000) (hV : LvOk N V) (hL : ∀ z ∈ L, hasL N z) (h1L : 1 ≤ L.length) (hLl : L.length ≤ 1000000) :
    Lt.Spec Try.prog 145 [.pointer (some ⟨gb, 0, none⟩), .slice ll L.length lp] w (fun v w' => v = .tuple #[.int .i64 (L.getD (fstP N L) 0), .slice ll (L.eraseIdx (fstP N L)).length lp] ∧ Ext w0 w' ∧ ∃ la lc, Lt.Sep w0.heap.size w' (stN w0.heap.size gs a cap r N ++ (blP w0.heap.size gb gs la lc (levels N) ++ (prow 1 encI 3 w0.heap.size ll lp (L.eraseIdx (fstP N L)) :: rest)))) := by
  obtain ⟨gl, rfl⟩ := Own.some' (hS.row (i := 5) rfl) h1L
  refine Spec.of _ Try.func145 rfl Try.ntmps145 (by kernel_rfl) rfl ?_
  repeat' (first
    | (show WL _ _ _ _ _ _ _; first | apply WL.nil | (refine WL.au (k := ?_)))
    | (show Z _ _ _ _ _; apply Z.then_normal)
    | (show W _ _ _ _ _ _; first | apply W.seq | apply W.region | apply W.block)
    | fail)
  refine W.loopW L.length (fun m w' => m ≤ L.length ∧ Ext w0 w' ∧ ∃ la lc V, LvOk N V ∧ (1 ≤ m → V = levels N) ∧ Lt.Sep w0.heap.size w' (stN w0.heap.size gs a cap r N ++ (blP w0.heap.size gb gs la lc V ++ (prow 1 encI 3 w0.heap.size (some ⟨gl, 0, none⟩) lp L :: rest)))) (fun m => [(0, .pointer (some ⟨gb, 0, none⟩)), (1, .slice (some ⟨gl, 0, none⟩) L.length lp), (6, .int .i64 (fstTo N L m : Nat)), (10, .slice (some ⟨gl, 0, none⟩) L.length lp), (11, .int .i64 L.length), (12, .int .i64 m)]) ⟨Nat.zero_le _, hX, la, lc, V, hV, (fun h => absurd h (by omega)), hS⟩ (fun k w' h => h.1) ⟨rfl, rfl, rfl, rfl, rfl, rfl, trivial⟩ ?_
  clear hS hV hX
  rintro m w3 ⟨hm, hX3, la, lc, V, hV3, hV1, hS3⟩
  have hRo := hS3.row (i := 5) rfl
  by_cases hlt : m < L.length
  · obtain ⟨x, hx0⟩ := getI L hlt
    have hbl : fstTo N L m < L.length := by
      rcases Nat.eq_zero_or_pos m with h0 | h0
      · subst h0; show 0 < L.length; omega
      · have := fstTo_lt N L m h0; omega
    obtain ⟨y, hy0⟩ := getI L hbl
    have hx1 := hL x (List.mem_of_getElem? hx0)
    have hy1 := hL y (List.mem_of_getElem? hy0)
    have hst : fstTo N L (m + 1) = if lvL N x < lvL N y then m else fstTo N L m := by rw [fstTo, getD_of hx0, getD_of hy0]
    obtain ⟨bt, hbt⟩ : ∃ bt, fstTo N L m = bt := ⟨_, rfl⟩
    rw [hbt] at hst hbl hy0 ⊢
    have hcell : ∀ w9, Own 1 encI 3 w0.heap.size w9 (some ⟨gl, 0, none⟩) lp L → Cells w9 gl (((bt : Nat) : Int).toNat * 1) [.int .i64 y] := fun w9 h => by
      obtain ⟨b9, off9, h1, h2⟩ := (h.row encI_ok).elem bt y hy0
      cases h1
      simpa using h2
    have RL := hRo.row encI_ok
    have hx0' : L[((m : Nat) : Int).toNat]? = some x := hx0
    have hy0' : L[((bt : Nat) : Int).toNat]? = some y := hy0
    repeat' (first
      | (show WL _ _ _ _ _ _ _; first | apply WL.nil | (refine WL.au (k := ?_)))
      | (show Z _ _ _ _ _; apply Z.then_normal)
      | (show W _ _ _ _ _ _; first | apply W.seq | apply W.region)
      | fail)
    refine W.condKT rfl (dec_true (by omega)) ?_
    clear RL
    repeat' (first
      | (show W _ _ (.region 5 _ _) _ _ _; apply W.regionGB (.fl true 0 (.fl true 1 (.fl true 3 (.fl true 4 (.fl true 5 (.br 2 (.br 6 (.br 7 (.br 8 (.fl true 9 .done) .stop) .stop) .stop) (.br 6 (.br 2 (.br 7 (.br 8 (.fl true 9 .done) .stop) .stop) (.br 7 (.br 2 (.br 8 (.fl true 9 .done) .stop) .stop) .stop)) .stop))))))) [] (none) tMix; kernel_rfl)
      | (apply WL.indexO tOk; exact rfl; exact rfl; exact rfl; exact rfl; exact rfl; exact rfl; exact rfl; exact rfl; assumption; (exact extA); exact encI_ok; (first | exact rfl | (focus (simp only [List.length_set]; done)) | (focus (simp; done)) | (focus (simp [*]; done)) | omega | (focus (simp only [List.length_set]; omega))); omega; assumption; intro gb ha hc; cases ha; have hcc := hc; first | (obtain ⟨h1, h2, h3, _⟩ := hc) | (obtain ⟨h1, h2, _⟩ := hc) | (obtain ⟨h1, _⟩ := hc))
      | (((show WL _ _ _ (⟨_, .call ⟨.value (.func 167), _, _⟩, _, _, _, _⟩ :: _) _ _ _); apply WL.call; exact rfl; exact rfl; exact rfl; exact rfl; exact balance_level gs gb r cap lc a la N V x (prow 1 encI 3 w0.heap.size (some ⟨gl, 0, none⟩) lp L :: rest) _ w0 hX3 hS3 hg hN hV3 hx1; rintro v' w4 ⟨rfl, hX4, la4, lc4, hS4⟩; obtain ⟨hq4, _⟩ := hcell _ (hS4.row (i := 5) rfl); have hR4 := hS4.row (i := 5) rfl))
      | (((show WL _ _ _ (⟨_, .call ⟨.value (.func 167), _, _⟩, _, _, _, _⟩ :: _) _ _ _); apply WL.call; exact rfl; exact rfl; exact rfl; exact rfl; exact balance_level gs gb r cap lc4 a la4 N (levels N) y (prow 1 encI 3 w0.heap.size (some ⟨gl, 0, none⟩) lp L :: rest) _ w0 hX4 hS4 hg hN (.inl rfl) hy1; rintro v' w5 ⟨rfl, hX5, la5, lc5, hS5⟩; obtain ⟨hq5, _⟩ := hcell _ (hS5.row (i := 5) rfl); have hR5 := hS5.row (i := 5) rfl))
      | (show WL _ _ _ _ _ _ _; first | apply WL.nil | (refine WL.au (k := ?_)))
      | (show SG _ _ _ _ _ _ _ _ _; first | apply SG.done | (apply SG.fl0; exact rfl) | (apply SG.br1; exact rfl) | (apply SG.br; exact rfl))
      | (show FL _ _ _ _ _ _ _ _; first | apply FL.nilS | (refine FL.au (k := ?_)))
      | (show Z _ _ _ _ _; (apply Z.sgL; exact rfl))
      | (show Z _ _ _ _ _; apply Z.then_normal)
      | (show W _ _ _ _ _ _; first | apply W.seq | apply W.region | apply W.block | apply W.skip)
      | fail)
    all_goals
      by_cases hlv : lvL N x < lvL N y
      · rw [if_pos hlv] at hst
        refine W.condKT rfl (dec_true hlv) ?_
        repeat' (first
          | (show WL _ _ _ _ _ _ _; first | apply WL.nil | (refine WL.au (k := ?_)))
          | (show Z _ _ _ _ _; first | apply Z.then_normal | apply Z.block_normal)
          | (show W _ _ _ _ _ _; apply W.region)
          | fail)
        exact Z.againW ⟨by omega, hX5, la5, lc5, levels N, .inl rfl, fun _ => rfl, hS5⟩ (by rw [hst]; exact ⟨rfl, rfl, rfl, rfl, rfl, rfl, trivial⟩)
      · rw [if_neg hlv] at hst
        refine W.condKF rfl (dec_false hlv) ?_
        repeat' (first
          | (show WL _ _ _ _ _ _ _; first | apply WL.nil | (refine WL.au (k := ?_)))
          | (show Z _ _ _ _ _; first | apply Z.then_normal | apply Z.block_normal)
          | (show W _ _ _ _ _ _; first | apply W.region | apply W.skip)
          | fail)
        exact Z.againW ⟨by omega, hX5, la5, lc5, levels N, .inl rfl, fun _ => rfl, hS5⟩ (by rw [hst]; exact ⟨rfl, rfl, rfl, rfl, rfl, rfl, trivial⟩)
  obtain rfl : m = L.length := by omega
  obtain rfl := hV1 h1L
  have hbl := fstP_lt (N := N) h1L
  obtain ⟨x, hx0⟩ := getI L hbl
  have hxd : L.getD (fstP N L) 0 = x := getD_of hx0
  have hfe : fstTo N L L.length = fstP N L := rfl
  rw [hfe, hxd]
  generalize fstP N L = b9 at *
  have hx0' : L[((b9 : Nat) : Int).toNat]? = some x := hx0
  have RL := hRo.row encI_ok
  repeat' (first
    | (show WL _ _ _ _ _ _ _; first | apply WL.nil | (refine WL.au (k := ?_)))
    | (show Z _ _ _ _ _; apply Z.then_normal)
    | (show W _ _ _ _ _ _; first | apply W.seq | apply W.region)
    | fail)
  refine W.condKF rfl (dec_false (by omega)) ?_
  repeat' (first
    | (apply WL.indexO tOk; exact rfl; exact rfl; exact rfl; exact rfl; exact rfl; exact rfl; exact rfl; exact rfl; assumption; (exact extA); exact encI_ok; (first | exact rfl | (focus (simp only [List.length_set]; done)) | (focus (simp; done)) | (focus (simp [*]; done)) | omega | (focus (simp only [List.length_set]; omega))); omega; assumption; intro gb ha hc; cases ha; have hcc := hc; first | (obtain ⟨h1, h2, h3, _⟩ := hc) | (obtain ⟨h1, h2, _⟩ := hc) | (obtain ⟨h1, _⟩ := hc))
    | (((show WL _ _ _ (⟨_, .call ⟨.value (.func 168), _, _⟩, _, _, _, _⟩ :: _) _ _ _); apply WL.call; exact rfl; exact rfl; exact rfl; exact rfl; exact slices_DeleteO w0 w3 (some ⟨gl, 0, none⟩) lp L b9 hX3 hRo hbl hLl; rintro v' w4 ⟨rfl, hO4, hX4, hB4⟩))
    | (show WL _ _ _ _ _ _ _; first | apply WL.nil | (refine WL.au (k := ?_)))
    | (show Z _ _ _ _ _; first | apply Z.then_normal | apply Z.then_exit | apply Z.block_exit)
    | (show W _ _ _ _ _ _; first | apply W.seq | apply W.region | apply W.ret | apply W.exit)
    | fail)
  have hS4 := Lt.Sep.upd (i := 5) (p' := prow 1 encI 3 w0.heap.size (some ⟨gl, 0, none⟩) lp (L.eraseIdx b9)) hS3 rfl hB4 hO4 (.inl rfl) (Below.size hX3)
  exact Z.body2 Try.results145 rfl rfl fun m => ⟨rfl, hX4.at m, la, lc, Sep.ext hS4 ((Ext.refl _).at m)⟩
end Go.Proofs.Ythpnahapiodflaa
namespace Go.Proofs.Ythpnahapiodflaa
open Go Go.Lt Go.RowKit
set_option linter.unusedVariables false
set_option linter.unusedSimpArgs false
set_option maxRecDepth 20000

theorem Sep.dropMid {B : Nat} {w : World} {A C : List Piece} {x : Piece} (hS : Lt.Sep B w (A ++ x :: C)) : Lt.Sep B w (A ++ C) := by
  refine Lt.Sep.pick (fun i => if i < A.length then i else i + 1) hS (fun i p h => ?_) (fun i j _ _ hne => ?_)
  · by_cases hi : i < A.length
    · rw [if_pos hi, List.getElem?_append_left hi]
      rw [List.getElem?_append_left hi] at h; exact h
    · rw [if_neg hi, List.getElem?_append_right (by omega), show i + 1 - A.length = (i - A.length) + 1 by omega, List.getElem?_cons_succ]
      rw [List.getElem?_append_right (by omega)] at h; exact h
  · split <;> split <;> omega
theorem Sep.putMid {B : Nat} {w : World} {A C : List Piece} {x : Piece} (hS : Lt.Sep B w (x :: (A ++ C))) : Lt.Sep B w (A ++ x :: C) := Sep.ofPerm List.perm_middle.symm hS
theorem LvOk.and {N : List (Int × Int)} (x y : Int) : LvOk (andV N x y).2 (levels N) := by
  have hl := levels_len N
  obtain ⟨a, b, _, _, h⟩ := andV_ways N x y
  rcases h with ⟨_, h⟩ | ⟨_, _, h⟩ | ⟨_, _, _, h⟩ | ⟨_, _, _, _, _, _, h⟩ | ⟨_, _, _, h⟩ <;> rw [h]
  · exact .inl rfl
  · exact .inl rfl
  · exact .inl rfl
  · exact .inl rfl
  · exact .inr (by rw [hl]; simp)
set_option maxHeartbeats 8000000 in
theorem balance_all (gs gb r cap lc lp : Nat) (a la ll : Option Addr) (N : List (Int × Int)) (V L : List Int) (rest : List Piece) (w w0 : World) (hX : Ext w0 w) (hS : Lt.Sep w0.heap.size w (stN w0.heap.size gs a cap r N ++ (blP w0.heap.size gb gs la lc V ++ (prow 1 encI 3 w0.heap.size ll lp L :: rest)))) (hT : Tidy N) (hN : N.length + L.length ≤ 1000000) (hV : LvOk N V) (hL : ∀ z ∈ L, hasL N z) (h1L : 1 ≤ L.length) :
    Lt.Spec Try.prog 102 [.pointer (some ⟨gb, 0, none⟩), .slice ll L.length lp] w (fun v w' => v = .int .i64 (allB L.length N L).1 ∧ Ext w0 w' ∧ ∃ a cap la lc V ll lp L9, LvOk (allB L.length N L).2 V ∧ Lt.Sep w0.heap.size w' (stN w0.heap.size gs a cap r (allB L.length N L).2 ++ (blP w0.heap.size gb gs la lc V ++ (prow 1 encI 3 w0.heap.size ll lp L9 :: rest)))) := by
  refine Spec.of _ Try.func102 rfl Try.ntmps102 (by kernel_rfl) rfl ?_
  repeat' (first
    | (show WL _ _ _ _ _ _ _; first | apply WL.nil | (refine WL.au (k := ?_)))
    | (show Z _ _ _ _ _; apply Z.then_normal)
    | (show W _ _ _ _ _ _; first | apply W.seq | apply W.region | apply W.block)
    | fail)
  obtain ⟨tot, htot⟩ : ∃ q, q = allB L.length N L := ⟨_, rfl⟩
  rw [← htot]
  refine W.loop (σ := (Option Addr × Nat × List Int × List (Int × Int) × Nat) × World) (fun s => tot = allB s.1.2.2.2.2 s.1.2.2.2.1 s.1.2.2.1 ∧ 1 ≤ s.1.2.2.1.length ∧ s.1.2.2.1.length ≤ s.1.2.2.2.2 + 1 ∧ Tidy s.1.2.2.2.1 ∧ s.1.2.2.2.1.length + s.1.2.2.1.length ≤ 1000000 ∧ (∀ z ∈ s.1.2.2.1, hasL s.1.2.2.2.1 z) ∧ Ext w0 s.2 ∧ ∃ a cap la lc V, LvOk s.1.2.2.2.1 V ∧ Lt.Sep w0.heap.size s.2 (stN w0.heap.size gs a cap r s.1.2.2.2.1 ++ (blP w0.heap.size gb gs la lc V ++ (prow 1 encI 3 w0.heap.size s.1.1 s.1.2.1 s.1.2.2.1 :: rest)))) (fun s => [(0, .pointer (some ⟨gb, 0, none⟩)), (1, .slice s.1.1 s.1.2.2.1.length s.1.2.1)]) (fun s => s.2) (fun s => s.1.2.2.2.2) ((ll, lp, L, N, L.length), w) ⟨htot, h1L, Nat.le_succ _, hT, hN, hL, hX, a, cap, la, lc, V, hV, hS⟩ ⟨rfl, rfl, trivial⟩ rfl ?_
  clear hS hV hL hX hT hN h1L htot
  rintro ⟨⟨ll, lp, L, N, f⟩, w3⟩ ⟨hE, h1L, hLf, hT, hN, hL, hX3, a, cap, la, lc, V, hV, hS3⟩
  dsimp only at hE h1L hLf hT hN hL hX3 hV hS3 ⊢
  have hRo := hS3.row (i := 5) rfl
  have RL := hRo.row encI_ok
  by_cases hlt : 1 < L.length
  · obtain ⟨f, rfl⟩ : ∃ f9, f = f9 + 1 := ⟨f - 1, by omega⟩
    rw [allB, if_neg (by omega)] at hE
    have hm := mrg_mem (N := N) (L := L) (by omega)
    have hml := mrgR_len (N := N) (L := L) (by omega)
    have hx := hL _ hm.1
    have hy := hL _ hm.2.1
    have hi1 := fstP_lt (N := N) (L := L) (by omega)
    have hel : (L.eraseIdx (fstP N L)).length = L.length - 1 := List.length_eraseIdx_of_lt hi1
    have hL1 : ∀ z ∈ L.eraseIdx (fstP N L), hasL N z := fun z hz => hL z (mem_erase hz)
    have hA9 : mrgA N L = andV N (L.getD (fstP N L) 0) ((L.eraseIdx (fstP N L)).getD (fstP N (L.eraseIdx (fstP N L))) 0) := rfl
    have hR9 : mrgR N L = (L.eraseIdx (fstP N L)).eraseIdx (fstP N (L.eraseIdx (fstP N L))) := rfl
    have hA8 := andV_comm N (L.getD (fstP N L) 0) ((L.eraseIdx (fstP N L)).getD (fstP N (L.eraseIdx (fstP N L))) 0)
    rw [← hA9] at hA8
    have hAl := andV_len N (L.getD (fstP N L) 0) ((L.eraseIdx (fstP N L)).getD (fstP N (L.eraseIdx (fstP N L))) 0)
    rw [← hA9] at hAl
    have hAo := LvOk.and (N := N) (L.getD (fstP N L) 0) ((L.eraseIdx (fstP N L)).getD (fstP N (L.eraseIdx (fstP N L))) 0)
    rw [← hA9] at hAo
    have hAh := andV_has hx hy
    rw [← hA9] at hAh
    have hAt := hT.and (L.getD (fstP N L) 0) ((L.eraseIdx (fstP N L)).getD (fstP N (L.eraseIdx (fstP N L))) 0)
    rw [← hA9] at hAt
    repeat' (first
      | (show WL _ _ _ _ _ _ _; first | apply WL.nil | (refine WL.au (k := ?_)))
      | (show Z _ _ _ _ _; apply Z.then_normal)
      | (show W _ _ _ _ _ _; first | apply W.seq | apply W.region)
      | fail)
    refine W.condKT rfl (dec_true (by omega)) ?_
    repeat' (first
      | ((show WL _ _ _ (⟨_, .call ⟨.value (.func 139), _, _⟩, _, _, _, _⟩ :: _) _ _ _); apply WL.call; exact rfl; exact rfl; exact rfl; exact rfl; exact slices_CloneI ll lp L _ RL hRo.noneCap (by omega); rintro v' w' ⟨hx, a', cap', rfl, hO⟩; (obtain ⟨aW, rfl⟩ : ∃ x, x = a' := ⟨_, rfl⟩; obtain ⟨cW, rfl⟩ : ∃ x, x = cap' := ⟨_, rfl⟩; obtain ⟨hOW, rfl⟩ : ∃ x, x = hO := ⟨_, rfl⟩; obtain ⟨w4, rfl⟩ : ∃ x, x = w' := ⟨_, rfl⟩; obtain ⟨hx4, rfl⟩ : ∃ x, x = hx := ⟨_, rfl⟩; have hS4 := Sep.putMid (A := [_, _, _, _, _, _]) (Sep.newRow' hS3 hx4 hOW (Below.size hX3))))
      | (((show WL _ _ _ (⟨_, .call ⟨.value (.func 145), _, _⟩, _, _, _, _⟩ :: _) _ _ _); apply WL.call; exact rfl; exact rfl; exact rfl; exact rfl; exact balance_take gs gb r cap lc lp a la ll N V L (prow 1 encI 3 w0.heap.size aW cW L :: rest) w4 w0 (hX3.trans hx4) hS4 hT.good (by omega) hV hL h1L (by omega); rintro v' w5 ⟨rfl, hX5, la5, lc5, hS5⟩))
      | (show WL _ _ _ _ _ _ _; first | apply WL.nil | (refine WL.au (k := ?_)))
      | (show Z _ _ _ _ _; apply Z.then_normal)
      | (show W _ _ _ _ _ _; first | apply W.seq | apply W.region | apply W.block | apply W.skip)
      | fail)
    repeat' (first
      | (((show WL _ _ _ (⟨_, .call ⟨.value (.func 145), _, _⟩, _, _, _, _⟩ :: _) _ _ _); apply WL.call; exact rfl; exact rfl; exact rfl; exact rfl; exact balance_take gs gb r cap lc5 lp a la5 ll N (levels N) (L.eraseIdx (fstP N L)) (prow 1 encI 3 w0.heap.size aW cW L :: rest) w5 w0 hX5 hS5 hT.good (by omega) (.inl rfl) hL1 (by omega) (by omega); rintro v' w6 ⟨rfl, hX6, la6, lc6, hS6⟩; rw [← hR9] at hS6; have RW := (hS6.row (i := 6) rfl).row encI_ok))
      | (((show WL _ _ _ (⟨_, .call ⟨.value (.func 146), _, _⟩, _, _, _, _⟩ :: _) _ _ _); apply WL.call; exact rfl; exact rfl; exact rfl; exact rfl; exact slices_IndexE aW cW L _ _ (RW.ext (by (exact extA))); rintro v' w7 ⟨⟨z, rfl⟩, hx7⟩))
      | (show WL _ _ _ _ _ _ _; first | apply WL.nil | (refine WL.au (k := ?_)))
      | (show Z _ _ _ _ _; apply Z.then_normal)
      | (show W _ _ _ _ _ _; first | apply W.seq | apply W.region)
      | fail)
    have hX67 : Ext w6 w7 := (by (exact extA))
    have hS7 := Sep.ext hS6 hX67
    clear hS6 hS5 hS4 hS3 RW RL hRo
    refine W.cutT (σ := (Int × Int) × World) (fun s => andV N s.1.1 s.1.2 = mrgA N L ∧ s.2 = w7) (fun s => [(0, .pointer (some ⟨gb, 0, none⟩)), (1, .slice ll (mrgR N L).length lp), (5, .int .i64 s.1.1), (6, .int .i64 s.1.2)]) (fun s => s.2) ?_ ?_
    · refine W.condB rfl (fun _ => ?_) (fun _ => ?_)
      · repeat' (first
          | (show WL _ _ _ _ _ _ _; first | apply WL.nil | (refine WL.au (k := ?_)))
          | (show W _ _ _ _ _ _; apply W.region)
          | fail)
        exact Z.cut ((_, _), w7) ⟨hA8.symm, rfl⟩ ⟨rfl, rfl, rfl, rfl, trivial⟩ rfl
      · repeat' (first
          | (show W _ _ _ _ _ _; apply W.skip)
          | fail)
        exact Z.cut ((_, _), w7) ⟨hA9.symm, rfl⟩ ⟨rfl, rfl, rfl, rfl, trivial⟩ rfl
    rintro ⟨⟨p, q⟩, w8⟩ ⟨hpq, rfl⟩
    dsimp only at hpq ⊢
    have hX7 : Ext w0 w8 := hX6.trans hX67
    obtain ⟨n0, n1, _⟩ := cells_heap (hS7.cell (i := 3) rfl)
    repeat' (first
      | (apply WL.nilc; exact rfl; exact rfl; exact rfl)
      | (((show WL _ _ _ (⟨_, .call ⟨.value (.func 81), _, _⟩, _, _, _, _⟩ :: _) _ _ _); apply WL.call; exact rfl; exact rfl; exact rfl; exact rfl; exact aig_And gs r cap a N p q (blP w0.heap.size gb gs la6 lc6 (levels N) ++ (prow 1 encI 3 w0.heap.size ll lp (mrgR N L) :: prow 1 encI 3 w0.heap.size aW cW L :: rest)) _ w0 hX7 hS7 (by omega); rw [hpq]; rintro v' w9 ⟨hX9, a9, c9, rfl, hS9⟩; have hR9 := hS9.row (i := 5) rfl))
      | (apply WL.lit tOk; exact rfl; exact rfl; exact rfl; exact rfl; exact rfl; exact rfl; (first | exact rfl | kernel_rfl | (simp [Instr.fill, catCells]; done)); exact rfl; intro gb w' hb hge hc hx)
      | (apply WL.append1 (z := ((mrgA N L).1)) tOk encI_ok; exact rfl; exact rfl; exact rfl; exact rfl; exact rfl; exact rfl; exact rfl; exact rfl; exact rfl; exact rfl; assumption; (exact extA); (first | exact rfl | (focus (simp only [List.length_set]; done)) | (focus (simp; done)) | (focus (simp [*]; done)) | omega | (focus (simp only [List.length_set]; omega))); (first | assumption | (refine Cells.ext ?_ (by assumption); exact extA)); exact rfl; exact rfl; (exact extA); (first | omega | (simp; omega) | (simp at *; omega)); intro a' cap' w' hO hX' hU hF)
      | (show WL _ _ _ _ _ _ _; first | apply WL.nil | (refine WL.au (k := ?_)))
      | (show Z _ _ _ _ _; apply Z.block_normal)
      | (show W _ _ _ _ _ _; apply W.region)
      | fail)
    have hS10 := Sep.dropMid (A := [_, _, _, _, _, _]) (Sep.updRow (i := 5) rfl hU hO hF (Sep.ext hS9 (by (exact extA))) (Ext.refl _) (Below.size (show Ext w0 _ from (by (exact extA)))))
    have hAl2 : (mrgR N L ++ [(mrgA N L).1]).length = L.length - 1 := by rw [List.length_append, hml]; show L.length - 2 + 1 = _; omega
    refine Z.again ((a', cap', mrgR N L ++ [(mrgA N L).1], (mrgA N L).2, f), w') ⟨hE, by dsimp only; omega, by dsimp only; omega, hAt, by dsimp only; omega, fun z hz => ?_, (show Ext w0 w' from (by (exact extA))), a9, c9, la6, lc6, levels N, hAo, hS10⟩ (by dsimp only; omega) ⟨rfl, rfl, trivial⟩ rfl
    rcases List.mem_append.1 hz with h | h
    · exact hasL_mono (hL z (hm.2.2 z h)) hAl.1
    · rw [List.mem_singleton.1 h]; exact hAh
  have h1 : L.length = 1 := by omega
  obtain ⟨x, hx0⟩ := getI L (show 0 < L.length by omega)
  have hx0' : L[((0 : Int)).toNat]? = some x := hx0
  have hE2 : tot = (x, N) := by
    rw [hE]
    cases f with
    | zero => rw [allB, getD_of hx0]
    | succ f => rw [allB, if_pos (by omega), getD_of hx0]
  rw [hE2]
  repeat' (first
    | (show WL _ _ _ _ _ _ _; first | apply WL.nil | (refine WL.au (k := ?_)))
    | (show Z _ _ _ _ _; apply Z.then_normal)
    | (show W _ _ _ _ _ _; first | apply W.seq | apply W.region)
    | fail)
  refine W.condKF rfl (dec_false (by omega)) ?_
  repeat' (first
    | (apply WL.indexO tOk; exact rfl; exact rfl; exact rfl; exact rfl; exact rfl; exact rfl; exact rfl; exact rfl; assumption; (exact extA); exact encI_ok; (first | exact rfl | (focus (simp only [List.length_set]; done)) | (focus (simp; done)) | (focus (simp [*]; done)) | omega | (focus (simp only [List.length_set]; omega))); omega; assumption; intro gb ha hc; cases ha; have hcc := hc; first | (obtain ⟨h1, h2, h3, _⟩ := hc) | (obtain ⟨h1, h2, _⟩ := hc) | (obtain ⟨h1, _⟩ := hc))
    | (show WL _ _ _ _ _ _ _; first | apply WL.nil | (refine WL.au (k := ?_)))
    | (show Z _ _ _ _ _; first | apply Z.then_normal | apply Z.then_exit | apply Z.block_exit)
    | (show W _ _ _ _ _ _; first | apply W.seq | apply W.region | apply W.ret | apply W.exit)
    | fail)
  exact Z.body1 Try.results102 rfl fun m => ⟨rfl, hX3.at m, a, cap, la, lc, V, _, lp, L, hV, Sep.ext hS3 ((Ext.refl _).at m)⟩
end Go.Proofs.Ythpnahapiodflaa
namespace Go.Lt
open Go.RowKit
set_option linter.unusedVariables false
set_option linter.unusedSimpArgs false

/-- Keys that are found by what they are. -/
structure KeyF {κ : Type} (P : Program) (kt : TypeId) (kv : κ → Value) : Prop where
  find : ∀ {ν : Type} (vv : ν → Value) (a : κ) (w : World) (es : List MapEntry) (L : List (κ × ν)), es.map (fun e => (e.key, e.val)) = L.map (fun x => (kv x.1, vv x.2)) → (Instr.findKey kt (kv a) es).run P w = .ok (mfind vv a L 0) w
  chk : ∀ empty a w, (Instr.checkKey empty 10000 kt (kv a)).run P w = .ok () w
  same : ∀ a, Instr.sameBits 10000 (kv a) (kv a) = true
theorem findNow_of {κ ν : Type} {d : TypeDesc} {kv : κ → Value} {vv : ν → Value} (h : ∀ a b, Instr.sameNow d (kv a) (kv b) = some (dec (a = b))) (a : κ) : ∀ (es : List MapEntry) (L : List (κ × ν)) (i : Nat), es.map (fun e => (e.key, e.val)) = L.map (fun x => (kv x.1, vv x.2)) → Instr.findNow d (kv a) es i = some (mfind vv a L i)
  | [], [], i, _ => rfl
  | [], x :: r, i, h' => by simp at h'
  | e :: es, [], i, h' => by simp at h'
  | e :: es, x :: r, i, h' => by
    simp only [List.map_cons, List.cons.injEq, Prod.mk.injEq] at h'
    obtain ⟨⟨h1, h2⟩, h3⟩ := h'
    have ih := findNow_of (vv := vv) h a es r (i + 1) h3
    unfold Instr.findNow mfind
    rw [h1, h a x.1]
    cases dec (a = x.1)
    · exact ih
    · simp only [cond_true, h2]
theorem keyF_of {κ : Type} {P : Program} {kt : TypeId} {d : TypeDesc} {kv : κ → Value} (hu : P.underlying kt = some d) (h : ∀ a b, Instr.sameNow d (kv a) (kv b) = some (dec (a = b))) (hc : ∀ empty a w, (Instr.checkKey empty 10000 kt (kv a)).run P w = .ok () w) (hs : ∀ a, Instr.sameBits 10000 (kv a) (kv a) = true) : KeyF P kt kv :=
  ⟨fun vv a w es L he => by
    have hu' : (underlying kt).run P w = .ok d w := by simp [underlying, program, Sem.run, hu]
    simp only [Instr.findKey, Sem.run_bind, hu', Result.andThen_ok, findNow_of h a es L 0 he]
    rfl, hc, hs⟩
theorem keyF_int {P : Program} {kt : TypeId} {k : IntKind} (hu : P.underlying kt = some (.int k)) : KeyF P kt (fun n : Int => .int k n) := by
  refine keyF_of hu (fun a b => ?_) (fun em a w => ?_) (fun a => ?_)
  · simp only [Instr.sameNow, if_true]
    rw [dec_decide]; rfl
  · have hu' : (underlying kt).run P w = .ok (.int k) w := by simp [underlying, program, Sem.run, hu]
    rw [show (10000 : Nat) = 9999 + 1 from rfl, Instr.checkKey]
    simp only [Sem.run_bind, hu', Result.andThen_ok]
    rfl
  · simp [Instr.sameBits]
/-- A value anew. -/
noncomputable def mset {κ ν : Type} (a : κ) (v : ν) : List (κ × ν) → List (κ × ν)
  | [] => []
  | x :: r => bif dec (a = x.1) then (x.1, v) :: r else x :: mset a v r

section rules
variable {P : Program} {N : Nat} {e : Env} {w : World} {Q : Exit → Act → World → Prop} {ops : List Oper} {l : List Oper} {T : Tab} {C : World → Prop}
  {d : Nat} {tt t : TypeId} {ps : String} {af : Array Edge} {g : Option (Nat × Bool)} {x y z : Operand} {ti ei : TI} {κ ν : Type} {kt et : TypeId} {kv : κ → Value} {vv : ν → Value} {L : List (κ × ν)} {a : κ} {v : ν} {r : Nat}
theorem run_lookupF (hT : OkTab P T) (hk : KeyF P kt kv) (ht : tget T t = some ti) (htd : ti.desc = .map kt et) (he : tget T et = some ei) (hM : MapIs kv vv w r L) (b : Bool) :
    (Instr.lookup t (.map (some r)) (kv a) b).run P w = .ok (bif b then .tuple #[((mget a L).map vv).getD ei.zero, .bool (mget a L).isSome] else ((mget a L).map vv).getD ei.zero) w := by
  obtain ⟨es, clock, h1, h2⟩ := hM
  have hu := run_underlying' (hT.at ht) w; rw [htd] at hu
  have hz := run_zeroValue' (hT.at he) w
  have hf := hk.find vv a w es.toList L h2
  have hg : (getObj r).run P w = .ok (.map es clock) w := by simp [getObj, Sem.run, h1]
  have hmg := mfind_get vv a L 0
  simp only [Instr.lookup, Sem.run_bind, hu, Result.andThen_ok, hg, Sem.run_pure, hk.chk, hf]
  cases hm : mfind vv a L 0 with
  | none =>
    rw [hm] at hmg
    cases hg2 : mget a L with
    | none => cases b <;> simp [hz]
    | some q => rw [hg2] at hmg; simp at hmg
  | some q =>
    rw [hm] at hmg
    cases hg2 : mget a L with
    | none => rw [hg2] at hmg; simp at hmg
    | some u =>
      rw [hg2] at hmg
      simp only [Option.map_some, Option.some.injEq] at hmg
      obtain ⟨qi, qv⟩ := q
      simp only at hmg
      subst hmg
      cases b <;> simp
theorem ylookupF [Cls C w] (hT : OkTab P T) (hk : KeyF P kt kv) (hx : ev e x = some (.map (some r))) (hy : ev e y = some (kv a)) (ht : tget T t = some ti) (htd : ti.desc = .map kt et) (he : tget T et = some ei) (hM : MapIs kv vv w r L) (b : Bool) {dd : Option Tmp} :
    YieldsIn P e C ⟨dd, .lookup t x y b, tt, ps, af, g⟩ (bif b then .tuple #[((mget a L).map vv).getD ei.zero, .bool (mget a L).isSome] else ((mget a L).map vv).getD ei.zero) := by
  intro ρ hρ w' hw'
  have hr := run_lookupF (P := P) (a := a) hT hk ht htd he (hM.ext (Cls.keeps (C := C) w' hw')) b
  simp [execOp, hρ _ _ hx, hρ _ _ hy, hr]
theorem WL.lookSomeF {v : ν} (hT : OkTab P T) (hk : KeyF P kt kv) (hg : gate ops e g = some true) (hd : Nat.blt d N = true) (hx : ev e x = some (.map (some r))) (hy : ev e y = some (kv a)) (ht : tget T t = some ti) (htd : ti.desc = .map kt et) (he : tget T et = some ei) (hM : MapIs kv vv w r L) (hm : mget a L = some v)
    (k : WL P N ops.toArray l ((d, .tuple #[vv v, .bool true]) :: e) w Q) : WL P N ops.toArray (⟨some d, .lookup t x y true, tt, ps, af, g⟩ :: l) e w Q :=
  WL.step hg hd (ylookupF (C := Same w) hT hk hx hy ht htd he hM true) (by rw [hm]; exact k)
theorem WL.lookNoneF (hT : OkTab P T) (hk : KeyF P kt kv) (hg : gate ops e g = some true) (hd : Nat.blt d N = true) (hx : ev e x = some (.map (some r))) (hy : ev e y = some (kv a)) (ht : tget T t = some ti) (htd : ti.desc = .map kt et) (he : tget T et = some ei) (hM : MapIs kv vv w r L) (hm : mget a L = none)
    (k : WL P N ops.toArray l ((d, .tuple #[ei.zero, .bool false]) :: e) w Q) : WL P N ops.toArray (⟨some d, .lookup t x y true, tt, ps, af, g⟩ :: l) e w Q :=
  WL.step hg hd (ylookupF (C := Same w) hT hk hx hy ht htd he hM true) (by rw [hm]; exact k)
theorem WL.look1F (hT : OkTab P T) (hk : KeyF P kt kv) (hg : gate ops e g = some true) (hd : Nat.blt d N = true) (hx : ev e x = some (.map (some r))) (hy : ev e y = some (kv a)) (ht : tget T t = some ti) (htd : ti.desc = .map kt et) (he : tget T et = some ei) (hM : MapIs kv vv w r L)
    (k : WL P N ops.toArray l ((d, ((mget a L).map vv).getD ei.zero) :: e) w Q) : WL P N ops.toArray (⟨some d, .lookup t x y false, tt, ps, af, g⟩ :: l) e w Q :=
  WL.step hg hd (ylookupF (C := Same w) hT hk hx hy ht htd he hM false) k
theorem QL.look1F [Cls C w] (hT : OkTab P T) (hk : KeyF P kt kv) (hg : gate ops e g = some true) (hd : Nat.blt d N = true) (hx : ev e x = some (.map (some r))) (hy : ev e y = some (kv a)) (ht : tget T t = some ti) (htd : ti.desc = .map kt et) (he : tget T et = some ei) (hM : MapIs kv vv w r L)
    (k : QL P N C ops.toArray l ((d, ((mget a L).map vv).getD ei.zero) :: e) Q) : QL P N C ops.toArray (⟨some d, .lookup t x y false, tt, ps, af, g⟩ :: l) e Q :=
  QL.step hg hd (ylookupF hT hk hx hy ht htd he hM false) k
theorem mfind_mset {κ ν : Type} {kv : κ → Value} {vv : ν → Value} (a : κ) (v : ν) : ∀ (L : List (κ × ν)) (i j : Nat) (q : Value), mfind vv a L i = some (j, q) → i ≤ j ∧ j - i < L.length ∧ (L.map (fun x => (kv x.1, vv x.2))).modify (j - i) (fun p => (kv a, vv v)) = (mset a v L).map (fun x => (kv x.1, vv x.2)) ∧ (L.map (fun x => kv x.1))[j - i]? = some (kv a)
  | [], i, j, q, h => by cases h
  | x :: r, i, j, q, h => by
    unfold mfind at h
    by_cases hax : a = x.1
    · rw [dec_true hax] at h
      simp only [cond_true, Option.some.injEq, Prod.mk.injEq] at h
      obtain ⟨rfl, _⟩ := h
      refine ⟨Nat.le_refl _, by simp, ?_, by simp [hax]⟩
      rw [Nat.sub_self]
      unfold mset
      rw [dec_true hax]
      simp [hax]
    · rw [dec_false hax] at h
      simp only [cond_false] at h
      obtain ⟨h1, h2, h3, h4⟩ := mfind_mset (kv := kv) a v r (i + 1) j q h
      have e : j - i = (j - (i + 1)) + 1 := by omega
      refine ⟨by omega, by simp only [List.length_cons]; omega, ?_, ?_⟩
      · rw [e]
        unfold mset
        rw [dec_false hax]
        simp only [cond_false, List.map_cons, List.modify_succ_cons]
        rw [h3]
      · rw [e]; simpa using h4
/-- A new key, or a value anew. -/
theorem WL.mapPutF {B : Nat} {w0 : World} (hT : OkTab P T) (hk : KeyF P kt kv) (hg : gate ops e g = some true) (hx : ev e x = some (.map (some r))) (hy : ev e y = some (kv a)) (hz : ev e z = some (vv v)) (ht : tget T t = some ti) (htd : ti.desc = .map kt et) (hM : MapIs kv vv w r L) (hX : Ext w0 w) (hB : w0.heap.size ≤ r)
    (k : ∀ w', MapIs kv vv w' r (match mget a L with | none => L ++ [(a, v)] | some _ => mset a v L) → Ext w0 w' → Upd r (some ⟨r, 0, none⟩) w w' → WL P N ops.toArray l e w' Q) :
    WL P N ops.toArray (⟨none, .mapUpdate t x y z, tt, ps, af, g⟩ :: l) e w Q := by
  obtain ⟨es, clock, h1, h2⟩ := hM
  have hlt := heap_lt h1
  have hmg := mfind_get vv a L 0
  cases hm : mfind vv a L 0 with
  | none =>
    have hnew : mget a L = none := by
      cases hg2 : mget a L with
      | none => rfl
      | some u => rw [hm, hg2] at hmg; simp at hmg
    rw [hnew] at k
    refine WL.effN (w' := fun m => { at' w m with heap := w.heap.setIfInBounds r (.map (es.push { key := kv a, val := vv v, born := clock }) (clock + 1)) }) hg ?_ (fun m => ?_)
    · intro ρ hρ m
      have hu := run_underlying' (hT.at ht) (at' w m); rw [htd] at hu
      have hf := hk.find vv a (at' w m) es.toList L h2
      have hg : (getObj r).run P (at' w m) = .ok (.map es clock) (at' w m) := by simp [getObj, Sem.run, h1]
      rw [hm] at hf
      have hset : (setObj r (.map (es.push { key := kv a, val := vv v, born := clock }) (clock + 1))).run P (at' w m) = .ok () { at' w m with heap := w.heap.setIfInBounds r (.map (es.push { key := kv a, val := vv v, born := clock }) (clock + 1)) } := by simp [setObj, Sem.run, h1]
      have hrun : (Instr.mapUpdate t (.map (some r)) (kv a) (vv v)).run P (at' w m) = .ok () { at' w m with heap := w.heap.setIfInBounds r (.map (es.push { key := kv a, val := vv v, born := clock }) (clock + 1)) } := by
        simp only [Instr.mapUpdate, Sem.run_bind, hu, Result.andThen_ok, hg, hk.chk, hf, hset]
      simp [execOp, hρ _ _ hx, hρ _ _ hy, hρ _ _ hz, hrun]
    · have hU : Upd r (some ⟨r, 0, none⟩) w { at' w m with heap := w.heap.setIfInBounds r (.map (es.push { key := kv a, val := vv v, born := clock }) (clock + 1)) } :=
        ⟨⟨rfl, rfl, rfl, by simp, fun q hq hne => by
          simp only [blk, Option.map_some, ne_eq, Option.some.injEq] at hne
          simp only [Array.getElem?_setIfInBounds]
          rw [if_neg (fun h => hne h.symm)]⟩, fun q hq => by simp only [blk, Option.map_some, Option.some.injEq] at hq; omega⟩
      refine k _ ⟨_, _, by simp [Array.getElem?_setIfInBounds, hlt]; exact ⟨rfl, rfl⟩, ?_⟩ (hU.ext hX hB) hU
      simp [h2]
  | some q =>
    obtain ⟨j, qv⟩ := q
    obtain ⟨u, hu2⟩ : ∃ u, mget a L = some u := by
      cases hg2 : mget a L with
      | none => rw [hm, hg2] at hmg; simp at hmg
      | some u => exact ⟨u, rfl⟩
    rw [hu2] at k
    obtain ⟨m1, m2, m3, m4⟩ := mfind_mset (kv := kv) a v L 0 j qv hm
    rw [Nat.sub_zero] at m2 m3 m4
    have hlen : es.toList.length = L.length := by have := congrArg List.length h2; simpa using this
    have hkey : (((es[j]?).map (·.key)).getD (kv a)) = kv a := by
      have h3 := congrArg (fun l => (l.map Prod.fst)[j]?) h2
      simp only [List.map_map] at h3
      have e1 : (L.map (Prod.fst ∘ fun x => (kv x.1, vv x.2)))[j]? = some (kv a) := m4
      rw [e1] at h3
      rw [List.getElem?_map] at h3
      obtain ⟨en, hen, hek⟩ := Option.map_eq_some_iff.1 h3
      have : es[j]? = some en := by simpa using hen
      rw [this]; exact hek
    refine WL.effN (w' := fun m => { at' w m with heap := w.heap.setIfInBounds r (.map (es.modify j fun e => { e with key := kv a, val := vv v }) clock) }) hg ?_ (fun m => ?_)
    · intro ρ hρ m
      have hu := run_underlying' (hT.at ht) (at' w m); rw [htd] at hu
      have hf := hk.find vv a (at' w m) es.toList L h2
      have hg : (getObj r).run P (at' w m) = .ok (.map es clock) (at' w m) := by simp [getObj, Sem.run, h1]
      rw [hm] at hf
      have hset : (setObj r (.map (es.modify j fun e => { e with key := kv a, val := vv v }) clock)).run P (at' w m) = .ok () { at' w m with heap := w.heap.setIfInBounds r (.map (es.modify j fun e => { e with key := kv a, val := vv v }) clock) } := by simp [setObj, Sem.run, h1]
      have hstay : (Instr.keyThatStays (kv a) (kv a)).run P (at' w m) = .ok (kv a) (at' w m) := by unfold Instr.keyThatStays; rw [hk.same a]; rfl
      have hrun : (Instr.mapUpdate t (.map (some r)) (kv a) (vv v)).run P (at' w m) = .ok () { at' w m with heap := w.heap.setIfInBounds r (.map (es.modify j fun e => { e with key := kv a, val := vv v }) clock) } := by
        simp only [Instr.mapUpdate, Sem.run_bind, hu, Result.andThen_ok, hg, hk.chk, hf, hkey, hstay, hset]
      simp [execOp, hρ _ _ hx, hρ _ _ hy, hρ _ _ hz, hrun]
    · have hU : Upd r (some ⟨r, 0, none⟩) w { at' w m with heap := w.heap.setIfInBounds r (.map (es.modify j fun e => { e with key := kv a, val := vv v }) clock) } :=
        ⟨⟨rfl, rfl, rfl, by simp, fun q hq hne => by
          simp only [blk, Option.map_some, ne_eq, Option.some.injEq] at hne
          simp only [Array.getElem?_setIfInBounds]
          rw [if_neg (fun h => hne h.symm)]⟩, fun q hq => by simp only [blk, Option.map_some, Option.some.injEq] at hq; omega⟩
      refine k _ ⟨_, _, by simp [Array.getElem?_setIfInBounds, hlt]; exact ⟨rfl, rfl⟩, ?_⟩ (hU.ext hX hB) hU
      rw [← m3, ← h2]
      apply List.ext_getElem?
      intro i
      simp only [Array.toList_modify, List.getElem?_map, List.getElem?_modify, Option.map_map]
      by_cases hij : j = i
      · subst hij; simp [Function.comp_def]
      · simp [hij, Function.comp_def]
end rules
end Go.Lt
namespace Go.Proofs.Ythpnahapiodflaa
open Go Go.Lt Go.RowKit
set_option linter.unusedVariables false
set_option linter.unusedSimpArgs false
set_option maxRecDepth 20000

def Tg : Tab := [(102, ⟨.func #[3] #[3] false, 1, 8, .nilFunc⟩)]
theorem tgOk : OkTab Try.prog Tg := ⟨⟨by kernel_rfl, by kernel_rfl⟩, trivial⟩
abbrev encJ : Int → Value := fun n => .int .i64 n
theorem keyJ : KeyF Try.prog 3 encJ := keyF_int (k := .i64) (tOk.at (t := 3) rfl).1
theorem WL.look1S {P : Program} {N : Nat} {e : Env} {w : World} {Q : Exit → Act → World → Prop} {ops : List Oper} {l : List Oper} {T : Tab} {d : Nat} {tt t : TypeId} {ps : String} {af : Array Edge} {g : Option (Nat × Bool)} {x y : Operand} {ti ei : TI} {κ ν : Type} {kt et : TypeId} {kv : κ → Value} {vv : ν → Value} {L : List (κ × ν)} {a : κ} {v : ν} {r : Nat}
    (hT : OkTab P T) (hk : KeyF P kt kv) (hg : gate ops e g = some true) (hd : Nat.blt d N = true) (hx : ev e x = some (.map (some r))) (hy : ev e y = some (kv a)) (ht : tget T t = some ti) (htd : ti.desc = .map kt et) (he : tget T et = some ei) (hM : MapIs kv vv w r L) (hm : mget a L = some v)
    (k : WL P N ops.toArray l ((d, vv v) :: e) w Q) : WL P N ops.toArray (⟨some d, .lookup t x y false, tt, ps, af, g⟩ :: l) e w Q :=
  WL.look1F hT hk hg hd hx hy ht htd he hM (by rw [hm]; exact k)
/-- What the map tells. -/
def MO (O : List Int) (M : List (Int × Int)) : Prop := ∀ v : Nat, mget (v : Int) M = if 0 ≤ O.getD v (-1) then some (O.getD v (-1)) else none
theorem MO.some {O : List Int} {M : List (Int × Int)} (h : MO O M) {l : Int} (hl : 0 ≤ l) (h0 : 0 ≤ ownO O l) : mget (l / 2) M = some (ownO O l) := by
  have := h (l / 2).toNat
  rw [show (((l / 2).toNat : Nat) : Int) = l / 2 by omega, if_pos h0] at this
  exact this
theorem MO.none {O : List Int} {M : List (Int × Int)} (h : MO O M) {l : Int} (hl : 0 ≤ l) (h0 : ¬ 0 ≤ ownO O l) : mget (l / 2) M = none := by
  have := h (l / 2).toNat
  rw [show (((l / 2).toNat : Nat) : Int) = l / 2 by omega, if_neg h0] at this
  exact this
theorem MO.put {O : List Int} {M : List (Int × Int)} (h : MO O M) {l x : Int} (hl : 0 ≤ l) (h0 : ¬ 0 ≤ ownO O l) (hx : 0 ≤ x) (hv : (l / 2).toNat < O.length) : MO (O.set (l / 2).toNat x) (M ++ [(l / 2, x)]) := by
  intro v
  rw [set_getD hv, mget_snoc]
  by_cases he : (l / 2).toNat = v
  · rw [if_pos he, if_pos hx]
    have h1 := h.none hl h0
    rw [show l / 2 = (v : Int) by omega] at h1
    rw [h1, dec_true (show (v : Int) = l / 2 by omega)]; rfl
  · rw [if_neg he, h v, dec_false (show ¬ (v : Int) = l / 2 by omega)]
    by_cases h9 : 0 ≤ O.getD v (-1)
    · rw [if_pos h9]
    · rw [if_neg h9]; rfl
theorem xor_neg {x l : Int} : xorI x (l % 2) = negB x l := by
  unfold xorI negB
  rfl
section
variable {n : List (Int × Int)} {outs : List Int} {na ua : Option Addr} {nc uc gs gb r rm gO gn gU gp gB : Nat}
/-- What Balance and its inner function share. -/
noncomputable abbrev mBP (n : List (Int × Int)) (outs : List Int) (ua : Option Addr) (uc gb rm gO gn gU gp gB : Nat) (M : List (Int × Int)) : List Piece :=
  [pmap encJ encJ rm M, pcell gO #[.map (some rm)] 117, pcell gU #[.slice ua (usesV n outs).length uc] 23, pcell gp #[.func (.func 100) #[] #[.pointer (some ⟨gO, 0, none⟩), .pointer (some ⟨gn, 0, none⟩), .pointer (some ⟨gU, 0, none⟩), .pointer (some ⟨gp, 0, none⟩), .pointer (some ⟨gB, 0, none⟩)]] 102, pcell gB #[.pointer (some ⟨gb, 0, none⟩)] 113]
/-- All that is known of the program's state. -/
def BAt (n : List (Int × Int)) (outs : List Int) (ua : Option Addr) (uc gs gb r rm gO gn gU gp gB : Nat) (w0 : World) (s : BSt) (rest : List Piece) (w : World) : Prop :=
  Ext w0 w ∧ ∃ a cap la lc V M, MO s.O M ∧ LvOk s.N V ∧ Lt.Sep w0.heap.size w (stN w0.heap.size gs a cap r s.N ++ (blP w0.heap.size gb gs la lc V ++ (mBP n outs ua uc gb rm gO gn gU gp gB M ++ rest)))
theorem balance_putOld (hn : n.length ≤ 100) (w0 : World) (s : BSt) (l : Int) (rest : List Piece) (w : World) (hs : BOk n s) (h0 : 0 ≤ l) (hln : l / 2 ≤ n.length) (h1 : 0 ≤ ownO s.O l) (hA : BAt n outs ua uc gs gb r rm gO gn gU gp gB w0 s rest w) :
    Lt.Spec Try.prog 100 ([.int .i64 l] ++ [.pointer (some ⟨gO, 0, none⟩), .pointer (some ⟨gn, 0, none⟩), .pointer (some ⟨gU, 0, none⟩), .pointer (some ⟨gp, 0, none⟩), .pointer (some ⟨gB, 0, none⟩)]) w (fun v w' => v = .int .i64 (negB (ownO s.O l) l) ∧ BAt n outs ua uc gs gb r rm gO gn gU gp gB w0 s rest w') := by
  have hA' := hA
  obtain ⟨hX, a, cap, la, lc, V, M, hMO, hV, hS⟩ := hA'
  obtain ⟨m0, _⟩ := cells_heap (hS.cell (i := 6) rfl)
  have hMp := hS.map (i := 5) rfl
  have hmg := hMO.some h0 h1
  have hx9 := hs.own hn h1
  have e9 : xorI (ownO s.O l) (l % 2) = negB (ownO s.O l) l := xor_neg
  obtain ⟨x, hxe⟩ : ∃ x, x = ownO s.O l := ⟨_, rfl⟩
  rw [← hxe] at hmg hx9 e9 ⊢
  refine Spec.of _ Try.func100 rfl Try.ntmps100 (by kernel_rfl) rfl ?_
  repeat' (first
    | ((apply WL.lookSomeF tOk keyJ; exact rfl; exact rfl; exact rfl; exact rfl; exact rfl; exact rfl; exact rfl; exact hMp; exact hmg))
    | (show WL _ _ _ _ _ _ _; first | apply WL.nil | (refine WL.au (k := ?_)))
    | (show Z _ _ _ _ _; apply Z.then_normal)
    | (show W _ _ _ _ _ _; first | apply W.seq | apply W.region)
    | fail)
  refine W.condKF rfl rfl ?_
  repeat' (first
    | ((apply WL.look1S tOk keyJ; exact rfl; exact rfl; exact rfl; exact rfl; exact rfl; exact rfl; exact rfl; exact hMp; exact hmg))
    | (apply WL.andA; exact rfl; exact rfl; exact rfl; exact rfl)
    | (apply WL.xorI; exact rfl; exact rfl; exact rfl; exact rfl; omega; omega)
    | (show WL _ _ _ _ _ _ _; first | apply WL.nil | (refine WL.au (k := ?_)))
    | (show Z _ _ _ _ _; apply Z.then_normal)
    | (show W _ _ _ _ _ _; first | apply W.seq | apply W.region | apply W.skip | apply W.ret)
    | fail)
  exact Z.body1 Try.results100 rfl fun m => ⟨by rw [e9], hX.at m, a, cap, la, lc, V, M, hMO, hV, hS.ext ((Ext.refl _).at m)⟩
set_option maxHeartbeats 16000000 in
theorem balance_put (hg : GoodNet n) (hn : n.length ≤ 100) (w0 : World) (hcn : w0.cell? ⟨gn, 0, none⟩ = some (.slice na n.length nc)) (Rn : Row 2 encN w0 na n) (Ru : Row 1 encI w0 ua (usesV n outs)) : ∀ (f : Nat) (s : BSt) (l : Int) (rest : List Piece) (w : World), BOk n s → 0 ≤ l → l / 2 ≤ (f : Int) → l / 2 ≤ n.length → BAt n outs ua uc gs gb r rm gO gn gU gp gB w0 s rest w →
    Lt.Spec Try.prog 100 ([.int .i64 l] ++ [.pointer (some ⟨gO, 0, none⟩), .pointer (some ⟨gn, 0, none⟩), .pointer (some ⟨gU, 0, none⟩), .pointer (some ⟨gp, 0, none⟩), .pointer (some ⟨gB, 0, none⟩)]) w (fun v w' => v = .int .i64 (putF n (usesV n outs) (f + 1) s l).1 ∧ BAt n outs ua uc gs gb r rm gO gn gU gp gB w0 (putF n (usesV n outs) (f + 1) s l).2 rest w') := by
  intro f
  induction f with
  | zero =>
    intro s l rest w hs h0 hf hln hA
    have h1 : 0 ≤ ownO s.O l := hs.inp _ (by omega) (fun h => by have := h.1; omega)
    rw [putF, if_pos h1]
    exact balance_putOld hn w0 s l rest w hs h0 hln h1 hA
  | succ f ih =>
    intro s l rest w hs h0 hf hln hA
    rw [putF]
    by_cases h1 : 0 ≤ ownO s.O l
    · rw [if_pos h1]
      exact balance_putOld hn w0 s l rest w hs h0 hln h1 hA
    rw [if_neg h1]
    have hgt : gateN n (l / 2) := by
      refine Classical.byContradiction fun h => h1 (hs.inp _ (by omega) ?_)
      rw [show (((l / 2).toNat : Nat) : Int) = l / 2 by omega]; exact h
    obtain ⟨a1, a2, a3, a4⟩ := leaf_all (U := usesV n outs) hg n.length (l / 2) (by omega) hgt
    have a5 := leaf_len (outs := outs) hg n.length (l / 2)
    have hlv := fun (w9 : World) (h9 : Ext w0 w9) => balance_leaves na ua nc uc n outs hg (by omega) n.length (l / 2) w9 (Rn.ext h9) (Ru.ext h9) (by omega) (by omega)
    have hput := put_ok (outs := outs) hg (f + 1) s l hs h0 hf hln
    rw [putF, if_neg h1] at hput
    unfold putG leafL at hput ⊢
    generalize leafF n (usesV n outs) n.length (l / 2) = L at *
    have hpo : ∀ s z, BOk n s → z ∈ L → BPut n s z (putF n (usesV n outs) (f + 1) s z) := fun s z hs hz => put_ok (outs := outs) hg f s z hs (a2 z hz).1 (by have := (a2 z hz).2; omega) (by have := (a2 z hz).2; omega)
    have hq := fun k hk => puts_ok (put := putF n (usesV n outs) (f + 1)) hs hpo k hk
    have ih' : ∀ (s : BSt) (z : Int) (rest : List Piece) (w : World), BOk n s → z ∈ L → BAt n outs ua uc gs gb r rm gO gn gU gp gB w0 s rest w → Lt.Spec Try.prog 100 ([.int .i64 z] ++ [.pointer (some ⟨gO, 0, none⟩), .pointer (some ⟨gn, 0, none⟩), .pointer (some ⟨gU, 0, none⟩), .pointer (some ⟨gp, 0, none⟩), .pointer (some ⟨gB, 0, none⟩)]) w (fun v w' => v = .int .i64 (putF n (usesV n outs) (f + 1) s z).1 ∧ BAt n outs ua uc gs gb r rm gO gn gU gp gB w0 (putF n (usesV n outs) (f + 1) s z).2 rest w') := fun s z rest w hs hz hA => ih s z rest w hs (a2 z hz).1 (by have := (a2 z hz).2; omega) (by have := (a2 z hz).2; omega) hA
    clear ih
    generalize putF n (usesV n outs) (f + 1) = put at *
    obtain ⟨hX, a, cap, la, lc, V, M, hMO, hV, hS⟩ := hA
    obtain ⟨m0, _⟩ := cells_heap (hS.cell (i := 6) rfl)
    obtain ⟨m1, _⟩ := cells_heap (hS.cell (i := 7) rfl)
    have hMp := hS.map (i := 5) rfl
    have hmg := hMO.none h0 h1
    have hcn1 := hX.cell hcn
    refine Spec.of _ Try.func100 rfl Try.ntmps100 (by kernel_rfl) rfl ?_
    repeat' (first
      | ((apply WL.lookNoneF tOk keyJ; exact rfl; exact rfl; exact rfl; exact rfl; exact rfl; exact rfl; exact rfl; exact hMp; exact hmg))
      | (show WL _ _ _ _ _ _ _; first | apply WL.nil | (refine WL.au (k := ?_)))
      | (show Z _ _ _ _ _; apply Z.then_normal)
      | (show W _ _ _ _ _ _; first | apply W.seq | apply W.region)
      | fail)
    refine W.condKT rfl rfl ?_
    repeat' (first
      | (apply WL.call; exact rfl; exact rfl; exact rfl; exact rfl; exact hlv _ (show Ext w0 _ from (by (exact extA))); rintro v' w' ⟨hx, a', cap', rfl, hO⟩; (obtain ⟨aL, rfl⟩ : ∃ x, x = a' := ⟨_, rfl⟩; obtain ⟨cL, rfl⟩ : ∃ x, x = cap' := ⟨_, rfl⟩; obtain ⟨hOL, rfl⟩ : ∃ x, x = hO := ⟨_, rfl⟩; obtain ⟨hxL, rfl⟩ : ∃ x, x = hx := ⟨_, rfl⟩; obtain ⟨w2, rfl⟩ : ∃ x, x = w' := ⟨_, rfl⟩))
      | (show WL _ _ _ _ _ _ _; first | apply WL.nil | (refine WL.au (k := ?_)))
      | (show Z _ _ _ _ _; apply Z.then_normal)
      | (show W _ _ _ _ _ _; first | apply W.seq | apply W.region | apply W.block)
      | fail)
    have hSL := Sep.putMid (A := [_, _, _, _, _, _, _, _, _, _]) (Sep.newRow' (Sep.ext hS (show Ext w _ from (by (exact extA)))) hxL hOL (Below.size (show Ext w0 _ from (by (exact extA)))))
    have hSA := Sep.putMid (A := [_, _, _, _, _, _, _, _, _, _, _]) (Sep.newRow (s := 1) (enc := encI) (el := 3) (a := none) (cap := 0) (l := []) hSL (Ext.refl _) Own.nil (fun k hk => by cases hk) (Below.size (show Ext w0 w2 from (by (exact extA)))))
    have hX2 : Ext w0 w2 := (by (exact extA))
    have hA2 : BAt n outs ua uc gs gb r rm gO gn gU gp gB w0 s (prow 1 encI 3 w0.heap.size aL cL L :: prow 1 encI 3 w0.heap.size none 0 [] :: rest) w2 := ⟨hX2, a, cap, la, lc, V, M, hMO, hV, hSA⟩
    refine W.loop (σ := (Option Addr × Nat × Nat) × World) (fun s9 => s9.1.2.2 ≤ L.length ∧ BAt n outs ua uc gs gb r rm gO gn gU gp gB w0 (putsTo put s L s9.1.2.2).2 (prow 1 encI 3 w0.heap.size aL cL L :: prow 1 encI 3 w0.heap.size s9.1.1 s9.1.2.1 (putsTo put s L s9.1.2.2).1 :: rest) s9.2) (fun s9 => [(0, .int .i64 l), (1, .pointer (some ⟨gO, 0, none⟩)), (4, .pointer (some ⟨gp, 0, none⟩)), (5, .pointer (some ⟨gB, 0, none⟩)), (8, .int .i64 (l / 2)), (11, .slice s9.1.1 (putsTo put s L s9.1.2.2).1.length s9.1.2.1), (27, .slice aL L.length cL), (28, .int .i64 L.length), (29, .int .i64 s9.1.2.2)]) (fun s9 => s9.2) (fun s9 => L.length - s9.1.2.2) ((none, 0, 0), w2) ⟨Nat.zero_le _, hA2⟩ ⟨rfl, rfl, rfl, rfl, rfl, rfl, rfl, rfl, rfl, trivial⟩ rfl ?_
    clear hA2 hSA hSL hX2 hOL hS hMp hmg hX hcn1 m0 m1 hxL
    rintro ⟨⟨aA, cA, k⟩, w3⟩ ⟨hk, hA3⟩
    dsimp only at hk hA3 ⊢
    have hqk := hq k hk
    have hA3' := hA3
    obtain ⟨hX3, a3, cap3, la3, lc3, V3, M3, hMO3, hV3, hS3⟩ := hA3'
    have hRL := (hS3.row (i := 10) rfl).row encI_ok
    obtain ⟨m0, _⟩ := cells_heap (hS3.cell (i := 6) rfl)
    obtain ⟨m2, _⟩ := cells_heap (hS3.cell (i := 8) rfl)
    obtain ⟨m3, _⟩ := cells_heap (hS3.cell (i := 9) rfl)
    by_cases hlt : k < L.length
    · obtain ⟨z, hz⟩ := getI L hlt
      have hzm := List.mem_of_getElem? hz
      have hst := putsTo_succ (put := put) (s := s) hz
      have hql := hqk.len
      have hqo := hqk.ok
      obtain ⟨q, hqe⟩ : ∃ q, putsTo put s L k = q := ⟨_, rfl⟩
      rw [hqe] at hst hqo hql hA3 ⊢
      have hpz := hpo q.2 z hqo hzm
      repeat' (first
        | (show WL _ _ _ _ _ _ _; first | apply WL.nil | (refine WL.au (k := ?_)))
        | (show Z _ _ _ _ _; apply Z.then_normal)
        | (show W _ _ _ _ _ _; first | apply W.seq | apply W.region)
        | fail)
      refine W.condKT rfl (dec_true (by omega)) ?_
      repeat' (first
        | ((apply WL.load tgOk; exact rfl; exact rfl; exact rfl; exact rfl; exact rfl; exact m2))
        | ((show WL _ _ _ (⟨_, .call ⟨.value (.tmp _), _, _⟩, _, _, _, _⟩ :: _) _ _ _; apply WL.call; exact rfl; exact rfl; exact rfl; exact rfl; exact ih' q.2 z _ w3 hqo hzm hA3; rintro v' w4 ⟨rfl, hX4, a4, cap4, la4, lc4, V4, M4, hMO4, hV4, hS4⟩; have hRA := hS4.row (i := 11) rfl))
        | (apply WL.lit tOk; exact rfl; exact rfl; exact rfl; exact rfl; exact rfl; exact rfl; (first | exact rfl | kernel_rfl | (simp [Instr.fill, catCells]; done)); exact rfl; intro gb w' hb hge hc hx)
        | (apply WL.append1 (z := ((put q.2 z).1)) tOk encI_ok; exact rfl; exact rfl; exact rfl; exact rfl; exact rfl; exact rfl; exact rfl; exact rfl; exact rfl; exact rfl; assumption; (exact extA); (first | exact rfl | (focus (simp only [List.length_set]; done)) | (focus (simp; done)) | (focus (simp [*]; done)) | omega | (focus (simp only [List.length_set]; omega))); (first | assumption | (refine Cells.ext ?_ (by assumption); exact extA)); exact rfl; exact rfl; (exact extA); (first | omega | (simp; omega) | (simp at *; omega)); intro a' cap' w' hO hX' hU hF)
        | (show WL _ _ _ _ _ _ _; first | apply WL.nil | (refine WL.au (k := ?_)) | (apply WL.index tOk; exact rfl; exact rfl; exact rfl; exact rfl; exact rfl; exact rfl; exact rfl; exact rfl; assumption; (exact extA); exact rfl; omega; assumption; intro b off h; have hcc := h; first | (obtain ⟨h1, h2, h3, h4, h5, h6, _⟩ := h) | (obtain ⟨h1, h2, h3, _⟩ := h) | (obtain ⟨h1, h2, _⟩ := h) | (obtain ⟨h1, _⟩ := h)))
        | (show Z _ _ _ _ _; first | apply Z.then_normal | apply Z.block_normal)
        | (show W _ _ _ _ _ _; first | apply W.seq | apply W.region | apply W.block | apply W.skip)
        | fail)
      have hS5 := Sep.updRow (i := 11) rfl hU hO hF (Sep.ext hS4 (by (exact extA))) (Ext.refl _) (Below.size (show Ext w0 _ from (by (exact extA))))
      exact Z.again ((a', cap', k + 1), w') ⟨by dsimp only; omega, by dsimp only; rw [hst]; exact ⟨(by (exact extA)), a4, cap4, la4, lc4, V4, M4, hMO4, hV4, hS5⟩⟩ (by dsimp only; omega) (by dsimp only; rw [hst]; exact ⟨rfl, rfl, rfl, rfl, rfl, rfl, rfl, rfl, rfl, trivial⟩) rfl
    obtain rfl : k = L.length := by omega
    have hql := hqk.len
    have hqo := hqk.ok
    have hqh := hqk.has
    have hqf := hqk.far (l / 2).toNat fun z hz => by have := (a2 z hz).2; omega
    obtain ⟨q, hqe⟩ : ∃ q, putsTo put s L L.length = q := ⟨_, rfl⟩
    rw [hqe] at hqo hql hqh hqf hMO3 hV3 hS3 hput ⊢
    clear hA3 hqk hq hqe hpo ih' hlv
    have hqN := hqo.small hn
    have hno : ¬ 0 ≤ ownO q.2.O l := by show ¬ 0 ≤ q.2.O.getD (l / 2).toNat (-1); rw [hqf]; exact h1
    have hmg3 := hMO3.none h0 hno
    have hOl : (l / 2).toNat < q.2.O.length := by rw [hqo.len]; omega
    have hAok := allB_ok q.1.length q.2.N q.1 hqo.tidy hqh (by omega) (Nat.le_succ _)
    have hSp := Sep.ofPerm (List.Perm.append_left [_, _, _, _, _] (List.perm_middle (l₁ := [_, _, _, _, _, _]))) hS3
    have hall := balance_all gs gb r cap3 lc3 cA a3 la3 aA q.2.N V3 q.1 (mBP n outs ua uc gb rm gO gn gU gp gB M3 ++ (prow 1 encI 3 w0.heap.size aL cL L :: rest)) w3 w0 hX3 hSp hqo.tidy (by omega) hV3 hqh (by omega)
    have hrm := (hS3.lt (i := 5) rfl rfl).1
    have hCO : CellC gO #[.map (some rm)] 117 w3 := hS3.cell (i := 6) rfl
    have hAs := hput.ok.small hn
    generalize allB q.1.length q.2.N q.1 = A at *
    have hA0 : 0 ≤ A.1 := hAok.has.1
    have hA1 : A.1 < 2 * ((A.2.length : Int) + 1) := hAok.has.2
    have hAs' : A.2.length ≤ 10201 := hAs
    have hMO9 := hMO3.put h0 hno hA0 hOl
    have hmg9 := hMO9.some h0 (show 0 ≤ (q.2.O.set (l / 2).toNat A.1).getD (l / 2).toNat (-1) by rw [set_getD hOl, if_pos rfl]; exact hA0)
    rw [show ownO (q.2.O.set (l / 2).toNat A.1) l = A.1 from by show (q.2.O.set _ _).getD _ _ = _; rw [set_getD hOl, if_pos rfl]] at hmg9
    repeat' (first
      | (show WL _ _ _ _ _ _ _; first | apply WL.nil | (refine WL.au (k := ?_)))
      | (show Z _ _ _ _ _; apply Z.then_normal)
      | (show W _ _ _ _ _ _; first | apply W.seq | apply W.region)
      | fail)
    refine W.condKF rfl (dec_false (by omega)) ?_
    repeat' (first
      | (show W _ _ (.region 10 _ _) _ _ _; apply W.regionG (.fl true 1 (.fl true 3 (.fl false 0 (.br 2 (.br 4 (.br 5 .done .stop) .stop) .stop)))) [2, 4] (CellC gO #[.map (some rm)] 117) tMix; kernel_rfl)
      | (((show WL _ _ _ (⟨_, .call ⟨.value (.func 102), _, _⟩, _, _, _, _⟩ :: _) _ _ _); apply WL.call; exact rfl; exact rfl; exact rfl; exact rfl; exact hall; rintro v' w4 ⟨rfl, hX4, a4, cap4, la4, lc4, V4, ll4, lp4, L9, hV4, hS4⟩; have hC4 : CellC gO #[.map (some rm)] 117 w4 := hS4.cell (i := 7) rfl; have hM4 := hS4.map (i := 6) rfl))
      | ((apply WL.mapPutF (B := 0) (w0 := w0) (vv := encJ) tOk keyJ; exact rfl; exact rfl; exact rfl; exact rfl; exact rfl; exact rfl; exact hM4; exact (by (exact extA)); exact hrm; intro w5 hM5 hX5 hU5))
      | (show WL _ _ _ _ _ _ _; first | apply WL.nil | (refine WL.au (k := ?_)))
      | (show SG _ _ _ _ _ _ _ _ _; first | apply SG.done | (apply SG.fl0; exact rfl) | (apply SG.fl1; exact rfl; (focus ((intro m; first | assumption | (apply Ext.at; (exact extA)) | apply But.of_at; first | exact But.upd (by assumption) | exact But.ext (by (exact extA)) | (refine But.trans ?_ (But.upd (by assumption)); exact But.ext (by (exact extA))) | exact But.at _ _ _); done))) | (apply SG.br1; exact rfl))
      | (show FL _ _ _ _ _ _ _ _; (apply FL.loadC tOk; exact rfl; exact rfl; exact rfl; exact rfl; exact rfl; exact rfl))
      | (show FL _ _ _ _ _ _ _ _; first | apply FL.nilS | (refine FL.au (k := ?_)))
      | (show Z _ _ _ _ _; first | (apply Z.sgL; exact rfl) | (apply Z.sgE; (focus ((intro m; first | assumption | (apply Ext.at; (exact extA)) | apply But.of_at; first | exact But.upd (by assumption) | exact But.ext (by (exact extA)) | (refine But.trans ?_ (But.upd (by assumption)); exact But.ext (by (exact extA))) | exact But.at _ _ _); done))))
      | (show Z _ _ _ _ _; first | apply Z.then_normal | apply Z.then_exit | apply Z.block_exit)
      | (show W _ _ _ _ _ _; first | apply W.seq | apply W.region | apply W.exit)
      | fail)
    all_goals
      rw [hmg3] at hM5
      have hS5 := Sep.dropMid (A := [_, _, _, _, _, _, _, _, _, _]) (Sep.dropMid (A := [_, _, _, _, _]) (Sep.updMap (i := 6) rfl hU5 hM5 hS4 (Ext.refl _) (Below.size hX4)))
      have hM6 := hS5.map (i := 5) rfl
      obtain ⟨k0, _⟩ := cells_heap (hS5.cell (i := 6) rfl)
      have e9 : xorI A.1 (l % 2) = negB A.1 l := xor_neg
      repeat' (first
        | ((apply WL.look1S tOk keyJ; exact rfl; exact rfl; exact rfl; exact rfl; exact rfl; exact rfl; exact rfl; exact hM6; exact hmg9))
        | (apply WL.andA; exact rfl; exact rfl; exact rfl; exact rfl)
        | (apply WL.xorI; exact rfl; exact rfl; exact rfl; exact rfl; omega; omega)
        | (show WL _ _ _ _ _ _ _; first | apply WL.nil | (refine WL.au (k := ?_)))
        | (show Z _ _ _ _ _; apply Z.then_normal)
        | (show W _ _ _ _ _ _; apply W.ret)
        | fail)
      exact Z.body1 Try.results100 rfl fun m => ⟨by rw [e9], hX5.at m, a4, cap4, la4, lc4, V4, _, hMO9, hV4, Sep.ext hS5 ((Ext.refl _).at m)⟩
end
end Go.Proofs.Ythpnahapiodflaa
namespace Go.Proofs.Ythpnahapiodflaa
open Go Go.Lt Go.RowKit
set_option linter.unusedVariables false
set_option linter.unusedSimpArgs false
set_option maxRecDepth 20000

noncomputable def inTo (n : List (Int × Int)) (k : Nat) : List Int := sel (k + 1) (fun u => 1 ≤ u ∧ InP n u)
noncomputable def inputs (n : List (Int × Int)) : List Int := inTo n n.length
theorem inTo_zero (n : List (Int × Int)) : inTo n 0 = [] := by rw [inTo, sel_no (fun h => by omega)]; rfl
theorem inTo_yes {n : List (Int × Int)} {k : Nat} {x : Int × Int} (hx : n[k]? = some x) (h : x.1 < 0) : inTo n (k + 1) = inTo n k ++ [((k + 1 : Nat) : Int)] := sel_yes ⟨by omega, x, by simpa using hx, h⟩
theorem inTo_no {n : List (Int × Int)} {k : Nat} {x : Int × Int} (hx : n[k]? = some x) (h : ¬ x.1 < 0) : inTo n (k + 1) = inTo n k := sel_no (fun ⟨_, y, hy, h'⟩ => by
  rw [Nat.add_sub_cancel, hx] at hy; cases hy; exact h h')
theorem inTo_len (n : List (Int × Int)) : ∀ k, k ≤ n.length → (inTo n k).length = cnt n k
  | 0, _ => by rw [inTo_zero]; rfl
  | k + 1, h => by
    obtain ⟨x, hx⟩ := getI n (show k < n.length by omega)
    by_cases hin : x.1 < 0
    · rw [inTo_yes hx hin, cnt_in hx hin, List.length_append, inTo_len n k (by omega)]; rfl
    · rw [inTo_no hx hin, cnt_gate hx hin, inTo_len n k (by omega)]
theorem aig_Inputs (a : Option Addr) (cap : Nat) (n : List (Int × Int)) (w : World) (R : Row 2 encN w a n) (hn : n.length ≤ 1048576) :
    Lt.Spec Try.prog 98 [.slice a n.length cap] w (IsFresh 1 encI 3 w (inputs n)) := by
  refine Spec.of _ Try.func98 rfl Try.ntmps98 (by kernel_rfl) rfl ?_
  repeat' (first
    | (show WL _ _ _ _ _ _ _; first | apply WL.nil | (refine WL.au (k := ?_)))
    | (show Z _ _ _ _ _; apply Z.then_normal)
    | (show W _ _ _ _ _ _; first | apply W.seq | apply W.region | apply W.block))
  refine W.loopO n.length (fun k c cp w' => k ≤ n.length ∧ Ext w w' ∧ Own 1 encI 3 w.heap.size w' c cp (inTo n k))
    (fun k c cp => [(3, .slice c (inTo n k).length cp), (6, .slice a n.length cap), (7, .int .i64 n.length), (8, .int .i64 k)]) none 0 ⟨by omega, Ext.refl _, by rw [inTo_zero]; exact Own.nil⟩ (fun k c cp w' h => h.1) ⟨by rw [inTo_zero]; exact rfl, rfl, rfl, rfl, trivial⟩ ?_
  rintro k c cp w' ⟨hk, hx', hO'⟩
  have hl := inTo_len n k hk
  have hcl := cnt_le n k
  by_cases hlt : k < n.length
  · obtain ⟨x, hxn⟩ := getI n hlt
    by_cases hin : x.1 < 0
    · have e1 := inTo_yes hxn hin
      repeat' (first
        | (apply W.condKT; exact rfl; (focus (first | exact dec_true (by omega); done)))
        | (apply WL.alloc tOk; exact rfl; exact rfl; exact rfl; intro gb w' hb hge hx)
        | (apply WL.storeB (w0 := w) tOk; exact rfl; exact rfl; exact rfl; exact rfl; assumption; (exact extA); exact rfl; exact rfl; exact rfl; (exact extA); (first | assumption | omega | (focus (apply Nat.le_trans; rotate_left; assumption; exact Below.size (by (exact extA)); done))); intro w' hb hc hX' hU; have hcc := hc; obtain ⟨h1, h2, _⟩ := hc; have hO3 := Upd.own hU (Own.ext hO' hx) (Own.blk_ne hO' hge))
        | (apply WL.lit tOk; exact rfl; exact rfl; exact rfl; exact rfl; exact rfl; exact rfl; (first | exact rfl | kernel_rfl | (simp [Instr.fill, catCells]; done)); exact rfl; intro gb w' hb hge hc hx)
        | (apply WL.append1 (z := (((k + 1 : Nat) : Int))) tOk encI_ok; exact rfl; exact rfl; exact rfl; exact rfl; exact rfl; exact rfl; exact rfl; exact rfl; exact rfl; exact rfl; assumption; (exact extA); (first | exact rfl | (focus (simp only [List.length_set]; done)) | (focus (simp; done)) | (focus (simp [*]; done)) | omega | (focus (simp only [List.length_set]; omega))); (first | assumption | (refine Cells.ext ?_ (by assumption); exact extA)); exact rfl; exact rfl; (exact extA); (first | omega | (simp; omega) | (simp at *; omega)); intro a' cap' w' hO hX' hU hF)
        | (show WL _ _ _ _ _ _ _; first | apply WL.nil | (refine WL.au (k := ?_)) | (apply WL.index tOk; exact rfl; exact rfl; exact rfl; exact rfl; exact rfl; exact rfl; exact rfl; exact rfl; assumption; (exact extA); exact rfl; omega; assumption; intro b off h; have hcc := h; first | (obtain ⟨h1, h2, h3, h4, h5, h6, _⟩ := h) | (obtain ⟨h1, h2, h3, _⟩ := h) | (obtain ⟨h1, h2, _⟩ := h) | (obtain ⟨h1, _⟩ := h)))
        | (show Z _ _ _ _ _; first | apply Z.then_normal | apply Z.block_normal)
        | (show W _ _ _ _ _ _; first | apply W.seq | apply W.region | apply W.block | apply W.skip))
      exact Z.againO a' cap' ⟨by omega, hX', by rw [e1]; exact hO⟩ (by repeat' first | exact trivial | (refine And.intro ?_ ?_) | exact rfl | (rw [e1]; exact rfl))
    · have e1 := inTo_no hxn hin
      repeat' (first
        | (apply W.condKT; exact rfl; (focus (first | exact dec_true (by omega) | exact dec_false (by omega); done)))
        | (apply W.condKF; exact rfl; (focus (first | exact dec_true (by omega) | exact dec_false (by omega); done)))
        | (apply WL.alloc tOk; exact rfl; exact rfl; exact rfl; intro gb w' hb hge hx)
        | (apply WL.storeB (w0 := w) tOk; exact rfl; exact rfl; exact rfl; exact rfl; assumption; (exact extA); exact rfl; exact rfl; exact rfl; (exact extA); (first | assumption | omega | (focus (apply Nat.le_trans; rotate_left; assumption; exact Below.size (by (exact extA)); done))); intro w' hb hc hX' hU; have hcc := hc; obtain ⟨h1, h2, _⟩ := hc; have hO3 := Upd.own hU (Own.ext hO' hx) (Own.blk_ne hO' hge))
        | (show WL _ _ _ _ _ _ _; first | apply WL.nil | (refine WL.au (k := ?_)) | (apply WL.index tOk; exact rfl; exact rfl; exact rfl; exact rfl; exact rfl; exact rfl; exact rfl; exact rfl; assumption; (exact extA); exact rfl; omega; assumption; intro b off h; have hcc := h; first | (obtain ⟨h1, h2, h3, h4, h5, h6, _⟩ := h) | (obtain ⟨h1, h2, h3, _⟩ := h) | (obtain ⟨h1, h2, _⟩ := h) | (obtain ⟨h1, _⟩ := h)))
        | (show Z _ _ _ _ _; first | apply Z.then_normal | apply Z.block_normal)
        | (show W _ _ _ _ _ _; first | apply W.seq | apply W.region | apply W.block | apply W.skip))
      exact Z.againO c cp ⟨by omega, hX', by rw [e1]; exact hO3⟩ (by repeat' first | exact trivial | (refine And.intro ?_ ?_) | exact rfl | (rw [e1]; exact rfl))
  · repeat' (first
      | (apply W.condKF; exact rfl; (focus (exact dec_false (by omega); done)))
      | (show WL _ _ _ _ _ _ _; first | apply WL.nil | (refine WL.au (k := ?_)))
      | (show Z _ _ _ _ _; first | apply Z.then_normal | apply Z.then_exit | apply Z.block_exit)
      | (show W _ _ _ _ _ _; first | apply W.seq | apply W.region | apply W.ret | apply W.exit))
    obtain rfl : k = n.length := by omega
    exact Z.body1 Try.results98 rfl fun m => ⟨hx'.at m, c, cp, rfl, hO'⟩

end Go.Proofs.Ythpnahapiodflaa
namespace Go.Lt
open Go.RowKit
set_option linter.unusedVariables false
set_option linter.unusedSimpArgs false

section rules
variable {P : Program} {N : Nat} {e : Env} {w : World} {Q : Exit → Act → World → Prop} {ops : List Oper} {l : List Oper} {T : Tab} {C : World → Prop}
  {d : Nat} {tt t : TypeId} {ps : String} {af : Array Edge} {g : Option (Nat × Bool)} {x y z : Operand} {ti ei : TI} {κ ν : Type} {kt et : TypeId} {kv : κ → Value} {vv : ν → Value} {L : List (κ × ν)} {a : κ} {v : ν} {r : Nat}
/-- A new key, or a value anew. -/
theorem WL.insertF {B : Nat} {w0 : World} (hT : OkTab P T) (hk : KeyF P kt kv) (hg : gate ops e g = some true) (hx : ev e x = some (.map (some r))) (hy : ev e y = some (kv a)) (hz : ev e z = some (vv v)) (ht : tget T t = some ti) (htd : ti.desc = .map kt et) (hM : MapIs kv vv w r L) (hX : Ext w0 w) (hB : w0.heap.size ≤ r)
    (k : ∀ w', MapIs kv vv w' r (match mget a L with | none => L ++ [(a, v)] | some _ => mset a v L) → Ext w0 w' → Upd r (some ⟨r, 0, none⟩) w w' → WL P N ops.toArray l e w' Q) :
    WL P N ops.toArray (⟨none, .insert t x y z, tt, ps, af, g⟩ :: l) e w Q := by
  obtain ⟨es, clock, h1, h2⟩ := hM
  have hlt := heap_lt h1
  have hmg := mfind_get vv a L 0
  cases hm : mfind vv a L 0 with
  | none =>
    have hnew : mget a L = none := by
      cases hg2 : mget a L with
      | none => rfl
      | some u => rw [hm, hg2] at hmg; simp at hmg
    rw [hnew] at k
    refine WL.effN (w' := fun m => { at' w m with heap := w.heap.setIfInBounds r (.map (es.push { key := kv a, val := vv v, born := clock }) (clock + 1)) }) hg ?_ (fun m => ?_)
    · intro ρ hρ m
      have hu := run_underlying' (hT.at ht) (at' w m); rw [htd] at hu
      have hf := hk.find vv a (at' w m) es.toList L h2
      have hg : (getObj r).run P (at' w m) = .ok (.map es clock) (at' w m) := by simp [getObj, Sem.run, h1]
      rw [hm] at hf
      have hset : (setObj r (.map (es.push { key := kv a, val := vv v, born := clock }) (clock + 1))).run P (at' w m) = .ok () { at' w m with heap := w.heap.setIfInBounds r (.map (es.push { key := kv a, val := vv v, born := clock }) (clock + 1)) } := by simp [setObj, Sem.run, h1]
      have hrun : (Instr.mapUpdate t (.map (some r)) (kv a) (vv v)).run P (at' w m) = .ok () { at' w m with heap := w.heap.setIfInBounds r (.map (es.push { key := kv a, val := vv v, born := clock }) (clock + 1)) } := by
        simp only [Instr.mapUpdate, Sem.run_bind, hu, Result.andThen_ok, hg, hk.chk, hf, hset]
      simp [execOp, hρ _ _ hx, hρ _ _ hy, hρ _ _ hz, hrun]
    · have hU : Upd r (some ⟨r, 0, none⟩) w { at' w m with heap := w.heap.setIfInBounds r (.map (es.push { key := kv a, val := vv v, born := clock }) (clock + 1)) } :=
        ⟨⟨rfl, rfl, rfl, by simp, fun q hq hne => by
          simp only [blk, Option.map_some, ne_eq, Option.some.injEq] at hne
          simp only [Array.getElem?_setIfInBounds]
          rw [if_neg (fun h => hne h.symm)]⟩, fun q hq => by simp only [blk, Option.map_some, Option.some.injEq] at hq; omega⟩
      refine k _ ⟨_, _, by simp [Array.getElem?_setIfInBounds, hlt]; exact ⟨rfl, rfl⟩, ?_⟩ (hU.ext hX hB) hU
      simp [h2]
  | some q =>
    obtain ⟨j, qv⟩ := q
    obtain ⟨u, hu2⟩ : ∃ u, mget a L = some u := by
      cases hg2 : mget a L with
      | none => rw [hm, hg2] at hmg; simp at hmg
      | some u => exact ⟨u, rfl⟩
    rw [hu2] at k
    obtain ⟨m1, m2, m3, m4⟩ := mfind_mset (kv := kv) a v L 0 j qv hm
    rw [Nat.sub_zero] at m2 m3 m4
    have hlen : es.toList.length = L.length := by have := congrArg List.length h2; simpa using this
    have hkey : (((es[j]?).map (·.key)).getD (kv a)) = kv a := by
      have h3 := congrArg (fun l => (l.map Prod.fst)[j]?) h2
      simp only [List.map_map] at h3
      have e1 : (L.map (Prod.fst ∘ fun x => (kv x.1, vv x.2)))[j]? = some (kv a) := m4
      rw [e1] at h3
      rw [List.getElem?_map] at h3
      obtain ⟨en, hen, hek⟩ := Option.map_eq_some_iff.1 h3
      have : es[j]? = some en := by simpa using hen
      rw [this]; exact hek
    refine WL.effN (w' := fun m => { at' w m with heap := w.heap.setIfInBounds r (.map (es.modify j fun e => { e with key := kv a, val := vv v }) clock) }) hg ?_ (fun m => ?_)
    · intro ρ hρ m
      have hu := run_underlying' (hT.at ht) (at' w m); rw [htd] at hu
      have hf := hk.find vv a (at' w m) es.toList L h2
      have hg : (getObj r).run P (at' w m) = .ok (.map es clock) (at' w m) := by simp [getObj, Sem.run, h1]
      rw [hm] at hf
      have hset : (setObj r (.map (es.modify j fun e => { e with key := kv a, val := vv v }) clock)).run P (at' w m) = .ok () { at' w m with heap := w.heap.setIfInBounds r (.map (es.modify j fun e => { e with key := kv a, val := vv v }) clock) } := by simp [setObj, Sem.run, h1]
      have hstay : (Instr.keyThatStays (kv a) (kv a)).run P (at' w m) = .ok (kv a) (at' w m) := by unfold Instr.keyThatStays; rw [hk.same a]; rfl
      have hrun : (Instr.mapUpdate t (.map (some r)) (kv a) (vv v)).run P (at' w m) = .ok () { at' w m with heap := w.heap.setIfInBounds r (.map (es.modify j fun e => { e with key := kv a, val := vv v }) clock) } := by
        simp only [Instr.mapUpdate, Sem.run_bind, hu, Result.andThen_ok, hg, hk.chk, hf, hkey, hstay, hset]
      simp [execOp, hρ _ _ hx, hρ _ _ hy, hρ _ _ hz, hrun]
    · have hU : Upd r (some ⟨r, 0, none⟩) w { at' w m with heap := w.heap.setIfInBounds r (.map (es.modify j fun e => { e with key := kv a, val := vv v }) clock) } :=
        ⟨⟨rfl, rfl, rfl, by simp, fun q hq hne => by
          simp only [blk, Option.map_some, ne_eq, Option.some.injEq] at hne
          simp only [Array.getElem?_setIfInBounds]
          rw [if_neg (fun h => hne h.symm)]⟩, fun q hq => by simp only [blk, Option.map_some, Option.some.injEq] at hq; omega⟩
      refine k _ ⟨_, _, by simp [Array.getElem?_setIfInBounds, hlt]; exact ⟨rfl, rfl⟩, ?_⟩ (hU.ext hX hB) hU
      rw [← m3, ← h2]
      apply List.ext_getElem?
      intro i
      simp only [Array.toList_modify, List.getElem?_map, List.getElem?_modify, Option.map_map]
      by_cases hij : j = i
      · subst hij; simp [Function.comp_def]
      · simp [hij, Function.comp_def]

end rules
end Go.Lt
namespace Go.Proofs.Ythpnahapiodflaa
open Go Go.Lt Go.RowKit
set_option linter.unusedVariables false
set_option linter.unusedSimpArgs false
set_option maxRecDepth 20000

noncomputable def inM (n : List (Int × Int)) : Nat → List (Int × Int)
  | 0 => [(0, 0)]
  | k + 1 => if (n.getD k (0, 0)).1 < 0 then inM n k ++ [(((k + 1 : Nat) : Int), 2 * ((cnt n k : Int) + 1))] else inM n k
theorem iniO_succ {n : List (Int × Int)} (k v : Nat) : (iniO n (k + 1)).getD v (-1) = if v = k + 1 then (if (n.getD k (0, 0)).1 < 0 then 2 * ((cnt n k : Int) + 1) else -1) else (iniO n k).getD v (-1) := by
  have hl := iniO_len n k
  rw [iniO, List.getD]
  by_cases h : v = k + 1
  · subst h
    rw [if_pos rfl, List.getElem?_append_right (by omega), hl, Nat.sub_self]; rfl
  · rw [if_neg h]
    by_cases h2 : v < k + 1
    · rw [List.getElem?_append_left (by omega), List.getD]
    · rw [List.getElem?_append_right (by omega), List.getElem?_eq_none (by simp; omega), List.getD, List.getElem?_eq_none (by omega)]
theorem inM_MO {n : List (Int × Int)} : ∀ k, MO (iniO n k) (inM n k)
  | 0 => fun v => by
    match v with
    | 0 => simp [inM, iniO, mget, dec_true]
    | v + 1 =>
      show mget (((v + 1 : Nat) : Int)) [((0 : Int), (0 : Int))] = if 0 ≤ ([0] : List Int).getD (v + 1) (-1) then some (([0] : List Int).getD (v + 1) (-1)) else none
      rw [show ([0] : List Int).getD (v + 1) (-1) = -1 from rfl, if_neg (by decide)]
      unfold mget
      rw [dec_false (show ¬ (((v + 1 : Nat) : Int) = 0) by omega)]
      rfl
  | k + 1 => fun v => by
    have ih := inM_MO (n := n) k v
    rw [iniO_succ, inM]
    by_cases hv : v = k + 1
    · rw [if_pos hv]
      have e : (iniO n k).getD v (-1) = -1 := by rw [List.getD, List.getElem?_eq_none (by rw [iniO_len]; omega)]; rfl
      rw [e, if_neg (by decide)] at ih
      by_cases h0 : (n.getD k (0, 0)).1 < 0
      · rw [if_pos h0, if_pos h0, mget_snoc, ih, hv, dec_true rfl, if_pos (by omega)]; rfl
      · rw [if_neg h0, if_neg h0, ih, if_neg (by decide)]
    · rw [if_neg hv, ← ih]
      by_cases h0 : (n.getD k (0, 0)).1 < 0
      · rw [if_pos h0, mget_snoc, dec_false (show ¬ (v : Int) = ((k + 1 : Nat) : Int) by omega)]
        cases mget (v : Int) (inM n k) <;> rfl
      · rw [if_neg h0]
theorem inM_len {n : List (Int × Int)} : ∀ k, k ≤ n.length → (inM n k).length = cnt n k + 1
  | 0, _ => rfl
  | k + 1, h => by
    obtain ⟨x, hx⟩ := getI n (show k < n.length by omega)
    rw [inM, getD_of hx]
    by_cases h0 : x.1 < 0
    · rw [if_pos h0, List.length_append, inM_len k (by omega), bcnt_in hx h0]; rfl
    · rw [if_neg h0, inM_len k (by omega), bcnt_gate hx (by omega)]
theorem in_at {n : List (Int × Int)} : ∀ k, k ≤ n.length → ∀ j, j < cnt n k → ∃ i x, i < k ∧ n[i]? = some x ∧ x.1 < 0 ∧ cnt n i = j ∧ (inTo n k)[j]? = some (((i + 1 : Nat) : Int)) ∧ (inM n k).take (j + 1) = inM n i ∧ (inM n k).take (j + 2) = inM n i ++ [(((i + 1 : Nat) : Int), 2 * ((j : Int) + 1))]
  | 0, _, j, h => by exact absurd h (Nat.not_lt_zero _)
  | k + 1, hk, j, h => by
    obtain ⟨x, hx⟩ := getI n (show k < n.length by omega)
    have hl := inM_len (n := n) k (by omega)
    have hil := inTo_len n k (by omega)
    by_cases h0 : x.1 < 0
    · have hd : inM n (k + 1) = inM n k ++ [(((k + 1 : Nat) : Int), 2 * ((cnt n k : Int) + 1))] := by rw [inM, getD_of hx, if_pos h0]
      rw [bcnt_in hx h0] at h
      rw [inTo_yes hx h0, hd]
      by_cases hj : j = cnt n k
      · subst hj
        refine ⟨k, x, by omega, hx, h0, rfl, by rw [List.getElem?_append_right (show (inTo n k).length ≤ cnt n k by omega), hil, Nat.sub_self]; rfl, by rw [← hl, List.take_left], ?_⟩
        rw [List.take_of_length_le (by rw [List.length_append, hl]; simp)]
      · obtain ⟨i, y, h1, h2, h3, h4, h5, h6, h7⟩ := in_at (n := n) k (by omega) j (by omega)
        exact ⟨i, y, by omega, h2, h3, h4, by rw [List.getElem?_append_left (show j < (inTo n k).length by omega)]; exact h5, by rw [List.take_append_of_le_length (show j + 1 ≤ (inM n k).length by omega)]; exact h6, by rw [List.take_append_of_le_length (show j + 2 ≤ (inM n k).length by omega)]; exact h7⟩
    · have hd : inM n (k + 1) = inM n k := by rw [inM, getD_of hx, if_neg h0]
      rw [bcnt_gate hx (by omega)] at h
      rw [inTo_no hx h0, hd]
      obtain ⟨i, y, h1, h2, h3, h4, h5, h6, h7⟩ := in_at (n := n) k (by omega) j h
      exact ⟨i, y, by omega, h2, h3, h4, h5, h6, h7⟩
set_option maxHeartbeats 16000000 in
theorem balance_Balance (na oa : Option Addr) (nc oc : Nat) (n : List (Int × Int)) (outs : List Int) (w : World) (Rn0 : Row 2 encN w na n) (Ro0 : Row 1 encI w oa outs) (hg : GoodNet n) (hn : n.length ≤ 100) (hol : outs.length ≤ 1000) (ho : ∀ l ∈ outs, 0 ≤ l ∧ l ≤ 2 * (n.length : Int) + 1) :
    Lt.Spec Try.prog 39 [.slice na n.length nc, .slice oa outs.length oc] w (fun v w' => Ext w w' ∧ ∃ ma mc ta tc, v = .tuple #[.slice ma (balV n outs).2.N.length mc, .slice ta (balV n outs).1.length tc] ∧ Row 2 encN w' ma (balV n outs).2.N ∧ Row 1 encI w' ta (balV n outs).1 ∧ (ma = none → mc = 0) ∧ (ta = none → tc = 0) ∧ (balV n outs).1.length ≤ tc) := by
  refine Spec.of _ Try.func39 rfl Try.ntmps39 (by kernel_rfl) rfl ?_
  repeat' (first
    | (apply WL.box; exact rfl; exact rfl; exact rfl; intro gb w' hb hge hc hx; have hcc := hc; (first | (obtain ⟨h1, h2, h3, _⟩ := hc) | (obtain ⟨h1, h2, _⟩ := hc)); (obtain ⟨gn, rfl⟩ : ∃ x, x = gb := ⟨_, rfl⟩; obtain ⟨hxn, rfl⟩ : ∃ x, x = hx := ⟨_, rfl⟩; obtain ⟨w1, rfl⟩ : ∃ x, x = w' := ⟨_, rfl⟩; have hcn1 := hcc))
    | ((show WL _ _ _ (⟨_, .call ⟨.value (.func 47), _, _⟩, _, _, _, _⟩ :: _) _ _ _); apply WL.call; exact rfl; exact rfl; exact rfl; exact rfl; exact balance_Uses na oa nc oc n outs _ (Rn0.ext (by (exact extA))) (Ro0.ext (by (exact extA))) hg (by omega) (by omega) ho; rintro v' w' ⟨hx, a', cap', rfl, hO⟩; (obtain ⟨ua, rfl⟩ : ∃ x, x = a' := ⟨_, rfl⟩; obtain ⟨uc, rfl⟩ : ∃ x, x = cap' := ⟨_, rfl⟩; obtain ⟨hOU, rfl⟩ : ∃ x, x = hO := ⟨_, rfl⟩; obtain ⟨hxU, rfl⟩ : ∃ x, x = hx := ⟨_, rfl⟩; obtain ⟨w0, rfl⟩ : ∃ x, x = w' := ⟨_, rfl⟩))
    | (show WL _ _ _ _ _ _ _; first | apply WL.nil | (refine WL.au (k := ?_)))
    | (show Z _ _ _ _ _; apply Z.then_normal)
    | (show W _ _ _ _ _ _; first | apply W.seq | apply W.region)
    | fail)
  have hX0 : Ext w w0 := (by (exact extA))
  have hcn : w0.cell? ⟨gn, 0, none⟩ = some (.slice na n.length nc) := (Cells.ext hxU hcn1).1
  have Rn := Rn0.ext hX0
  have Ro := Ro0.ext hX0
  have Ru := hOU.row encI_ok
  clear hcn1 hcc h1
  repeat' (first
    | (((show WL _ _ _ (⟨_, .call ⟨.value (.func 97), _, _⟩, _, _, _, _⟩ :: _) _ _ _); apply WL.call; exact rfl; exact rfl; exact rfl; exact rfl; exact aig_NewV w0 w0 [] (Ext.refl _) Sep.none'; rintro v' w2 ⟨hx2, gs, r, rfl, hS2⟩))
    | (apply WL.build tOk; exact rfl; exact rfl; exact rfl; exact rfl; exact rfl; exact rfl; exact rfl; kernel_rfl)
    | (apply WL.box; exact rfl; exact rfl; exact rfl; intro gb w' hb hge hc hx; have hcc := hc; (first | (obtain ⟨h1, h2, h3, _⟩ := hc) | (obtain ⟨h1, h2, _⟩ := hc)); (obtain ⟨gb, rfl⟩ : ∃ x, x = gb := ⟨_, rfl⟩; obtain ⟨w3, rfl⟩ : ∃ x, x = w' := ⟨_, rfl⟩; obtain ⟨hbb, rfl⟩ : ∃ x, x = hb := ⟨_, rfl⟩; obtain ⟨hgeb, rfl⟩ : ∃ x, x = hge := ⟨_, rfl⟩; obtain ⟨hxb, rfl⟩ : ∃ x, x = hx := ⟨_, rfl⟩))
    | fail)
  have hB0 := Nat.le_refl w0.heap.size
  have hS3 := Sep.newCell hS2 hxb hbb hgeb (Below.size hx2)
  have hX3 : Ext w0 w3 := hx2.trans hxb
  repeat' (first
    | ((show WL _ _ _ (⟨some 6, .alloc _, _, _, _, _⟩ :: _) _ _ _; apply WL.alloc tOk; exact rfl; exact rfl; exact rfl; intro gU w4 hbU hgeU hxU))
    | ((show WL _ _ _ (⟨some 7, .alloc _, _, _, _, _⟩ :: _) _ _ _; apply WL.alloc tOk; exact rfl; exact rfl; exact rfl; intro gB w5 hbB hgeB hxB))
    | fail)
  have hX4 : Ext w0 w4 := hX3.trans hxU
  have hS5 := Sep.newCell (Sep.newCell hS3 hxU hbU hgeU (Below.size hX3)) hxB hbB hgeB (Below.size hX4)
  have hX5 : Ext w0 w5 := hX4.trans hxB
  have hcU := hS5.cell (i := 1) rfl
  have hzU := (hS5.lt (i := 1) rfl rfl).1
  repeat' (first
    | (apply WL.storeB (w0 := w0) tOk; exact rfl; exact rfl; exact rfl; exact rfl; assumption; (exact extA); exact rfl; exact rfl; exact rfl; (exact extA); (first | assumption | omega | (focus (apply Nat.le_trans; rotate_left; assumption; exact Below.size (by (exact extA)); done))); intro w' hb hc hX' hU; have hcc := hc; obtain ⟨h1, h2, _⟩ := hc; (obtain ⟨w6, rfl⟩ : ∃ x, x = w' := ⟨_, rfl⟩; obtain ⟨hb6, rfl⟩ : ∃ x, x = hb := ⟨_, rfl⟩; obtain ⟨hX6, rfl⟩ : ∃ x, x = hX' := ⟨_, rfl⟩; obtain ⟨hU6, rfl⟩ : ∃ x, x = hU := ⟨_, rfl⟩))
    | fail)
  have hS6 := Sep.updCell (i := 1) rfl hU6 hb6 hS5 (Ext.refl _) (Below.size hX5)
  have hcB := hS6.cell (i := 0) rfl
  have hzB := (hS6.lt (i := 0) rfl rfl).1
  repeat' (first
    | (apply WL.storeB (w0 := w0) tOk; exact rfl; exact rfl; exact rfl; exact rfl; assumption; (exact extA); exact rfl; exact rfl; exact rfl; (exact extA); (first | assumption | omega | (focus (apply Nat.le_trans; rotate_left; assumption; exact Below.size (by (exact extA)); done))); intro w' hb hc hX' hU; have hcc := hc; obtain ⟨h1, h2, _⟩ := hc; (obtain ⟨w7, rfl⟩ : ∃ x, x = w' := ⟨_, rfl⟩; obtain ⟨hb7, rfl⟩ : ∃ x, x = hb := ⟨_, rfl⟩; obtain ⟨hX7, rfl⟩ : ∃ x, x = hX' := ⟨_, rfl⟩; obtain ⟨hU7, rfl⟩ : ∃ x, x = hU := ⟨_, rfl⟩; have hS7 := Sep.updCell (i := 0) rfl hU7 hb7 hS6 (Ext.refl _) (Below.size hX6)))
    | ((apply WL.makeMap (kv := encJ) (vv := encJ); exact rfl; exact rfl; intro rm w8 hM8 hge8 hx8; have hX8 : Ext w0 w8 := hX7.trans hx8; have hS8 := Sep.newMap hS7 hx8 hM8 hge8 (Below.size hX7); have hrm8 := (hS8.lt (i := 0) rfl rfl).1))
    | ((apply WL.insertF (B := 0) (w0 := w0) (vv := encJ) (a := (0 : Int)) (v := (0 : Int)) tOk keyJ; exact rfl; exact rfl; exact rfl; exact rfl; exact rfl; exact rfl; exact hM8; exact hX8; exact hrm8; intro w9 hM9 hX9 hU9; have hS9 := Sep.updMap (i := 0) rfl hU9 hM9 hS8 (Ext.refl _) (Below.size hX8)))
    | ((show WL _ _ _ (⟨some 8, .alloc _, _, _, _, _⟩ :: _) _ _ _; apply WL.alloc tOk; exact rfl; exact rfl; exact rfl; intro gO w10 hbO hgeO hxO; have hX10 : Ext w0 w10 := hX9.trans hxO; have hS10 := Sep.newCell hS9 hxO hbO hgeO (Below.size hX9); have hcO := hS10.cell (i := 0) rfl; have hzO := (hS10.lt (i := 0) rfl rfl).1))
    | (show WL _ _ _ _ _ _ _; first | apply WL.nil | (refine WL.au (k := ?_)))
    | (show Z _ _ _ _ _; apply Z.then_normal)
    | (show W _ _ _ _ _ _; first | apply W.seq | apply W.region)
    | fail)
  repeat' (first
    | (apply WL.storeB (w0 := w0) tOk; exact rfl; exact rfl; exact rfl; exact rfl; assumption; (exact extA); exact rfl; exact rfl; exact rfl; (exact extA); (first | assumption | omega | (focus (apply Nat.le_trans; rotate_left; assumption; exact Below.size (by (exact extA)); done))); intro w' hb hc hX' hU; have hcc := hc; obtain ⟨h1, h2, _⟩ := hc; (obtain ⟨w11, rfl⟩ : ∃ x, x = w' := ⟨_, rfl⟩; obtain ⟨hb11, rfl⟩ : ∃ x, x = hb := ⟨_, rfl⟩; obtain ⟨hX11, rfl⟩ : ∃ x, x = hX' := ⟨_, rfl⟩; obtain ⟨hU11, rfl⟩ : ∃ x, x = hU := ⟨_, rfl⟩; have hS11 := Sep.updCell (i := 0) rfl hU11 hb11 hS10 (Ext.refl _) (Below.size hX10)))
    | (show WL _ _ _ _ _ _ _; first | apply WL.nil | (refine WL.au (k := ?_)))
    | (show Z _ _ _ _ _; apply Z.then_normal)
    | (show W _ _ _ _ _ _; first | apply W.seq | apply W.region)
    | fail)
  have hbb' := hS11.cell (i := 4) rfl
  have hbb2 : CellC gb #[.pointer (some ⟨gs, 0, none⟩), .slice none ([] : List Int).length 0] 116 w11 := hbb'.trans (by kernel_rfl)
  have hS12 := Sep.newRow (s := 1) (enc := encI) (el := 3) (a := none) (cap := 0) (l := []) (Sep.re (i := 4) (p' := pcell gb #[.pointer (some ⟨gs, 0, none⟩), .slice none ([] : List Int).length 0] 116) hS11 rfl rfl hbb2) (Ext.refl _) Own.nil (fun k hk => by cases hk) (Below.size hX11)
  have hS13 : Lt.Sep w0.heap.size w11 (stN w0.heap.size gs none 0 r [] ++ (blP w0.heap.size gb gs none 0 [] ++ [pmap encJ encJ rm [(0, 0)], pcell gO #[.map (some rm)] 117, pcell gU #[.slice ua (usesV n outs).length uc] 23, pcell gB #[.pointer (some ⟨gb, 0, none⟩)] 113])) := Sep.ofPerm (by repeat' (first | exact List.Perm.refl _ | (refine List.Perm.cons _ ?_) | (refine List.Perm.trans (List.Perm.swap _ _ _) (List.Perm.cons _ ?_)) | (refine List.Perm.trans (List.perm_middle (l₁ := [_, _])) (List.Perm.cons _ ?_)) | (refine List.Perm.trans (List.perm_middle (l₁ := [_, _, _])) (List.Perm.cons _ ?_)) | (refine List.Perm.trans (List.perm_middle (l₁ := [_, _, _, _])) (List.Perm.cons _ ?_)) | (refine List.Perm.trans (List.perm_middle (l₁ := [_, _, _, _, _])) (List.Perm.cons _ ?_)) | (refine List.Perm.trans (List.perm_middle (l₁ := [_, _, _, _, _, _])) (List.Perm.cons _ ?_)) | (refine List.Perm.trans (List.perm_middle (l₁ := [_, _, _, _, _, _, _])) (List.Perm.cons _ ?_)) | (refine List.Perm.trans (List.perm_middle (l₁ := [_, _, _, _, _, _, _, _])) (List.Perm.cons _ ?_)))) hS12
  clear hS12 hbb' hbb2 hS11 hS10 hS9 hS8 hS7 hS6 hS5 hS3 hcO hcB hcU
  repeat' (first
    | ((show WL _ _ _ (⟨_, .call ⟨.value (.func 98), _, _⟩, _, _, _, _⟩ :: _) _ _ _); apply WL.call; exact rfl; exact rfl; exact rfl; exact rfl; exact aig_Inputs na nc n _ (Rn.ext (by (exact extA))) (by omega); rintro v' w' ⟨hx, a', cap', rfl, hO⟩; (obtain ⟨aI, rfl⟩ : ∃ x, x = a' := ⟨_, rfl⟩; obtain ⟨cI, rfl⟩ : ∃ x, x = cap' := ⟨_, rfl⟩; obtain ⟨hOI, rfl⟩ : ∃ x, x = hO := ⟨_, rfl⟩; obtain ⟨hxI, rfl⟩ : ∃ x, x = hx := ⟨_, rfl⟩; obtain ⟨w12, rfl⟩ : ∃ x, x = w' := ⟨_, rfl⟩))
    | (show WL _ _ _ _ _ _ _; first | apply WL.nil | (refine WL.au (k := ?_)))
    | (show Z _ _ _ _ _; apply Z.then_normal)
    | (show W _ _ _ _ _ _; apply W.block)
    | fail)
  have hX12 : Ext w0 w12 := hX11.trans hxI
  have hil : (inputs n).length = cnt n n.length := inTo_len n n.length (Nat.le_refl _)
  have hcl : cnt n n.length ≤ n.length := cnt_le n _
  have hS14 : Lt.Sep w0.heap.size w12 (stN w0.heap.size gs none 0 r (List.replicate 0 (-1, 0)) ++ (blP w0.heap.size gb gs none 0 [] ++ [pmap encJ encJ rm ((inM n n.length).take (0 + 1)), pcell gO #[.map (some rm)] 117, pcell gU #[.slice ua (usesV n outs).length uc] 23, pcell gB #[.pointer (some ⟨gb, 0, none⟩)] 113, prow 1 encI 3 w0.heap.size aI cI (inputs n)])) := by
    have e : (inM n n.length).take (0 + 1) = [(0, 0)] := by
      have key : ∀ k, (inM n k).take 1 = [(0, 0)] := by
        intro k
        induction k with
        | zero => rfl
        | succ k ih =>
          rw [inM]; split
          · rw [List.take_append_of_le_length (by
              cases h : inM n k with
              | nil => rw [h] at ih; cases ih
              | cons _ _ => simp)]
            exact ih
          · exact ih
      exact key _
    rw [e]
    exact Sep.putMid (A := [_, _, _, _, _, _, _, _, _]) (Sep.newRow' hS13 hxI hOI (Below.size hX11))
  refine W.loopW (inputs n).length (fun j w' => j ≤ (inputs n).length ∧ Ext w0 w' ∧ ∃ a cap, Lt.Sep w0.heap.size w' (stN w0.heap.size gs a cap r (List.replicate j (-1, 0)) ++ (blP w0.heap.size gb gs none 0 [] ++ [pmap encJ encJ rm ((inM n n.length).take (j + 1)), pcell gO #[.map (some rm)] 117, pcell gU #[.slice ua (usesV n outs).length uc] 23, pcell gB #[.pointer (some ⟨gb, 0, none⟩)] 113, prow 1 encI 3 w0.heap.size aI cI (inputs n)]))) (fun j => [(1, .slice oa outs.length oc), (2, .pointer (some ⟨gn, 0, none⟩)), (6, .pointer (some ⟨gU, 0, none⟩)), (7, .pointer (some ⟨gB, 0, none⟩)), (8, .pointer (some ⟨gO, 0, none⟩)), (24, .slice aI (inputs n).length cI), (25, .int .i64 (inputs n).length), (26, .int .i64 j)]) ⟨Nat.zero_le _, hX12, none, 0, hS14⟩ (fun k w' h => h.1) ⟨rfl, rfl, rfl, rfl, rfl, rfl, rfl, rfl, trivial⟩ ?_
  clear hS14 hS13 hOI
  rintro j w3 ⟨hj, hX3, a, cap, hS3⟩
  by_cases hlt : j < (inputs n).length
  · obtain ⟨i, x, i1, i2, i3, i4, i5, i6, i7⟩ := in_at n.length (Nat.le_refl _) j (by omega)
    have i5' : (inputs n)[((j : Nat) : Int).toNat]? = some (((i + 1 : Nat) : Int)) := i5
    have hRI := (hS3.row (i := 9) rfl).row encI_ok
    have hCO := hS3.cell (i := 6) rfl
    have hmg : mget (((i + 1 : Nat) : Int)) ((inM n n.length).take (j + 1)) = none := by
      rw [i6, inM_MO i (i + 1), if_neg]
      rw [List.getD, List.getElem?_eq_none (by rw [iniO_len]; omega)]; decide
    have hrm3 := (hS3.lt (i := 5) rfl rfl).1
    obtain ⟨k0, _⟩ := cells_heap (hS3.cell (i := 8) rfl)
    obtain ⟨k1, _⟩ := cells_heap (hS3.cell (i := 3) rfl)
    have hrl : (List.replicate j ((-1, 0) : Int × Int)).length = j := List.length_replicate
    repeat' (first
      | (show WL _ _ _ _ _ _ _; first | apply WL.nil | (refine WL.au (k := ?_)))
      | (show Z _ _ _ _ _; apply Z.then_normal)
      | (show W _ _ _ _ _ _; first | apply W.seq | apply W.region)
      | fail)
    refine W.condKT rfl (dec_true (by omega)) ?_
    repeat' (first
      | (apply FL.nilc; exact rfl; exact rfl; exact rfl)
      | (show W _ _ (.region 6 _ _) _ _ _; apply W.regionG (.fl true 1 (.fl false 0 (.br 2 (.fl true 3 (.fl true 4 (.br 5 (.br 6 (.br 7 .done .stop) .stop) .stop))) .stop))) [2, 3, 4, 5, 6] (CellC gO #[.map (some rm)] 117) tMix; kernel_rfl)
      | (((show WL _ _ _ (⟨_, .call ⟨.value (.func 99), _, _⟩, _, _, _, _⟩ :: _) _ _ _); apply WL.call; exact rfl; exact rfl; exact rfl; exact rfl; exact aig_InputV gs r cap a (List.replicate j (-1, 0)) (blP w0.heap.size gb gs none 0 [] ++ [pmap encJ encJ rm ((inM n n.length).take (j + 1)), pcell gO #[.map (some rm)] 117, pcell gU #[.slice ua (usesV n outs).length uc] 23, pcell gB #[.pointer (some ⟨gb, 0, none⟩)] 113, prow 1 encI 3 w0.heap.size aI cI (inputs n)]) _ w0 hX3 hS3 (by omega); rw [hrl]; rintro v' w4 ⟨hX4, a4, cap4, rfl, hS4⟩; have hC4 : CellC gO #[.map (some rm)] 117 w4 := hS4.cell (i := 6) rfl; have hM4 := hS4.map (i := 5) rfl))
      | ((apply WL.mapPutF (B := 0) (w0 := w0) (vv := encJ) tOk keyJ; exact rfl; exact rfl; exact rfl; exact rfl; exact rfl; exact rfl; exact hM4; exact (by (exact extA)); exact hrm3; intro w5 hM5 hX5 hU5))
      | (show WL _ _ _ _ _ _ _; first | apply WL.nil | (refine WL.au (k := ?_)) | (apply WL.index tOk; exact rfl; exact rfl; exact rfl; exact rfl; exact rfl; exact rfl; exact rfl; exact rfl; assumption; (exact extA); exact rfl; omega; assumption; intro b off h; have hcc := h; first | (obtain ⟨h1, h2, h3, h4, h5, h6, _⟩ := h) | (obtain ⟨h1, h2, h3, _⟩ := h) | (obtain ⟨h1, h2, _⟩ := h) | (obtain ⟨h1, _⟩ := h)))
      | (show SG _ _ _ _ _ _ _ _ _; first | apply SG.done | (apply SG.fl0; exact rfl) | (apply SG.fl1; exact rfl; (focus ((intro m; first | assumption | (apply Ext.at; (exact extA)) | apply But.of_at; first | exact But.upd (by assumption) | exact But.ext (by (exact extA)) | (refine But.trans ?_ (But.upd (by assumption)); exact But.ext (by (exact extA))) | exact But.at _ _ _); done))) | (apply SG.br1; exact rfl))
      | (show FL _ _ _ _ _ _ _ _; (apply FL.loadC tOk; exact rfl; exact rfl; exact rfl; exact rfl; exact rfl; exact rfl))
      | (show FL _ _ _ _ _ _ _ _; first | apply FL.nilS | (refine FL.au (k := ?_)))
      | (show Z _ _ _ _ _; first | (apply Z.sgL; exact rfl) | (apply Z.sgE; (focus ((intro m; first | assumption | (apply Ext.at; (exact extA)) | apply But.of_at; first | exact But.upd (by assumption) | exact But.ext (by (exact extA)) | (refine But.trans ?_ (But.upd (by assumption)); exact But.ext (by (exact extA))) | exact But.at _ _ _); done))))
      | (show Z _ _ _ _ _; first | apply Z.then_normal | apply Z.block_normal)
      | (show W _ _ _ _ _ _; first | apply W.seq | apply W.region | apply W.block | apply W.skip)
      | fail)
    rw [hmg] at hM5
    have e7 : (inM n n.length).take (j + 1) ++ [(((i + 1 : Nat) : Int), 2 * ((j : Int) + 1))] = (inM n n.length).take (j + 1 + 1) := by rw [i6]; exact i7.symm
    have hM6 : MapIs encJ encJ w5 rm ((inM n n.length).take (j + 1 + 1)) := by rw [← e7]; exact hM5
    have hS5 := Sep.updMap (i := 5) rfl hU5 hM6 hS4 (Ext.refl _) (Below.size hX4)
    rw [← List.replicate_succ'] at hS5
    exact Z.againW ⟨by omega, hX5, a4, cap4, hS5⟩ ⟨rfl, rfl, rfl, rfl, rfl, rfl, rfl, rfl, trivial⟩
  obtain rfl : j = (inputs n).length := by omega
  rw [hil] at hS3
  have hMl := inM_len (n := n) n.length (Nat.le_refl _)
  rw [List.take_of_length_le (show (inM n n.length).length ≤ cnt n n.length + 1 by omega)] at hS3
  repeat' (first
    | (show WL _ _ _ _ _ _ _; first | apply WL.nil | (refine WL.au (k := ?_)))
    | (show Z _ _ _ _ _; apply Z.then_normal)
    | (show W _ _ _ _ _ _; first | apply W.seq | apply W.region)
    | fail)
  refine W.condKF rfl (dec_false (by omega)) ?_
  repeat' (first
    | ((show WL _ _ _ (⟨some 11, .alloc _, _, _, _, _⟩ :: _) _ _ _; apply WL.alloc tgOk; exact rfl; exact rfl; exact rfl; intro gp w4 hbp hgep hxp))
    | ((apply WL.storeB (w0 := w0) tgOk; exact rfl; exact rfl; exact rfl; exact rfl; exact hbp; exact Ext.refl _; kernel_rfl; kernel_rfl; kernel_rfl; exact (hX3.trans hxp); exact (Nat.le_trans (Below.size hX3) hgep); intro w5 hb5 hc5 hX5 hU5))
    | (show WL _ _ _ _ _ _ _; first | apply WL.nil | (refine WL.au (k := ?_)))
    | (show Z _ _ _ _ _; first | apply Z.then_normal | apply Z.then_exit | apply Z.block_exit)
    | (show W _ _ _ _ _ _; first | apply W.seq | apply W.region | apply W.block | apply W.exit)
    | fail)
  have hX4 : Ext w0 w4 := hX3.trans hxp
  have hb5' : CellC gp #[.func (.func 100) #[] #[.pointer (some ⟨gO, 0, none⟩), .pointer (some ⟨gn, 0, none⟩), .pointer (some ⟨gU, 0, none⟩), .pointer (some ⟨gp, 0, none⟩), .pointer (some ⟨gB, 0, none⟩)]] 102 w5 := hb5
  have hS4 := Sep.updCell (i := 0) rfl hU5 hb5' (Sep.newCell hS3 hxp hbp hgep (Below.size hX3)) (Ext.refl _) (Below.size hX4)
  have hS5 : Lt.Sep w0.heap.size w5 (stN w0.heap.size gs a cap r (iniS n).N ++ (blP w0.heap.size gb gs none 0 [] ++ (mBP n outs ua uc gb rm gO gn gU gp gB (inM n n.length) ++ [prow 1 encI 3 w0.heap.size aI cI (inputs n)]))) := Sep.ofPerm (by repeat' (first | exact List.Perm.refl _ | (refine List.Perm.cons _ ?_) | (refine List.Perm.trans (List.Perm.swap _ _ _) (List.Perm.cons _ ?_)) | (refine List.Perm.trans (List.perm_middle (l₁ := [_, _])) (List.Perm.cons _ ?_)) | (refine List.Perm.trans (List.perm_middle (l₁ := [_, _, _])) (List.Perm.cons _ ?_)) | (refine List.Perm.trans (List.perm_middle (l₁ := [_, _, _, _])) (List.Perm.cons _ ?_)) | (refine List.Perm.trans (List.perm_middle (l₁ := [_, _, _, _, _])) (List.Perm.cons _ ?_)) | (refine List.Perm.trans (List.perm_middle (l₁ := [_, _, _, _, _, _])) (List.Perm.cons _ ?_)) | (refine List.Perm.trans (List.perm_middle (l₁ := [_, _, _, _, _, _, _])) (List.Perm.cons _ ?_)) | (refine List.Perm.trans (List.perm_middle (l₁ := [_, _, _, _, _, _, _, _])) (List.Perm.cons _ ?_)))) hS4
  have hS6 := Sep.putMid (A := [_, _, _, _, _, _, _, _, _, _, _]) (Sep.newRow (s := 1) (enc := encI) (el := 3) (a := none) (cap := 0) (l := []) hS5 (Ext.refl _) Own.nil (fun k hk => by cases hk) (Below.size hX5))
  have hA0 : BAt n outs ua uc gs gb r rm gO gn gU gp gB w0 (iniS n) [prow 1 encI 3 w0.heap.size aI cI (inputs n), prow 1 encI 3 w0.heap.size none 0 []] w5 := ⟨hX5, a, cap, none, 0, [], inM n n.length, inM_MO n.length, .inr (Nat.zero_le _), hS6⟩
  clear hS6 hS5 hS4 hS3 hb5 hb5' hc5 hbp
  have hbk := bal_ok hg ho
  have hpc := fun (s : BSt) (l : Int) (rest : List Piece) (w9 : World) (h1 : BOk n s) (h2 : l ∈ outs) (h3 : BAt n outs ua uc gs gb r rm gO gn gU gp gB w0 s rest w9) => balance_put hg hn w0 hcn Rn Ru n.length s l rest w9 h1 (ho l h2).1 (by have := (ho l h2).2; omega) (by have := (ho l h2).2; omega) h3
  have hbal : balV n outs = putsTo (putF n (usesV n outs) (n.length + 1)) (iniS n) outs outs.length := rfl
  rw [hbal]
  generalize putF n (usesV n outs) (n.length + 1) = put at *
  refine W.loop (σ := (Option Addr × Nat × Nat) × World) (fun s9 => s9.1.2.2 ≤ outs.length ∧ BAt n outs ua uc gs gb r rm gO gn gU gp gB w0 (putsTo put (iniS n) outs s9.1.2.2).2 [prow 1 encI 3 w0.heap.size aI cI (inputs n), prow 1 encI 3 w0.heap.size s9.1.1 s9.1.2.1 (putsTo put (iniS n) outs s9.1.2.2).1] s9.2) (fun s9 => [(7, .pointer (some ⟨gB, 0, none⟩)), (11, .pointer (some ⟨gp, 0, none⟩)), (12, .slice s9.1.1 (putsTo put (iniS n) outs s9.1.2.2).1.length s9.1.2.1), (39, .slice oa outs.length oc), (40, .int .i64 outs.length), (41, .int .i64 s9.1.2.2)]) (fun s9 => s9.2) (fun s9 => outs.length - s9.1.2.2) ((none, 0, 0), w5) ⟨Nat.zero_le _, hA0⟩ ⟨rfl, rfl, rfl, rfl, rfl, rfl, trivial⟩ rfl ?_
  clear hA0
  rintro ⟨⟨aA, cA, k⟩, w3⟩ ⟨hk, hA3⟩
  dsimp only at hk hA3 ⊢
  have hqk := hbk k hk
  have hA3' := hA3
  obtain ⟨hX3, a3, cap3, la3, lc3, V3, M3, hMO3, hV3, hS3⟩ := hA3'
  have Ro3 := Ro.ext hX3
  obtain ⟨m2, _⟩ := cells_heap (hS3.cell (i := 8) rfl)
  obtain ⟨m3, _⟩ := cells_heap (hS3.cell (i := 9) rfl)
  obtain ⟨m4, _⟩ := cells_heap (hS3.cell (i := 3) rfl)
  by_cases hlt : k < outs.length
  · obtain ⟨z, hz⟩ := getI outs hlt
    have hzm := List.mem_of_getElem? hz
    have hst := putsTo_succ (put := put) (s := iniS n) hz
    have hql := hqk.len
    have hqo := hqk.ok
    obtain ⟨q, hqe⟩ : ∃ q, putsTo put (iniS n) outs k = q := ⟨_, rfl⟩
    rw [hqe] at hst hqo hql hA3 ⊢
    repeat' (first
      | (show WL _ _ _ _ _ _ _; first | apply WL.nil | (refine WL.au (k := ?_)))
      | (show Z _ _ _ _ _; apply Z.then_normal)
      | (show W _ _ _ _ _ _; first | apply W.seq | apply W.region)
      | fail)
    refine W.condKT rfl (dec_true (by omega)) ?_
    repeat' (first
      | ((apply WL.load tgOk; exact rfl; exact rfl; exact rfl; exact rfl; exact rfl; exact m2))
      | ((show WL _ _ _ (⟨_, .call ⟨.value (.tmp _), _, _⟩, _, _, _, _⟩ :: _) _ _ _; apply WL.call; exact rfl; exact rfl; exact rfl; exact rfl; exact hpc q.2 z _ w3 hqo hzm hA3; rintro v' w4 ⟨rfl, hX4, a4, cap4, la4, lc4, V4, M4, hMO4, hV4, hS4⟩; have hRA := hS4.row (i := 11) rfl))
      | (apply WL.lit tOk; exact rfl; exact rfl; exact rfl; exact rfl; exact rfl; exact rfl; (first | exact rfl | kernel_rfl | (simp [Instr.fill, catCells]; done)); exact rfl; intro gb w' hb hge hc hx)
      | (apply WL.append1 (z := ((put q.2 z).1)) tOk encI_ok; exact rfl; exact rfl; exact rfl; exact rfl; exact rfl; exact rfl; exact rfl; exact rfl; exact rfl; exact rfl; assumption; (exact extA); (first | exact rfl | (focus (simp only [List.length_set]; done)) | (focus (simp; done)) | (focus (simp [*]; done)) | omega | (focus (simp only [List.length_set]; omega))); (first | assumption | (refine Cells.ext ?_ (by assumption); exact extA)); exact rfl; exact rfl; (exact extA); (first | omega | (simp; omega) | (simp at *; omega)); intro a' cap' w' hO hX' hU hF)
      | (show WL _ _ _ _ _ _ _; first | apply WL.nil | (refine WL.au (k := ?_)) | (apply WL.index tOk; exact rfl; exact rfl; exact rfl; exact rfl; exact rfl; exact rfl; exact rfl; exact rfl; assumption; (exact extA); exact rfl; omega; assumption; intro b off h; have hcc := h; first | (obtain ⟨h1, h2, h3, h4, h5, h6, _⟩ := h) | (obtain ⟨h1, h2, h3, _⟩ := h) | (obtain ⟨h1, h2, _⟩ := h) | (obtain ⟨h1, _⟩ := h)))
      | (show Z _ _ _ _ _; first | apply Z.then_normal | apply Z.block_normal)
      | (show W _ _ _ _ _ _; first | apply W.seq | apply W.region | apply W.block | apply W.skip)
      | fail)
    have hS5 := Sep.updRow (i := 11) rfl hU hO hF (Sep.ext hS4 (by (exact extA))) (Ext.refl _) (Below.size (show Ext w0 _ from (by (exact extA))))
    exact Z.again ((a', cap', k + 1), w') ⟨by dsimp only; omega, by dsimp only; rw [hst]; exact ⟨(by (exact extA)), a4, cap4, la4, lc4, V4, M4, hMO4, hV4, hS5⟩⟩ (by dsimp only; omega) (by dsimp only; rw [hst]; exact ⟨rfl, rfl, rfl, rfl, rfl, rfl, trivial⟩) rfl
  obtain rfl : k = outs.length := by omega
  have hqo := hqk.ok
  have hqs := hqo.small hn
  have hRT := hS3.row (i := 11) rfl
  repeat' (first
    | (show WL _ _ _ _ _ _ _; first | apply WL.nil | (refine WL.au (k := ?_)))
    | (show Z _ _ _ _ _; apply Z.then_normal)
    | (show W _ _ _ _ _ _; first | apply W.seq | apply W.region)
    | fail)
  refine W.condKF rfl (dec_false (by omega)) ?_
  repeat' (first
    | (apply WL.nilc; exact rfl; exact rfl; exact rfl)
    | ((show WL _ _ _ (⟨_, .call ⟨.value (.func 103), _, _⟩, _, _, _, _⟩ :: _) _ _ _); apply WL.call; exact rfl; exact rfl; exact rfl; exact rfl; exact aig_NetV gs r cap3 a3 _ _ _ w0 (hS3.ext (by (exact extA))) (by omega); rintro v' w' ⟨hx, a', cap', rfl, hO⟩; (obtain ⟨aN, rfl⟩ : ∃ x, x = a' := ⟨_, rfl⟩; obtain ⟨cN, rfl⟩ : ∃ x, x = cap' := ⟨_, rfl⟩; obtain ⟨hON, rfl⟩ : ∃ x, x = hO := ⟨_, rfl⟩; obtain ⟨hxN, rfl⟩ : ∃ x, x = hx := ⟨_, rfl⟩))
    | (show WL _ _ _ _ _ _ _; first | apply WL.nil | (refine WL.au (k := ?_)))
    | (show Z _ _ _ _ _; first | apply Z.then_normal | apply Z.then_exit | apply Z.block_exit)
    | (show W _ _ _ _ _ _; first | apply W.seq | apply W.region | apply W.ret | apply W.exit)
    | fail)
  have hXe : Ext w3 _ := hxN
  exact Z.body2 Try.results39 rfl rfl fun m => ⟨Ext.at (hX0.trans (hX3.trans (by (exact extA)))) m, aN, cN, aA, cA, rfl, (hON.row encN_ok).ext ((Ext.refl _).at m), ((hRT.row encI_ok).ext (show Ext w3 _ from (by (exact extA)))).ext ((Ext.refl _).at m), hON.noneCap, hRT.noneCap, hRT.capLe⟩
end Go.Proofs.Ythpnahapiodflaa
namespace Go.Proofs.Ythpnahapiodflaa
open Go Go.Lt Go.RowKit
set_option linter.unusedVariables false
set_option linter.unusedSimpArgs false
set_option maxRecDepth 20000

/-- The reference's store that lies at gs. -/
abbrev rsN (B gs : Nat) (a : Option Addr) (cap : Nat) (N : List (Int × Int)) : List Piece := [pcell gs #[.slice a N.length cap] 58, prow 2 encN 104 B a cap N]
abbrev AtRs (w0 : World) (gs : Nat) (rest : List Piece) (q : Int × List (Int × Int)) (v : Value) (w' : World) : Prop :=
  Ext w0 w' ∧ ∃ a' cap', v = .int .i64 q.1 ∧ Sep w0.heap.size w' (rsN w0.heap.size gs a' cap' q.2 ++ rest)
abbrev KeepsR (w0 : World) (gs : Nat) (rest : List Piece) (p : World → Prop) : Prop :=
  ∀ w' a' cap' N', Ext w0 w' → Sep w0.heap.size w' (rsN w0.heap.size gs a' cap' N' ++ rest) → p w'

theorem rs_Has (gs cap : Nat) (a : Option Addr) (N : List (Int × Int)) (x : Int) (w : World) (hc : w.heap[gs]? = some (.cells #[.slice a N.length cap] 58 (0, 0))) (hN : N.length ≤ 1048576) :
    Still Try.prog 104 [.pointer (some ⟨gs, 0, none⟩), .int .i64 x] w (.bool (dec (hasL N x))) := by
  obtain ⟨h1, _⟩ := cells_heap hc
  refine Spec.of _ Try.func104 rfl Try.ntmps104 (by kernel_rfl) rfl ?_
  repeat' (first
    | (apply WL.nilc; exact rfl; exact rfl; exact rfl)
    | (show WL _ _ _ _ _ _ _; first | apply WL.nil | (refine WL.au (k := ?_)) | (apply WL.guardF; exact rfl; exact rfl) | (apply WL.gD; exact rfl; exact rfl; all_goals intro _))
    | (show Z _ _ _ _ _; apply Z.then_normal)
    | (show W _ _ _ _ _ _; first | apply W.seq | apply W.region | apply W.ret))
  all_goals (refine Z.body1 Try.results104 rfl fun m => ⟨?_, m, rfl⟩; unfold hasL; (first | exact congrArg Value.bool (dec_true (by omega)).symm | exact congrArg Value.bool (dec_false (by omega)).symm | exact congrArg Value.bool (dec_true (by omega)) | exact congrArg Value.bool (dec_false (by omega)) | exact congrArg Value.bool (dec_congr (by omega))))
theorem rs_Not (l : Int) (w : World) (h : l ≤ 9223372036854775807) : Still Try.prog 105 [.int .i64 l] w (.int .i64 (notL l)) := by
  refine Spec.of _ Try.func105 rfl Try.ntmps105 (by kernel_rfl) rfl ?_
  repeat' (first
    | (show WL _ _ _ _ _ _ _; first | apply WL.nil | (refine WL.au (k := ?_)))
    | (show Z _ _ _ _ _; first | apply Z.then_normal | apply Z.then_ret)
    | (show W _ _ _ _ _ _; first | apply W.seq | apply W.region | apply W.skip | apply W.ret | (apply W.condD; exact rfl; all_goals intro _)))
  all_goals (refine Z.body1 Try.results105 rfl fun m => ⟨?_, m, rfl⟩; congr 1; unfold notL Lt.xor1; first | (rw [if_pos (by assumption)]; done) | (rw [if_neg (by assumption), if_pos (by omega)]; done) | (rw [if_neg (by assumption), if_neg (by omega)]; done))
set_option maxHeartbeats 4000000 in
theorem rs_put (gs cap : Nat) (a : Option Addr) (N : List (Int × Int)) (x : Int × Int) (rest : List Piece) (w w0 : World) (hX : Ext w0 w) (hS : Sep w0.heap.size w (rsN w0.heap.size gs a cap N ++ rest)) (hN : N.length < 1048576) :
    Lt.Spec Try.prog 148 [.pointer (some ⟨gs, 0, none⟩), .agg (encN x).toArray] w (AtRs w0 gs rest (2 * ((N.length : Int) + 1), N ++ [x])) := by
  have hR1 := hS.row (i := 1) rfl
  have hC0 := hS.cell (i := 0) rfl
  have hgs := (hS.lt (i := 0) rfl rfl)
  obtain ⟨hD0, _⟩ := cells_heap hC0
  have hBC : ∀ k, blk a = some k → w0.heap.size ≤ k := fun k hk => (hR1.blk_lt k hk).1
  have hne : blk a ≠ some gs := fun h => by
    rcases hS.apart 1 0 _ _ rfl rfl (by decide) with h1 | h1
    · rw [show (prow 2 encN 104 w0.heap.size a cap N).b = blk a from rfl] at h1; rw [h1] at h; cases h
    · exact h1 h
  refine Spec.of _ Try.func148 rfl Try.ntmps148 (by kernel_rfl) rfl ?_
  repeat' (first
    | (apply WL.box; exact rfl; exact rfl; exact rfl; intro gb w' hb hge hc hx; have hcc := hc; (first | (obtain ⟨h1, h2, h3, _⟩ := hc) | (obtain ⟨h1, h2, _⟩ := hc)))
    | (show WL _ _ _ _ _ _ _; first | apply WL.nil | (refine WL.au (k := ?_)))
    | (show Z _ _ _ _ _; apply Z.then_normal)
    | (show W _ _ _ _ _ _; first | apply W.seq | apply W.region))
  have hx1 := hx
  obtain ⟨g3, rfl⟩ : ∃ x, x = gb := ⟨_, rfl⟩
  have hnx : blk a ≠ some g3 := fun h => by have := (hR1.blk_lt g3 h).2; omega
  have hD0' := hx1.cell hD0
  have hNl : (N ++ [x]).length = N.length + 1 := by simp
  repeat' (first
    | (apply WL.nilc; exact rfl; exact rfl; exact rfl)
    | (apply FL.nilc; exact rfl; exact rfl; exact rfl)
    | (show W _ _ (.region 1 _ _) _ _ _; apply W.regionGB (.fl true 0 (.fl true 1 (.fl true 2 (.fl true 3 (.fl false 4 (.fl false 5 (.br 6 (.br 7 (.fl true 8 (.fl true 9 (.br 10 .done .stop))) .stop) .stop))))))) [5, 6, 7] (blk a) tMix; kernel_rfl)
    | (apply WL.lit tOk; exact rfl; exact rfl; exact rfl; exact rfl; exact rfl; exact rfl; (first | exact rfl | kernel_rfl | (simp [Instr.fill, catCells]; done)); exact rfl; intro gb w' hb hge hc hx)
    | (apply WL.append1 (z := (x)) tOk encN_ok; exact rfl; exact rfl; exact rfl; exact rfl; exact rfl; exact rfl; exact rfl; exact rfl; exact rfl; exact rfl; assumption; (exact extA); (first | exact rfl | (focus (simp only [List.length_set]; done)) | (focus (simp; done)) | (focus (simp [*]; done)) | omega | (focus (simp only [List.length_set]; omega))); (first | assumption | (refine Cells.ext ?_ (by assumption); exact extA)); exact rfl; exact rfl; (exact extA); (first | omega | (simp; omega) | (simp at *; omega)); intro a' cap' w' hO hX' hU hF; (first | replace hS := Sep.updRow (i := 0) rfl hU hO hF hS (by (exact extA)) (by (first | exact Nat.le_refl _ | exact Below.size (by (exact extA)))) | replace hS := Sep.updRow (i := 1) rfl hU hO hF hS (by (exact extA)) (by (first | exact Nat.le_refl _ | exact Below.size (by (exact extA)))) | replace hS := Sep.updRow (i := 2) rfl hU hO hF hS (by (exact extA)) (by (first | exact Nat.le_refl _ | exact Below.size (by (exact extA)))) | replace hS := Sep.updRow (i := 3) rfl hU hO hF hS (by (exact extA)) (by (first | exact Nat.le_refl _ | exact Below.size (by (exact extA)))) | replace hS := Sep.updRow (i := 4) rfl hU hO hF hS (by (exact extA)) (by (first | exact Nat.le_refl _ | exact Below.size (by (exact extA)))) | replace hS := Sep.updRow (i := 5) rfl hU hO hF hS (by (exact extA)) (by (first | exact Nat.le_refl _ | exact Below.size (by (exact extA))))); (try simp only [List.set_cons_zero, List.set_cons_succ] at hS); (try have hR0 := hS.row (i := 0) rfl); (try have hR1 := hS.row (i := 1) rfl); (try have hR2 := hS.row (i := 2) rfl); (try have hR3 := hS.row (i := 3) rfl); (try have hR4 := hS.row (i := 4) rfl); (try have hC0 := hS.cell (i := 0) rfl); (try have hD0 := (cells_heap hC0).1); (try have hE0 := (cells_heap hC0).2.1); (try have hF0 := (cells_heap hC0).2.2.1); (try have hG0 := (cells_heap hC0).2.2.2.1); (try have hC1 := hS.cell (i := 1) rfl); (try have hD1 := (cells_heap hC1).1); (try have hE1 := (cells_heap hC1).2.1); (try have hF1 := (cells_heap hC1).2.2.1); (try have hG1 := (cells_heap hC1).2.2.2.1); (try have hC2 := hS.cell (i := 2) rfl); (try have hD2 := (cells_heap hC2).1); (try have hE2 := (cells_heap hC2).2.1); (try have hF2 := (cells_heap hC2).2.2.1); (try have hG2 := (cells_heap hC2).2.2.2.1); (try have hC3 := hS.cell (i := 3) rfl); (try have hD3 := (cells_heap hC3).1); (try have hE3 := (cells_heap hC3).2.1); (try have hF3 := (cells_heap hC3).2.2.1); (try have hG3 := (cells_heap hC3).2.2.2.1); (try have hC4 := hS.cell (i := 4) rfl); (try have hD4 := (cells_heap hC4).1); (try have hE4 := (cells_heap hC4).2.1); (try have hF4 := (cells_heap hC4).2.2.1); (try have hG4 := (cells_heap hC4).2.2.2.1); (try have hM0 := hS.map (i := 0) rfl); (try have hM1 := hS.map (i := 1) rfl); (try have hM2 := hS.map (i := 2) rfl); (try have hM3 := hS.map (i := 3) rfl); (try have hM4 := hS.map (i := 4) rfl))
    | (apply WL.storeF (w0 := w0) tOk; exact rfl; exact rfl; exact rfl; exact rfl; assumption; (exact extA); exact rfl; exact rfl; exact rfl; exact rfl; (exact extA); (first | assumption | omega | (focus (apply Nat.le_trans; rotate_left; assumption; exact Below.size (by (exact extA))))); intro w' hb hX' hU; replace hS := Sep.updCell (i := 0) rfl hU hb hS (by (exact extA)) (by (first | exact Nat.le_refl _ | exact Below.size (by (exact extA)))); (try simp only [List.set_cons_zero, List.set_cons_succ] at hS); (try have hR0 := hS.row (i := 0) rfl); (try have hR1 := hS.row (i := 1) rfl); (try have hR2 := hS.row (i := 2) rfl); (try have hR3 := hS.row (i := 3) rfl); (try have hR4 := hS.row (i := 4) rfl); (try have hC0 := hS.cell (i := 0) rfl); (try have hD0 := (cells_heap hC0).1); (try have hE0 := (cells_heap hC0).2.1); (try have hF0 := (cells_heap hC0).2.2.1); (try have hG0 := (cells_heap hC0).2.2.2.1); (try have hC1 := hS.cell (i := 1) rfl); (try have hD1 := (cells_heap hC1).1); (try have hE1 := (cells_heap hC1).2.1); (try have hF1 := (cells_heap hC1).2.2.1); (try have hG1 := (cells_heap hC1).2.2.2.1); (try have hC2 := hS.cell (i := 2) rfl); (try have hD2 := (cells_heap hC2).1); (try have hE2 := (cells_heap hC2).2.1); (try have hF2 := (cells_heap hC2).2.2.1); (try have hG2 := (cells_heap hC2).2.2.2.1); (try have hC3 := hS.cell (i := 3) rfl); (try have hD3 := (cells_heap hC3).1); (try have hE3 := (cells_heap hC3).2.1); (try have hF3 := (cells_heap hC3).2.2.1); (try have hG3 := (cells_heap hC3).2.2.2.1); (try have hC4 := hS.cell (i := 4) rfl); (try have hD4 := (cells_heap hC4).1); (try have hE4 := (cells_heap hC4).2.1); (try have hF4 := (cells_heap hC4).2.2.1); (try have hG4 := (cells_heap hC4).2.2.2.1); (try have hM0 := hS.map (i := 0) rfl); (try have hM1 := hS.map (i := 1) rfl); (try have hM2 := hS.map (i := 2) rfl); (try have hM3 := hS.map (i := 3) rfl); (try have hM4 := hS.map (i := 4) rfl))
    | (show WL _ _ _ _ _ _ _; first | apply WL.nil | (refine WL.au (k := ?_)))
    | (show SG _ _ _ _ _ _ _ _ _; first | apply SG.done | (apply SG.fl0; exact rfl) | (apply SG.fl1; exact rfl; (focus ((intro m; first | assumption | (apply Ext.at; (exact extA)) | apply But.of_at; first | exact But.upd (by assumption) | exact But.ext (by (exact extA)) | (refine But.trans ?_ (But.upd (by assumption)); exact But.ext (by (exact extA))) | exact But.at _ _ _); done))) | (apply SG.br1; exact rfl))
    | (show FL _ _ _ _ _ _ _ _; first | apply FL.nilS | (refine FL.au (k := ?_)) | (apply FL.loadG tOk; exact rfl; exact rfl; exact rfl; exact rfl; exact rfl; (first | assumption | (focus (apply Ext.cell; rotate_left; assumption; (exact extA); done))); (first | (focus (intro h; cases h; done)) | (focus (intro h; have h9 := hBC _ h; (try simp only at h9); omega)) | assumption | (focus (intro h; simp only [blk, Option.map_some, Option.some.injEq] at h; omega)))) | (apply FL.loadAG tOk; exact rfl; exact rfl; exact rfl; exact rfl; exact rfl; (first | assumption | (focus (apply Cells.ext; rotate_left; assumption; (exact extA); done))); exact rfl; (first | (focus (intro h; cases h; done)) | (focus (intro h; have h9 := hBC _ h; (try simp only at h9); omega)) | assumption | (focus (intro h; simp only [blk, Option.map_some, Option.some.injEq] at h; omega)))))
    | (show Z _ _ _ _ _; first | (apply Z.sgL; exact rfl) | (apply Z.sgE; (focus ((intro m; first | assumption | (apply Ext.at; (exact extA)) | apply But.of_at; first | exact But.upd (by assumption) | exact But.ext (by (exact extA)) | (refine But.trans ?_ (But.upd (by assumption)); exact But.ext (by (exact extA))) | exact But.at _ _ _); done))))
    | (show Z _ _ _ _ _; apply Z.then_normal)
    | (show W _ _ _ _ _ _; first | apply W.seq | apply W.region | apply W.ret))
  all_goals (
    refine Z.body1 Try.results148 rfl fun m => ⟨Ext.at (by assumption) m, a', cap', ?_, hS.ext ((Ext.refl _).at m)⟩
    rw [hNl]; rfl)
theorem rs_Input (gs cap : Nat) (a : Option Addr) (N : List (Int × Int)) (rest : List Piece) (w w0 : World) (hX : Ext w0 w) (hS : Sep w0.heap.size w (rsN w0.heap.size gs a cap N ++ rest)) (hN : N.length < 1048576) :
    Lt.Spec Try.prog 107 [.pointer (some ⟨gs, 0, none⟩)] w (AtRs w0 gs rest (2 * ((N.length : Int) + 1), N ++ [(-1, 0)])) := by
  refine Spec.of _ Try.func107 rfl Try.ntmps107 (by kernel_rfl) rfl ?_
  repeat' (first
    | (apply WL.build tOk; exact rfl; exact rfl; exact rfl; exact rfl; exact rfl; exact rfl; exact rfl; kernel_rfl)
    | (((show WL _ _ _ (⟨_, .call ⟨.value (.func 148), _, _⟩, _, _, _, _⟩ :: _) _ _ _); apply WL.call; exact rfl; exact rfl; exact rfl; exact rfl; exact rs_put gs cap a N (-1, 0) rest _ w0 hX hS hN; rintro v' w' ⟨hX2, a', cap', rfl, hS2⟩))
    | (show WL _ _ _ _ _ _ _; first | apply WL.nil | (refine WL.au (k := ?_)))
    | (show Z _ _ _ _ _; apply Z.then_normal)
    | (show W _ _ _ _ _ _; first | apply W.seq | apply W.region | apply W.ret))
  exact Z.body1 Try.results107 rfl fun m => ⟨hX2.at m, a', cap', rfl, hS2.ext ((Ext.refl _).at m)⟩

/-- And, by the reference's way. -/
theorem andV_comm_ways {N : List (Int × Int)} {x y : Int} (hx : hasL N x) (hy : hasL N y) :
    ((x = 0 ∨ y = 0 ∨ x = notL y) → andV N x y = (0, N)) ∧
    (¬ (x = 0 ∨ y = 0 ∨ x = notL y) → (x = 1 ∨ x = y) → andV N x y = (y, N)) ∧
    (¬ (x = 0 ∨ y = 0 ∨ x = notL y) → ¬ (x = 1 ∨ x = y) → y = 1 → andV N x y = (x, N)) ∧
    (¬ (x = 0 ∨ y = 0 ∨ x = notL y) → ¬ (x = 1 ∨ x = y) → ¬ y = 1 → ∀ a b : Int, a ≤ b → ((a = x ∧ b = y) ∨ (a = y ∧ b = x)) →
      (∀ i : Nat, N[i]? = some (a, b) → (∀ j : Nat, j < i → N[j]? ≠ some (a, b)) → andV N x y = (2 * ((i : Int) + 1), N)) ∧
      ((∀ j : Nat, N[j]? ≠ some (a, b)) → andV N x y = (2 * ((N.length : Int) + 1), N ++ [(a, b)]))) := by
  obtain ⟨p, q, hpq, hle, hw⟩ := andV_ways N x y
  have hh : hasL N p ∧ hasL N q := by rcases hpq with ⟨rfl, rfl⟩ | ⟨rfl, rfl⟩; exact ⟨hx, hy⟩; exact ⟨hy, hx⟩
  have hx0 := hx.1
  have hy0 := hy.1
  have hn : notL y = if y % 2 = 0 then y + 1 else y - 1 := by rw [notL_xor1 hy0]; rfl
  have hpx : Lt.xor1 q = if q % 2 = 0 then q + 1 else q - 1 := rfl
  rw [hpx] at hw
  rw [hn]
  refine ⟨fun h => ?_, fun h h1 => ?_, fun h h1 h2 => ?_, fun h h1 h2 a b hab hc => ?_⟩
  · rcases hw with ⟨h1, _⟩ | ⟨_, _, hw⟩ | ⟨_, h1, _, _⟩ | ⟨_, h1, _⟩ | ⟨_, h1, _⟩
    · exact absurd hh h1
    · exact hw
    all_goals (exfalso; rcases hpq with ⟨rfl, rfl⟩ | ⟨rfl, rfl⟩ <;> split at h <;> (try split at h1) <;> omega)
  · rcases hw with ⟨h3, _⟩ | ⟨_, h3, hw⟩ | ⟨_, h3, h4, hw⟩ | ⟨_, h3, _⟩ | ⟨_, h3, _⟩
    · exact absurd hh h3
    · exfalso; rcases hpq with ⟨rfl, rfl⟩ | ⟨rfl, rfl⟩ <;> split at h <;> split at h3 <;> omega
    · rw [hw]; congr 1; rcases hpq with ⟨rfl, rfl⟩ | ⟨rfl, rfl⟩ <;> split at h <;> split at h3 <;> omega
    all_goals (exfalso; rcases hpq with ⟨rfl, rfl⟩ | ⟨rfl, rfl⟩ <;> omega)
  · rcases hw with ⟨h3, _⟩ | ⟨_, h3, hw⟩ | ⟨_, h3, h4, hw⟩ | ⟨_, h3, _⟩ | ⟨_, h3, _⟩
    · exact absurd hh h3
    · exfalso; rcases hpq with ⟨rfl, rfl⟩ | ⟨rfl, rfl⟩ <;> split at h <;> split at h3 <;> omega
    · rw [hw]; congr 1; rcases hpq with ⟨rfl, rfl⟩ | ⟨rfl, rfl⟩ <;> split at h <;> split at h3 <;> omega
    all_goals (exfalso; rcases hpq with ⟨rfl, rfl⟩ | ⟨rfl, rfl⟩ <;> omega)
  · have e : p = a ∧ q = b := by
      rcases hpq with ⟨rfl, rfl⟩ | ⟨rfl, rfl⟩ <;> rcases hc with ⟨rfl, rfl⟩ | ⟨rfl, rfl⟩ <;> omega
    obtain ⟨rfl, rfl⟩ := e
    rcases hw with ⟨h3, _⟩ | ⟨_, h3, hw⟩ | ⟨_, h3, h4, hw⟩ | ⟨_, h3, i, i1, i2, i3, hw⟩ | ⟨_, h3, h4, hw⟩
    · exact absurd hh h3
    · exfalso; rcases hpq with ⟨rfl, rfl⟩ | ⟨rfl, rfl⟩ <;> split at h <;> split at h3 <;> omega
    · exfalso; rcases hpq with ⟨rfl, rfl⟩ | ⟨rfl, rfl⟩ <;> split at h <;> split at h3 <;> omega
    · refine ⟨fun j hj hj2 => ?_, fun hj => absurd i2 (hj i)⟩
      have : i = j := by
        rcases Nat.lt_trichotomy i j with hl | hl | hl
        · exact absurd i2 (hj2 i hl)
        · exact hl
        · exact absurd hj (i3 j hl)
      rw [hw, this]
    · exact ⟨fun j hj _ => absurd hj (h4 j), fun _ => hw⟩
end Go.Proofs.Ythpnahapiodflaa
namespace Go.Proofs.Ythpnahapiodflaa
open Go Go.Lt Go.RowKit
set_option linter.unusedVariables false
set_option linter.unusedSimpArgs false
set_option maxRecDepth 20000

set_option maxHeartbeats 8000000 in
theorem rs_AndLe (gs cap : Nat) (a : Option Addr) (N : List (Int × Int)) (x y : Int) (rest : List Piece) (w w0 : World) (hX : Ext w0 w) (hS : Sep w0.heap.size w (rsN w0.heap.size gs a cap N ++ rest)) (hN : N.length < 1048576) (hxy : x ≤ y) :
    Lt.Spec Try.prog 106 [.pointer (some ⟨gs, 0, none⟩), .int .i64 x, .int .i64 y] w (AtRs w0 gs rest (andV N x y)) := by
  have hR1 := hS.row (i := 1) rfl
  have RN := Own.row encN_ok hR1
  have hC0 := hS.cell (i := 0) rfl
  obtain ⟨hD0, _⟩ := cells_heap hC0
  by_cases hx : hasL N x
  · by_cases hy : hasL N y
    · have hx' : 0 ≤ x ∧ x < 2 * ((N.length : Int) + 1) := hx
      have hy' : 0 ≤ y ∧ y < 2 * ((N.length : Int) + 1) := hy
      obtain ⟨g1, g2, g3, g4⟩ := andV_comm_ways hx hy
      refine Spec.of _ Try.func106 rfl Try.ntmps106 (by kernel_rfl) rfl ?_
      repeat' (first
        | ((show WL _ _ _ (⟨_, .call ⟨.value (.func 104), _, _⟩, _, _, _, _⟩ :: _) _ _ _); apply WL.callS; exact rfl; exact rfl; exact rfl; exact rfl; exact rs_Has gs cap a N x _ hC0 (by omega))
        | ((show WL _ _ _ (⟨_, .call ⟨.value (.func 104), _, _⟩, _, _, _, _⟩ :: _) _ _ _); apply WL.callS; exact rfl; exact rfl; exact rfl; exact rfl; exact rs_Has gs cap a N y _ hC0 (by omega))
        | ((show WL _ _ _ (⟨_, .call ⟨.value (.func 105), _, _⟩, _, _, _, _⟩ :: _) _ _ _); apply WL.callS; exact rfl; exact rfl; exact rfl; exact rfl; exact rs_Not y _ (by omega))
        | (apply WL.gF; exact rfl; exact rfl; (focus (first | (rw [dec_true hx]; rfl) | (rw [dec_true hy]; rfl) | exact dec_false (by omega); done)))
        | (apply W.condKF; exact rfl; (focus (first | (rw [dec_true hx]; rfl) | (rw [dec_true hy]; rfl) | exact dec_false (by omega); done)))
        | (show WL _ _ _ _ _ _ _; first | apply WL.nil | (refine WL.au (k := ?_)) | (apply WL.guardF; exact rfl; exact rfl) | (apply WL.gD; exact rfl; exact rfl; all_goals intro _))
        | (show Z _ _ _ _ _; first | apply Z.then_normal | apply Z.then_ret)
        | (show W _ _ _ _ _ _; first | apply W.seq | apply W.region | apply W.block | apply W.skip | apply W.ret | (apply W.condT; exact rfl) | (apply W.condD; exact rfl; all_goals intro _)))
      all_goals first
        | (rw [g1 (by omega)]; exact Z.body1 Try.results106 rfl fun m => ⟨hX.at m, a, cap, rfl, hS.ext ((Ext.refl _).at m)⟩)
        | (rw [g2 (by omega) (by omega)]; exact Z.body1 Try.results106 rfl fun m => ⟨hX.at m, a, cap, rfl, hS.ext ((Ext.refl _).at m)⟩)
        | (rw [g3 (by omega) (by omega) (by omega)]; exact Z.body1 Try.results106 rfl fun m => ⟨hX.at m, a, cap, rfl, hS.ext ((Ext.refl _).at m)⟩)
        | skip
      have g5 := g4 (by omega) (by omega) (by omega) x y (by omega) (by omega)
      refine W.loop1 N.length (fun k => k ≤ N.length ∧ ∀ j : Nat, j < k → N[j]? ≠ some (x, y)) (fun k => [(0, .pointer (some ⟨gs, 0, none⟩)), (1, .int .i64 x), (2, .int .i64 y), (7, .int .i64 k)]) ⟨by omega, fun j h => by omega⟩ (fun k h => h.1) ⟨rfl, rfl, rfl, rfl, trivial⟩ ?_
      rintro k ⟨hk, hno⟩
      by_cases hlt : k < N.length
      · obtain ⟨z, hz⟩ := getI N hlt
        by_cases z1 : z.1 = x
        · by_cases z2 : z.2 = y
          · have hzp : z = (x, y) := Prod.ext z1 z2
            rw [g5.1 k (by rw [hz, hzp]) hno]
            repeat' (first
              | (apply WL.nilc; exact rfl; exact rfl; exact rfl)
              | (apply WL.gT; exact rfl; exact rfl; (focus (first | exact dec_true (by omega) | exact dec_true z1 | exact dec_true z2; done)))
              | (apply W.condKT; exact rfl; (focus (first | exact dec_true (by omega) | exact dec_true z1 | exact dec_true z2; done)))
              | (show WL _ _ _ _ _ _ _; first | apply WL.nil | (refine WL.au (k := ?_)) | (apply WL.index tOk; exact rfl; exact rfl; exact rfl; exact rfl; exact rfl; exact rfl; exact rfl; exact rfl; assumption; (exact extA); exact rfl; omega; assumption; intro b off h; have hcc := h; first | (obtain ⟨h1, h2, h3, h4, h5, h6, _⟩ := h) | (obtain ⟨h1, h2, h3, _⟩ := h) | (obtain ⟨h1, h2, _⟩ := h) | (obtain ⟨h1, _⟩ := h)))
              | (show Z _ _ _ _ _; first | apply Z.then_normal | apply Z.then_ret | apply Z.block_ret)
              | (show W _ _ _ _ _ _; first | apply W.seq | apply W.region | apply W.block | apply W.skip | apply W.ret))
            exact Z.body1 Try.results106 rfl fun m => ⟨hX.at m, a, cap, rfl, hS.ext ((Ext.refl _).at m)⟩
          · repeat' (first
              | (apply WL.nilc; exact rfl; exact rfl; exact rfl)
              | (apply WL.gT; exact rfl; exact rfl; (focus (first | exact dec_true (by omega) | exact dec_true z1 | exact dec_false z2; done)))
              | (apply W.condKT; exact rfl; (focus (first | exact dec_true (by omega) | exact dec_true z1 | exact dec_false z2; done)))
              | (apply W.condKF; exact rfl; (focus (first | exact dec_true (by omega) | exact dec_true z1 | exact dec_false z2; done)))
              | (show WL _ _ _ _ _ _ _; first | apply WL.nil | (refine WL.au (k := ?_)) | (apply WL.index tOk; exact rfl; exact rfl; exact rfl; exact rfl; exact rfl; exact rfl; exact rfl; exact rfl; assumption; (exact extA); exact rfl; omega; assumption; intro b off h; have hcc := h; first | (obtain ⟨h1, h2, h3, h4, h5, h6, _⟩ := h) | (obtain ⟨h1, h2, h3, _⟩ := h) | (obtain ⟨h1, h2, _⟩ := h) | (obtain ⟨h1, _⟩ := h)))
              | (show Z _ _ _ _ _; first | apply Z.then_normal | apply Z.block_normal)
              | (show W _ _ _ _ _ _; first | apply W.seq | apply W.region | apply W.block | apply W.skip))
            exact Z.again1 ⟨by omega, fun j hj hh => by
              by_cases hjk : j = k
              · subst hjk; rw [hz] at hh; cases hh; exact z2 rfl
              · exact hno j (by omega) hh⟩ ⟨rfl, rfl, rfl, rfl, trivial⟩
        · repeat' (first
            | (apply WL.nilc; exact rfl; exact rfl; exact rfl)
            | (apply WL.gF; exact rfl; exact rfl; (focus (first | exact dec_true (by omega) | exact dec_false z1; done)))
            | (apply W.condKT; exact rfl; (focus (first | exact dec_true (by omega) | exact dec_false z1; done)))
            | (show WL _ _ _ _ _ _ _; first | apply WL.nil | (refine WL.au (k := ?_)) | (apply WL.index tOk; exact rfl; exact rfl; exact rfl; exact rfl; exact rfl; exact rfl; exact rfl; exact rfl; assumption; (exact extA); exact rfl; omega; assumption; intro b off h; have hcc := h; first | (obtain ⟨h1, h2, h3, h4, h5, h6, _⟩ := h) | (obtain ⟨h1, h2, h3, _⟩ := h) | (obtain ⟨h1, h2, _⟩ := h) | (obtain ⟨h1, _⟩ := h)) | (apply WL.guardF; exact rfl; exact rfl))
            | (show Z _ _ _ _ _; first | apply Z.then_normal | apply Z.block_normal)
            | (show W _ _ _ _ _ _; first | apply W.seq | apply W.region | apply W.block | apply W.skip | (apply W.condF; exact rfl)))
          exact Z.again1 ⟨by omega, fun j hj hh => by
            by_cases hjk : j = k
            · subst hjk; rw [hz] at hh; cases hh; exact z1 rfl
            · exact hno j (by omega) hh⟩ ⟨rfl, rfl, rfl, rfl, trivial⟩
      · obtain rfl : k = N.length := by omega
        rw [g5.2 (fun j hh => by
          by_cases hj : j < N.length
          · exact hno j hj hh
          · rw [List.getElem?_eq_none (by omega)] at hh; cases hh)]
        repeat' (first
          | (apply WL.nilc; exact rfl; exact rfl; exact rfl)
          | (apply WL.build tOk; exact rfl; exact rfl; exact rfl; exact rfl; exact rfl; exact rfl; exact rfl; kernel_rfl)
          | (apply W.condKF; exact rfl; (focus (exact dec_false (by omega); done)))
          | (((show WL _ _ _ (⟨_, .call ⟨.value (.func 148), _, _⟩, _, _, _, _⟩ :: _) _ _ _); apply WL.call; exact rfl; exact rfl; exact rfl; exact rfl; exact rs_put gs cap a N (x, y) rest _ w0 hX hS hN; rintro v' w' ⟨hX2, a', cap', rfl, hS2⟩))
          | (show WL _ _ _ _ _ _ _; first | apply WL.nil | (refine WL.au (k := ?_)))
          | (show Z _ _ _ _ _; first | apply Z.then_normal | apply Z.then_exit | apply Z.block_exit)
          | (show W _ _ _ _ _ _; first | apply W.seq | apply W.region | apply W.ret | apply W.exit))
        exact Z.body1 Try.results106 rfl fun m => ⟨hX2.at m, a', cap', rfl, hS2.ext ((Ext.refl _).at m)⟩
    · rw [andV_no (fun h => hy h.2)]
      refine Spec.of _ Try.func106 rfl Try.ntmps106 (by kernel_rfl) rfl ?_
      repeat' (first
        | ((show WL _ _ _ (⟨_, .call ⟨.value (.func 104), _, _⟩, _, _, _, _⟩ :: _) _ _ _); apply WL.callS; exact rfl; exact rfl; exact rfl; exact rfl; exact rs_Has gs cap a N x _ hC0 (by omega))
        | ((show WL _ _ _ (⟨_, .call ⟨.value (.func 104), _, _⟩, _, _, _, _⟩ :: _) _ _ _); apply WL.callS; exact rfl; exact rfl; exact rfl; exact rfl; exact rs_Has gs cap a N y _ hC0 (by omega))
        | (apply WL.gF; exact rfl; exact rfl; (focus (first | (rw [dec_true hx]; rfl) | (rw [dec_false hy]; rfl); done)))
        | (apply W.condKT; exact rfl; (focus (first | (rw [dec_true hx]; rfl) | (rw [dec_false hy]; rfl); done)))
        | (show WL _ _ _ _ _ _ _; first | apply WL.nil | (refine WL.au (k := ?_)))
        | (show Z _ _ _ _ _; first | apply Z.then_normal | apply Z.then_ret)
        | (show W _ _ _ _ _ _; first | apply W.seq | apply W.region | apply W.ret))
      exact Z.body1 Try.results106 rfl fun m => ⟨hX.at m, a, cap, rfl, hS.ext ((Ext.refl _).at m)⟩
  · rw [andV_no (fun h => hx h.1)]
    refine Spec.of _ Try.func106 rfl Try.ntmps106 (by kernel_rfl) rfl ?_
    repeat' (first
      | ((show WL _ _ _ (⟨_, .call ⟨.value (.func 104), _, _⟩, _, _, _, _⟩ :: _) _ _ _); apply WL.callS; exact rfl; exact rfl; exact rfl; exact rfl; exact rs_Has gs cap a N x _ hC0 (by omega))
      | (apply WL.gT; exact rfl; exact rfl; (focus (first | (rw [dec_false hx]; rfl); done)))
      | (show WL _ _ _ _ _ _ _; first | apply WL.nil | (refine WL.au (k := ?_)) | (apply WL.guardF; exact rfl; exact rfl))
      | (show Z _ _ _ _ _; first | apply Z.then_normal | apply Z.then_ret)
      | (show W _ _ _ _ _ _; first | apply W.seq | apply W.region | apply W.ret | (apply W.condT; exact rfl)))
    exact Z.body1 Try.results106 rfl fun m => ⟨hX.at m, a, cap, rfl, hS.ext ((Ext.refl _).at m)⟩

set_option maxHeartbeats 8000000 in
theorem rs_AndGt (gs cap : Nat) (a : Option Addr) (N : List (Int × Int)) (x y : Int) (rest : List Piece) (w w0 : World) (hX : Ext w0 w) (hS : Sep w0.heap.size w (rsN w0.heap.size gs a cap N ++ rest)) (hN : N.length < 1048576) (hxy : y < x) :
    Lt.Spec Try.prog 106 [.pointer (some ⟨gs, 0, none⟩), .int .i64 x, .int .i64 y] w (AtRs w0 gs rest (andV N x y)) := by
  have hR1 := hS.row (i := 1) rfl
  have RN := Own.row encN_ok hR1
  have hC0 := hS.cell (i := 0) rfl
  obtain ⟨hD0, _⟩ := cells_heap hC0
  by_cases hx : hasL N x
  · by_cases hy : hasL N y
    · have hx' : 0 ≤ x ∧ x < 2 * ((N.length : Int) + 1) := hx
      have hy' : 0 ≤ y ∧ y < 2 * ((N.length : Int) + 1) := hy
      obtain ⟨g1, g2, g3, g4⟩ := andV_comm_ways hx hy
      refine Spec.of _ Try.func106 rfl Try.ntmps106 (by kernel_rfl) rfl ?_
      repeat' (first
        | ((show WL _ _ _ (⟨_, .call ⟨.value (.func 104), _, _⟩, _, _, _, _⟩ :: _) _ _ _); apply WL.callS; exact rfl; exact rfl; exact rfl; exact rfl; exact rs_Has gs cap a N x _ hC0 (by omega))
        | ((show WL _ _ _ (⟨_, .call ⟨.value (.func 104), _, _⟩, _, _, _, _⟩ :: _) _ _ _); apply WL.callS; exact rfl; exact rfl; exact rfl; exact rfl; exact rs_Has gs cap a N y _ hC0 (by omega))
        | ((show WL _ _ _ (⟨_, .call ⟨.value (.func 105), _, _⟩, _, _, _, _⟩ :: _) _ _ _); apply WL.callS; exact rfl; exact rfl; exact rfl; exact rfl; exact rs_Not y _ (by omega))
        | (apply WL.gF; exact rfl; exact rfl; (focus (first | (rw [dec_true hx]; rfl) | (rw [dec_true hy]; rfl) | exact dec_true (by omega); done)))
        | (apply W.condKT; exact rfl; (focus (first | (rw [dec_true hx]; rfl) | (rw [dec_true hy]; rfl) | exact dec_true (by omega); done)))
        | (apply W.condKF; exact rfl; (focus (first | (rw [dec_true hx]; rfl) | (rw [dec_true hy]; rfl) | exact dec_true (by omega); done)))
        | (show WL _ _ _ _ _ _ _; first | apply WL.nil | (refine WL.au (k := ?_)) | (apply WL.guardF; exact rfl; exact rfl) | (apply WL.gD; exact rfl; exact rfl; all_goals intro _))
        | (show Z _ _ _ _ _; first | apply Z.then_normal | apply Z.then_ret)
        | (show W _ _ _ _ _ _; first | apply W.seq | apply W.region | apply W.block | apply W.skip | apply W.ret | (apply W.condT; exact rfl) | (apply W.condD; exact rfl; all_goals intro _)))
      all_goals first
        | (rw [g1 (by omega)]; exact Z.body1 Try.results106 rfl fun m => ⟨hX.at m, a, cap, rfl, hS.ext ((Ext.refl _).at m)⟩)
        | (rw [g2 (by omega) (by omega)]; exact Z.body1 Try.results106 rfl fun m => ⟨hX.at m, a, cap, rfl, hS.ext ((Ext.refl _).at m)⟩)
        | (rw [g3 (by omega) (by omega) (by omega)]; exact Z.body1 Try.results106 rfl fun m => ⟨hX.at m, a, cap, rfl, hS.ext ((Ext.refl _).at m)⟩)
        | skip
      have g5 := g4 (by omega) (by omega) (by omega) y x (by omega) (by omega)
      refine W.loop1 N.length (fun k => k ≤ N.length ∧ ∀ j : Nat, j < k → N[j]? ≠ some (y, x)) (fun k => [(0, .pointer (some ⟨gs, 0, none⟩)), (1, .int .i64 y), (2, .int .i64 x), (7, .int .i64 k)]) ⟨by omega, fun j h => by omega⟩ (fun k h => h.1) ⟨rfl, rfl, rfl, rfl, trivial⟩ ?_
      rintro k ⟨hk, hno⟩
      by_cases hlt : k < N.length
      · obtain ⟨z, hz⟩ := getI N hlt
        by_cases z1 : z.1 = y
        · by_cases z2 : z.2 = x
          · have hzp : z = (y, x) := Prod.ext z1 z2
            rw [g5.1 k (by rw [hz, hzp]) hno]
            repeat' (first
              | (apply WL.nilc; exact rfl; exact rfl; exact rfl)
              | (apply WL.gT; exact rfl; exact rfl; (focus (first | exact dec_true (by omega) | exact dec_true z1 | exact dec_true z2; done)))
              | (apply W.condKT; exact rfl; (focus (first | exact dec_true (by omega) | exact dec_true z1 | exact dec_true z2; done)))
              | (show WL _ _ _ _ _ _ _; first | apply WL.nil | (refine WL.au (k := ?_)) | (apply WL.index tOk; exact rfl; exact rfl; exact rfl; exact rfl; exact rfl; exact rfl; exact rfl; exact rfl; assumption; (exact extA); exact rfl; omega; assumption; intro b off h; have hcc := h; first | (obtain ⟨h1, h2, h3, h4, h5, h6, _⟩ := h) | (obtain ⟨h1, h2, h3, _⟩ := h) | (obtain ⟨h1, h2, _⟩ := h) | (obtain ⟨h1, _⟩ := h)))
              | (show Z _ _ _ _ _; first | apply Z.then_normal | apply Z.then_ret | apply Z.block_ret)
              | (show W _ _ _ _ _ _; first | apply W.seq | apply W.region | apply W.block | apply W.skip | apply W.ret))
            exact Z.body1 Try.results106 rfl fun m => ⟨hX.at m, a, cap, rfl, hS.ext ((Ext.refl _).at m)⟩
          · repeat' (first
              | (apply WL.nilc; exact rfl; exact rfl; exact rfl)
              | (apply WL.gT; exact rfl; exact rfl; (focus (first | exact dec_true (by omega) | exact dec_true z1 | exact dec_false z2; done)))
              | (apply W.condKT; exact rfl; (focus (first | exact dec_true (by omega) | exact dec_true z1 | exact dec_false z2; done)))
              | (apply W.condKF; exact rfl; (focus (first | exact dec_true (by omega) | exact dec_true z1 | exact dec_false z2; done)))
              | (show WL _ _ _ _ _ _ _; first | apply WL.nil | (refine WL.au (k := ?_)) | (apply WL.index tOk; exact rfl; exact rfl; exact rfl; exact rfl; exact rfl; exact rfl; exact rfl; exact rfl; assumption; (exact extA); exact rfl; omega; assumption; intro b off h; have hcc := h; first | (obtain ⟨h1, h2, h3, h4, h5, h6, _⟩ := h) | (obtain ⟨h1, h2, h3, _⟩ := h) | (obtain ⟨h1, h2, _⟩ := h) | (obtain ⟨h1, _⟩ := h)))
              | (show Z _ _ _ _ _; first | apply Z.then_normal | apply Z.block_normal)
              | (show W _ _ _ _ _ _; first | apply W.seq | apply W.region | apply W.block | apply W.skip))
            exact Z.again1 ⟨by omega, fun j hj hh => by
              by_cases hjk : j = k
              · subst hjk; rw [hz] at hh; cases hh; exact z2 rfl
              · exact hno j (by omega) hh⟩ ⟨rfl, rfl, rfl, rfl, trivial⟩
        · repeat' (first
            | (apply WL.nilc; exact rfl; exact rfl; exact rfl)
            | (apply WL.gF; exact rfl; exact rfl; (focus (first | exact dec_true (by omega) | exact dec_false z1; done)))
            | (apply W.condKT; exact rfl; (focus (first | exact dec_true (by omega) | exact dec_false z1; done)))
            | (show WL _ _ _ _ _ _ _; first | apply WL.nil | (refine WL.au (k := ?_)) | (apply WL.index tOk; exact rfl; exact rfl; exact rfl; exact rfl; exact rfl; exact rfl; exact rfl; exact rfl; assumption; (exact extA); exact rfl; omega; assumption; intro b off h; have hcc := h; first | (obtain ⟨h1, h2, h3, h4, h5, h6, _⟩ := h) | (obtain ⟨h1, h2, h3, _⟩ := h) | (obtain ⟨h1, h2, _⟩ := h) | (obtain ⟨h1, _⟩ := h)) | (apply WL.guardF; exact rfl; exact rfl))
            | (show Z _ _ _ _ _; first | apply Z.then_normal | apply Z.block_normal)
            | (show W _ _ _ _ _ _; first | apply W.seq | apply W.region | apply W.block | apply W.skip | (apply W.condF; exact rfl)))
          exact Z.again1 ⟨by omega, fun j hj hh => by
            by_cases hjk : j = k
            · subst hjk; rw [hz] at hh; cases hh; exact z1 rfl
            · exact hno j (by omega) hh⟩ ⟨rfl, rfl, rfl, rfl, trivial⟩
      · obtain rfl : k = N.length := by omega
        rw [g5.2 (fun j hh => by
          by_cases hj : j < N.length
          · exact hno j hj hh
          · rw [List.getElem?_eq_none (by omega)] at hh; cases hh)]
        repeat' (first
          | (apply WL.nilc; exact rfl; exact rfl; exact rfl)
          | (apply WL.build tOk; exact rfl; exact rfl; exact rfl; exact rfl; exact rfl; exact rfl; exact rfl; kernel_rfl)
          | (apply W.condKF; exact rfl; (focus (exact dec_false (by omega); done)))
          | (((show WL _ _ _ (⟨_, .call ⟨.value (.func 148), _, _⟩, _, _, _, _⟩ :: _) _ _ _); apply WL.call; exact rfl; exact rfl; exact rfl; exact rfl; exact rs_put gs cap a N (y, x) rest _ w0 hX hS hN; rintro v' w' ⟨hX2, a', cap', rfl, hS2⟩))
          | (show WL _ _ _ _ _ _ _; first | apply WL.nil | (refine WL.au (k := ?_)))
          | (show Z _ _ _ _ _; first | apply Z.then_normal | apply Z.then_exit | apply Z.block_exit)
          | (show W _ _ _ _ _ _; first | apply W.seq | apply W.region | apply W.ret | apply W.exit))
        exact Z.body1 Try.results106 rfl fun m => ⟨hX2.at m, a', cap', rfl, hS2.ext ((Ext.refl _).at m)⟩
    · rw [andV_no (fun h => hy h.2)]
      refine Spec.of _ Try.func106 rfl Try.ntmps106 (by kernel_rfl) rfl ?_
      repeat' (first
        | ((show WL _ _ _ (⟨_, .call ⟨.value (.func 104), _, _⟩, _, _, _, _⟩ :: _) _ _ _); apply WL.callS; exact rfl; exact rfl; exact rfl; exact rfl; exact rs_Has gs cap a N x _ hC0 (by omega))
        | ((show WL _ _ _ (⟨_, .call ⟨.value (.func 104), _, _⟩, _, _, _, _⟩ :: _) _ _ _); apply WL.callS; exact rfl; exact rfl; exact rfl; exact rfl; exact rs_Has gs cap a N y _ hC0 (by omega))
        | (apply WL.gF; exact rfl; exact rfl; (focus (first | (rw [dec_true hx]; rfl) | (rw [dec_false hy]; rfl); done)))
        | (apply W.condKT; exact rfl; (focus (first | (rw [dec_true hx]; rfl) | (rw [dec_false hy]; rfl); done)))
        | (show WL _ _ _ _ _ _ _; first | apply WL.nil | (refine WL.au (k := ?_)))
        | (show Z _ _ _ _ _; first | apply Z.then_normal | apply Z.then_ret)
        | (show W _ _ _ _ _ _; first | apply W.seq | apply W.region | apply W.ret))
      exact Z.body1 Try.results106 rfl fun m => ⟨hX.at m, a, cap, rfl, hS.ext ((Ext.refl _).at m)⟩
  · rw [andV_no (fun h => hx h.1)]
    refine Spec.of _ Try.func106 rfl Try.ntmps106 (by kernel_rfl) rfl ?_
    repeat' (first
      | ((show WL _ _ _ (⟨_, .call ⟨.value (.func 104), _, _⟩, _, _, _, _⟩ :: _) _ _ _); apply WL.callS; exact rfl; exact rfl; exact rfl; exact rfl; exact rs_Has gs cap a N x _ hC0 (by omega))
      | (apply WL.gT; exact rfl; exact rfl; (focus (first | (rw [dec_false hx]; rfl); done)))
      | (show WL _ _ _ _ _ _ _; first | apply WL.nil | (refine WL.au (k := ?_)) | (apply WL.guardF; exact rfl; exact rfl))
      | (show Z _ _ _ _ _; first | apply Z.then_normal | apply Z.then_ret)
      | (show W _ _ _ _ _ _; first | apply W.seq | apply W.region | apply W.ret | (apply W.condT; exact rfl)))
    exact Z.body1 Try.results106 rfl fun m => ⟨hX.at m, a, cap, rfl, hS.ext ((Ext.refl _).at m)⟩

theorem rs_And (gs cap : Nat) (a : Option Addr) (N : List (Int × Int)) (x y : Int) (rest : List Piece) (w w0 : World) (hX : Ext w0 w) (hS : Sep w0.heap.size w (rsN w0.heap.size gs a cap N ++ rest)) (hN : N.length < 1048576) :
    Lt.Spec Try.prog 106 [.pointer (some ⟨gs, 0, none⟩), .int .i64 x, .int .i64 y] w (AtRs w0 gs rest (andV N x y)) := by
  by_cases hxy : x ≤ y
  · exact rs_AndLe gs cap a N x y rest w w0 hX hS hN hxy
  · exact rs_AndGt gs cap a N x y rest w w0 hX hS hN (by omega)
theorem all_snoc {N : List (Int × Int)} {L : List Int} {k : Nat} {z : Int} (hz : L[k]? = some z) (h : ∀ x ∈ L.take k, hasL N x) (hx : hasL N z) : ∀ x ∈ L.take (k + 1), hasL N x := by
  intro x hm
  rw [take_succ' hz] at hm
  rcases List.mem_append.1 hm with h1 | h1
  · exact h x h1
  · obtain rfl := List.mem_singleton.1 h1; exact hx
end Go.Proofs.Ythpnahapiodflaa
namespace Go.Proofs.Ythpnahapiodflaa
open Go Go.Lt Go.RowKit
set_option linter.unusedVariables false
set_option linter.unusedSimpArgs false
set_option maxRecDepth 20000

section
variable {n : List (Int × Int)} {outs : List Int} {na oa : Option Addr} {nc oc gs gB : Nat}
theorem FL.loadG {P : Program} {T : Tab} {N d : Nat} {e : Env} {w : World} {C : World → Prop} {ops l : List Oper} {Kf : Act → Prop} {tt t : TypeId} {ps : String} {af : Array Edge} {g : Option (Nat × Bool)} {x : Operand} {p : Addr} {v : Value} {i : TI} (hT : OkTab P T) (hg : gate ops e g = some true) (hd : Nat.blt d N = true) (hx : ev e x = some (.pointer (some p))) (ht : tget T t = some i) (ha : isAggD i.desc = false) (hv : ∀ w', C w' → w'.cell? p = some v)
    (k : FL P N ops.toArray C l ((d, v) :: e) w Kf) : FL P N ops.toArray C (⟨some d, .load t x, tt, ps, af, g⟩ :: l) e w Kf := by
  refine FL.step hg hd ?_ k
  intro ρ hρ w' hw'
  have h1 := run_isAgg' (hT.at ht); rw [ha] at h1
  have h2 := hv w' hw'
  simp [execOp, hρ _ _ hx, Instr.loadAt, Instr.sureAddr, loadVar, h1, h2]
end
end Go.Proofs.Ythpnahapiodflaa
namespace Go.Proofs.Ythpnahapiodflaa
open Go Go.Lt Go.RowKit
set_option linter.unusedVariables false
set_option linter.unusedSimpArgs false
set_option maxRecDepth 20000

/-- All literals are of variables of the net. -/
def KnownP (n : List (Int × Int)) (l : List Int) : Prop := ∀ x ∈ l, 0 ≤ x ∧ x ≤ 2 * (n.length : Int) + 1
theorem ref22_Known (a al : Option Addr) (cap cl : Nat) (n : List (Int × Int)) (l : List Int) (w : World) (Rl : Row 1 encI w al l) (hn : n.length ≤ 1048576) : Still Try.prog 96 [.slice a n.length cap, .slice al l.length cl] w (.bool (dec (KnownP n l))) := by
  have hlen := Rl.len
  refine Spec.of _ Try.func96 rfl Try.ntmps96 (by kernel_rfl) rfl ?_
  repeat' (first
    | (show WL _ _ _ _ _ _ _; first | apply WL.nil | (refine WL.au (k := ?_)))
    | (show Z _ _ _ _ _; apply Z.then_normal)
    | (show W _ _ _ _ _ _; first | apply W.seq | apply W.region | apply W.block))
  refine W.loop1 l.length (fun k => k ≤ l.length ∧ KnownP n (l.take k)) (fun k => [(0, .slice a n.length cap), (1, .slice al l.length cl), (5, .int .i64 k)]) ⟨by omega, fun x h => by simp at h⟩ (fun k h => h.1) ⟨rfl, rfl, rfl, trivial⟩ ?_
  rintro k ⟨hk, hK⟩
  by_cases hlt : k < l.length
  · obtain ⟨z, hz⟩ := getI l hlt
    by_cases hzz : 0 ≤ z ∧ z ≤ 2 * (n.length : Int) + 1
    · repeat' (first
        | (apply WL.gF; exact rfl; exact rfl; (focus (first | exact dec_true (by omega) | exact dec_false (by omega); done)))
        | (apply W.condKT; exact rfl; (focus (first | exact dec_true (by omega) | exact dec_false (by omega); done)))
        | (apply W.condKF; exact rfl; (focus (first | exact dec_true (by omega) | exact dec_false (by omega); done)))
        | (show WL _ _ _ _ _ _ _; first | apply WL.nil | (refine WL.au (k := ?_)) | (apply WL.index tOk; exact rfl; exact rfl; exact rfl; exact rfl; exact rfl; exact rfl; exact rfl; exact rfl; assumption; (exact extA); exact rfl; omega; assumption; intro b off h; have hcc := h; first | (obtain ⟨h1, h2, h3, h4, h5, h6, _⟩ := h) | (obtain ⟨h1, h2, h3, _⟩ := h) | (obtain ⟨h1, h2, _⟩ := h) | (obtain ⟨h1, _⟩ := h)))
        | (show Z _ _ _ _ _; first | apply Z.then_normal | apply Z.block_normal)
        | (show W _ _ _ _ _ _; first | apply W.seq | apply W.region | apply W.block | apply W.skip))
      exact Z.again1 ⟨by omega, fun x hx => by
        rw [take_succ' hz] at hx
        rcases List.mem_append.1 hx with h1 | h1
        · exact hK x h1
        · obtain rfl := List.mem_singleton.1 h1; exact hzz⟩ ⟨rfl, rfl, rfl, trivial⟩
    · repeat' (first
        | (apply W.condKT; exact rfl; (focus (exact dec_true (by omega); done)))
        | (show WL _ _ _ _ _ _ _; first | apply WL.nil | (refine WL.au (k := ?_)) | (apply WL.index tOk; exact rfl; exact rfl; exact rfl; exact rfl; exact rfl; exact rfl; exact rfl; exact rfl; assumption; (exact extA); exact rfl; omega; assumption; intro b off h; have hcc := h; first | (obtain ⟨h1, h2, h3, h4, h5, h6, _⟩ := h) | (obtain ⟨h1, h2, h3, _⟩ := h) | (obtain ⟨h1, h2, _⟩ := h) | (obtain ⟨h1, _⟩ := h)) | (apply WL.guardF; exact rfl; exact rfl) | (apply WL.gD; exact rfl; exact rfl; all_goals intro _))
        | (show Z _ _ _ _ _; first | apply Z.then_normal | apply Z.then_ret | apply Z.block_ret)
        | (show W _ _ _ _ _ _; first | apply W.seq | apply W.region | apply W.block | apply W.skip | apply W.ret | (apply W.condT; exact rfl)))
      all_goals first
        | (exfalso; omega)
        | exact Z.body1 Try.results96 rfl fun m => ⟨congrArg Value.bool (dec_false (fun h => hzz (h z (List.mem_of_getElem? hz)))).symm, m, rfl⟩
  · obtain rfl : k = l.length := by omega
    rw [List.take_length] at hK
    repeat' (first
      | (apply W.condKF; exact rfl; (focus (exact dec_false (by omega); done)))
      | (show WL _ _ _ _ _ _ _; first | apply WL.nil | (refine WL.au (k := ?_)))
      | (show Z _ _ _ _ _; first | apply Z.then_normal | apply Z.then_exit | apply Z.block_exit)
      | (show W _ _ _ _ _ _; first | apply W.seq | apply W.region | apply W.ret | apply W.exit))
    exact Z.body1 Try.results96 rfl fun m => ⟨congrArg Value.bool (dec_true hK).symm, m, rfl⟩
theorem law44_Small (a al : Option Addr) (cap cl : Nat) (n : List (Int × Int)) (l : List Int) (most : Int) (w : World) (R : Row 2 encN w a n) (Rl : Row 1 encI w al l) (hm : most ≤ 1048576) :
    Still Try.prog 37 [.slice a n.length cap, .slice al l.length cl, .int .i64 most] w (.bool (dec (((n.length : Int) ≤ most ∧ GoodNet n) ∧ l.length ≤ 20 ∧ KnownP n l))) := by
  have hgo : ∀ {b : Bool}, b = dec (((n.length : Int) ≤ most ∧ GoodNet n) ∧ l.length ≤ 20 ∧ KnownP n l) → Value.bool b = .bool (dec (((n.length : Int) ≤ most ∧ GoodNet n) ∧ l.length ≤ 20 ∧ KnownP n l)) := fun h => by rw [h]
  by_cases h1 : (n.length : Int) ≤ most ∧ GoodNet n
  · by_cases h2 : l.length ≤ 20
    · by_cases h3 : KnownP n l
      · refine Spec.of _ Try.func37 rfl Try.ntmps37 (by kernel_rfl) rfl ?_
        repeat' (first
          | ((show WL _ _ _ (⟨_, .call ⟨.value (.func 95), _, _⟩, _, _, _, _⟩ :: _) _ _ _); apply WL.callS; exact rfl; exact rfl; exact rfl; exact rfl; exact law07_Small _ _ n most _ R hm)
          | ((show WL _ _ _ (⟨_, .call ⟨.value (.func 96), _, _⟩, _, _, _, _⟩ :: _) _ _ _); apply WL.callS; exact rfl; exact rfl; exact rfl; exact rfl; exact ref22_Known _ _ _ _ n l _ Rl (by omega))
          | (apply WL.gT; exact rfl; exact rfl; (focus (first | exact dec_true h1 | exact dec_true h3 | exact dec_true (by omega); done)))
          | (show WL _ _ _ _ _ _ _; first | apply WL.nil | (refine WL.au (k := ?_)))
          | (show Z _ _ _ _ _; apply Z.then_normal)
          | (show W _ _ _ _ _ _; first | apply W.seq | apply W.region | apply W.ret))
        exact Z.body1 Try.results37 rfl fun m => ⟨hgo (by first | exact (dec_true ⟨h1, h2, h3⟩).symm | exact (dec_true h3).trans (dec_true ⟨h1, h2, h3⟩).symm), m, rfl⟩
      · refine Spec.of _ Try.func37 rfl Try.ntmps37 (by kernel_rfl) rfl ?_
        repeat' (first
          | ((show WL _ _ _ (⟨_, .call ⟨.value (.func 95), _, _⟩, _, _, _, _⟩ :: _) _ _ _); apply WL.callS; exact rfl; exact rfl; exact rfl; exact rfl; exact law07_Small _ _ n most _ R hm)
          | ((show WL _ _ _ (⟨_, .call ⟨.value (.func 96), _, _⟩, _, _, _, _⟩ :: _) _ _ _); apply WL.callS; exact rfl; exact rfl; exact rfl; exact rfl; exact ref22_Known _ _ _ _ n l _ Rl (by omega))
          | (apply WL.gT; exact rfl; exact rfl; (focus (first | exact dec_true h1 | exact dec_false h3 | exact dec_true (by omega); done)))
          | (show WL _ _ _ _ _ _ _; first | apply WL.nil | (refine WL.au (k := ?_)))
          | (show Z _ _ _ _ _; apply Z.then_normal)
          | (show W _ _ _ _ _ _; first | apply W.seq | apply W.region | apply W.ret))
        exact Z.body1 Try.results37 rfl fun m => ⟨hgo (by first | exact (dec_false (fun h => h3 h.2.2)).symm | exact (dec_false h3).trans (dec_false (fun h => h3 h.2.2)).symm), m, rfl⟩
    · refine Spec.of _ Try.func37 rfl Try.ntmps37 (by kernel_rfl) rfl ?_
      repeat' (first
        | ((show WL _ _ _ (⟨_, .call ⟨.value (.func 95), _, _⟩, _, _, _, _⟩ :: _) _ _ _); apply WL.callS; exact rfl; exact rfl; exact rfl; exact rfl; exact law07_Small _ _ n most _ R hm)
        | (apply WL.gT; exact rfl; exact rfl; (focus (first | exact dec_true h1 | exact dec_false (by omega); done)))
        | (apply WL.gF; exact rfl; exact rfl; (focus (first | exact dec_true h1 | exact dec_false (by omega); done)))
        | (show WL _ _ _ _ _ _ _; first | apply WL.nil | (refine WL.au (k := ?_)) | (apply WL.guardF; exact rfl; exact rfl))
        | (show Z _ _ _ _ _; apply Z.then_normal)
        | (show W _ _ _ _ _ _; first | apply W.seq | apply W.region | apply W.ret))
      exact Z.body1 Try.results37 rfl fun m => ⟨congrArg Value.bool (dec_false (fun h => h2 h.2.1)).symm, m, rfl⟩
  · refine Spec.of _ Try.func37 rfl Try.ntmps37 (by kernel_rfl) rfl ?_
    repeat' (first
      | ((show WL _ _ _ (⟨_, .call ⟨.value (.func 95), _, _⟩, _, _, _, _⟩ :: _) _ _ _); apply WL.callS; exact rfl; exact rfl; exact rfl; exact rfl; exact law07_Small _ _ n most _ R hm)
      | (apply WL.gF; exact rfl; exact rfl; (focus (first | exact dec_false h1; done)))
      | (show WL _ _ _ _ _ _ _; first | apply WL.nil | (refine WL.au (k := ?_)) | (apply WL.guardF; exact rfl; exact rfl))
      | (show Z _ _ _ _ _; apply Z.then_normal)
      | (show W _ _ _ _ _ _; first | apply W.seq | apply W.region | apply W.ret))
    exact Z.body1 Try.results37 rfl fun m => ⟨congrArg Value.bool (dec_false (fun h => h1 h.1)).symm, m, rfl⟩
end Go.Proofs.Ythpnahapiodflaa
namespace Go.Proofs.Ythpnahapiodflaa
open Go Go.Lt Go.RowKit
set_option linter.unusedVariables false
set_option linter.unusedSimpArgs false
set_option maxRecDepth 20000

theorem andV_new {N : List (Int × Int)} {a b : Int} (ha : hasL N a) (hb : hasL N b) (h1 : 2 ≤ a ∧ a / 2 < b / 2) (h2 : ∀ j : Nat, N[j]? ≠ some (a, b)) : andV N a b = (2 * ((N.length : Int) + 1), N ++ [(a, b)]) := by
  obtain ⟨x, y, hxy, hle, hw⟩ := andV_ways N a b
  obtain ⟨rfl, rfl⟩ : x = a ∧ y = b := by
    rcases hxy with h | ⟨h3, h4⟩
    · exact h
    · omega
  rcases hw with ⟨k, _⟩ | ⟨_, k, _⟩ | ⟨_, _, k, _⟩ | ⟨_, _, i, _, k, _⟩ | ⟨_, _, _, h⟩
  · exact absurd ⟨ha, hb⟩ k
  · rcases k with k | k
    · omega
    · unfold Lt.xor1 at k; split at k <;> omega
  · omega
  · exact absurd k (h2 i)
  · exact h
def exN : List (Int × Int) := [(-1, 0), (-1, 0), (-1, 0), (-1, 0), (2, 4), (10, 6), (12, 8)]
def exI : List (Int × Int) := [(-1, 0), (-1, 0), (-1, 0), (-1, 0)]
def exM : List (Int × Int) := [(-1, 0), (-1, 0), (-1, 0), (-1, 0), (2, 4), (6, 8), (10, 12)]
theorem exN_good : GoodNet exN := by
  intro i x h
  match i, h with
  | 0, h | 1, h | 2, h | 3, h | 4, h | 5, h | 6, h => cases h; unfold badNode; decide
  | i + 7, h => simp [exN] at h
theorem exM_good : GoodNet exM := by
  intro i x h
  match i, h with
  | 0, h | 1, h | 2, h | 3, h | 4, h | 5, h | 6, h => cases h; unfold badNode; decide
  | i + 7, h => simp [exM] at h
theorem exU : usesV exN [14] = [0, 1, 1, 1, 1, 1, 1, 2] := by decide
theorem no_get {N : List (Int × Int)} {p : Int × Int} (h : p ∉ N) : ∀ j : Nat, N[j]? ≠ some p := fun j hj => h (List.mem_of_getElem? hj)
theorem ex_inn {x : Int} (h1 : x % 2 = 0) (h2 : gateN exN (x / 2)) (h3 : ([0, 1, 1, 1, 1, 1, 1, 2] : List Int).getD (x / 2).toNat 0 = 1) (g : Int → List Int) : leafX exN [0, 1, 1, 1, 1, 1, 1, 2] g x = g (x / 2) := by
  unfold leafX; rw [dec_true ⟨h1, h2, h3⟩]; rfl
theorem ex_out {x : Int} (h : ¬ gateN exN (x / 2)) (g : Int → List Int) : leafX exN [0, 1, 1, 1, 1, 1, 1, 2] g x = [x] := by
  unfold leafX; rw [dec_false (fun k => h k.2.1)]; rfl
theorem exL : leafF exN [0, 1, 1, 1, 1, 1, 1, 2] 7 7 = [2, 4, 6, 8] := by
  have g5 : gateN exN 5 := by unfold gateN; decide
  have g6 : gateN exN 6 := by unfold gateN; decide
  have g7 : gateN exN 7 := by unfold gateN; decide
  have n1 : ¬ gateN exN 1 := by unfold gateN; decide
  have n2 : ¬ gateN exN 2 := by unfold gateN; decide
  have n3 : ¬ gateN exN 3 := by unfold gateN; decide
  have n4 : ¬ gateN exN 4 := by unfold gateN; decide
  rw [leafF, dec_true g7]
  show leafX exN _ (leafF exN _ 6) 12 ++ leafX exN _ (leafF exN _ 6) 8 = _
  rw [ex_inn (x := 12) (by decide) g6 (by decide), ex_out (x := 8) n4]
  show leafF exN _ 6 6 ++ [8] = _
  rw [leafF, dec_true g6]
  show (leafX exN _ (leafF exN _ 5) 10 ++ leafX exN _ (leafF exN _ 5) 6) ++ [8] = _
  rw [ex_inn (x := 10) (by decide) g5 (by decide), ex_out (x := 6) n3]
  show (leafF exN _ 5 5 ++ [6]) ++ [8] = _
  rw [leafF, dec_true g5]
  show ((leafX exN _ (leafF exN _ 4) 2 ++ leafX exN _ (leafF exN _ 4) 4) ++ [6]) ++ [8] = _
  rw [ex_out (x := 2) n1, ex_out (x := 4) n2]
  rfl
theorem exA : allB 4 exI [2, 4, 6, 8] = (14, exM) := by
  have a1 : andV exI 2 4 = (10, exI ++ [(2, 4)]) := andV_new (by unfold hasL exI; decide) (by unfold hasL exI; decide) (by decide) (no_get (by decide))
  have a2 : andV (exI ++ [(2, 4)]) 6 8 = (12, exI ++ [(2, 4), (6, 8)]) := andV_new (by unfold hasL exI; decide) (by unfold hasL exI; decide) (by decide) (no_get (by decide))
  have a3 : andV (exI ++ [(2, 4), (6, 8)]) 10 12 = (14, exM) := andV_new (by unfold hasL exI; decide) (by unfold hasL exI; decide) (by decide) (no_get (by decide))
  have m1 : mrgA exI [2, 4, 6, 8] = (10, exI ++ [(2, 4)]) := by
    show andV exI (([2, 4, 6, 8] : List Int).getD (fstP exI [2, 4, 6, 8]) 0) _ = _
    rw [show fstP exI [2, 4, 6, 8] = 0 by decide]
    show andV exI 2 (([4, 6, 8] : List Int).getD (fstP exI [4, 6, 8]) 0) = _
    rw [show fstP exI [4, 6, 8] = 0 by decide]
    exact a1
  have r1 : mrgR exI [2, 4, 6, 8] = [6, 8] := by decide
  have m2 : mrgA (exI ++ [(2, 4)]) [6, 8, 10] = (12, exI ++ [(2, 4), (6, 8)]) := by
    show andV _ (([6, 8, 10] : List Int).getD (fstP (exI ++ [(2, 4)]) [6, 8, 10]) 0) _ = _
    rw [show fstP (exI ++ [(2, 4)]) [6, 8, 10] = 0 by decide]
    show andV _ 6 (([8, 10] : List Int).getD (fstP (exI ++ [(2, 4)]) [8, 10]) 0) = _
    rw [show fstP (exI ++ [(2, 4)]) [8, 10] = 0 by decide]
    exact a2
  have r2 : mrgR (exI ++ [(2, 4)]) [6, 8, 10] = [10] := by decide
  have m3 : mrgA (exI ++ [(2, 4), (6, 8)]) [10, 12] = (14, exM) := by
    show andV _ (([10, 12] : List Int).getD (fstP (exI ++ [(2, 4), (6, 8)]) [10, 12]) 0) _ = _
    rw [show fstP (exI ++ [(2, 4), (6, 8)]) [10, 12] = 0 by decide]
    show andV _ 10 (([12] : List Int).getD (fstP (exI ++ [(2, 4), (6, 8)]) [12]) 0) = _
    rw [show fstP (exI ++ [(2, 4), (6, 8)]) [12] = 0 by decide]
    exact a3
  have r3 : mrgR (exI ++ [(2, 4), (6, 8)]) [10, 12] = [] := by decide
  rw [allB, if_neg (by decide), m1, r1]
  show allB 3 _ [6, 8, 10] = _
  rw [allB, if_neg (by decide), m2, r2]
  show allB 2 _ [10, 12] = _
  rw [allB, if_neg (by decide), m3, r3]
  show allB 1 _ [14] = _
  rw [allB, if_pos (by decide)]
  rfl
theorem exB : balV exN [14] = ([14], ⟨exM, [0, 2, 4, 6, 8, -1, -1, 14]⟩) := by
  have h0 : iniS exN = ⟨exI, [0, 2, 4, 6, 8, -1, -1, -1]⟩ := by
    unfold iniS
    congr 1
  unfold balV
  rw [exU, h0]
  show putsTo (putF exN _ 8) _ [14] 1 = _
  have hold : ∀ z ∈ ([2, 4, 6, 8] : List Int), putF exN [0, 1, 1, 1, 1, 1, 1, 2] 7 ⟨exI, [0, 2, 4, 6, 8, -1, -1, -1]⟩ z = (z, ⟨exI, [0, 2, 4, 6, 8, -1, -1, -1]⟩) := by
    intro z hz
    simp only [List.mem_cons, List.mem_nil_iff, or_false] at hz
    rcases hz with rfl | rfl | rfl | rfl
    all_goals
      rw [putF, if_pos (by decide)]
      congr 1
  have hputs : putsTo (putF exN [0, 1, 1, 1, 1, 1, 1, 2] 7) ⟨exI, [0, 2, 4, 6, 8, -1, -1, -1]⟩ [2, 4, 6, 8] 4 = ([2, 4, 6, 8], ⟨exI, [0, 2, 4, 6, 8, -1, -1, -1]⟩) := by
    simp only [putsTo]
    simp [hold 2 (by decide), hold 4 (by decide), hold 6 (by decide), hold 8 (by decide)]
  have hput : putF exN [0, 1, 1, 1, 1, 1, 1, 2] 8 ⟨exI, [0, 2, 4, 6, 8, -1, -1, -1]⟩ 14 = (14, ⟨exM, [0, 2, 4, 6, 8, -1, -1, 14]⟩) := by
    rw [putF, if_neg (by decide)]
    have hL : leafL exN [0, 1, 1, 1, 1, 1, 1, 2] (14 / 2) = [2, 4, 6, 8] := exL
    unfold putG
    rw [hL]
    show (negB (allB (putsTo _ _ [2, 4, 6, 8] 4).1.length (putsTo _ _ [2, 4, 6, 8] 4).2.N (putsTo _ _ [2, 4, 6, 8] 4).1).1 14, (⟨(allB (putsTo _ _ [2, 4, 6, 8] 4).1.length (putsTo _ _ [2, 4, 6, 8] 4).2.N (putsTo _ _ [2, 4, 6, 8] 4).1).2, (putsTo _ _ [2, 4, 6, 8] 4).2.O.set 7 (allB (putsTo _ _ [2, 4, 6, 8] 4).1.length (putsTo _ _ [2, 4, 6, 8] 4).2.N (putsTo _ _ [2, 4, 6, 8] 4).1).1⟩ : BSt)) = _
    rw [hputs]
    show (negB (allB 4 exI [2, 4, 6, 8]).1 14, (⟨(allB 4 exI [2, 4, 6, 8]).2, ([0, 2, 4, 6, 8, -1, -1, -1] : List Int).set 7 (allB 4 exI [2, 4, 6, 8]).1⟩ : BSt)) = _
    rw [exA]
    congr 1
  simp only [putsTo]
  show (([] : List Int) ++ [(putF exN [0, 1, 1, 1, 1, 1, 1, 2] 8 _ 14).1], (putF exN [0, 1, 1, 1, 1, 1, 1, 2] 8 _ 14).2) = _
  rw [hput]
  rfl
theorem exD : depthTo exM [14] 1 = 2 := by
  rw [depthTo_succ (x := 14) rfl]
  unfold dstp
  rw [if_pos (show rootL exM 14 from by unfold rootL exM; decide)]
  decide
set_option maxHeartbeats 8000000 in
theorem law48_lives (w : World) : Pure Try.prog 38 [] w (.bool true) := by
  refine Spec.of _ Try.func38 rfl Try.ntmps38 (by kernel_rfl) rfl ?_
  repeat' (first
    | (apply WL.build tOk; exact rfl; exact rfl; exact rfl; exact rfl; exact rfl; exact rfl; exact rfl; kernel_rfl)
    | (apply WL.alloc tOk; exact rfl; exact rfl; exact rfl; intro gb w' hb hge hx; (obtain ⟨g1, rfl⟩ : ∃ x, x = gb := ⟨_, rfl⟩; obtain ⟨hge1, rfl⟩ : ∃ x, x = hge := ⟨_, rfl⟩))
    | (apply WL.storeB (w0 := w) tOk; exact rfl; exact rfl; exact rfl; exact rfl; assumption; (exact extA); exact rfl; exact rfl; exact rfl; (exact extA); (first | assumption | omega | (focus (apply Nat.le_trans; rotate_left; assumption; exact Below.size (by (exact extA)); done))); intro w' hb hc hX' hU; have hcc := hc; obtain ⟨h1, h2, _⟩ := hc; (obtain ⟨w3, rfl⟩ : ∃ x, x = w' := ⟨_, rfl⟩; obtain ⟨hb3, rfl⟩ : ∃ x, x = hb := ⟨_, rfl⟩; obtain ⟨hX3, rfl⟩ : ∃ x, x = hX' := ⟨_, rfl⟩; have hcd := cells_heap hb3))
    | (apply WL.lit tOk; exact rfl; exact rfl; exact rfl; exact rfl; exact rfl; exact rfl; (first | exact rfl | kernel_rfl | (simp [Instr.fill, catCells]; done)); exact rfl; intro gb w' hb hge hc hx; have hO := Own.of_block ([((-1 : Int), (0 : Int)), (-1, 0), (-1, 0), (-1, 0), (2, 4), (10, 6), (12, 8)]) encN_ok hb hge rfl; (obtain ⟨g4, rfl⟩ : ∃ x, x = gb := ⟨_, rfl⟩; obtain ⟨w4, rfl⟩ : ∃ x, x = w' := ⟨_, rfl⟩; obtain ⟨hx4, rfl⟩ : ∃ x, x = hx := ⟨_, rfl⟩; obtain ⟨hO4, rfl⟩ : ∃ x, x = hO := ⟨_, rfl⟩))
    | (apply WL.lit tOk; exact rfl; exact rfl; exact rfl; exact rfl; exact rfl; exact rfl; (first | exact rfl | kernel_rfl | (simp [Instr.fill, catCells]; done)); exact rfl; intro gb w' hb hge hc hx; have hO := Own.of_block ([(14 : Int)]) encI_ok hb hge rfl; (obtain ⟨g5, rfl⟩ : ∃ x, x = gb := ⟨_, rfl⟩; obtain ⟨w5, rfl⟩ : ∃ x, x = w' := ⟨_, rfl⟩; obtain ⟨hx5, rfl⟩ : ∃ x, x = hx := ⟨_, rfl⟩; obtain ⟨hO5, rfl⟩ : ∃ x, x = hO := ⟨_, rfl⟩))
    | (show WL _ _ _ _ _ _ _; first | apply WL.nil | (refine WL.au (k := ?_)))
    | (show Z _ _ _ _ _; apply Z.then_normal)
    | (show W _ _ _ _ _ _; first | apply W.seq | apply W.region)
    | fail)
  have RN := (hO4.row encN_ok).ext hx5
  have RO := hO5.row encI_ok
  have hbal := balance_Balance (some ⟨g4, 0, none⟩) (some ⟨g5, 0, none⟩) 7 1 exN [14] w5 RN RO exN_good (by decide) (by decide) (by decide)
  rw [exB] at hbal
  have h14 : ([14] : List Int)[((0 : Int)).toNat]? = some 14 := rfl
  have l14 : ([14] : List Int).length = 1 := rfl
  have hbal' : Lt.Spec Try.prog 39 [.slice (some ⟨g4, 0, none⟩) 7 7, .slice (some ⟨g5, 0, none⟩) 1 1] w5 (fun v w' => Ext w5 w' ∧ ∃ ma mc ta tc, v = .tuple #[.slice ma 7 mc, .slice ta 1 tc] ∧ Row 2 encN w' ma exM ∧ Row 1 encI w' ta [14] ∧ (ma = none → mc = 0) ∧ (ta = none → tc = 0) ∧ 1 ≤ tc) := hbal
  repeat' (first
    | (((show WL _ _ _ (⟨_, .call ⟨.value (.func 39), _, _⟩, _, _, _, _⟩ :: _) _ _ _); apply WL.call; exact rfl; exact rfl; exact rfl; exact rfl; exact hbal'; rintro v' w6 ⟨hx6, ma, mc, ta, tc, rfl, R1, R2, _, _⟩; have hck := fun (w9 : World) (h9 : Ext w6 w9) => ref07_Check ma mc exM w9 (R1.ext h9); rw [(check_zero (by decide)).2 exM_good] at hck; have hdp := fun (w9 : World) (h9 : Ext w6 w9) => ref08_Depth ma ta mc tc exM [14] w9 (R1.ext h9) (R2.ext h9) exM_good (by decide) (by unfold inI64; decide); rw [show ([14] : List Int).length = 1 from rfl, exD] at hdp))
    | (apply WL.gT; exact rfl; exact rfl; (focus (first | exact dec_true (by decide) | exact dec_true rfl; done)))
    | (apply WL.callS; exact rfl; exact rfl; exact rfl; exact rfl; exact hck _ (by (exact extA)))
    | (((show WL _ _ _ (⟨_, .call ⟨.value (.func 45), _, _⟩, _, _, _, _⟩ :: _) _ _ _); apply WL.callP; exact rfl; exact rfl; exact rfl; exact rfl; exact hdp _ (by (exact extA)); intro w7 hx7))
    | (show WL _ _ _ _ _ _ _; first | apply WL.nil | (refine WL.au (k := ?_)) | (apply WL.index tOk; exact rfl; exact rfl; exact rfl; exact rfl; exact rfl; exact rfl; exact rfl; exact rfl; assumption; (exact extA); exact rfl; omega; assumption; intro b off h; have hcc := h; first | (obtain ⟨h1, h2, h3, h4, h5, h6, _⟩ := h) | (obtain ⟨h1, h2, h3, _⟩ := h) | (obtain ⟨h1, h2, _⟩ := h) | (obtain ⟨h1, _⟩ := h)))
    | (show Z _ _ _ _ _; apply Z.then_normal)
    | (show W _ _ _ _ _ _; first | apply W.seq | apply W.region | apply W.ret)
    | fail)
  exact Z.body1 Try.results38 rfl fun m => ⟨congrArg Value.bool (dec_true rfl), Ext.at (by (exact extA)) m⟩
end Go.Proofs.Ythpnahapiodflaa
namespace Go.Proofs.Ythpnahapiodflaa
open Go Go.Lt Go.RowKit
set_option linter.unusedVariables false
set_option linter.unusedSimpArgs false
set_option maxRecDepth 20000

theorem factNN : FactEq Try.prog 104 := ⟨by kernel_rfl, by kernel_rfl⟩
end Go.Proofs.Ythpnahapiodflaa
namespace Go.Proofs.Ythpnahapiodflaa
open Go Go.Lt Go.RowKit
set_option linter.unusedVariables false
set_option linter.unusedSimpArgs false
set_option maxRecDepth 20000

abbrev AtCopyR (w0 : World) (gs : Nat) (rest : List Piece) (q : List Int × List (Int × Int)) (v : Value) (w' : World) : Prop :=
  Ext w0 w' ∧ ∃ a' cap' la lc, v = .slice la q.1.length lc ∧ Sep w0.heap.size w' (rsN w0.heap.size gs a' cap' q.2 ++ (prow 1 encI 3 w0.heap.size la lc q.1 :: rest))
theorem Sep.back21 {B : Nat} {w : World} {p a b : Piece} {rs : List Piece} (hS : Sep B w (p :: a :: b :: rs)) : Sep B w (a :: b :: p :: rs) := by
  refine Sep.sub' (fun i => if i < 2 then i + 1 else if i < 3 then i - 2 else i) hS (fun i x h => ?_) (fun i j hi hj hne => ?_)
  · match i, h with
    | 0, h => exact h
    | 1, h => exact h
    | 2, h => exact h
    | i + 3, h =>
      simp only [show ¬ i + 3 < 2 by omega, show ¬ i + 3 < 3 by omega, if_false]; exact h
  · split <;> split <;> (try split) <;> (try split) <;> omega
theorem Sep.drop22 {B : Nat} {w : World} {p a b : Piece} {rs : List Piece} (hS : Sep B w (a :: b :: p :: rs)) : Sep B w (a :: b :: rs) := by
  refine Sep.sub' (fun i => if i < 2 then i else i + 1) hS (fun i x h => ?_) (fun i j hi hj hne => ?_)
  · match i, h with
    | 0, h => exact h
    | 1, h => exact h
    | i + 2, h => simp only [show ¬ i + 2 < 2 by omega, if_false]; exact h
  · split <;> split <;> omega
theorem litI_of {l : List Int} {x z : Int} (hz : l[(x / 2).toNat]? = some z) (h0 : 0 ≤ z) : litI l x = if x % 2 = 1 then notL z else z := by
  unfold litI xorI; rw [getD_of hz, notL_xor1 h0]

set_option maxHeartbeats 8000000 in
theorem rs_Copy (gs cap cn cl : Nat) (a an al : Option Addr) (N n : List (Int × Int)) (ins : List Int) (rest : List Piece) (w w0 : World) (hX : Ext w0 w) (hS : Sep w0.heap.size w (rsN w0.heap.size gs a cap N ++ rest)) (hN : N.length + n.length < 1048576) (hg : GoodNet n)
    (hn : KeepsR w0 gs rest (fun w' => Row 2 encN w' an n)) (hi : KeepsR w0 gs rest (fun w' => Row 1 encI w' al ins)) :
    Lt.Spec Try.prog 42 [.pointer (some ⟨gs, 0, none⟩), .slice an n.length cn, .slice al ins.length cl] w (AtCopyR w0 gs rest (copyV N n ins)) := by
  have hC0 := hS.cell (i := 0) rfl
  have RI := hi w a cap N hX hS
  have hli := RI.len
  refine Spec.of _ Try.func42 rfl Try.ntmps42 (by kernel_rfl) rfl ?_
  repeat' (first
    | (show WL _ _ _ _ _ _ _; first | apply WL.nil | (refine WL.au (k := ?_)))
    | (show Z _ _ _ _ _; apply Z.then_normal)
    | (show W _ _ _ _ _ _; first | apply W.seq | apply W.region | apply W.block))
  refine W.loop1 ins.length (fun k => k ≤ ins.length ∧ ∀ z ∈ ins.take k, hasL N z) (fun k => [(0, .pointer (some ⟨gs, 0, none⟩)), (1, .slice an n.length cn), (2, .slice al ins.length cl), (7, .int .i64 k)]) ⟨by omega, fun z h => by simp at h⟩ (fun k h => h.1) ⟨rfl, rfl, rfl, rfl, trivial⟩ ?_
  rintro k ⟨hk, hall⟩
  by_cases hlt : k < ins.length
  · obtain ⟨z, hz⟩ := getI ins hlt
    by_cases hzz : hasL N z
    · repeat' (first
        | (apply W.condKT; exact rfl; (focus (first | exact dec_true (by omega) | (rw [dec_true hzz]; rfl); done)))
        | (apply W.condKF; exact rfl; (focus (first | exact dec_true (by omega) | (rw [dec_true hzz]; rfl); done)))
        | ((show WL _ _ _ (⟨_, .call ⟨.value (.func 104), _, _⟩, _, _, _, _⟩ :: _) _ _ _); apply WL.callS; exact rfl; exact rfl; exact rfl; exact rfl; exact rs_Has gs cap a N z _ hC0 (by omega))
        | (show WL _ _ _ _ _ _ _; first | apply WL.nil | (refine WL.au (k := ?_)) | (apply WL.index tOk; exact rfl; exact rfl; exact rfl; exact rfl; exact rfl; exact rfl; exact rfl; exact rfl; assumption; (exact extA); exact rfl; omega; assumption; intro b off h; have hcc := h; first | (obtain ⟨h1, h2, h3, h4, h5, h6, _⟩ := h) | (obtain ⟨h1, h2, h3, _⟩ := h) | (obtain ⟨h1, h2, _⟩ := h) | (obtain ⟨h1, _⟩ := h)))
        | (show Z _ _ _ _ _; first | apply Z.then_normal | apply Z.block_normal)
        | (show W _ _ _ _ _ _; first | apply W.seq | apply W.region | apply W.block | apply W.skip))
      exact Z.again1 ⟨by omega, all_snoc hz hall hzz⟩ ⟨rfl, rfl, rfl, rfl, trivial⟩
    · have e : copyV N n ins = ([], N) := by unfold copyV; rw [dec_false (fun h => hzz (h z (List.mem_of_getElem? hz)))]; rfl
      rw [e]
      have hS3 : Lt.Sep w0.heap.size w (rsN w0.heap.size gs a cap N ++ (prow 1 encI 3 w0.heap.size none 0 [] :: rest)) := Sep.back21 (Sep.newRow hS (Ext.refl _) Own.nil (fun k hk => by cases hk) hX.size)
      repeat' (first
        | (apply W.condKT; exact rfl; (focus (first | exact dec_true (by omega) | (rw [dec_false hzz]; rfl); done)))
        | ((show WL _ _ _ (⟨_, .call ⟨.value (.func 104), _, _⟩, _, _, _, _⟩ :: _) _ _ _); apply WL.callS; exact rfl; exact rfl; exact rfl; exact rfl; exact rs_Has gs cap a N z _ hC0 (by omega))
        | (show WL _ _ _ _ _ _ _; first | apply WL.nil | (refine WL.au (k := ?_)) | (apply WL.index tOk; exact rfl; exact rfl; exact rfl; exact rfl; exact rfl; exact rfl; exact rfl; exact rfl; assumption; (exact extA); exact rfl; omega; assumption; intro b off h; have hcc := h; first | (obtain ⟨h1, h2, h3, h4, h5, h6, _⟩ := h) | (obtain ⟨h1, h2, h3, _⟩ := h) | (obtain ⟨h1, h2, _⟩ := h) | (obtain ⟨h1, _⟩ := h)))
        | (show Z _ _ _ _ _; first | apply Z.then_normal | apply Z.then_ret | apply Z.block_ret)
        | (show W _ _ _ _ _ _; first | apply W.seq | apply W.region | apply W.block | apply W.skip | apply W.ret))
      exact Z.body1 Try.results42 rfl fun m => ⟨hX.at m, a, cap, none, 0, rfl, hS3.ext ((Ext.refl _).at m)⟩
  · obtain rfl : k = ins.length := by omega
    rw [List.take_length] at hall
    have hh := hall
    have e : copyV N n ins = ((cto N n ins n.length).1, (cto N n ins n.length).2.2) := by unfold copyV; rw [dec_true hh]; rfl
    rw [e]
    repeat' (first
      | (apply W.condKF; exact rfl; (focus (exact dec_false (by omega); done)))
      | (apply WL.lit tOk; exact rfl; exact rfl; exact rfl; exact rfl; exact rfl; exact rfl; (first | exact rfl | kernel_rfl | (simp [Instr.fill, catCells]; done)); exact rfl; intro gb w' hb hge hc hx; have hO := Own.of_block ([(0 : Int)]) encI_ok hb hge rfl)
      | (show WL _ _ _ _ _ _ _; first | apply WL.nil | (refine WL.au (k := ?_)))
      | (show Z _ _ _ _ _; first | apply Z.then_normal | apply Z.then_exit | apply Z.block_exit)
      | (show W _ _ _ _ _ _; first | apply W.seq | apply W.region | apply W.block | apply W.exit))
    have hOl := hO.base hX.size
    have hS0 : Lt.Sep w0.heap.size w' (rsN w0.heap.size gs a cap N ++ (prow 1 encI 3 w0.heap.size (some ⟨gb, 0, none⟩) 1 [0] :: rest)) := Sep.back21 (Sep.newRow hS hx hOl (fun k hk => by cases hk; exact hge) hX.size)
    refine W.loopO n.length (fun k la lc w' => k ≤ n.length ∧ Ext w0 w' ∧ ∃ a' cap', Sep w0.heap.size w' (rsN w0.heap.size gs a' cap' (cto N n ins k).2.2 ++ (prow 1 encI 3 w0.heap.size la lc (cto N n ins k).1 :: rest)))
      (fun k la lc => [(0, .pointer (some ⟨gs, 0, none⟩)), (1, .slice an n.length cn), (2, .slice al ins.length cl), (8, .slice la (cto N n ins k).1.length lc), (9, .int .i64 (cto N n ins k).2.1), (10, .int .i64 k)])
      (some ⟨gb, 0, none⟩) _ ⟨by omega, hX.trans hx, a, cap, hS0⟩ (fun k la lc w' h => h.1) ⟨rfl, rfl, rfl, rfl, rfl, rfl, trivial⟩ ?_
    rintro k la lc w9 ⟨hk, hX9, a2, cap2, hS9⟩
    obtain ⟨i1, i2, i3, i4, i5, i6⟩ := cto_inv (N := N) hg hh k hk
    have Rn := hn _ _ _ _ hX9 (Sep.drop22 hS9)
    have Ri := hi _ _ _ _ hX9 (Sep.drop22 hS9)
    have hS := hS9
    (try simp only [List.set_cons_zero, List.set_cons_succ] at hS); (try have hR0 := hS.row (i := 0) rfl); (try have hR1 := hS.row (i := 1) rfl); (try have hR2 := hS.row (i := 2) rfl); (try have hR3 := hS.row (i := 3) rfl); (try have hR4 := hS.row (i := 4) rfl); (try have hC0 := hS.cell (i := 0) rfl); (try have hD0 := (cells_heap hC0).1); (try have hE0 := (cells_heap hC0).2.1); (try have hF0 := (cells_heap hC0).2.2.1); (try have hG0 := (cells_heap hC0).2.2.2.1); (try have hC1 := hS.cell (i := 1) rfl); (try have hD1 := (cells_heap hC1).1); (try have hE1 := (cells_heap hC1).2.1); (try have hF1 := (cells_heap hC1).2.2.1); (try have hG1 := (cells_heap hC1).2.2.2.1); (try have hC2 := hS.cell (i := 2) rfl); (try have hD2 := (cells_heap hC2).1); (try have hE2 := (cells_heap hC2).2.1); (try have hF2 := (cells_heap hC2).2.2.1); (try have hG2 := (cells_heap hC2).2.2.2.1); (try have hC3 := hS.cell (i := 3) rfl); (try have hD3 := (cells_heap hC3).1); (try have hE3 := (cells_heap hC3).2.1); (try have hF3 := (cells_heap hC3).2.2.1); (try have hG3 := (cells_heap hC3).2.2.2.1); (try have hC4 := hS.cell (i := 4) rfl); (try have hD4 := (cells_heap hC4).1); (try have hE4 := (cells_heap hC4).2.1); (try have hF4 := (cells_heap hC4).2.2.1); (try have hG4 := (cells_heap hC4).2.2.2.1); (try have hM0 := hS.map (i := 0) rfl); (try have hM1 := hS.map (i := 1) rfl); (try have hM2 := hS.map (i := 2) rfl); (try have hM3 := hS.map (i := 3) rfl); (try have hM4 := hS.map (i := 4) rfl)
    have RL := Own.row encI_ok hR2
    by_cases hlt : k < n.length
    · obtain ⟨x, hxn⟩ := getI n hlt
      have hs := cto_succ (N := N) (ins := ins) hxn
      by_cases hin : 0 ≤ x.1
      · have hgt := hg.gate hxn hin
        obtain ⟨za, hza⟩ := getI (cto N n ins k).1 (show (x.1 / 2).toNat < (cto N n ins k).1.length by omega)
        obtain ⟨zb, hzb⟩ := getI (cto N n ins k).1 (show (x.2 / 2).toNat < (cto N n ins k).1.length by omega)
        have ba : 0 ≤ za ∧ za ≤ 9223372036854775807 := by have := i2 za (List.mem_of_getElem? hza); unfold hasL at this; omega
        have bb : 0 ≤ zb ∧ zb ≤ 9223372036854775807 := by have := i2 zb (List.mem_of_getElem? hzb); unfold hasL at this; omega
        have e1 : (cto N n ins (k + 1)).1 = (cto N n ins k).1 ++ [(andV (cto N n ins k).2.2 (litI (cto N n ins k).1 x.1) (litI (cto N n ins k).1 x.2)).1] := by rw [hs, cstep, if_pos hin]
        have e2 : (cto N n ins (k + 1)).2.1 = (cto N n ins k).2.1 := by rw [hs, cstep, if_pos hin]
        have e3 : (cto N n ins (k + 1)).2.2 = (andV (cto N n ins k).2.2 (litI (cto N n ins k).1 x.1) (litI (cto N n ins k).1 x.2)).2 := by rw [hs, cstep, if_pos hin]
        rw [litI_of hza ba.1, litI_of hzb bb.1] at e1 e3
        by_cases pa : x.1 % 2 = 1 <;> by_cases pb : x.2 % 2 = 1
        all_goals (
          first
            | rw [if_pos pa, if_pos pb] at e1 e3
            | rw [if_pos pa, if_neg pb] at e1 e3
            | rw [if_neg pa, if_pos pb] at e1 e3
            | rw [if_neg pa, if_neg pb] at e1 e3
          repeat' (first
            | (apply W.condKT; exact rfl; (focus (first | exact dec_true (by omega) | exact dec_false (by omega); done)))
            | (apply W.condKF; exact rfl; (focus (first | exact dec_true (by omega) | exact dec_false (by omega); done)))
            | ((show WL _ _ _ (⟨_, .call ⟨.value (.func 105), _, _⟩, _, _, _, _⟩ :: _) _ _ _); apply WL.callS; exact rfl; exact rfl; exact rfl; exact rfl; exact rs_Not za _ ba.2)
            | ((show WL _ _ _ (⟨_, .call ⟨.value (.func 105), _, _⟩, _, _, _, _⟩ :: _) _ _ _); apply WL.callS; exact rfl; exact rfl; exact rfl; exact rfl; exact rs_Not zb _ bb.2)
            | (((show WL _ _ _ (⟨_, .call ⟨.value (.func 106), _, _⟩, _, _, _, _⟩ :: _) _ _ _); apply WL.call; exact rfl; exact rfl; exact rfl; exact rfl; exact rs_And gs _ _ (cto N n ins k).2.2 _ _ (prow 1 encI 3 w0.heap.size la lc (cto N n ins k).1 :: rest) _ w0 hX9 hS9 (by omega); rintro v' w8 ⟨hX8, a8, cap8, rfl, hS⟩; (try simp only [List.set_cons_zero, List.set_cons_succ] at hS); (try have hR0 := hS.row (i := 0) rfl); (try have hR1 := hS.row (i := 1) rfl); (try have hR2 := hS.row (i := 2) rfl); (try have hR3 := hS.row (i := 3) rfl); (try have hR4 := hS.row (i := 4) rfl); (try have hC0 := hS.cell (i := 0) rfl); (try have hD0 := (cells_heap hC0).1); (try have hE0 := (cells_heap hC0).2.1); (try have hF0 := (cells_heap hC0).2.2.1); (try have hG0 := (cells_heap hC0).2.2.2.1); (try have hC1 := hS.cell (i := 1) rfl); (try have hD1 := (cells_heap hC1).1); (try have hE1 := (cells_heap hC1).2.1); (try have hF1 := (cells_heap hC1).2.2.1); (try have hG1 := (cells_heap hC1).2.2.2.1); (try have hC2 := hS.cell (i := 2) rfl); (try have hD2 := (cells_heap hC2).1); (try have hE2 := (cells_heap hC2).2.1); (try have hF2 := (cells_heap hC2).2.2.1); (try have hG2 := (cells_heap hC2).2.2.2.1); (try have hC3 := hS.cell (i := 3) rfl); (try have hD3 := (cells_heap hC3).1); (try have hE3 := (cells_heap hC3).2.1); (try have hF3 := (cells_heap hC3).2.2.1); (try have hG3 := (cells_heap hC3).2.2.2.1); (try have hC4 := hS.cell (i := 4) rfl); (try have hD4 := (cells_heap hC4).1); (try have hE4 := (cells_heap hC4).2.1); (try have hF4 := (cells_heap hC4).2.2.1); (try have hG4 := (cells_heap hC4).2.2.2.1); (try have hM0 := hS.map (i := 0) rfl); (try have hM1 := hS.map (i := 1) rfl); (try have hM2 := hS.map (i := 2) rfl); (try have hM3 := hS.map (i := 3) rfl); (try have hM4 := hS.map (i := 4) rfl)))
            | (apply WL.lit tOk; exact rfl; exact rfl; exact rfl; exact rfl; exact rfl; exact rfl; (first | exact rfl | kernel_rfl | (simp [Instr.fill, catCells]; done)); exact rfl; intro gb w' hb hge hc hx)
            | (apply WL.append1 tOk encI_ok; exact rfl; exact rfl; exact rfl; exact rfl; exact rfl; exact rfl; exact rfl; exact rfl; exact rfl; exact rfl; assumption; (exact extA); (first | exact rfl | (focus (simp only [List.length_set]; done)) | (focus (simp; done)) | (focus (simp [*]; done)) | omega | (focus (simp only [List.length_set]; omega))); assumption; (first | exact rfl | exact (rfl : encI (_, _) = _)); exact rfl; (exact extA); (first | omega | (simp; omega) | (simp at *; omega)); intro a' cap' w' hO hX' hU hF; (first | replace hS := Sep.updRow (i := 0) rfl hU hO hF hS (by (exact extA)) (by (first | exact Nat.le_refl _ | exact Below.size (by (exact extA)))) | replace hS := Sep.updRow (i := 1) rfl hU hO hF hS (by (exact extA)) (by (first | exact Nat.le_refl _ | exact Below.size (by (exact extA)))) | replace hS := Sep.updRow (i := 2) rfl hU hO hF hS (by (exact extA)) (by (first | exact Nat.le_refl _ | exact Below.size (by (exact extA)))) | replace hS := Sep.updRow (i := 3) rfl hU hO hF hS (by (exact extA)) (by (first | exact Nat.le_refl _ | exact Below.size (by (exact extA)))) | replace hS := Sep.updRow (i := 4) rfl hU hO hF hS (by (exact extA)) (by (first | exact Nat.le_refl _ | exact Below.size (by (exact extA)))) | replace hS := Sep.updRow (i := 5) rfl hU hO hF hS (by (exact extA)) (by (first | exact Nat.le_refl _ | exact Below.size (by (exact extA))))); (try simp only [List.set_cons_zero, List.set_cons_succ] at hS); (try have hR0 := hS.row (i := 0) rfl); (try have hR1 := hS.row (i := 1) rfl); (try have hR2 := hS.row (i := 2) rfl); (try have hR3 := hS.row (i := 3) rfl); (try have hR4 := hS.row (i := 4) rfl); (try have hC0 := hS.cell (i := 0) rfl); (try have hD0 := (cells_heap hC0).1); (try have hE0 := (cells_heap hC0).2.1); (try have hF0 := (cells_heap hC0).2.2.1); (try have hG0 := (cells_heap hC0).2.2.2.1); (try have hC1 := hS.cell (i := 1) rfl); (try have hD1 := (cells_heap hC1).1); (try have hE1 := (cells_heap hC1).2.1); (try have hF1 := (cells_heap hC1).2.2.1); (try have hG1 := (cells_heap hC1).2.2.2.1); (try have hC2 := hS.cell (i := 2) rfl); (try have hD2 := (cells_heap hC2).1); (try have hE2 := (cells_heap hC2).2.1); (try have hF2 := (cells_heap hC2).2.2.1); (try have hG2 := (cells_heap hC2).2.2.2.1); (try have hC3 := hS.cell (i := 3) rfl); (try have hD3 := (cells_heap hC3).1); (try have hE3 := (cells_heap hC3).2.1); (try have hF3 := (cells_heap hC3).2.2.1); (try have hG3 := (cells_heap hC3).2.2.2.1); (try have hC4 := hS.cell (i := 4) rfl); (try have hD4 := (cells_heap hC4).1); (try have hE4 := (cells_heap hC4).2.1); (try have hF4 := (cells_heap hC4).2.2.1); (try have hG4 := (cells_heap hC4).2.2.2.1); (try have hM0 := hS.map (i := 0) rfl); (try have hM1 := hS.map (i := 1) rfl); (try have hM2 := hS.map (i := 2) rfl); (try have hM3 := hS.map (i := 3) rfl); (try have hM4 := hS.map (i := 4) rfl))
            | (show WL _ _ _ _ _ _ _; first | apply WL.nil | (refine WL.au (k := ?_)) | (apply WL.index tOk; exact rfl; exact rfl; exact rfl; exact rfl; exact rfl; exact rfl; exact rfl; exact rfl; assumption; (exact extA); exact rfl; omega; assumption; intro b off h; have hcc := h; first | (obtain ⟨h1, h2, h3, h4, h5, h6, _⟩ := h) | (obtain ⟨h1, h2, h3, _⟩ := h) | (obtain ⟨h1, h2, _⟩ := h) | (obtain ⟨h1, _⟩ := h)))
            | (show QL _ _ _ _ _ _ _; first | apply QL.nil | (refine QL.au (k := ?_)) | (apply QL.index tOk; exact rfl; exact rfl; exact rfl; exact rfl; exact rfl; exact rfl; exact rfl; exact rfl; assumption; (exact extA); exact rfl; omega; assumption; intro b off h; have hcc := h; first | (obtain ⟨h1, h2, h3, h4, h5, h6, _⟩ := h) | (obtain ⟨h1, h2, h3, _⟩ := h) | (obtain ⟨h1, h2, _⟩ := h) | (obtain ⟨h1, _⟩ := h)))
            | (show Z _ _ _ _ _; first | apply Z.then_normal | apply Z.then_exit | apply Z.block_exit)
            | (show W _ _ _ _ _ _; first | apply W.seq | apply W.region | apply W.block | apply W.skip | apply W.exit | (apply W.regionD tMix; kernel_rfl)))
          exact Z.againO a' cap' ⟨by omega, by assumption, a8, cap8, by rw [e3, e1]; exact hS⟩ (by repeat' first | exact trivial | (refine And.intro ?_ ?_) | exact rfl | (rw [e1]; exact rfl) | (rw [e2]; exact rfl)))
      · by_cases hki : (cto N n ins k).2.1 < ins.length
        · obtain ⟨z, hz⟩ := getI ins hki
          have e1 : (cto N n ins (k + 1)).1 = (cto N n ins k).1 ++ [z] := by rw [hs, cstep, if_neg hin, if_pos hki, getD_of hz]
          have e2 : (cto N n ins (k + 1)).2.1 = (cto N n ins k).2.1 + 1 := by rw [hs, cstep, if_neg hin, if_pos hki]
          have e2' : ((cto N n ins (k + 1)).2.1 : Int) = ((cto N n ins k).2.1 : Int) + 1 := by rw [e2]; rfl
          have e3 : (cto N n ins (k + 1)).2.2 = (cto N n ins k).2.2 := by rw [hs, cstep, if_neg hin, if_pos hki]
          repeat' (first
            | (apply W.condKT; exact rfl; (focus (first | exact dec_true (by omega) | exact dec_false (by omega); done)))
            | (apply W.condKF; exact rfl; (focus (first | exact dec_true (by omega) | exact dec_false (by omega); done)))
            | (apply WL.lit tOk; exact rfl; exact rfl; exact rfl; exact rfl; exact rfl; exact rfl; (first | exact rfl | kernel_rfl | (simp [Instr.fill, catCells]; done)); exact rfl; intro gb w' hb hge hc hx)
            | (apply WL.append1 (z := (z)) tOk encI_ok; exact rfl; exact rfl; exact rfl; exact rfl; exact rfl; exact rfl; exact rfl; exact rfl; exact rfl; exact rfl; assumption; (exact extA); (first | exact rfl | (focus (simp only [List.length_set]; done)) | (focus (simp; done)) | (focus (simp [*]; done)) | omega | (focus (simp only [List.length_set]; omega))); (first | assumption | (refine Cells.ext ?_ (by assumption); exact extA)); exact rfl; exact rfl; (exact extA); (first | omega | (simp; omega) | (simp at *; omega)); intro a' cap' w' hO hX' hU hF; (first | replace hS := Sep.updRow (i := 0) rfl hU hO hF hS (by (exact extA)) (by (first | exact Nat.le_refl _ | exact Below.size (by (exact extA)))) | replace hS := Sep.updRow (i := 1) rfl hU hO hF hS (by (exact extA)) (by (first | exact Nat.le_refl _ | exact Below.size (by (exact extA)))) | replace hS := Sep.updRow (i := 2) rfl hU hO hF hS (by (exact extA)) (by (first | exact Nat.le_refl _ | exact Below.size (by (exact extA)))) | replace hS := Sep.updRow (i := 3) rfl hU hO hF hS (by (exact extA)) (by (first | exact Nat.le_refl _ | exact Below.size (by (exact extA)))) | replace hS := Sep.updRow (i := 4) rfl hU hO hF hS (by (exact extA)) (by (first | exact Nat.le_refl _ | exact Below.size (by (exact extA)))) | replace hS := Sep.updRow (i := 5) rfl hU hO hF hS (by (exact extA)) (by (first | exact Nat.le_refl _ | exact Below.size (by (exact extA))))); (try simp only [List.set_cons_zero, List.set_cons_succ] at hS); (try have hR0 := hS.row (i := 0) rfl); (try have hR1 := hS.row (i := 1) rfl); (try have hR2 := hS.row (i := 2) rfl); (try have hR3 := hS.row (i := 3) rfl); (try have hR4 := hS.row (i := 4) rfl); (try have hC0 := hS.cell (i := 0) rfl); (try have hD0 := (cells_heap hC0).1); (try have hE0 := (cells_heap hC0).2.1); (try have hF0 := (cells_heap hC0).2.2.1); (try have hG0 := (cells_heap hC0).2.2.2.1); (try have hC1 := hS.cell (i := 1) rfl); (try have hD1 := (cells_heap hC1).1); (try have hE1 := (cells_heap hC1).2.1); (try have hF1 := (cells_heap hC1).2.2.1); (try have hG1 := (cells_heap hC1).2.2.2.1); (try have hC2 := hS.cell (i := 2) rfl); (try have hD2 := (cells_heap hC2).1); (try have hE2 := (cells_heap hC2).2.1); (try have hF2 := (cells_heap hC2).2.2.1); (try have hG2 := (cells_heap hC2).2.2.2.1); (try have hC3 := hS.cell (i := 3) rfl); (try have hD3 := (cells_heap hC3).1); (try have hE3 := (cells_heap hC3).2.1); (try have hF3 := (cells_heap hC3).2.2.1); (try have hG3 := (cells_heap hC3).2.2.2.1); (try have hC4 := hS.cell (i := 4) rfl); (try have hD4 := (cells_heap hC4).1); (try have hE4 := (cells_heap hC4).2.1); (try have hF4 := (cells_heap hC4).2.2.1); (try have hG4 := (cells_heap hC4).2.2.2.1); (try have hM0 := hS.map (i := 0) rfl); (try have hM1 := hS.map (i := 1) rfl); (try have hM2 := hS.map (i := 2) rfl); (try have hM3 := hS.map (i := 3) rfl); (try have hM4 := hS.map (i := 4) rfl))
            | (show WL _ _ _ _ _ _ _; first | apply WL.nil | (refine WL.au (k := ?_)) | (apply WL.index tOk; exact rfl; exact rfl; exact rfl; exact rfl; exact rfl; exact rfl; exact rfl; exact rfl; assumption; (exact extA); exact rfl; omega; assumption; intro b off h; have hcc := h; first | (obtain ⟨h1, h2, h3, h4, h5, h6, _⟩ := h) | (obtain ⟨h1, h2, h3, _⟩ := h) | (obtain ⟨h1, h2, _⟩ := h) | (obtain ⟨h1, _⟩ := h)))
            | (show Z _ _ _ _ _; first | apply Z.then_normal | apply Z.block_normal)
            | (show W _ _ _ _ _ _; first | apply W.seq | apply W.region | apply W.block | apply W.skip))
          exact Z.againO a' cap' ⟨by omega, by assumption, a2, cap2, by rw [e3, e1]; exact hS⟩ (by repeat' first | exact trivial | (refine And.intro ?_ ?_) | exact rfl | (rw [e1]; exact rfl) | (rw [e2']; exact rfl))
        · have e1 : (cto N n ins (k + 1)).1 = (cto N n ins k).1 ++ [2 * (((cto N n ins k).2.2.length : Int) + 1)] := by rw [hs, cstep, if_neg hin, if_neg hki]
          have e2 : (cto N n ins (k + 1)).2.1 = (cto N n ins k).2.1 + 1 := by rw [hs, cstep, if_neg hin, if_neg hki]
          have e2' : ((cto N n ins (k + 1)).2.1 : Int) = ((cto N n ins k).2.1 : Int) + 1 := by rw [e2]; rfl
          have e3 : (cto N n ins (k + 1)).2.2 = (cto N n ins k).2.2 ++ [(-1, 0)] := by rw [hs, cstep, if_neg hin, if_neg hki]
          repeat' (first
            | (apply W.condKT; exact rfl; (focus (first | exact dec_true (by omega) | exact dec_false (by omega); done)))
            | (apply W.condKF; exact rfl; (focus (first | exact dec_true (by omega) | exact dec_false (by omega); done)))
            | (((show WL _ _ _ (⟨_, .call ⟨.value (.func 107), _, _⟩, _, _, _, _⟩ :: _) _ _ _); apply WL.call; exact rfl; exact rfl; exact rfl; exact rfl; exact rs_Input gs _ _ (cto N n ins k).2.2 (prow 1 encI 3 w0.heap.size la lc (cto N n ins k).1 :: rest) _ w0 hX9 hS9 (by omega); rintro v' w8 ⟨hX8, a8, cap8, rfl, hS⟩; (try simp only [List.set_cons_zero, List.set_cons_succ] at hS); (try have hR0 := hS.row (i := 0) rfl); (try have hR1 := hS.row (i := 1) rfl); (try have hR2 := hS.row (i := 2) rfl); (try have hR3 := hS.row (i := 3) rfl); (try have hR4 := hS.row (i := 4) rfl); (try have hC0 := hS.cell (i := 0) rfl); (try have hD0 := (cells_heap hC0).1); (try have hE0 := (cells_heap hC0).2.1); (try have hF0 := (cells_heap hC0).2.2.1); (try have hG0 := (cells_heap hC0).2.2.2.1); (try have hC1 := hS.cell (i := 1) rfl); (try have hD1 := (cells_heap hC1).1); (try have hE1 := (cells_heap hC1).2.1); (try have hF1 := (cells_heap hC1).2.2.1); (try have hG1 := (cells_heap hC1).2.2.2.1); (try have hC2 := hS.cell (i := 2) rfl); (try have hD2 := (cells_heap hC2).1); (try have hE2 := (cells_heap hC2).2.1); (try have hF2 := (cells_heap hC2).2.2.1); (try have hG2 := (cells_heap hC2).2.2.2.1); (try have hC3 := hS.cell (i := 3) rfl); (try have hD3 := (cells_heap hC3).1); (try have hE3 := (cells_heap hC3).2.1); (try have hF3 := (cells_heap hC3).2.2.1); (try have hG3 := (cells_heap hC3).2.2.2.1); (try have hC4 := hS.cell (i := 4) rfl); (try have hD4 := (cells_heap hC4).1); (try have hE4 := (cells_heap hC4).2.1); (try have hF4 := (cells_heap hC4).2.2.1); (try have hG4 := (cells_heap hC4).2.2.2.1); (try have hM0 := hS.map (i := 0) rfl); (try have hM1 := hS.map (i := 1) rfl); (try have hM2 := hS.map (i := 2) rfl); (try have hM3 := hS.map (i := 3) rfl); (try have hM4 := hS.map (i := 4) rfl)))
            | (apply WL.lit tOk; exact rfl; exact rfl; exact rfl; exact rfl; exact rfl; exact rfl; (first | exact rfl | kernel_rfl | (simp [Instr.fill, catCells]; done)); exact rfl; intro gb w' hb hge hc hx)
            | (apply WL.append1 (z := (2 * (((cto N n ins k).2.2.length : Int) + 1))) tOk encI_ok; exact rfl; exact rfl; exact rfl; exact rfl; exact rfl; exact rfl; exact rfl; exact rfl; exact rfl; exact rfl; assumption; (exact extA); (first | exact rfl | (focus (simp only [List.length_set]; done)) | (focus (simp; done)) | (focus (simp [*]; done)) | omega | (focus (simp only [List.length_set]; omega))); (first | assumption | (refine Cells.ext ?_ (by assumption); exact extA)); exact rfl; exact rfl; (exact extA); (first | omega | (simp; omega) | (simp at *; omega)); intro a' cap' w' hO hX' hU hF; (first | replace hS := Sep.updRow (i := 0) rfl hU hO hF hS (by (exact extA)) (by (first | exact Nat.le_refl _ | exact Below.size (by (exact extA)))) | replace hS := Sep.updRow (i := 1) rfl hU hO hF hS (by (exact extA)) (by (first | exact Nat.le_refl _ | exact Below.size (by (exact extA)))) | replace hS := Sep.updRow (i := 2) rfl hU hO hF hS (by (exact extA)) (by (first | exact Nat.le_refl _ | exact Below.size (by (exact extA)))) | replace hS := Sep.updRow (i := 3) rfl hU hO hF hS (by (exact extA)) (by (first | exact Nat.le_refl _ | exact Below.size (by (exact extA)))) | replace hS := Sep.updRow (i := 4) rfl hU hO hF hS (by (exact extA)) (by (first | exact Nat.le_refl _ | exact Below.size (by (exact extA)))) | replace hS := Sep.updRow (i := 5) rfl hU hO hF hS (by (exact extA)) (by (first | exact Nat.le_refl _ | exact Below.size (by (exact extA))))); (try simp only [List.set_cons_zero, List.set_cons_succ] at hS); (try have hR0 := hS.row (i := 0) rfl); (try have hR1 := hS.row (i := 1) rfl); (try have hR2 := hS.row (i := 2) rfl); (try have hR3 := hS.row (i := 3) rfl); (try have hR4 := hS.row (i := 4) rfl); (try have hC0 := hS.cell (i := 0) rfl); (try have hD0 := (cells_heap hC0).1); (try have hE0 := (cells_heap hC0).2.1); (try have hF0 := (cells_heap hC0).2.2.1); (try have hG0 := (cells_heap hC0).2.2.2.1); (try have hC1 := hS.cell (i := 1) rfl); (try have hD1 := (cells_heap hC1).1); (try have hE1 := (cells_heap hC1).2.1); (try have hF1 := (cells_heap hC1).2.2.1); (try have hG1 := (cells_heap hC1).2.2.2.1); (try have hC2 := hS.cell (i := 2) rfl); (try have hD2 := (cells_heap hC2).1); (try have hE2 := (cells_heap hC2).2.1); (try have hF2 := (cells_heap hC2).2.2.1); (try have hG2 := (cells_heap hC2).2.2.2.1); (try have hC3 := hS.cell (i := 3) rfl); (try have hD3 := (cells_heap hC3).1); (try have hE3 := (cells_heap hC3).2.1); (try have hF3 := (cells_heap hC3).2.2.1); (try have hG3 := (cells_heap hC3).2.2.2.1); (try have hC4 := hS.cell (i := 4) rfl); (try have hD4 := (cells_heap hC4).1); (try have hE4 := (cells_heap hC4).2.1); (try have hF4 := (cells_heap hC4).2.2.1); (try have hG4 := (cells_heap hC4).2.2.2.1); (try have hM0 := hS.map (i := 0) rfl); (try have hM1 := hS.map (i := 1) rfl); (try have hM2 := hS.map (i := 2) rfl); (try have hM3 := hS.map (i := 3) rfl); (try have hM4 := hS.map (i := 4) rfl))
            | (show WL _ _ _ _ _ _ _; first | apply WL.nil | (refine WL.au (k := ?_)) | (apply WL.index tOk; exact rfl; exact rfl; exact rfl; exact rfl; exact rfl; exact rfl; exact rfl; exact rfl; assumption; (exact extA); exact rfl; omega; assumption; intro b off h; have hcc := h; first | (obtain ⟨h1, h2, h3, h4, h5, h6, _⟩ := h) | (obtain ⟨h1, h2, h3, _⟩ := h) | (obtain ⟨h1, h2, _⟩ := h) | (obtain ⟨h1, _⟩ := h)))
            | (show Z _ _ _ _ _; first | apply Z.then_normal | apply Z.block_normal)
            | (show W _ _ _ _ _ _; first | apply W.seq | apply W.region | apply W.block | apply W.skip))
          exact Z.againO a' cap' ⟨by omega, by assumption, a8, cap8, by rw [e3, e1]; exact hS⟩ (by repeat' first | exact trivial | (refine And.intro ?_ ?_) | exact rfl | (rw [e1]; exact rfl) | (rw [e2']; exact rfl))
    · obtain rfl : k = n.length := by omega
      repeat' (first
        | (apply W.condKF; exact rfl; (focus (exact dec_false (by omega); done)))
        | (show WL _ _ _ _ _ _ _; first | apply WL.nil | (refine WL.au (k := ?_)))
        | (show Z _ _ _ _ _; first | apply Z.then_normal | apply Z.then_exit | apply Z.block_exit)
        | (show W _ _ _ _ _ _; first | apply W.seq | apply W.region | apply W.ret | apply W.exit))
      exact Z.body1 Try.results42 rfl fun m => ⟨hX9.at m, a2, cap2, la, lc, rfl, hS9.ext ((Ext.refl _).at m)⟩
end Go.Proofs.Ythpnahapiodflaa
