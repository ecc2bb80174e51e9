/- ImplyRuns: what the rules of a net let be so on a trail, each for a clause that leaves it alone, or a clause that is Zero. No conditions. -/
import Derived.Test.YtmaekaflpbenmaaRows
import Derived.Lib.SmallJoins
import Derived.KernelRfl
import Derived.WalkKit
import Derived.ProofKit
import Derived.Deep.Quiet
import Derived.Deep.LoopGhost
import Derived.StillTail
import Derived.Test.YtmaekaflpbenmaaProg
import Derived.OpenShut
import Derived.ShutString
import Derived.ChangeOld
import Derived.Deep.Slices
import Derived.SizedLaws
import Derived.Laws.StructEq
import Derived.Laws.Externs
import Derived.MapKept
import Derived.Test.YtmaekaflpbenmaaImplyRunsP4
namespace Go.Proofs.Ytmaekaflpbenmaa
open Go Go.Lt Go.RowKit
set_option linter.unusedVariables false
set_option linter.unusedSimpArgs false

theorem vOf_nil (n : Nat) : vOf n [] = free0 n := by
  apply List.ext_getElem?
  intro i
  by_cases hi : i < n + 1
  · rw [vOf, tab_get _ hi]
    cases i with
    | zero => rfl
    | succ i =>
      rw [if_neg (by omega), valT_free (by omega) rfl]
      show _ = (List.replicate n (2 : Int))[i]?
      rw [List.getElem?_replicate, if_pos (by omega)]
  · rw [List.getElem?_eq_none (by rw [vOf_len]; omega), List.getElem?_eq_none (by simp; omega)]
theorem valT_keep {n : Nat} {L D : List T3} {z : Int} (hT : TOk n (L ++ D)) (h : valT n L z ≠ 2) : valT n (L ++ D) z = valT n L z := by
  have hT0 := hT.sub (List.sublist_append_left L D)
  by_cases h1 : z = 0 ∨ z = 1
  · unfold valT; rw [if_pos h1, if_pos h1]
  · by_cases h2 : 1 < z ∧ z / 2 ≤ (n : Int)
    · cases hp : plc (z / 2) L with
      | none => exact absurd (valT_free h2.1 hp) h
      | some i =>
        obtain ⟨x, hx, hv⟩ := plc_some hp
        rw [valT_set hT0 h2 hx hv, valT_set hT h2 (by rw [List.getElem?_append_left (lt_of_get hx)]; exact hx) hv]
    · exact absurd (valT_out (by omega)) h
theorem unit_later {m : Nat} {V W : List Int} {c : List Int} (h : LeV V W) (hV : OkV m V) (hW : OkV m W) (hc : ∀ x ∈ c, litM m x) (hu : 1 < uC V (-1) c) : (lit3 W (uC V (-1) c) = 0 → vC W 0 c = 0) ∧ (lit3 W (uC V (-1) c) = 2 → uC W (-1) c = uC V (-1) c) := by
  obtain ⟨h1, h2, h3⟩ := uC_unit hu
  have hl := hc _ h2
  have key : ∀ x ∈ c, x ≠ uC V (-1) c → lit3 W x = 0 := fun x hx hne => by
    obtain ⟨k1, k2⟩ := h1 x hx
    have k3 := hV.three_lit (hc x hx)
    have k4 := h.lit hV hW (hc x hx)
    have k5 : lit3 V x ≠ 2 := fun h' => hne (k2 h')
    omega
  refine ⟨fun h4 => (vC_zero c).2 fun x hx => ?_, fun h4 => ?_⟩
  · by_cases hne : x = uC V (-1) c
    · rw [hne, h4]; decide
    · rw [key x hx hne]; decide
  · exact uC_has (V := W) (l := uC V (-1) c) ⟨hl.1, hl.2.2⟩ c (-1) (fun x hx => by
      by_cases hne : x = uC V (-1) c
      · exact ⟨by rw [hne, h4]; decide, fun _ => hne⟩
      · have := key x hx hne
        exact ⟨by omega, fun h' => by omega⟩) (.inl rfl) (.inr ⟨h2, h4⟩)
theorem set_ways {n : Nat} {L : List T3} (hT : TOk n L) (l lev y : Int) :
    (setE n L l = 0 ∧ setT n L l lev y = L ++ [(l, lev, y)] ∧ TOk n (L ++ [(l, lev, y)]) ∧ 1 < l ∧ l / 2 ≤ n ∧ valT n L l = 2 ∧ vOf n (L ++ [(l, lev, y)]) = setV (vOf n L) l ∧ valT n (L ++ [(l, lev, y)]) l = 1) ∨ (setE n L l ≠ 0 ∧ setT n L l lev y = L) := by
  by_cases h : setE n L l = 0
  · left
    have hp := setE_pos h
    have hpl := plc_of_free hT ⟨hp.1, hp.2.1⟩ hp.2.2
    have ht := tok_push (lev := lev) (y := y) hT ⟨hp.1, hp.2.1⟩ hpl
    refine ⟨h, by unfold setT; rw [if_pos h], ht, hp.1, hp.2.1, hp.2.2, (vOf_setV hT ⟨hp.1, hp.2.1⟩ hpl).symm, ?_⟩
    rw [valT_set ht ⟨hp.1, hp.2.1⟩ (x := (l, lev, y)) (i := L.length) (by simp) rfl, if_pos rfl]
  · exact .inr ⟨h, by unfold setT; rw [if_neg h]⟩
theorem setE_known {n : Nat} {L : List T3} {l : Int} (h : 0 ≤ l ∧ l ≤ 2 * (n : Int) + 1) : (setE n L l = 7 ∧ valT n L l = 1) ∨ (setE n L l = 11 ∧ valT n L l = 0) ∨ (setE n L l = 0 ∧ valT n L l = 2) := by
  unfold setE
  rw [if_neg (by omega)]
  by_cases h1 : valT n L l = 1
  · rw [if_pos h1]; exact .inl ⟨rfl, h1⟩
  · rw [if_neg h1]
    by_cases h0 : valT n L l = 0
    · rw [if_pos h0]; exact .inr (.inl ⟨rfl, h0⟩)
    · rw [if_neg h0]
      have := valT_range n L l
      exact .inr (.inr ⟨rfl, by omega⟩)
/-- The clauses of literals that are so are good. -/
theorem one_unit {n : Nat} {L : List T3} (hT : TOk n L) (hn : n ≤ 1048576) {x : Int} (h0 : 0 ≤ x ∧ x ≤ 2 * (n : Int) + 1) (h : valT n L x = 2) : uC (vOf n L) (-1) [x] = x :=
  uC_has (V := vOf n L) (l := x) ⟨h0.1, by omega⟩ [x] (-1) (fun y hy => by
    obtain rfl := List.mem_singleton.1 hy
    rw [lit3_vOf hT hn, h]; exact ⟨by decide, fun _ => rfl⟩) (.inl rfl) (.inr ⟨by simp, by rw [lit3_vOf hT hn]; exact h⟩)
theorem rch_gc {n : List (Int × Int)} {l : List Int} {cs : List (List Int)} {U V : List Int} (h : Rch (GC n) U V) : Rch (CL n l cs) U V := h.mono fun c hc => .inr (.inl hc)

set_option maxHeartbeats 32000000 in
theorem imply_Close (ra rl rm : Option Addr) (ca cl cm : Nat) (n : List (Int × Int)) (l : List Int) (more : List (RowV Int)) (w : World) (R : Row 2 encN w ra n) (hna : ra = none → ca = 0) (Rl : Row 1 encI w rl l) (Rm : Row 1 encRow w rm more) (hm : ∀ q ∈ more, Row 1 encI w q.1 q.2.2) (hg : GoodNet n) (hn : n.length ≤ 1000)
    (hl64 : ∀ x ∈ l, x ≤ 9223372036854775807) (hm64 : ∀ q ∈ more, ∀ x ∈ q.2.2, x ≤ 9223372036854775807) :
    Lt.Spec Try.prog 43 [.slice ra n.length ca, .slice rl l.length cl, .slice rm more.length cm] w (fun v w' => Ext w w' ∧ ((v = .tuple #[.slice none 0 0, .bool false] ∧ (KnownP n l → Out (CL n l (more.map (·.2.2))) (free0 n.length) none)) ∨ ∃ a c out, v = .tuple #[.slice a out.length c, .bool true] ∧ Row 1 encI w' a out ∧ KnownP n l ∧ Out (CL n l (more.map (·.2.2))) (free0 n.length) (some out))) := by
  have hll := Rl.len
  have hml := Rm.len
  have hn' : n.length ≤ 1048576 := by omega
  refine Spec.of _ Try.func43 rfl Try.ntmps43 (by kernel_rfl) rfl ?_
  repeat' (first
    | (((show WL _ _ _ (⟨_, .call ⟨.value (.func 48), _, _⟩, _, _, _, _⟩ :: _) _ _ _); apply WL.call; exact rfl; exact rfl; exact rfl; exact rfl; exact trail_New n.length hn w w (Ext.refl _); rintro v' w1 ⟨hX1, gt, rfl, hA1⟩))
    | (((show WL _ _ _ (⟨_, .call ⟨.value (.func 49), _, _⟩, _, _, _, _⟩ :: _) _ _ _); apply WL.call; exact rfl; exact rfl; exact rfl; exact rfl; exact imply_New _ _ n _ (R.ext (by (exact extA))) hna hg (by omega); rintro v' w2 ⟨hX2, gr, an, cn, ao, co, rs, rfl, hD2⟩))
    | ((show WL _ _ _ (⟨_, .call ⟨.value (.func 94), _, _⟩, _, _, _, _⟩ :: _) _ _ _); apply WL.callP; exact rfl; exact rfl; exact rfl; exact rfl; exact imply_known _ _ _ _ n l _ (Rl.ext (by (exact extA))) hl64; intro w' hx)
    | (show WL _ _ _ _ _ _ _; first | apply WL.nil | (apply WL.pev tOk; exact rfl; exact rfl; exact rfl) | (apply WL.load tOk; exact rfl; exact rfl; exact rfl; exact rfl; exact rfl; (first | assumption | (focus (apply Ext.cell; rotate_left; assumption; (exact extA); done)))) | (apply WL.index tOk; exact rfl; exact rfl; exact rfl; exact rfl; exact rfl; exact rfl; exact rfl; exact rfl; assumption; (exact extA); exact rfl; omega; assumption; intro b off h; have hcc := h; first | (obtain ⟨h1, h2, h3, h4, h5, h6, _⟩ := h) | (obtain ⟨h1, h2, h3, _⟩ := h) | (obtain ⟨h1, h2, _⟩ := h) | (obtain ⟨h1, _⟩ := h)) | (apply WL.add; exact rfl; exact rfl; exact rfl; exact rfl; omega) | (apply WL.sub; exact rfl; exact rfl; exact rfl; exact rfl; omega) | (apply WL.mul; exact rfl; exact rfl; exact rfl; exact rfl; omega) | (apply WL.quo; exact rfl; exact rfl; exact rfl; exact rfl; omega) | (apply WL.rem; exact rfl; exact rfl; exact rfl; exact rfl; omega) | (apply WL.loadA tOk; exact rfl; exact rfl; exact rfl; exact rfl; exact rfl; (first | assumption | (focus (apply Cells.ext; rotate_left; assumption; (exact extA); done))); exact rfl) | (apply WL.guardF; exact rfl; exact rfl) | (apply WL.gD; exact rfl; exact rfl; all_goals intro _) | (apply WL.gN; exact rfl; exact rfl; all_goals intro _) | (apply WL.gB; exact rfl; exact rfl; all_goals intro _))
    | (show Z _ _ _ _ _; first | apply Z.tail | apply Z.then_normal | apply Z.block_normal | apply Z.then_exit | apply Z.block_exit | apply Z.then_ret | apply Z.block_ret | (apply Z.block_other; exact rfl))
    | (show W _ _ _ _ _ _; first | apply W.seq | apply W.region | apply W.block | apply W.skip | apply W.ret | apply W.exit))
  by_cases hkn : KnownP n l
  rotate_left
  · refine W.condKT rfl (by rw [dec_false hkn]; rfl) ?_
    repeat' (first
      | (show WL _ _ _ _ _ _ _; first | apply WL.nil | (apply WL.pev tOk; exact rfl; exact rfl; exact rfl) | (apply WL.load tOk; exact rfl; exact rfl; exact rfl; exact rfl; exact rfl; (first | assumption | (focus (apply Ext.cell; rotate_left; assumption; (exact extA); done)))) | (apply WL.index tOk; exact rfl; exact rfl; exact rfl; exact rfl; exact rfl; exact rfl; exact rfl; exact rfl; assumption; (exact extA); exact rfl; omega; assumption; intro b off h; have hcc := h; first | (obtain ⟨h1, h2, h3, h4, h5, h6, _⟩ := h) | (obtain ⟨h1, h2, h3, _⟩ := h) | (obtain ⟨h1, h2, _⟩ := h) | (obtain ⟨h1, _⟩ := h)) | (apply WL.add; exact rfl; exact rfl; exact rfl; exact rfl; omega) | (apply WL.sub; exact rfl; exact rfl; exact rfl; exact rfl; omega) | (apply WL.mul; exact rfl; exact rfl; exact rfl; exact rfl; omega) | (apply WL.quo; exact rfl; exact rfl; exact rfl; exact rfl; omega) | (apply WL.rem; exact rfl; exact rfl; exact rfl; exact rfl; omega) | (apply WL.loadA tOk; exact rfl; exact rfl; exact rfl; exact rfl; exact rfl; (first | assumption | (focus (apply Cells.ext; rotate_left; assumption; (exact extA); done))); exact rfl) | (apply WL.guardF; exact rfl; exact rfl) | (apply WL.gD; exact rfl; exact rfl; all_goals intro _) | (apply WL.gN; exact rfl; exact rfl; all_goals intro _) | (apply WL.gB; exact rfl; exact rfl; all_goals intro _))
      | (show Z _ _ _ _ _; first | apply Z.tail | apply Z.then_normal | apply Z.block_normal | apply Z.then_exit | apply Z.block_exit | apply Z.then_ret | apply Z.block_ret | (apply Z.block_other; exact rfl))
      | (show W _ _ _ _ _ _; first | apply W.seq | apply W.region | apply W.block | apply W.skip | apply W.ret | apply W.exit | (apply W.condT; exact rfl) | (apply W.condF; exact rfl) | (apply W.condD; exact rfl; all_goals intro _) | (apply W.condN; exact rfl; all_goals intro _) | (apply W.condB; exact rfl; all_goals intro _)))
    exact Z.body2 Try.results43 rfl rfl fun m => ⟨Ext.at (by (exact extA)) m, .inl ⟨rfl, fun h => absurd h hkn⟩⟩
  refine W.condKF rfl (by rw [dec_true hkn]; rfl) ?_
  have hlit := CL.lits hg hn' hkn (cs := more.map (·.2.2))
  have hf0 : OkV (n.length + 1) (free0 n.length) := by have := free0_ok n.length; rwa [show (free0 n.length).length = n.length + 1 by simp] at this
  -- the rules stay as they are
  have hA2 : TrAt w.heap.size w2 gt n.length [] [] ([] ++ frz w1.heap.size w2) := hA1.freeze hX2 hX1.size
  rw [List.nil_append] at hA2
  generalize hrest : frz w1.heap.size w2 = rest at hA2
  have HD : KeepsT w gt n [] rest (fun w' => RulesD w1.heap.size w' gr n an cn ao co rs) := fun w3 L3 h1 h2 => hD2.keep fun k k1 k2 => by
    subst hrest
    obtain ⟨av, cv, am, cm', M, al, cl', ae, ce, _, hS⟩ := h2
    exact hS.frozen k1 k2
  have HR : KeepsT w gt n [] rest (fun w' => RulesAt w1.heap.size w' gr n) := fun w' Lr' h1 h2 => ⟨_, _, _, _, _, HD w' Lr' h1 h2⟩
  have hset : ∀ (w3 : World) (L : List T3) (rst : List Piece) (x : Int), Ext w w3 → TrAt w.heap.size w3 gt n.length L [] rst → TOk n.length L → x ≤ 9223372036854775807 → Lt.Spec Try.prog 52 [.pointer (some ⟨gt, 0, none⟩), .int .i64 x, .int .i64 (-1)] w3 (fun v w' => Ext w w' ∧ v = .int .i64 (setE n.length L x) ∧ TrAt w.heap.size w' gt n.length (setT n.length L x 0 (-1)) [] rst) := fun w3 L rst x h1 h2 h3 h4 => by
    obtain ⟨av, cv, am, cm', M, al, cl', ae, ce, hM, hS⟩ := h2
    exact trail_Set h1 hS h3 hM (by omega) (by have := h3.len_le; omega) x (-1) h4
  have hvals : ∀ (w3 : World) (L : List T3) (rst : List Piece), TrAt w.heap.size w3 gt n.length L [] rst → Lt.Spec Try.prog 54 [.pointer (some ⟨gt, 0, none⟩)] w3 (IsFresh 1 encI 3 w3 (vOf n.length L)) := fun w3 L rst h => by
    obtain ⟨av, cv, am, cm', M, al, cl', ae, ce, hM, hS⟩ := h
    exact trail_Values hS (vOf_len _ _) (by omega)
  have hX02 : Ext w w2 := hX1.trans hX2
  repeat' (first
    | (show WL _ _ _ _ _ _ _; first | apply WL.nil | (apply WL.pev tOk; exact rfl; exact rfl; exact rfl) | (apply WL.load tOk; exact rfl; exact rfl; exact rfl; exact rfl; exact rfl; (first | assumption | (focus (apply Ext.cell; rotate_left; assumption; (exact extA); done)))) | (apply WL.index tOk; exact rfl; exact rfl; exact rfl; exact rfl; exact rfl; exact rfl; exact rfl; exact rfl; assumption; (exact extA); exact rfl; omega; assumption; intro b off h; have hcc := h; first | (obtain ⟨h1, h2, h3, h4, h5, h6, _⟩ := h) | (obtain ⟨h1, h2, h3, _⟩ := h) | (obtain ⟨h1, h2, _⟩ := h) | (obtain ⟨h1, _⟩ := h)) | (apply WL.add; exact rfl; exact rfl; exact rfl; exact rfl; omega) | (apply WL.sub; exact rfl; exact rfl; exact rfl; exact rfl; omega) | (apply WL.mul; exact rfl; exact rfl; exact rfl; exact rfl; omega) | (apply WL.quo; exact rfl; exact rfl; exact rfl; exact rfl; omega) | (apply WL.rem; exact rfl; exact rfl; exact rfl; exact rfl; omega) | (apply WL.loadA tOk; exact rfl; exact rfl; exact rfl; exact rfl; exact rfl; (first | assumption | (focus (apply Cells.ext; rotate_left; assumption; (exact extA); done))); exact rfl) | (apply WL.guardF; exact rfl; exact rfl) | (apply WL.gD; exact rfl; exact rfl; all_goals intro _) | (apply WL.gN; exact rfl; exact rfl; all_goals intro _) | (apply WL.gB; exact rfl; exact rfl; all_goals intro _))
    | (show Z _ _ _ _ _; first | apply Z.tail | apply Z.then_normal | apply Z.block_normal | apply Z.then_exit | apply Z.block_exit | apply Z.then_ret | apply Z.block_ret | (apply Z.block_other; exact rfl))
    | (show W _ _ _ _ _ _; first | apply W.seq | apply W.region | apply W.block | apply W.skip | apply W.ret | apply W.exit | (apply W.condT; exact rfl) | (apply W.condF; exact rfl) | (apply W.condD; exact rfl; all_goals intro _) | (apply W.condN; exact rfl; all_goals intro _) | (apply W.condB; exact rfl; all_goals intro _)))
  refine W.loop (fun s : Nat × List T3 × World => s.1 ≤ l.length ∧ Ext w s.2.2 ∧ TrAt w.heap.size s.2.2 gt n.length s.2.1 [] rest ∧ TOk n.length s.2.1 ∧ Rch (CL n l (more.map (·.2.2))) (free0 n.length) (vOf n.length s.2.1) ∧ ∀ x ∈ l.take s.1, valT n.length s.2.1 x = 1) (fun s => [(0, .slice ra n.length ca), (1, .slice rl l.length cl), (2, .slice rm more.length cm), (8, .pointer (some ⟨gt, 0, none⟩)), (9, .pointer (some ⟨gr, 0, none⟩)), (10, .int .i64 0), (30, .slice rl l.length cl), (31, .int .i64 l.length), (32, .int .i64 s.1)]) (fun s => s.2.2) (fun s => l.length - s.1) (0, [], w') ⟨Nat.zero_le _, hX02.trans hx, hA2.ext hx, TOk.nil _, by rw [vOf_nil]; exact .base, fun x h => by simp at h⟩ ⟨rfl, rfl, rfl, rfl, rfl, rfl, rfl, rfl, rfl, trivial⟩ rfl ?_
  rintro ⟨i, L, w3⟩ ⟨hi, hX3, hA3, hT3, hR3, hS3⟩
  dsimp only at hi hX3 hA3 hT3 hR3 hS3
  by_cases hlt : i < l.length
  · obtain ⟨x, hxl⟩ := getI l hlt
    have hxm := List.mem_of_getElem? hxl
    have hxk := hkn x hxm
    have hsx := hset w3 L rest x hX3 hA3 hT3 (hl64 x hxm)
    have Rl3 := Rl.ext hX3
    rcases setE_known (L := L) hxk with ⟨e1, e2⟩ | ⟨e1, e2⟩ | ⟨e1, e2⟩
    · rw [e1] at hsx
      repeat' (first
        | (apply WL.gT; exact rfl; exact rfl; (focus (first | exact dec_true (by omega) | exact dec_false (by decide); done)))
        | (apply WL.gF; exact rfl; exact rfl; (focus (first | exact dec_true (by omega) | exact dec_false (by decide); done)))
        | (apply W.condKT; exact rfl; (focus (first | exact dec_true (by omega) | exact dec_false (by decide); done)))
        | (apply W.condKF; exact rfl; (focus (first | exact dec_true (by omega) | exact dec_false (by decide); done)))
        | (((show WL _ _ _ (⟨_, .call ⟨.value (.func 52), _, _⟩, _, _, _, _⟩ :: _) _ _ _); apply WL.call; exact rfl; exact rfl; exact rfl; exact rfl; exact hsx; rintro v' w4 ⟨hX4, rfl, hA4⟩))
        | (show WL _ _ _ _ _ _ _; first | apply WL.nil | (apply WL.pev tOk; exact rfl; exact rfl; exact rfl) | (apply WL.load tOk; exact rfl; exact rfl; exact rfl; exact rfl; exact rfl; (first | assumption | (focus (apply Ext.cell; rotate_left; assumption; (exact extA); done)))) | (apply WL.index tOk; exact rfl; exact rfl; exact rfl; exact rfl; exact rfl; exact rfl; exact rfl; exact rfl; assumption; (exact extA); exact rfl; omega; assumption; intro b off h; have hcc := h; first | (obtain ⟨h1, h2, h3, h4, h5, h6, _⟩ := h) | (obtain ⟨h1, h2, h3, _⟩ := h) | (obtain ⟨h1, h2, _⟩ := h) | (obtain ⟨h1, _⟩ := h)) | (apply WL.add; exact rfl; exact rfl; exact rfl; exact rfl; omega) | (apply WL.sub; exact rfl; exact rfl; exact rfl; exact rfl; omega) | (apply WL.mul; exact rfl; exact rfl; exact rfl; exact rfl; omega) | (apply WL.quo; exact rfl; exact rfl; exact rfl; exact rfl; omega) | (apply WL.rem; exact rfl; exact rfl; exact rfl; exact rfl; omega) | (apply WL.loadA tOk; exact rfl; exact rfl; exact rfl; exact rfl; exact rfl; (first | assumption | (focus (apply Cells.ext; rotate_left; assumption; (exact extA); done))); exact rfl) | (apply WL.guardF; exact rfl; exact rfl) | (apply WL.gD; exact rfl; exact rfl; all_goals intro _) | (apply WL.gN; exact rfl; exact rfl; all_goals intro _) | (apply WL.gB; exact rfl; exact rfl; all_goals intro _))
        | (show Z _ _ _ _ _; first | apply Z.tail | apply Z.then_normal | apply Z.block_normal | apply Z.then_exit | apply Z.block_exit | apply Z.then_ret | apply Z.block_ret | (apply Z.block_other; exact rfl))
        | (show W _ _ _ _ _ _; first | apply W.seq | apply W.region | apply W.block | apply W.skip | apply W.ret | apply W.exit | (apply W.condT; exact rfl) | (apply W.condF; exact rfl) | (apply W.condD; exact rfl; all_goals intro _) | (apply W.condN; exact rfl; all_goals intro _) | (apply W.condB; exact rfl; all_goals intro _)))
      rcases set_ways hT3 x 0 (-1) with h | ⟨_, h⟩
      · rw [e1] at h; exact absurd h.1 (by decide)
      rw [h] at hA4
      exact Z.again (i + 1, L, w4) ⟨by show i + 1 ≤ _; omega, hX4, hA4, hT3, hR3, fun z hz => by
        rw [take_succ' hxl] at hz
        rcases List.mem_append.1 hz with hz | hz
        · exact hS3 z hz
        · rw [List.mem_singleton.1 hz]; exact e2⟩ (by show l.length - (i + 1) < l.length - i; omega) ⟨rfl, rfl, rfl, rfl, rfl, rfl, rfl, rfl, rfl, trivial⟩ rfl
    · rw [e1] at hsx
      repeat' (first
        | (apply WL.gT; exact rfl; exact rfl; (focus (first | exact dec_true (by omega) | exact dec_true rfl; done)))
        | (apply WL.gF; exact rfl; exact rfl; (focus (first | exact dec_true (by omega) | exact dec_true rfl; done)))
        | (apply W.condKT; exact rfl; (focus (first | exact dec_true (by omega) | exact dec_true rfl; done)))
        | (apply W.condKF; exact rfl; (focus (first | exact dec_true (by omega) | exact dec_true rfl; done)))
        | (((show WL _ _ _ (⟨_, .call ⟨.value (.func 52), _, _⟩, _, _, _, _⟩ :: _) _ _ _); apply WL.call; exact rfl; exact rfl; exact rfl; exact rfl; exact hsx; rintro v' w4 ⟨hX4, rfl, hA4⟩))
        | (show WL _ _ _ _ _ _ _; first | apply WL.nil | (apply WL.pev tOk; exact rfl; exact rfl; exact rfl) | (apply WL.load tOk; exact rfl; exact rfl; exact rfl; exact rfl; exact rfl; (first | assumption | (focus (apply Ext.cell; rotate_left; assumption; (exact extA); done)))) | (apply WL.index tOk; exact rfl; exact rfl; exact rfl; exact rfl; exact rfl; exact rfl; exact rfl; exact rfl; assumption; (exact extA); exact rfl; omega; assumption; intro b off h; have hcc := h; first | (obtain ⟨h1, h2, h3, h4, h5, h6, _⟩ := h) | (obtain ⟨h1, h2, h3, _⟩ := h) | (obtain ⟨h1, h2, _⟩ := h) | (obtain ⟨h1, _⟩ := h)) | (apply WL.add; exact rfl; exact rfl; exact rfl; exact rfl; omega) | (apply WL.sub; exact rfl; exact rfl; exact rfl; exact rfl; omega) | (apply WL.mul; exact rfl; exact rfl; exact rfl; exact rfl; omega) | (apply WL.quo; exact rfl; exact rfl; exact rfl; exact rfl; omega) | (apply WL.rem; exact rfl; exact rfl; exact rfl; exact rfl; omega) | (apply WL.loadA tOk; exact rfl; exact rfl; exact rfl; exact rfl; exact rfl; (first | assumption | (focus (apply Cells.ext; rotate_left; assumption; (exact extA); done))); exact rfl) | (apply WL.guardF; exact rfl; exact rfl) | (apply WL.gD; exact rfl; exact rfl; all_goals intro _) | (apply WL.gN; exact rfl; exact rfl; all_goals intro _) | (apply WL.gB; exact rfl; exact rfl; all_goals intro _))
        | (show Z _ _ _ _ _; first | apply Z.tail | apply Z.then_normal | apply Z.block_normal | apply Z.then_exit | apply Z.block_exit | apply Z.then_ret | apply Z.block_ret | (apply Z.block_other; exact rfl))
        | (show W _ _ _ _ _ _; first | apply W.seq | apply W.region | apply W.block | apply W.skip | apply W.ret | apply W.exit | (apply W.condT; exact rfl) | (apply W.condF; exact rfl) | (apply W.condD; exact rfl; all_goals intro _) | (apply W.condN; exact rfl; all_goals intro _) | (apply W.condB; exact rfl; all_goals intro _)))
      exact Z.body2 Try.results43 rfl rfl fun m => ⟨hX4.at m, .inl ⟨rfl, fun _ => ⟨vOf n.length L, [x], hR3, .inl ⟨x, hxm, rfl⟩, (vC_zero [x]).2 fun y hy => by
        rw [List.mem_singleton.1 hy, lit3_vOf hT3 hn', e2]; decide⟩⟩⟩
    · rw [e1] at hsx
      repeat' (first
        | (apply WL.gT; exact rfl; exact rfl; (focus (first | exact dec_true (by omega) | exact dec_false (by decide); done)))
        | (apply WL.gF; exact rfl; exact rfl; (focus (first | exact dec_true (by omega) | exact dec_false (by decide); done)))
        | (apply W.condKT; exact rfl; (focus (first | exact dec_true (by omega) | exact dec_false (by decide); done)))
        | (apply W.condKF; exact rfl; (focus (first | exact dec_true (by omega) | exact dec_false (by decide); done)))
        | (((show WL _ _ _ (⟨_, .call ⟨.value (.func 52), _, _⟩, _, _, _, _⟩ :: _) _ _ _); apply WL.call; exact rfl; exact rfl; exact rfl; exact rfl; exact hsx; rintro v' w4 ⟨hX4, rfl, hA4⟩))
        | (show WL _ _ _ _ _ _ _; first | apply WL.nil | (apply WL.pev tOk; exact rfl; exact rfl; exact rfl) | (apply WL.load tOk; exact rfl; exact rfl; exact rfl; exact rfl; exact rfl; (first | assumption | (focus (apply Ext.cell; rotate_left; assumption; (exact extA); done)))) | (apply WL.index tOk; exact rfl; exact rfl; exact rfl; exact rfl; exact rfl; exact rfl; exact rfl; exact rfl; assumption; (exact extA); exact rfl; omega; assumption; intro b off h; have hcc := h; first | (obtain ⟨h1, h2, h3, h4, h5, h6, _⟩ := h) | (obtain ⟨h1, h2, h3, _⟩ := h) | (obtain ⟨h1, h2, _⟩ := h) | (obtain ⟨h1, _⟩ := h)) | (apply WL.add; exact rfl; exact rfl; exact rfl; exact rfl; omega) | (apply WL.sub; exact rfl; exact rfl; exact rfl; exact rfl; omega) | (apply WL.mul; exact rfl; exact rfl; exact rfl; exact rfl; omega) | (apply WL.quo; exact rfl; exact rfl; exact rfl; exact rfl; omega) | (apply WL.rem; exact rfl; exact rfl; exact rfl; exact rfl; omega) | (apply WL.loadA tOk; exact rfl; exact rfl; exact rfl; exact rfl; exact rfl; (first | assumption | (focus (apply Cells.ext; rotate_left; assumption; (exact extA); done))); exact rfl) | (apply WL.guardF; exact rfl; exact rfl) | (apply WL.gD; exact rfl; exact rfl; all_goals intro _) | (apply WL.gN; exact rfl; exact rfl; all_goals intro _) | (apply WL.gB; exact rfl; exact rfl; all_goals intro _))
        | (show Z _ _ _ _ _; first | apply Z.tail | apply Z.then_normal | apply Z.block_normal | apply Z.then_exit | apply Z.block_exit | apply Z.then_ret | apply Z.block_ret | (apply Z.block_other; exact rfl))
        | (show W _ _ _ _ _ _; first | apply W.seq | apply W.region | apply W.block | apply W.skip | apply W.ret | apply W.exit | (apply W.condT; exact rfl) | (apply W.condF; exact rfl) | (apply W.condD; exact rfl; all_goals intro _) | (apply W.condN; exact rfl; all_goals intro _) | (apply W.condB; exact rfl; all_goals intro _)))
      rcases set_ways hT3 x 0 (-1) with ⟨_, h1, h2, h3, h4, h5, h6, h7⟩ | ⟨h, _⟩
      rotate_left
      · exact absurd e1 h
      rw [h1] at hA4
      refine Z.again (i + 1, L ++ [(x, 0, -1)], w4) ⟨by show i + 1 ≤ _; omega, hX4, hA4, h2, ?_, fun z hz => ?_⟩ (by show l.length - (i + 1) < l.length - i; omega) ⟨rfl, rfl, rfl, rfl, rfl, rfl, rfl, rfl, rfl, trivial⟩ rfl
      · have hu := one_unit hT3 hn' hxk e2
        have := Rch.step hR3 (c := [x]) (.inl ⟨x, hxm, rfl⟩) (by rw [hu]; exact h3)
        rw [hu, ← h6] at this
        exact this
      · rw [take_succ' hxl] at hz
        rcases List.mem_append.1 hz with hz | hz
        · rw [valT_keep h2 (by rw [hS3 z hz]; decide)]; exact hS3 z hz
        · rw [List.mem_singleton.1 hz]; exact h7
  obtain rfl : i = l.length := by omega
  rw [List.take_length] at hS3
  repeat' (first
    | (apply WL.gT; exact rfl; exact rfl; (focus (exact dec_false (by show ¬ ((l.length : Nat) : Int) < _; omega); done)))
    | (apply WL.gF; exact rfl; exact rfl; (focus (exact dec_false (by show ¬ ((l.length : Nat) : Int) < _; omega); done)))
    | (apply W.condKT; exact rfl; (focus (exact dec_false (by show ¬ ((l.length : Nat) : Int) < _; omega); done)))
    | (apply W.condKF; exact rfl; (focus (exact dec_false (by show ¬ ((l.length : Nat) : Int) < _; omega); done)))
    | (show WL _ _ _ _ _ _ _; first | apply WL.nil | (apply WL.pev tOk; exact rfl; exact rfl; exact rfl) | (apply WL.load tOk; exact rfl; exact rfl; exact rfl; exact rfl; exact rfl; (first | assumption | (focus (apply Ext.cell; rotate_left; assumption; (exact extA); done)))) | (apply WL.index tOk; exact rfl; exact rfl; exact rfl; exact rfl; exact rfl; exact rfl; exact rfl; exact rfl; assumption; (exact extA); exact rfl; omega; assumption; intro b off h; have hcc := h; first | (obtain ⟨h1, h2, h3, h4, h5, h6, _⟩ := h) | (obtain ⟨h1, h2, h3, _⟩ := h) | (obtain ⟨h1, h2, _⟩ := h) | (obtain ⟨h1, _⟩ := h)) | (apply WL.add; exact rfl; exact rfl; exact rfl; exact rfl; omega) | (apply WL.sub; exact rfl; exact rfl; exact rfl; exact rfl; omega) | (apply WL.mul; exact rfl; exact rfl; exact rfl; exact rfl; omega) | (apply WL.quo; exact rfl; exact rfl; exact rfl; exact rfl; omega) | (apply WL.rem; exact rfl; exact rfl; exact rfl; exact rfl; omega) | (apply WL.loadA tOk; exact rfl; exact rfl; exact rfl; exact rfl; exact rfl; (first | assumption | (focus (apply Cells.ext; rotate_left; assumption; (exact extA); done))); exact rfl) | (apply WL.guardF; exact rfl; exact rfl) | (apply WL.gD; exact rfl; exact rfl; all_goals intro _) | (apply WL.gN; exact rfl; exact rfl; all_goals intro _) | (apply WL.gB; exact rfl; exact rfl; all_goals intro _))
    | (show Z _ _ _ _ _; first | apply Z.tail | apply Z.then_normal | apply Z.block_normal | apply Z.then_exit | apply Z.block_exit | apply Z.then_ret | apply Z.block_ret | (apply Z.block_other; exact rfl))
    | (show W _ _ _ _ _ _; first | apply W.seq | apply W.region | apply W.block | apply W.skip | apply W.ret | apply W.exit | (apply W.condT; exact rfl) | (apply W.condF; exact rfl) | (apply W.condD; exact rfl; all_goals intro _) | (apply W.condN; exact rfl; all_goals intro _) | (apply W.condB; exact rfl; all_goals intro _)))
  refine W.loop (fun s : Nat × List T3 × World => s.1 ≤ n.length ∧ Ext w s.2.2 ∧ TrAt w.heap.size s.2.2 gt n.length s.2.1 [] rest ∧ TOk n.length s.2.1 ∧ Rch (CL n l (more.map (·.2.2))) (free0 n.length) (vOf n.length s.2.1) ∧ (∀ x ∈ l, valT n.length s.2.1 x = 1) ∧ ∀ k, k < s.1 → GIf n 0 s.2.1 k) (fun s => [(0, .slice ra n.length ca), (2, .slice rm more.length cm), (8, .pointer (some ⟨gt, 0, none⟩)), (9, .pointer (some ⟨gr, 0, none⟩)), (10, .int .i64 0), (42, .int .i64 n.length), (43, .int .i64 s.1)]) (fun s => s.2.2) (fun s => n.length - s.1) (0, L, w3) ⟨Nat.zero_le _, hX3, hA3, hT3, hR3, hS3, fun k h => absurd h (Nat.not_lt_zero _)⟩ ⟨rfl, rfl, rfl, rfl, rfl, rfl, rfl, trivial⟩ rfl ?_
  clear hS3 hR3 hT3 hA3 hX3 hi
  clear hx
  rintro ⟨v, L, w4⟩ ⟨hv, hX4, hA4, hT4, hR4, hS4, hG4⟩
  dsimp only at hv hX4 hA4 hT4 hR4 hS4 hG4
  by_cases hlt : v < n.length
  · obtain ⟨x, hxn⟩ := getI n hlt
    by_cases h0 : 0 ≤ x.1
    · have hgt := imply_gate w1.heap.size gr gt n L [] rest w4 w hX4 hA4 hT4 HR hg hn' v x hxn h0
      have hL4 := hT4.len_le
      repeat' (first
        | (show WL _ _ _ _ _ _ _; first | apply WL.nil | (apply WL.pev tOk; exact rfl; exact rfl; exact rfl) | (apply WL.load tOk; exact rfl; exact rfl; exact rfl; exact rfl; exact rfl; (first | assumption | (focus (apply Ext.cell; rotate_left; assumption; (exact extA); done)))) | (apply WL.index tOk; exact rfl; exact rfl; exact rfl; exact rfl; exact rfl; exact rfl; exact rfl; exact rfl; assumption; (exact extA); exact rfl; omega; assumption; intro b off h; have hcc := h; first | (obtain ⟨h1, h2, h3, h4, h5, h6, _⟩ := h) | (obtain ⟨h1, h2, h3, _⟩ := h) | (obtain ⟨h1, h2, _⟩ := h) | (obtain ⟨h1, _⟩ := h)) | (apply WL.add; exact rfl; exact rfl; exact rfl; exact rfl; omega) | (apply WL.sub; exact rfl; exact rfl; exact rfl; exact rfl; omega) | (apply WL.mul; exact rfl; exact rfl; exact rfl; exact rfl; omega) | (apply WL.quo; exact rfl; exact rfl; exact rfl; exact rfl; omega) | (apply WL.rem; exact rfl; exact rfl; exact rfl; exact rfl; omega) | (apply WL.loadA tOk; exact rfl; exact rfl; exact rfl; exact rfl; exact rfl; (first | assumption | (focus (apply Cells.ext; rotate_left; assumption; (exact extA); done))); exact rfl) | (apply WL.guardF; exact rfl; exact rfl) | (apply WL.gD; exact rfl; exact rfl; all_goals intro _) | (apply WL.gN; exact rfl; exact rfl; all_goals intro _) | (apply WL.gB; exact rfl; exact rfl; all_goals intro _))
        | (show Z _ _ _ _ _; first | apply Z.tail | apply Z.then_normal | apply Z.block_normal | apply Z.then_exit | apply Z.block_exit | apply Z.then_ret | apply Z.block_ret | (apply Z.block_other; exact rfl))
        | (show W _ _ _ _ _ _; first | apply W.seq | apply W.region | apply W.block | apply W.skip | apply W.ret | apply W.exit))
      refine W.condKT rfl (dec_true (by show ((v : Nat) : Int) < _; omega)) ?_
      repeat' (first
        | (apply WL.gT; exact rfl; exact rfl; (focus (exact dec_true h0; done)))
        | (apply WL.gF; exact rfl; exact rfl; (focus (exact dec_true h0; done)))
        | (((show WL _ _ _ (⟨_, .call ⟨.value (.func 95), _, _⟩, _, _, _, _⟩ :: _) _ _ _); apply WL.call; exact rfl; exact rfl; exact rfl; exact rfl; exact hgt; rintro v' w5 ⟨hX5, D5, r5, rfl, hA5, hG5, hr5⟩))
        | (show WL _ _ _ _ _ _ _; first | apply WL.nil | (apply WL.pev tOk; exact rfl; exact rfl; exact rfl) | (apply WL.load tOk; exact rfl; exact rfl; exact rfl; exact rfl; exact rfl; (first | assumption | (focus (apply Ext.cell; rotate_left; assumption; (exact extA); done)))) | (apply WL.index tOk; exact rfl; exact rfl; exact rfl; exact rfl; exact rfl; exact rfl; exact rfl; exact rfl; assumption; (exact extA); exact rfl; omega; assumption; intro b off h; have hcc := h; first | (obtain ⟨h1, h2, h3, h4, h5, h6, _⟩ := h) | (obtain ⟨h1, h2, h3, _⟩ := h) | (obtain ⟨h1, h2, _⟩ := h) | (obtain ⟨h1, _⟩ := h)) | (apply WL.add; exact rfl; exact rfl; exact rfl; exact rfl; omega) | (apply WL.sub; exact rfl; exact rfl; exact rfl; exact rfl; omega) | (apply WL.mul; exact rfl; exact rfl; exact rfl; exact rfl; omega) | (apply WL.quo; exact rfl; exact rfl; exact rfl; exact rfl; omega) | (apply WL.rem; exact rfl; exact rfl; exact rfl; exact rfl; omega) | (apply WL.loadA tOk; exact rfl; exact rfl; exact rfl; exact rfl; exact rfl; (first | assumption | (focus (apply Cells.ext; rotate_left; assumption; (exact extA); done))); exact rfl) | (apply WL.guardF; exact rfl; exact rfl) | (apply WL.gD; exact rfl; exact rfl; all_goals intro _) | (apply WL.gN; exact rfl; exact rfl; all_goals intro _) | (apply WL.gB; exact rfl; exact rfl; all_goals intro _))
        | (show Z _ _ _ _ _; first | apply Z.tail | apply Z.then_normal | apply Z.block_normal | apply Z.then_exit | apply Z.block_exit | apply Z.then_ret | apply Z.block_ret | (apply Z.block_other; exact rfl))
        | (show W _ _ _ _ _ _; first | apply W.seq | apply W.region | apply W.block | apply W.skip | apply W.ret | apply W.exit))
      have hR5 := hR4.trans (rch_gc (l := l) (cs := more.map (·.2.2)) hG5.rch)
      rcases hr5 with ⟨rfl, hgood⟩ | ⟨j, hj, rfl, hz5⟩
      · repeat' (first
          | (apply WL.gT; exact rfl; exact rfl; (focus (exact dec_false (by omega); done)))
          | (apply WL.gF; exact rfl; exact rfl; (focus (exact dec_false (by omega); done)))
          | (apply W.condKT; exact rfl; (focus (exact dec_false (by omega); done)))
          | (apply W.condKF; exact rfl; (focus (exact dec_false (by omega); done)))
          | (show WL _ _ _ _ _ _ _; first | apply WL.nil | (apply WL.pev tOk; exact rfl; exact rfl; exact rfl) | (apply WL.load tOk; exact rfl; exact rfl; exact rfl; exact rfl; exact rfl; (first | assumption | (focus (apply Ext.cell; rotate_left; assumption; (exact extA); done)))) | (apply WL.index tOk; exact rfl; exact rfl; exact rfl; exact rfl; exact rfl; exact rfl; exact rfl; exact rfl; assumption; (exact extA); exact rfl; omega; assumption; intro b off h; have hcc := h; first | (obtain ⟨h1, h2, h3, h4, h5, h6, _⟩ := h) | (obtain ⟨h1, h2, h3, _⟩ := h) | (obtain ⟨h1, h2, _⟩ := h) | (obtain ⟨h1, _⟩ := h)) | (apply WL.add; exact rfl; exact rfl; exact rfl; exact rfl; omega) | (apply WL.sub; exact rfl; exact rfl; exact rfl; exact rfl; omega) | (apply WL.mul; exact rfl; exact rfl; exact rfl; exact rfl; omega) | (apply WL.quo; exact rfl; exact rfl; exact rfl; exact rfl; omega) | (apply WL.rem; exact rfl; exact rfl; exact rfl; exact rfl; omega) | (apply WL.loadA tOk; exact rfl; exact rfl; exact rfl; exact rfl; exact rfl; (first | assumption | (focus (apply Cells.ext; rotate_left; assumption; (exact extA); done))); exact rfl) | (apply WL.guardF; exact rfl; exact rfl) | (apply WL.gD; exact rfl; exact rfl; all_goals intro _) | (apply WL.gN; exact rfl; exact rfl; all_goals intro _) | (apply WL.gB; exact rfl; exact rfl; all_goals intro _))
          | (show Z _ _ _ _ _; first | apply Z.tail | apply Z.then_normal | apply Z.block_normal | apply Z.then_exit | apply Z.block_exit | apply Z.then_ret | apply Z.block_ret | (apply Z.block_other; exact rfl))
          | (show W _ _ _ _ _ _; first | apply W.seq | apply W.region | apply W.block | apply W.skip | apply W.ret | apply W.exit | (apply W.condT; exact rfl) | (apply W.condF; exact rfl) | (apply W.condD; exact rfl; all_goals intro _) | (apply W.condN; exact rfl; all_goals intro _) | (apply W.condB; exact rfl; all_goals intro _)))
        refine Z.again (v + 1, L ++ D5, w5) ⟨by show v + 1 ≤ _; omega, hX5, hA5, hG5.tok, hR5, fun z hz => by rw [valT_keep hG5.tok (by rw [hS4 z hz]; decide)]; exact hS4 z hz, fun k hk => ?_⟩ (by show n.length - (v + 1) < n.length - v; omega) ⟨rfl, rfl, rfl, rfl, rfl, rfl, rfl, trivial⟩ rfl
        by_cases he : k = v
        · subst he
          refine GIf.called (Nat.zero_le _) (fun x' hx' y' hy' => ?_) (fun hD x' hx' r hr => ?_)
          · rw [hxn] at hx'; cases hx'; exact hG5.vars y' hy'
          · rw [hxn] at hx'; cases hx'; exact hgood hD r hr
        · exact GIf.push hg hn' hG5.tok (Nat.zero_le _) (hG4 k (by have : k < v + 1 := hk; omega))
      · repeat' (first
          | (apply WL.gT; exact rfl; exact rfl; (focus (exact dec_true (by omega); done)))
          | (apply WL.gF; exact rfl; exact rfl; (focus (exact dec_true (by omega); done)))
          | (apply W.condKT; exact rfl; (focus (exact dec_true (by omega); done)))
          | (apply W.condKF; exact rfl; (focus (exact dec_true (by omega); done)))
          | (show WL _ _ _ _ _ _ _; first | apply WL.nil | (apply WL.pev tOk; exact rfl; exact rfl; exact rfl) | (apply WL.load tOk; exact rfl; exact rfl; exact rfl; exact rfl; exact rfl; (first | assumption | (focus (apply Ext.cell; rotate_left; assumption; (exact extA); done)))) | (apply WL.index tOk; exact rfl; exact rfl; exact rfl; exact rfl; exact rfl; exact rfl; exact rfl; exact rfl; assumption; (exact extA); exact rfl; omega; assumption; intro b off h; have hcc := h; first | (obtain ⟨h1, h2, h3, h4, h5, h6, _⟩ := h) | (obtain ⟨h1, h2, h3, _⟩ := h) | (obtain ⟨h1, h2, _⟩ := h) | (obtain ⟨h1, _⟩ := h)) | (apply WL.add; exact rfl; exact rfl; exact rfl; exact rfl; omega) | (apply WL.sub; exact rfl; exact rfl; exact rfl; exact rfl; omega) | (apply WL.mul; exact rfl; exact rfl; exact rfl; exact rfl; omega) | (apply WL.quo; exact rfl; exact rfl; exact rfl; exact rfl; omega) | (apply WL.rem; exact rfl; exact rfl; exact rfl; exact rfl; omega) | (apply WL.loadA tOk; exact rfl; exact rfl; exact rfl; exact rfl; exact rfl; (first | assumption | (focus (apply Cells.ext; rotate_left; assumption; (exact extA); done))); exact rfl) | (apply WL.guardF; exact rfl; exact rfl) | (apply WL.gD; exact rfl; exact rfl; all_goals intro _) | (apply WL.gN; exact rfl; exact rfl; all_goals intro _) | (apply WL.gB; exact rfl; exact rfl; all_goals intro _))
          | (show Z _ _ _ _ _; first | apply Z.tail | apply Z.then_normal | apply Z.block_normal | apply Z.then_exit | apply Z.block_exit | apply Z.then_ret | apply Z.block_ret | (apply Z.block_other; exact rfl))
          | (show W _ _ _ _ _ _; first | apply W.seq | apply W.region | apply W.block | apply W.skip | apply W.ret | apply W.exit | (apply W.condT; exact rfl) | (apply W.condF; exact rfl) | (apply W.condD; exact rfl; all_goals intro _) | (apply W.condN; exact rfl; all_goals intro _) | (apply W.condB; exact rfl; all_goals intro _)))
        exact Z.body2 Try.results43 rfl rfl fun m => ⟨hX5.at m, .inl ⟨rfl, fun _ => ⟨_, _, hR5, .inr (.inl ⟨v, j, x, hxn, hj, h0, rfl⟩), hz5⟩⟩⟩
    · repeat' (first
        | (apply WL.gT; exact rfl; exact rfl; (focus (first | exact dec_true (by show ((v : Nat) : Int) < _; omega) | exact dec_false h0; done)))
        | (apply WL.gF; exact rfl; exact rfl; (focus (first | exact dec_true (by show ((v : Nat) : Int) < _; omega) | exact dec_false h0; done)))
        | (apply W.condKT; exact rfl; (focus (first | exact dec_true (by show ((v : Nat) : Int) < _; omega) | exact dec_false h0; done)))
        | (apply W.condKF; exact rfl; (focus (first | exact dec_true (by show ((v : Nat) : Int) < _; omega) | exact dec_false h0; done)))
        | (show WL _ _ _ _ _ _ _; first | apply WL.nil | (apply WL.pev tOk; exact rfl; exact rfl; exact rfl) | (apply WL.load tOk; exact rfl; exact rfl; exact rfl; exact rfl; exact rfl; (first | assumption | (focus (apply Ext.cell; rotate_left; assumption; (exact extA); done)))) | (apply WL.index tOk; exact rfl; exact rfl; exact rfl; exact rfl; exact rfl; exact rfl; exact rfl; exact rfl; assumption; (exact extA); exact rfl; omega; assumption; intro b off h; have hcc := h; first | (obtain ⟨h1, h2, h3, h4, h5, h6, _⟩ := h) | (obtain ⟨h1, h2, h3, _⟩ := h) | (obtain ⟨h1, h2, _⟩ := h) | (obtain ⟨h1, _⟩ := h)) | (apply WL.add; exact rfl; exact rfl; exact rfl; exact rfl; omega) | (apply WL.sub; exact rfl; exact rfl; exact rfl; exact rfl; omega) | (apply WL.mul; exact rfl; exact rfl; exact rfl; exact rfl; omega) | (apply WL.quo; exact rfl; exact rfl; exact rfl; exact rfl; omega) | (apply WL.rem; exact rfl; exact rfl; exact rfl; exact rfl; omega) | (apply WL.loadA tOk; exact rfl; exact rfl; exact rfl; exact rfl; exact rfl; (first | assumption | (focus (apply Cells.ext; rotate_left; assumption; (exact extA); done))); exact rfl) | (apply WL.guardF; exact rfl; exact rfl) | (apply WL.gD; exact rfl; exact rfl; all_goals intro _) | (apply WL.gN; exact rfl; exact rfl; all_goals intro _) | (apply WL.gB; exact rfl; exact rfl; all_goals intro _))
        | (show Z _ _ _ _ _; first | apply Z.tail | apply Z.then_normal | apply Z.block_normal | apply Z.then_exit | apply Z.block_exit | apply Z.then_ret | apply Z.block_ret | (apply Z.block_other; exact rfl))
        | (show W _ _ _ _ _ _; first | apply W.seq | apply W.region | apply W.block | apply W.skip | apply W.ret | apply W.exit | (apply W.condT; exact rfl) | (apply W.condF; exact rfl) | (apply W.condD; exact rfl; all_goals intro _) | (apply W.condN; exact rfl; all_goals intro _) | (apply W.condB; exact rfl; all_goals intro _)))
      refine Z.again (v + 1, L, w4) ⟨by show v + 1 ≤ _; omega, hX4, hA4, hT4, hR4, hS4, fun k hk => ?_⟩ (by show n.length - (v + 1) < n.length - v; omega) ⟨rfl, rfl, rfl, rfl, rfl, rfl, rfl, trivial⟩ rfl
      by_cases he : k = v
      · subst he
        intro x' hx' h0'; rw [hxn] at hx'; cases hx'; exact absurd h0' h0
      · exact hG4 k (by have : k < v + 1 := hk; omega)
  obtain rfl : v = n.length := by omega
  repeat' (first
    | (apply WL.gT; exact rfl; exact rfl; (focus (exact dec_false (by show ¬ ((n.length : Nat) : Int) < _; omega); done)))
    | (apply WL.gF; exact rfl; exact rfl; (focus (exact dec_false (by show ¬ ((n.length : Nat) : Int) < _; omega); done)))
    | (apply W.condKT; exact rfl; (focus (exact dec_false (by show ¬ ((n.length : Nat) : Int) < _; omega); done)))
    | (apply W.condKF; exact rfl; (focus (exact dec_false (by show ¬ ((n.length : Nat) : Int) < _; omega); done)))
    | (show WL _ _ _ _ _ _ _; first | apply WL.nil | (apply WL.pev tOk; exact rfl; exact rfl; exact rfl) | (apply WL.load tOk; exact rfl; exact rfl; exact rfl; exact rfl; exact rfl; (first | assumption | (focus (apply Ext.cell; rotate_left; assumption; (exact extA); done)))) | (apply WL.index tOk; exact rfl; exact rfl; exact rfl; exact rfl; exact rfl; exact rfl; exact rfl; exact rfl; assumption; (exact extA); exact rfl; omega; assumption; intro b off h; have hcc := h; first | (obtain ⟨h1, h2, h3, h4, h5, h6, _⟩ := h) | (obtain ⟨h1, h2, h3, _⟩ := h) | (obtain ⟨h1, h2, _⟩ := h) | (obtain ⟨h1, _⟩ := h)) | (apply WL.add; exact rfl; exact rfl; exact rfl; exact rfl; omega) | (apply WL.sub; exact rfl; exact rfl; exact rfl; exact rfl; omega) | (apply WL.mul; exact rfl; exact rfl; exact rfl; exact rfl; omega) | (apply WL.quo; exact rfl; exact rfl; exact rfl; exact rfl; omega) | (apply WL.rem; exact rfl; exact rfl; exact rfl; exact rfl; omega) | (apply WL.loadA tOk; exact rfl; exact rfl; exact rfl; exact rfl; exact rfl; (first | assumption | (focus (apply Cells.ext; rotate_left; assumption; (exact extA); done))); exact rfl) | (apply WL.guardF; exact rfl; exact rfl) | (apply WL.gD; exact rfl; exact rfl; all_goals intro _) | (apply WL.gN; exact rfl; exact rfl; all_goals intro _) | (apply WL.gB; exact rfl; exact rfl; all_goals intro _))
    | (show Z _ _ _ _ _; first | apply Z.tail | apply Z.then_normal | apply Z.block_normal | apply Z.then_exit | apply Z.block_exit | apply Z.then_ret | apply Z.block_ret | (apply Z.block_other; exact rfl))
    | (show W _ _ _ _ _ _; first | apply W.seq | apply W.region | apply W.block | apply W.skip | apply W.ret | apply W.exit | (apply W.condT; exact rfl) | (apply W.condF; exact rfl) | (apply W.condD; exact rfl; all_goals intro _) | (apply W.condN; exact rfl; all_goals intro _) | (apply W.condB; exact rfl; all_goals intro _)))
  have hI4 : InvR n 0 L := fun k => by
    by_cases hk : k < n.length
    · exact hG4 k hk
    · intro x hx; exact absurd (lt_of_get hx) hk
  refine W.loop (fun s : Nat × List T3 × Bool × World => s.1 ≤ s.2.1.length ∧ Ext w s.2.2.2 ∧ TrAt w.heap.size s.2.2.2 gt n.length s.2.1 [] rest ∧ TOk n.length s.2.1 ∧ Rch (CL n l (more.map (·.2.2))) (free0 n.length) (vOf n.length s.2.1) ∧ (∀ x ∈ l, valT n.length s.2.1 x = 1) ∧ InvR n s.1 s.2.1 ∧ (s.2.2.1 = true → ∀ c, CL n l (more.map (·.2.2)) c → goodC (vOf n.length s.2.1) c)) (fun s => [(0, .slice ra n.length ca), (2, .slice rm more.length cm), (8, .pointer (some ⟨gt, 0, none⟩)), (9, .pointer (some ⟨gr, 0, none⟩)), (10, .int .i64 s.1), (14, .bool s.2.2.1)]) (fun s => s.2.2.2) (fun s => if s.2.2.1 = true then 0 else 1 + (n.length - s.2.1.length)) (0, L, false, w4) ⟨Nat.zero_le _, hX4, hA4, hT4, hR4, hS4, hI4, (fun h => by cases h)⟩ ⟨rfl, rfl, rfl, rfl, rfl, rfl, trivial⟩ rfl ?_
  clear hG4 hI4 hS4 hR4 hT4 hA4 hX4
  rintro ⟨s, L, done, w4⟩ ⟨hs, hX4, hA4, hT4, hR4, hS4, hI4, hE4⟩
  dsimp only at hs hX4 hA4 hT4 hR4 hS4 hI4 hE4
  cases done
  rotate_left
  · repeat' (first
      | (apply WL.call; exact rfl; exact rfl; exact rfl; exact rfl; exact hvals w4 L rest hA4; rintro v' w' ⟨hx, a', cap', rfl, hO⟩)
      | (show WL _ _ _ _ _ _ _; first | apply WL.nil | (apply WL.pev tOk; exact rfl; exact rfl; exact rfl) | (apply WL.load tOk; exact rfl; exact rfl; exact rfl; exact rfl; exact rfl; (first | assumption | (focus (apply Ext.cell; rotate_left; assumption; (exact extA); done)))) | (apply WL.index tOk; exact rfl; exact rfl; exact rfl; exact rfl; exact rfl; exact rfl; exact rfl; exact rfl; assumption; (exact extA); exact rfl; omega; assumption; intro b off h; have hcc := h; first | (obtain ⟨h1, h2, h3, h4, h5, h6, _⟩ := h) | (obtain ⟨h1, h2, h3, _⟩ := h) | (obtain ⟨h1, h2, _⟩ := h) | (obtain ⟨h1, _⟩ := h)) | (apply WL.add; exact rfl; exact rfl; exact rfl; exact rfl; omega) | (apply WL.sub; exact rfl; exact rfl; exact rfl; exact rfl; omega) | (apply WL.mul; exact rfl; exact rfl; exact rfl; exact rfl; omega) | (apply WL.quo; exact rfl; exact rfl; exact rfl; exact rfl; omega) | (apply WL.rem; exact rfl; exact rfl; exact rfl; exact rfl; omega) | (apply WL.loadA tOk; exact rfl; exact rfl; exact rfl; exact rfl; exact rfl; (first | assumption | (focus (apply Cells.ext; rotate_left; assumption; (exact extA); done))); exact rfl) | (apply WL.guardF; exact rfl; exact rfl) | (apply WL.gD; exact rfl; exact rfl; all_goals intro _) | (apply WL.gN; exact rfl; exact rfl; all_goals intro _) | (apply WL.gB; exact rfl; exact rfl; all_goals intro _))
      | (show Z _ _ _ _ _; first | apply Z.tail | apply Z.then_normal | apply Z.block_normal | apply Z.then_exit | apply Z.block_exit | apply Z.then_ret | apply Z.block_ret | (apply Z.block_other; exact rfl))
      | (show W _ _ _ _ _ _; first | apply W.seq | apply W.region | apply W.block | apply W.skip | apply W.ret | apply W.exit | (apply W.condT; exact rfl) | (apply W.condF; exact rfl) | (apply W.condD; exact rfl; all_goals intro _) | (apply W.condN; exact rfl; all_goals intro _) | (apply W.condB; exact rfl; all_goals intro _)))
    exact Z.body2 Try.results43 rfl rfl fun m => ⟨Ext.at (by (exact extA)) m, .inr ⟨a', cap', _, rfl, (Own.row encI_ok hO).ext ((Ext.refl _).at m), hkn, hR4, hE4 rfl⟩⟩
  have hrun := imply_Run w1.heap.size gr gt n L [] rest an ao cn co rs w4 w hX4 hA4 hT4 HD hg hn' s hs hI4
  repeat' (first
    | (show WL _ _ _ _ _ _ _; first | apply WL.nil | (apply WL.pev tOk; exact rfl; exact rfl; exact rfl) | (apply WL.load tOk; exact rfl; exact rfl; exact rfl; exact rfl; exact rfl; (first | assumption | (focus (apply Ext.cell; rotate_left; assumption; (exact extA); done)))) | (apply WL.index tOk; exact rfl; exact rfl; exact rfl; exact rfl; exact rfl; exact rfl; exact rfl; exact rfl; assumption; (exact extA); exact rfl; omega; assumption; intro b off h; have hcc := h; first | (obtain ⟨h1, h2, h3, h4, h5, h6, _⟩ := h) | (obtain ⟨h1, h2, h3, _⟩ := h) | (obtain ⟨h1, h2, _⟩ := h) | (obtain ⟨h1, _⟩ := h)) | (apply WL.add; exact rfl; exact rfl; exact rfl; exact rfl; omega) | (apply WL.sub; exact rfl; exact rfl; exact rfl; exact rfl; omega) | (apply WL.mul; exact rfl; exact rfl; exact rfl; exact rfl; omega) | (apply WL.quo; exact rfl; exact rfl; exact rfl; exact rfl; omega) | (apply WL.rem; exact rfl; exact rfl; exact rfl; exact rfl; omega) | (apply WL.loadA tOk; exact rfl; exact rfl; exact rfl; exact rfl; exact rfl; (first | assumption | (focus (apply Cells.ext; rotate_left; assumption; (exact extA); done))); exact rfl) | (apply WL.guardF; exact rfl; exact rfl) | (apply WL.gD; exact rfl; exact rfl; all_goals intro _) | (apply WL.gN; exact rfl; exact rfl; all_goals intro _) | (apply WL.gB; exact rfl; exact rfl; all_goals intro _))
    | (show Z _ _ _ _ _; first | apply Z.tail | apply Z.then_normal | apply Z.block_normal | apply Z.then_exit | apply Z.block_exit | apply Z.then_ret | apply Z.block_ret | (apply Z.block_other; exact rfl))
    | (show W _ _ _ _ _ _; first | apply W.seq | apply W.region | apply W.block | apply W.skip | apply W.ret | apply W.exit))
  refine W.condT rfl ?_
  repeat' (first
    | (((show WL _ _ _ (⟨_, .call ⟨.value (.func 47), _, _⟩, _, _, _, _⟩ :: _) _ _ _); apply WL.call; exact rfl; exact rfl; exact rfl; exact rfl; exact hrun; rintro v' w5 ⟨hX5, L5, t5, c5, rfl, hA5, hR5, hr5⟩))
    | (show WL _ _ _ _ _ _ _; first | apply WL.nil | (apply WL.pev tOk; exact rfl; exact rfl; exact rfl) | (apply WL.load tOk; exact rfl; exact rfl; exact rfl; exact rfl; exact rfl; (first | assumption | (focus (apply Ext.cell; rotate_left; assumption; (exact extA); done)))) | (apply WL.index tOk; exact rfl; exact rfl; exact rfl; exact rfl; exact rfl; exact rfl; exact rfl; exact rfl; assumption; (exact extA); exact rfl; omega; assumption; intro b off h; have hcc := h; first | (obtain ⟨h1, h2, h3, h4, h5, h6, _⟩ := h) | (obtain ⟨h1, h2, h3, _⟩ := h) | (obtain ⟨h1, h2, _⟩ := h) | (obtain ⟨h1, _⟩ := h)) | (apply WL.add; exact rfl; exact rfl; exact rfl; exact rfl; omega) | (apply WL.sub; exact rfl; exact rfl; exact rfl; exact rfl; omega) | (apply WL.mul; exact rfl; exact rfl; exact rfl; exact rfl; omega) | (apply WL.quo; exact rfl; exact rfl; exact rfl; exact rfl; omega) | (apply WL.rem; exact rfl; exact rfl; exact rfl; exact rfl; omega) | (apply WL.loadA tOk; exact rfl; exact rfl; exact rfl; exact rfl; exact rfl; (first | assumption | (focus (apply Cells.ext; rotate_left; assumption; (exact extA); done))); exact rfl) | (apply WL.guardF; exact rfl; exact rfl) | (apply WL.gD; exact rfl; exact rfl; all_goals intro _) | (apply WL.gN; exact rfl; exact rfl; all_goals intro _) | (apply WL.gB; exact rfl; exact rfl; all_goals intro _))
    | (show Z _ _ _ _ _; first | apply Z.tail | apply Z.then_normal | apply Z.block_normal | apply Z.then_exit | apply Z.block_exit | apply Z.then_ret | apply Z.block_ret | (apply Z.block_other; exact rfl))
    | (show W _ _ _ _ _ _; first | apply W.seq | apply W.region | apply W.block | apply W.skip | apply W.ret | apply W.exit))
  have hR5' := hR4.trans (rch_gc (l := l) (cs := more.map (·.2.2)) hR5.rch)
  obtain ⟨D5, hD5⟩ := hR5.pre
  have hS5 : ∀ x ∈ l, valT n.length L5 x = 1 := fun x hx => by rw [hD5, valT_keep (by rw [← hD5]; exact hR5.tok) (by rw [hS4 x hx]; decide)]; exact hS4 x hx
  rcases hr5 with ⟨rfl, rfl, hI5⟩ | ⟨_, k, j, x, hxn, h0, hj, rfl, hz5⟩
  rotate_left
  · repeat' (first
      | (apply WL.gT; exact rfl; exact rfl; (focus (exact dec_true (by omega); done)))
      | (apply WL.gF; exact rfl; exact rfl; (focus (exact dec_true (by omega); done)))
      | (apply W.condKT; exact rfl; (focus (exact dec_true (by omega); done)))
      | (apply W.condKF; exact rfl; (focus (exact dec_true (by omega); done)))
      | (show WL _ _ _ _ _ _ _; first | apply WL.nil | (apply WL.pev tOk; exact rfl; exact rfl; exact rfl) | (apply WL.load tOk; exact rfl; exact rfl; exact rfl; exact rfl; exact rfl; (first | assumption | (focus (apply Ext.cell; rotate_left; assumption; (exact extA); done)))) | (apply WL.index tOk; exact rfl; exact rfl; exact rfl; exact rfl; exact rfl; exact rfl; exact rfl; exact rfl; assumption; (exact extA); exact rfl; omega; assumption; intro b off h; have hcc := h; first | (obtain ⟨h1, h2, h3, h4, h5, h6, _⟩ := h) | (obtain ⟨h1, h2, h3, _⟩ := h) | (obtain ⟨h1, h2, _⟩ := h) | (obtain ⟨h1, _⟩ := h)) | (apply WL.add; exact rfl; exact rfl; exact rfl; exact rfl; omega) | (apply WL.sub; exact rfl; exact rfl; exact rfl; exact rfl; omega) | (apply WL.mul; exact rfl; exact rfl; exact rfl; exact rfl; omega) | (apply WL.quo; exact rfl; exact rfl; exact rfl; exact rfl; omega) | (apply WL.rem; exact rfl; exact rfl; exact rfl; exact rfl; omega) | (apply WL.loadA tOk; exact rfl; exact rfl; exact rfl; exact rfl; exact rfl; (first | assumption | (focus (apply Cells.ext; rotate_left; assumption; (exact extA); done))); exact rfl) | (apply WL.guardF; exact rfl; exact rfl) | (apply WL.gD; exact rfl; exact rfl; all_goals intro _) | (apply WL.gN; exact rfl; exact rfl; all_goals intro _) | (apply WL.gB; exact rfl; exact rfl; all_goals intro _))
      | (show Z _ _ _ _ _; first | apply Z.tail | apply Z.then_normal | apply Z.block_normal | apply Z.then_exit | apply Z.block_exit | apply Z.then_ret | apply Z.block_ret | (apply Z.block_other; exact rfl))
      | (show W _ _ _ _ _ _; first | apply W.seq | apply W.region | apply W.block | apply W.skip | apply W.ret | apply W.exit | (apply W.condT; exact rfl) | (apply W.condF; exact rfl) | (apply W.condD; exact rfl; all_goals intro _) | (apply W.condN; exact rfl; all_goals intro _) | (apply W.condB; exact rfl; all_goals intro _)))
    exact Z.body2 Try.results43 rfl rfl fun m => ⟨hX5.at m, .inl ⟨rfl, fun _ => ⟨_, _, hR5', .inr (.inl ⟨k, j, x, hxn, hj, h0, rfl⟩), hz5⟩⟩⟩
  repeat' (first
    | (apply WL.gT; exact rfl; exact rfl; (focus (exact dec_false (by decide); done)))
    | (apply WL.gF; exact rfl; exact rfl; (focus (exact dec_false (by decide); done)))
    | (apply W.condKT; exact rfl; (focus (exact dec_false (by decide); done)))
    | (apply W.condKF; exact rfl; (focus (exact dec_false (by decide); done)))
    | (apply WL.call; exact rfl; exact rfl; exact rfl; exact rfl; exact hvals w5 L5 rest hA5; rintro v' w' ⟨hx, a', cap', rfl, hO⟩)
    | (show WL _ _ _ _ _ _ _; first | apply WL.nil | (apply WL.pev tOk; exact rfl; exact rfl; exact rfl) | (apply WL.load tOk; exact rfl; exact rfl; exact rfl; exact rfl; exact rfl; (first | assumption | (focus (apply Ext.cell; rotate_left; assumption; (exact extA); done)))) | (apply WL.index tOk; exact rfl; exact rfl; exact rfl; exact rfl; exact rfl; exact rfl; exact rfl; exact rfl; assumption; (exact extA); exact rfl; omega; assumption; intro b off h; have hcc := h; first | (obtain ⟨h1, h2, h3, h4, h5, h6, _⟩ := h) | (obtain ⟨h1, h2, h3, _⟩ := h) | (obtain ⟨h1, h2, _⟩ := h) | (obtain ⟨h1, _⟩ := h)) | (apply WL.add; exact rfl; exact rfl; exact rfl; exact rfl; omega) | (apply WL.sub; exact rfl; exact rfl; exact rfl; exact rfl; omega) | (apply WL.mul; exact rfl; exact rfl; exact rfl; exact rfl; omega) | (apply WL.quo; exact rfl; exact rfl; exact rfl; exact rfl; omega) | (apply WL.rem; exact rfl; exact rfl; exact rfl; exact rfl; omega) | (apply WL.loadA tOk; exact rfl; exact rfl; exact rfl; exact rfl; exact rfl; (first | assumption | (focus (apply Cells.ext; rotate_left; assumption; (exact extA); done))); exact rfl) | (apply WL.guardF; exact rfl; exact rfl) | (apply WL.gD; exact rfl; exact rfl; all_goals intro _) | (apply WL.gN; exact rfl; exact rfl; all_goals intro _) | (apply WL.gB; exact rfl; exact rfl; all_goals intro _))
    | (show Z _ _ _ _ _; first | apply Z.tail | apply Z.then_normal | apply Z.block_normal | apply Z.then_exit | apply Z.block_exit | apply Z.then_ret | apply Z.block_ret | (apply Z.block_other; exact rfl))
    | (show W _ _ _ _ _ _; first | apply W.seq | apply W.region | apply W.block | apply W.skip | apply W.ret | apply W.exit | (apply W.condT; exact rfl) | (apply W.condF; exact rfl) | (apply W.condD; exact rfl; all_goals intro _) | (apply W.condN; exact rfl; all_goals intro _) | (apply W.condB; exact rfl; all_goals intro _)))
  have hB5 := hX5.size
  have hA6 := hA5.freeze hx hB5
  have KV : KeepsT w gt n [] (rest ++ frz w5.heap.size w') (fun w6 => Row 1 encI w6 a' (vOf n.length L5)) := fun w6 L6 h1 h2 => (Own.row encI_ok hO).keep fun k hk => h2.frozen (hO.blk_lt k hk).1 (hO.blk_lt k hk).2
  generalize frz w5.heap.size w' = fr at hA6 KV
  have hLL5 := hR5.tok.len_le
  have hL05 : L.length ≤ L5.length := by rw [hD5, List.length_append]; omega
  have hok5 := vOf_ok hR5.tok
  obtain ⟨av, rfl⟩ : ∃ x, x = a' := ⟨_, rfl⟩; obtain ⟨cv, rfl⟩ : ∃ x, x = cap' := ⟨_, rfl⟩; obtain ⟨w6, rfl⟩ : ∃ x, x = w' := ⟨_, rfl⟩
  have hX6 : Ext w w6 := hX5.trans hx
  refine W.loop (fun s : Nat × List T3 × Bool × World => s.1 ≤ more.length ∧ Ext w s.2.2.2 ∧ TrAt w.heap.size s.2.2.2 gt n.length s.2.1 [] (rest ++ fr) ∧ TOk n.length s.2.1 ∧ Rch (CL n l (more.map (·.2.2))) (vOf n.length L5) (vOf n.length s.2.1) ∧ (∃ D, s.2.1 = L5 ++ D) ∧ (s.2.2.1 = true → s.2.1 = L5 ∧ ∀ (j : Nat) (q : RowV Int), j < s.1 → more[j]? = some q → KnownP n q.2.2 → goodC (vOf n.length L5) q.2.2) ∧ (s.2.2.1 = false → L5.length < s.2.1.length)) (fun s => [(0, .slice ra n.length ca), (2, .slice rm more.length cm), (8, .pointer (some ⟨gt, 0, none⟩)), (9, .pointer (some ⟨gr, 0, none⟩)), (10, .int .i64 L5.length), (14, .bool s.2.2.1), (16, .slice av (vOf n.length L5).length cv), (74, .slice rm more.length cm), (75, .int .i64 more.length), (76, .int .i64 s.1)]) (fun s => s.2.2.2) (fun s => more.length - s.1) (0, L5, true, w6) ⟨Nat.zero_le _, hX6, hA6, hR5.tok, .base, ⟨[], by simp⟩, fun _ => ⟨rfl, fun j q h => absurd h (Nat.not_lt_zero _)⟩, (fun h => by cases h)⟩ ⟨rfl, rfl, rfl, rfl, rfl, rfl, rfl, rfl, rfl, rfl, trivial⟩ rfl ?_
  rintro ⟨i, L7, dn, w7⟩ ⟨hi7, hX7, hA7, hT7, hR7, hP7, hdt, hdf⟩
  dsimp only at hi7 hX7 hA7 hT7 hR7 hP7 hdt hdf
  have hL7 := hT7.len_le
  by_cases hlt : i < more.length
  · obtain ⟨q, hq⟩ := getI more hlt
    have hqm := List.mem_of_getElem? hq
    have Rq := hm q hqm
    have Rv := KV w7 L7 hX7 hA7
    have Rm7 := Rm.ext hX7
    by_cases hkq : KnownP n q.2.2
    rotate_left
    · repeat' (first
        | (apply WL.gT; exact rfl; exact rfl; (focus (first | exact dec_true (by show ((i : Nat) : Int) < _; omega) | (rw [dec_false hkq]; rfl); done)))
        | (apply WL.gF; exact rfl; exact rfl; (focus (first | exact dec_true (by show ((i : Nat) : Int) < _; omega) | (rw [dec_false hkq]; rfl); done)))
        | (apply W.condKT; exact rfl; (focus (first | exact dec_true (by show ((i : Nat) : Int) < _; omega) | (rw [dec_false hkq]; rfl); done)))
        | (apply W.condKF; exact rfl; (focus (first | exact dec_true (by show ((i : Nat) : Int) < _; omega) | (rw [dec_false hkq]; rfl); done)))
        | ((show WL _ _ _ (⟨_, .call ⟨.value (.func 94), _, _⟩, _, _, _, _⟩ :: _) _ _ _); apply WL.callP; exact rfl; exact rfl; exact rfl; exact rfl; exact imply_known _ _ _ _ n q.2.2 _ (Rq.ext (by (exact extA))) (hm64 q hqm); intro w' hx)
        | (show WL _ _ _ _ _ _ _; first | apply WL.nil | (apply WL.pev tOk; exact rfl; exact rfl; exact rfl) | (apply WL.load tOk; exact rfl; exact rfl; exact rfl; exact rfl; exact rfl; (first | assumption | (focus (apply Ext.cell; rotate_left; assumption; (exact extA); done)))) | (apply WL.index tOk; exact rfl; exact rfl; exact rfl; exact rfl; exact rfl; exact rfl; exact rfl; exact rfl; assumption; (exact extA); exact rfl; omega; assumption; intro b off h; have hcc := h; first | (obtain ⟨h1, h2, h3, h4, h5, h6, _⟩ := h) | (obtain ⟨h1, h2, h3, _⟩ := h) | (obtain ⟨h1, h2, _⟩ := h) | (obtain ⟨h1, _⟩ := h)) | (apply WL.add; exact rfl; exact rfl; exact rfl; exact rfl; omega) | (apply WL.sub; exact rfl; exact rfl; exact rfl; exact rfl; omega) | (apply WL.mul; exact rfl; exact rfl; exact rfl; exact rfl; omega) | (apply WL.quo; exact rfl; exact rfl; exact rfl; exact rfl; omega) | (apply WL.rem; exact rfl; exact rfl; exact rfl; exact rfl; omega) | (apply WL.loadA tOk; exact rfl; exact rfl; exact rfl; exact rfl; exact rfl; (first | assumption | (focus (apply Cells.ext; rotate_left; assumption; (exact extA); done))); exact rfl) | (apply WL.guardF; exact rfl; exact rfl) | (apply WL.gD; exact rfl; exact rfl; all_goals intro _) | (apply WL.gN; exact rfl; exact rfl; all_goals intro _) | (apply WL.gB; exact rfl; exact rfl; all_goals intro _))
        | (show Z _ _ _ _ _; first | apply Z.tail | apply Z.then_normal | apply Z.block_normal | apply Z.then_exit | apply Z.block_exit | apply Z.then_ret | apply Z.block_ret | (apply Z.block_other; exact rfl))
        | (show W _ _ _ _ _ _; first | apply W.seq | apply W.region | apply W.block | apply W.skip | apply W.ret | apply W.exit | (apply W.condT; exact rfl) | (apply W.condF; exact rfl) | (apply W.condD; exact rfl; all_goals intro _) | (apply W.condN; exact rfl; all_goals intro _) | (apply W.condB; exact rfl; all_goals intro _)))
      exact Z.again (i + 1, L7, dn, w') ⟨by show i + 1 ≤ _; omega, hX7.trans hx, hA7.ext hx, hT7, hR7, hP7, fun h => ⟨(hdt h).1, fun j p hj hp hpk => by
        by_cases he : j = i
        · subst he; rw [hq] at hp; cases hp; exact absurd hpk hkq
        · exact (hdt h).2 j p (by have : j < i + 1 := hj; omega) hp hpk⟩, hdf⟩ (by show more.length - (i + 1) < more.length - i; omega) ⟨rfl, rfl, rfl, rfl, rfl, rfl, rfl, rfl, rfl, rfl, trivial⟩ rfl
    have hcl : CL n l (more.map (·.2.2)) q.2.2 := .inr (.inr ⟨List.mem_map.2 ⟨q, hqm, rfl⟩, hkq⟩)
    by_cases z1 : vC (vOf n.length L5) 0 q.2.2 = 0
    · repeat' (first
        | (apply WL.gT; exact rfl; exact rfl; (focus (first | exact dec_true (by show ((i : Nat) : Int) < _; omega) | (rw [dec_true hkq]; rfl) | exact dec_true z1; done)))
        | (apply WL.gF; exact rfl; exact rfl; (focus (first | exact dec_true (by show ((i : Nat) : Int) < _; omega) | (rw [dec_true hkq]; rfl) | exact dec_true z1; done)))
        | (apply W.condKT; exact rfl; (focus (first | exact dec_true (by show ((i : Nat) : Int) < _; omega) | (rw [dec_true hkq]; rfl) | exact dec_true z1; done)))
        | (apply W.condKF; exact rfl; (focus (first | exact dec_true (by show ((i : Nat) : Int) < _; omega) | (rw [dec_true hkq]; rfl) | exact dec_true z1; done)))
        | ((show WL _ _ _ (⟨_, .call ⟨.value (.func 94), _, _⟩, _, _, _, _⟩ :: _) _ _ _); apply WL.callP; exact rfl; exact rfl; exact rfl; exact rfl; exact imply_known _ _ _ _ n q.2.2 _ (Rq.ext (by (exact extA))) (hm64 q hqm); intro w' hx)
        | ((show WL _ _ _ (⟨_, .call ⟨.value (.func 96), _, _⟩, _, _, _, _⟩ :: _) _ _ _); apply WL.callS; exact rfl; exact rfl; exact rfl; exact rfl; exact clause_Value _ _ _ _ (vOf n.length L5) q.2.2 _ (Rv.ext (by (exact extA))) (Rq.ext (by (exact extA))))
        | (show WL _ _ _ _ _ _ _; first | apply WL.nil | (apply WL.pev tOk; exact rfl; exact rfl; exact rfl) | (apply WL.load tOk; exact rfl; exact rfl; exact rfl; exact rfl; exact rfl; (first | assumption | (focus (apply Ext.cell; rotate_left; assumption; (exact extA); done)))) | (apply WL.index tOk; exact rfl; exact rfl; exact rfl; exact rfl; exact rfl; exact rfl; exact rfl; exact rfl; assumption; (exact extA); exact rfl; omega; assumption; intro b off h; have hcc := h; first | (obtain ⟨h1, h2, h3, h4, h5, h6, _⟩ := h) | (obtain ⟨h1, h2, h3, _⟩ := h) | (obtain ⟨h1, h2, _⟩ := h) | (obtain ⟨h1, _⟩ := h)) | (apply WL.add; exact rfl; exact rfl; exact rfl; exact rfl; omega) | (apply WL.sub; exact rfl; exact rfl; exact rfl; exact rfl; omega) | (apply WL.mul; exact rfl; exact rfl; exact rfl; exact rfl; omega) | (apply WL.quo; exact rfl; exact rfl; exact rfl; exact rfl; omega) | (apply WL.rem; exact rfl; exact rfl; exact rfl; exact rfl; omega) | (apply WL.loadA tOk; exact rfl; exact rfl; exact rfl; exact rfl; exact rfl; (first | assumption | (focus (apply Cells.ext; rotate_left; assumption; (exact extA); done))); exact rfl) | (apply WL.guardF; exact rfl; exact rfl) | (apply WL.gD; exact rfl; exact rfl; all_goals intro _) | (apply WL.gN; exact rfl; exact rfl; all_goals intro _) | (apply WL.gB; exact rfl; exact rfl; all_goals intro _))
        | (show Z _ _ _ _ _; first | apply Z.tail | apply Z.then_normal | apply Z.block_normal | apply Z.then_exit | apply Z.block_exit | apply Z.then_ret | apply Z.block_ret | (apply Z.block_other; exact rfl))
        | (show W _ _ _ _ _ _; first | apply W.seq | apply W.region | apply W.block | apply W.skip | apply W.ret | apply W.exit | (apply W.condT; exact rfl) | (apply W.condF; exact rfl) | (apply W.condD; exact rfl; all_goals intro _) | (apply W.condN; exact rfl; all_goals intro _) | (apply W.condB; exact rfl; all_goals intro _)))
      exact Z.body2 Try.results43 rfl rfl fun m => ⟨Ext.at (by (exact extA)) m, .inl ⟨rfl, fun _ => ⟨_, _, hR5', hcl, z1⟩⟩⟩
    by_cases z2 : 0 ≤ uC (vOf n.length L5) (-1) q.2.2
    rotate_left
    · repeat' (first
        | (apply WL.gT; exact rfl; exact rfl; (focus (first | exact dec_true (by show ((i : Nat) : Int) < _; omega) | (rw [dec_true hkq]; rfl) | exact dec_false z1 | exact dec_false z2; done)))
        | (apply WL.gF; exact rfl; exact rfl; (focus (first | exact dec_true (by show ((i : Nat) : Int) < _; omega) | (rw [dec_true hkq]; rfl) | exact dec_false z1 | exact dec_false z2; done)))
        | (apply W.condKT; exact rfl; (focus (first | exact dec_true (by show ((i : Nat) : Int) < _; omega) | (rw [dec_true hkq]; rfl) | exact dec_false z1 | exact dec_false z2; done)))
        | (apply W.condKF; exact rfl; (focus (first | exact dec_true (by show ((i : Nat) : Int) < _; omega) | (rw [dec_true hkq]; rfl) | exact dec_false z1 | exact dec_false z2; done)))
        | ((show WL _ _ _ (⟨_, .call ⟨.value (.func 94), _, _⟩, _, _, _, _⟩ :: _) _ _ _); apply WL.callP; exact rfl; exact rfl; exact rfl; exact rfl; exact imply_known _ _ _ _ n q.2.2 _ (Rq.ext (by (exact extA))) (hm64 q hqm); intro w' hx)
        | ((show WL _ _ _ (⟨_, .call ⟨.value (.func 96), _, _⟩, _, _, _, _⟩ :: _) _ _ _); apply WL.callS; exact rfl; exact rfl; exact rfl; exact rfl; exact clause_Value _ _ _ _ (vOf n.length L5) q.2.2 _ (Rv.ext (by (exact extA))) (Rq.ext (by (exact extA))))
        | ((show WL _ _ _ (⟨_, .call ⟨.value (.func 97), _, _⟩, _, _, _, _⟩ :: _) _ _ _); apply WL.callS; exact rfl; exact rfl; exact rfl; exact rfl; exact clause_Unit _ _ _ _ (vOf n.length L5) q.2.2 _ (Rv.ext (by (exact extA))) (Rq.ext (by (exact extA))))
        | (show WL _ _ _ _ _ _ _; first | apply WL.nil | (apply WL.pev tOk; exact rfl; exact rfl; exact rfl) | (apply WL.load tOk; exact rfl; exact rfl; exact rfl; exact rfl; exact rfl; (first | assumption | (focus (apply Ext.cell; rotate_left; assumption; (exact extA); done)))) | (apply WL.index tOk; exact rfl; exact rfl; exact rfl; exact rfl; exact rfl; exact rfl; exact rfl; exact rfl; assumption; (exact extA); exact rfl; omega; assumption; intro b off h; have hcc := h; first | (obtain ⟨h1, h2, h3, h4, h5, h6, _⟩ := h) | (obtain ⟨h1, h2, h3, _⟩ := h) | (obtain ⟨h1, h2, _⟩ := h) | (obtain ⟨h1, _⟩ := h)) | (apply WL.add; exact rfl; exact rfl; exact rfl; exact rfl; omega) | (apply WL.sub; exact rfl; exact rfl; exact rfl; exact rfl; omega) | (apply WL.mul; exact rfl; exact rfl; exact rfl; exact rfl; omega) | (apply WL.quo; exact rfl; exact rfl; exact rfl; exact rfl; omega) | (apply WL.rem; exact rfl; exact rfl; exact rfl; exact rfl; omega) | (apply WL.loadA tOk; exact rfl; exact rfl; exact rfl; exact rfl; exact rfl; (first | assumption | (focus (apply Cells.ext; rotate_left; assumption; (exact extA); done))); exact rfl) | (apply WL.guardF; exact rfl; exact rfl) | (apply WL.gD; exact rfl; exact rfl; all_goals intro _) | (apply WL.gN; exact rfl; exact rfl; all_goals intro _) | (apply WL.gB; exact rfl; exact rfl; all_goals intro _))
        | (show Z _ _ _ _ _; first | apply Z.tail | apply Z.then_normal | apply Z.block_normal | apply Z.then_exit | apply Z.block_exit | apply Z.then_ret | apply Z.block_ret | (apply Z.block_other; exact rfl))
        | (show W _ _ _ _ _ _; first | apply W.seq | apply W.region | apply W.block | apply W.skip | apply W.ret | apply W.exit | (apply W.condT; exact rfl) | (apply W.condF; exact rfl) | (apply W.condD; exact rfl; all_goals intro _) | (apply W.condN; exact rfl; all_goals intro _) | (apply W.condB; exact rfl; all_goals intro _)))
      exact Z.again (i + 1, L7, dn, w') ⟨by show i + 1 ≤ _; omega, hX7.trans hx, hA7.ext hx, hT7, hR7, hP7, fun h => ⟨(hdt h).1, fun j p hj hp hpk => by
        by_cases he : j = i
        · subst he; rw [hq] at hp; cases hp; exact ⟨z1, fun hh => by omega⟩
        · exact (hdt h).2 j p (by have : j < i + 1 := hj; omega) hp hpk⟩, hdf⟩ (by show more.length - (i + 1) < more.length - i; omega) ⟨rfl, rfl, rfl, rfl, rfl, rfl, rfl, rfl, rfl, rfl, trivial⟩ rfl
    obtain ⟨hu1, hu2⟩ := unit_valT hR5.tok hn' z2
    have hmem := (uC_unit hu1).2.1
    have hur := hkq _ hmem
    have hle := (hR7.ok hlit hok5).2
    have hlater := unit_later hle hok5 (vOf_ok hT7) (known_lit hn' hkq) hu1
    rw [lit3_vOf hT7 hn'] at hlater
    have emax : max (uC (vOf n.length L5) (-1) q.2.2) 0 = uC (vOf n.length L5) (-1) q.2.2 := by omega
    have hsx := fun (w8 : World) (hx8 : Ext w7 w8) => hset w8 L7 (rest ++ fr) (max (uC (vOf n.length L5) (-1) q.2.2) 0) (hX7.trans hx8) (hA7.ext hx8) hT7 (by rw [emax]; omega)
    rw [emax] at hsx
    rcases setE_known (L := L7) hur with ⟨e1, e2⟩ | ⟨e1, e2⟩ | ⟨e1, e2⟩
    · rw [e1] at hsx
      rcases set_ways hT7 (uC (vOf n.length L5) (-1) q.2.2) 0 (-1) with h | ⟨_, h⟩
      · rw [e1] at h; exact absurd h.1 (by decide)
      rw [h] at hsx
      repeat' (first
        | (apply WL.gT; exact rfl; exact rfl; (focus (first | exact dec_true (by show ((i : Nat) : Int) < _; omega) | (rw [dec_true hkq]; rfl) | exact dec_false z1 | exact dec_true z2 | exact dec_false (by decide); done)))
        | (apply WL.gF; exact rfl; exact rfl; (focus (first | exact dec_true (by show ((i : Nat) : Int) < _; omega) | (rw [dec_true hkq]; rfl) | exact dec_false z1 | exact dec_true z2 | exact dec_false (by decide); done)))
        | (apply W.condKT; exact rfl; (focus (first | exact dec_true (by show ((i : Nat) : Int) < _; omega) | (rw [dec_true hkq]; rfl) | exact dec_false z1 | exact dec_true z2 | exact dec_false (by decide); done)))
        | (apply W.condKF; exact rfl; (focus (first | exact dec_true (by show ((i : Nat) : Int) < _; omega) | (rw [dec_true hkq]; rfl) | exact dec_false z1 | exact dec_true z2 | exact dec_false (by decide); done)))
        | ((show WL _ _ _ (⟨_, .call ⟨.value (.func 94), _, _⟩, _, _, _, _⟩ :: _) _ _ _); apply WL.callP; exact rfl; exact rfl; exact rfl; exact rfl; exact imply_known _ _ _ _ n q.2.2 _ (Rq.ext (by (exact extA))) (hm64 q hqm); intro w' hx)
        | ((show WL _ _ _ (⟨_, .call ⟨.value (.func 96), _, _⟩, _, _, _, _⟩ :: _) _ _ _); apply WL.callS; exact rfl; exact rfl; exact rfl; exact rfl; exact clause_Value _ _ _ _ (vOf n.length L5) q.2.2 _ (Rv.ext (by (exact extA))) (Rq.ext (by (exact extA))))
        | ((show WL _ _ _ (⟨_, .call ⟨.value (.func 97), _, _⟩, _, _, _, _⟩ :: _) _ _ _); apply WL.callS; exact rfl; exact rfl; exact rfl; exact rfl; exact clause_Unit _ _ _ _ (vOf n.length L5) q.2.2 _ (Rv.ext (by (exact extA))) (Rq.ext (by (exact extA))))
        | (((show WL _ _ _ (⟨_, .call ⟨.value (.func 52), _, _⟩, _, _, _, _⟩ :: _) _ _ _); apply WL.call; exact rfl; exact rfl; exact rfl; (exact congrArg (fun z => some [Value.pointer (some ⟨gt, 0, none⟩), .int .i64 z, .int .i64 (-1)]) emax); exact hsx _ (by (exact extA)); rintro v' w8 ⟨hX8, rfl, hA8⟩))
        | (show WL _ _ _ _ _ _ _; first | apply WL.nil | (apply WL.pev tOk; exact rfl; exact rfl; exact rfl) | (apply WL.load tOk; exact rfl; exact rfl; exact rfl; exact rfl; exact rfl; (first | assumption | (focus (apply Ext.cell; rotate_left; assumption; (exact extA); done)))) | (apply WL.index tOk; exact rfl; exact rfl; exact rfl; exact rfl; exact rfl; exact rfl; exact rfl; exact rfl; assumption; (exact extA); exact rfl; omega; assumption; intro b off h; have hcc := h; first | (obtain ⟨h1, h2, h3, h4, h5, h6, _⟩ := h) | (obtain ⟨h1, h2, h3, _⟩ := h) | (obtain ⟨h1, h2, _⟩ := h) | (obtain ⟨h1, _⟩ := h)) | (apply WL.add; exact rfl; exact rfl; exact rfl; exact rfl; omega) | (apply WL.sub; exact rfl; exact rfl; exact rfl; exact rfl; omega) | (apply WL.mul; exact rfl; exact rfl; exact rfl; exact rfl; omega) | (apply WL.quo; exact rfl; exact rfl; exact rfl; exact rfl; omega) | (apply WL.rem; exact rfl; exact rfl; exact rfl; exact rfl; omega) | (apply WL.loadA tOk; exact rfl; exact rfl; exact rfl; exact rfl; exact rfl; (first | assumption | (focus (apply Cells.ext; rotate_left; assumption; (exact extA); done))); exact rfl) | (apply WL.guardF; exact rfl; exact rfl) | (apply WL.gD; exact rfl; exact rfl; all_goals intro _) | (apply WL.gN; exact rfl; exact rfl; all_goals intro _) | (apply WL.gB; exact rfl; exact rfl; all_goals intro _))
        | (show Z _ _ _ _ _; first | apply Z.tail | apply Z.then_normal | apply Z.block_normal | apply Z.then_exit | apply Z.block_exit | apply Z.then_ret | apply Z.block_ret | (apply Z.block_other; exact rfl))
        | (show W _ _ _ _ _ _; first | apply W.seq | apply W.region | apply W.block | apply W.skip | apply W.ret | apply W.exit | (apply W.condT; exact rfl) | (apply W.condF; exact rfl) | (apply W.condD; exact rfl; all_goals intro _) | (apply W.condN; exact rfl; all_goals intro _) | (apply W.condB; exact rfl; all_goals intro _)))
      refine Z.again (i + 1, L7, dn, w8) ⟨by show i + 1 ≤ _; omega, hX8, hA8, hT7, hR7, hP7, fun h => ?_, hdf⟩ (by show more.length - (i + 1) < more.length - i; omega) ⟨rfl, rfl, rfl, rfl, rfl, rfl, rfl, rfl, rfl, rfl, trivial⟩ rfl
      have e3 := (hdt h).1
      rw [e3] at e2
      omega
    · rw [e1] at hsx
      repeat' (first
        | (apply WL.gT; exact rfl; exact rfl; (focus (first | exact dec_true (by show ((i : Nat) : Int) < _; omega) | (rw [dec_true hkq]; rfl) | exact dec_false z1 | exact dec_true z2 | exact dec_true rfl; done)))
        | (apply WL.gF; exact rfl; exact rfl; (focus (first | exact dec_true (by show ((i : Nat) : Int) < _; omega) | (rw [dec_true hkq]; rfl) | exact dec_false z1 | exact dec_true z2 | exact dec_true rfl; done)))
        | (apply W.condKT; exact rfl; (focus (first | exact dec_true (by show ((i : Nat) : Int) < _; omega) | (rw [dec_true hkq]; rfl) | exact dec_false z1 | exact dec_true z2 | exact dec_true rfl; done)))
        | (apply W.condKF; exact rfl; (focus (first | exact dec_true (by show ((i : Nat) : Int) < _; omega) | (rw [dec_true hkq]; rfl) | exact dec_false z1 | exact dec_true z2 | exact dec_true rfl; done)))
        | ((show WL _ _ _ (⟨_, .call ⟨.value (.func 94), _, _⟩, _, _, _, _⟩ :: _) _ _ _); apply WL.callP; exact rfl; exact rfl; exact rfl; exact rfl; exact imply_known _ _ _ _ n q.2.2 _ (Rq.ext (by (exact extA))) (hm64 q hqm); intro w' hx)
        | ((show WL _ _ _ (⟨_, .call ⟨.value (.func 96), _, _⟩, _, _, _, _⟩ :: _) _ _ _); apply WL.callS; exact rfl; exact rfl; exact rfl; exact rfl; exact clause_Value _ _ _ _ (vOf n.length L5) q.2.2 _ (Rv.ext (by (exact extA))) (Rq.ext (by (exact extA))))
        | ((show WL _ _ _ (⟨_, .call ⟨.value (.func 97), _, _⟩, _, _, _, _⟩ :: _) _ _ _); apply WL.callS; exact rfl; exact rfl; exact rfl; exact rfl; exact clause_Unit _ _ _ _ (vOf n.length L5) q.2.2 _ (Rv.ext (by (exact extA))) (Rq.ext (by (exact extA))))
        | (((show WL _ _ _ (⟨_, .call ⟨.value (.func 52), _, _⟩, _, _, _, _⟩ :: _) _ _ _); apply WL.call; exact rfl; exact rfl; exact rfl; (exact congrArg (fun z => some [Value.pointer (some ⟨gt, 0, none⟩), .int .i64 z, .int .i64 (-1)]) emax); exact hsx _ (by (exact extA)); rintro v' w8 ⟨hX8, rfl, hA8⟩))
        | (show WL _ _ _ _ _ _ _; first | apply WL.nil | (apply WL.pev tOk; exact rfl; exact rfl; exact rfl) | (apply WL.load tOk; exact rfl; exact rfl; exact rfl; exact rfl; exact rfl; (first | assumption | (focus (apply Ext.cell; rotate_left; assumption; (exact extA); done)))) | (apply WL.index tOk; exact rfl; exact rfl; exact rfl; exact rfl; exact rfl; exact rfl; exact rfl; exact rfl; assumption; (exact extA); exact rfl; omega; assumption; intro b off h; have hcc := h; first | (obtain ⟨h1, h2, h3, h4, h5, h6, _⟩ := h) | (obtain ⟨h1, h2, h3, _⟩ := h) | (obtain ⟨h1, h2, _⟩ := h) | (obtain ⟨h1, _⟩ := h)) | (apply WL.add; exact rfl; exact rfl; exact rfl; exact rfl; omega) | (apply WL.sub; exact rfl; exact rfl; exact rfl; exact rfl; omega) | (apply WL.mul; exact rfl; exact rfl; exact rfl; exact rfl; omega) | (apply WL.quo; exact rfl; exact rfl; exact rfl; exact rfl; omega) | (apply WL.rem; exact rfl; exact rfl; exact rfl; exact rfl; omega) | (apply WL.loadA tOk; exact rfl; exact rfl; exact rfl; exact rfl; exact rfl; (first | assumption | (focus (apply Cells.ext; rotate_left; assumption; (exact extA); done))); exact rfl) | (apply WL.guardF; exact rfl; exact rfl) | (apply WL.gD; exact rfl; exact rfl; all_goals intro _) | (apply WL.gN; exact rfl; exact rfl; all_goals intro _) | (apply WL.gB; exact rfl; exact rfl; all_goals intro _))
        | (show Z _ _ _ _ _; first | apply Z.tail | apply Z.then_normal | apply Z.block_normal | apply Z.then_exit | apply Z.block_exit | apply Z.then_ret | apply Z.block_ret | (apply Z.block_other; exact rfl))
        | (show W _ _ _ _ _ _; first | apply W.seq | apply W.region | apply W.block | apply W.skip | apply W.ret | apply W.exit | (apply W.condT; exact rfl) | (apply W.condF; exact rfl) | (apply W.condD; exact rfl; all_goals intro _) | (apply W.condN; exact rfl; all_goals intro _) | (apply W.condB; exact rfl; all_goals intro _)))
      exact Z.body2 Try.results43 rfl rfl fun m => ⟨hX8.at m, .inl ⟨rfl, fun _ => ⟨_, _, hR5'.trans hR7, hcl, hlater.1 e2⟩⟩⟩
    · rw [e1] at hsx
      rcases set_ways hT7 (uC (vOf n.length L5) (-1) q.2.2) 0 (-1) with ⟨_, k1, k2, k3, k4, k5, k6, k7⟩ | ⟨h, _⟩
      rotate_left
      · exact absurd e1 h
      rw [k1] at hsx
      repeat' (first
        | (apply WL.gT; exact rfl; exact rfl; (focus (first | exact dec_true (by show ((i : Nat) : Int) < _; omega) | (rw [dec_true hkq]; rfl) | exact dec_false z1 | exact dec_true z2 | exact dec_true rfl | exact dec_false (by decide); done)))
        | (apply WL.gF; exact rfl; exact rfl; (focus (first | exact dec_true (by show ((i : Nat) : Int) < _; omega) | (rw [dec_true hkq]; rfl) | exact dec_false z1 | exact dec_true z2 | exact dec_true rfl | exact dec_false (by decide); done)))
        | (apply W.condKT; exact rfl; (focus (first | exact dec_true (by show ((i : Nat) : Int) < _; omega) | (rw [dec_true hkq]; rfl) | exact dec_false z1 | exact dec_true z2 | exact dec_true rfl | exact dec_false (by decide); done)))
        | (apply W.condKF; exact rfl; (focus (first | exact dec_true (by show ((i : Nat) : Int) < _; omega) | (rw [dec_true hkq]; rfl) | exact dec_false z1 | exact dec_true z2 | exact dec_true rfl | exact dec_false (by decide); done)))
        | ((show WL _ _ _ (⟨_, .call ⟨.value (.func 94), _, _⟩, _, _, _, _⟩ :: _) _ _ _); apply WL.callP; exact rfl; exact rfl; exact rfl; exact rfl; exact imply_known _ _ _ _ n q.2.2 _ (Rq.ext (by (exact extA))) (hm64 q hqm); intro w' hx)
        | ((show WL _ _ _ (⟨_, .call ⟨.value (.func 96), _, _⟩, _, _, _, _⟩ :: _) _ _ _); apply WL.callS; exact rfl; exact rfl; exact rfl; exact rfl; exact clause_Value _ _ _ _ (vOf n.length L5) q.2.2 _ (Rv.ext (by (exact extA))) (Rq.ext (by (exact extA))))
        | ((show WL _ _ _ (⟨_, .call ⟨.value (.func 97), _, _⟩, _, _, _, _⟩ :: _) _ _ _); apply WL.callS; exact rfl; exact rfl; exact rfl; exact rfl; exact clause_Unit _ _ _ _ (vOf n.length L5) q.2.2 _ (Rv.ext (by (exact extA))) (Rq.ext (by (exact extA))))
        | (((show WL _ _ _ (⟨_, .call ⟨.value (.func 52), _, _⟩, _, _, _, _⟩ :: _) _ _ _); apply WL.call; exact rfl; exact rfl; exact rfl; (exact congrArg (fun z => some [Value.pointer (some ⟨gt, 0, none⟩), .int .i64 z, .int .i64 (-1)]) emax); exact hsx _ (by (exact extA)); rintro v' w8 ⟨hX8, rfl, hA8⟩))
        | (show WL _ _ _ _ _ _ _; first | apply WL.nil | (apply WL.pev tOk; exact rfl; exact rfl; exact rfl) | (apply WL.load tOk; exact rfl; exact rfl; exact rfl; exact rfl; exact rfl; (first | assumption | (focus (apply Ext.cell; rotate_left; assumption; (exact extA); done)))) | (apply WL.index tOk; exact rfl; exact rfl; exact rfl; exact rfl; exact rfl; exact rfl; exact rfl; exact rfl; assumption; (exact extA); exact rfl; omega; assumption; intro b off h; have hcc := h; first | (obtain ⟨h1, h2, h3, h4, h5, h6, _⟩ := h) | (obtain ⟨h1, h2, h3, _⟩ := h) | (obtain ⟨h1, h2, _⟩ := h) | (obtain ⟨h1, _⟩ := h)) | (apply WL.add; exact rfl; exact rfl; exact rfl; exact rfl; omega) | (apply WL.sub; exact rfl; exact rfl; exact rfl; exact rfl; omega) | (apply WL.mul; exact rfl; exact rfl; exact rfl; exact rfl; omega) | (apply WL.quo; exact rfl; exact rfl; exact rfl; exact rfl; omega) | (apply WL.rem; exact rfl; exact rfl; exact rfl; exact rfl; omega) | (apply WL.loadA tOk; exact rfl; exact rfl; exact rfl; exact rfl; exact rfl; (first | assumption | (focus (apply Cells.ext; rotate_left; assumption; (exact extA); done))); exact rfl) | (apply WL.guardF; exact rfl; exact rfl) | (apply WL.gD; exact rfl; exact rfl; all_goals intro _) | (apply WL.gN; exact rfl; exact rfl; all_goals intro _) | (apply WL.gB; exact rfl; exact rfl; all_goals intro _))
        | (show Z _ _ _ _ _; first | apply Z.tail | apply Z.then_normal | apply Z.block_normal | apply Z.then_exit | apply Z.block_exit | apply Z.then_ret | apply Z.block_ret | (apply Z.block_other; exact rfl))
        | (show W _ _ _ _ _ _; first | apply W.seq | apply W.region | apply W.block | apply W.skip | apply W.ret | apply W.exit | (apply W.condT; exact rfl) | (apply W.condF; exact rfl) | (apply W.condD; exact rfl; all_goals intro _) | (apply W.condN; exact rfl; all_goals intro _) | (apply W.condB; exact rfl; all_goals intro _)))
      refine Z.again (i + 1, L7 ++ [(uC (vOf n.length L5) (-1) q.2.2, 0, -1)], false, w8) ⟨by show i + 1 ≤ _; omega, hX8, hA8, k2, ?_, ?_, (fun h => by cases h), fun _ => ?_⟩ (by show more.length - (i + 1) < more.length - i; omega) ⟨rfl, rfl, rfl, rfl, rfl, rfl, rfl, rfl, rfl, rfl, trivial⟩ rfl
      · have := Rch.step hR7 hcl (by rw [hlater.2 e2]; exact hu1)
        rw [hlater.2 e2, ← k6] at this
        exact this
      · obtain ⟨D7, h7⟩ := hP7; exact ⟨D7 ++ [(uC (vOf n.length L5) (-1) q.2.2, 0, -1)], by rw [h7]; simp⟩
      · obtain ⟨D7, h7⟩ := hP7
        show L5.length < (L7 ++ [_]).length
        rw [h7]; simp
  · obtain rfl : i = more.length := by omega
    obtain ⟨D7, h7⟩ := hP7
    repeat' (first
      | (apply WL.gT; exact rfl; exact rfl; (focus (exact dec_false (by show ¬ ((more.length : Nat) : Int) < _; omega); done)))
      | (apply WL.gF; exact rfl; exact rfl; (focus (exact dec_false (by show ¬ ((more.length : Nat) : Int) < _; omega); done)))
      | (apply W.condKT; exact rfl; (focus (exact dec_false (by show ¬ ((more.length : Nat) : Int) < _; omega); done)))
      | (apply W.condKF; exact rfl; (focus (exact dec_false (by show ¬ ((more.length : Nat) : Int) < _; omega); done)))
      | (show WL _ _ _ _ _ _ _; first | apply WL.nil | (apply WL.pev tOk; exact rfl; exact rfl; exact rfl) | (apply WL.load tOk; exact rfl; exact rfl; exact rfl; exact rfl; exact rfl; (first | assumption | (focus (apply Ext.cell; rotate_left; assumption; (exact extA); done)))) | (apply WL.index tOk; exact rfl; exact rfl; exact rfl; exact rfl; exact rfl; exact rfl; exact rfl; exact rfl; assumption; (exact extA); exact rfl; omega; assumption; intro b off h; have hcc := h; first | (obtain ⟨h1, h2, h3, h4, h5, h6, _⟩ := h) | (obtain ⟨h1, h2, h3, _⟩ := h) | (obtain ⟨h1, h2, _⟩ := h) | (obtain ⟨h1, _⟩ := h)) | (apply WL.add; exact rfl; exact rfl; exact rfl; exact rfl; omega) | (apply WL.sub; exact rfl; exact rfl; exact rfl; exact rfl; omega) | (apply WL.mul; exact rfl; exact rfl; exact rfl; exact rfl; omega) | (apply WL.quo; exact rfl; exact rfl; exact rfl; exact rfl; omega) | (apply WL.rem; exact rfl; exact rfl; exact rfl; exact rfl; omega) | (apply WL.loadA tOk; exact rfl; exact rfl; exact rfl; exact rfl; exact rfl; (first | assumption | (focus (apply Cells.ext; rotate_left; assumption; (exact extA); done))); exact rfl) | (apply WL.guardF; exact rfl; exact rfl) | (apply WL.gD; exact rfl; exact rfl; all_goals intro _) | (apply WL.gN; exact rfl; exact rfl; all_goals intro _) | (apply WL.gB; exact rfl; exact rfl; all_goals intro _))
      | (show Z _ _ _ _ _; first | apply Z.tail | apply Z.then_normal | apply Z.block_normal | apply Z.then_exit | apply Z.block_exit | apply Z.then_ret | apply Z.block_ret | (apply Z.block_other; exact rfl))
      | (show W _ _ _ _ _ _; first | apply W.seq | apply W.region | apply W.block | apply W.skip | apply W.ret | apply W.exit | (apply W.condT; exact rfl) | (apply W.condF; exact rfl) | (apply W.condD; exact rfl; all_goals intro _) | (apply W.condN; exact rfl; all_goals intro _) | (apply W.condB; exact rfl; all_goals intro _)))
    have hS7 : ∀ x ∈ l, valT n.length L7 x = 1 := fun x hx => by rw [h7, valT_keep (by rw [← h7]; exact hT7) (by rw [hS5 x hx]; decide)]; exact hS5 x hx
    refine Z.again (L5.length, L7, dn, w7) ⟨by show L5.length ≤ L7.length; rw [h7, List.length_append]; omega, hX7, hA7.weak, hT7, hR5'.trans hR7, hS7, fun k => by rw [h7]; exact (hI5 k).push hg hn' (by rw [← h7]; exact hT7) (Nat.le_refl _), fun hd c hc => ?_⟩ ?_ ⟨rfl, rfl, rfl, rfl, rfl, rfl, trivial⟩ rfl
    · obtain ⟨e7, hgood⟩ := hdt hd
      rw [e7] at hS7 ⊢
      rcases hc with ⟨x, hx, rfl⟩ | ⟨k, r, x, k1, k2, k3, rfl⟩ | ⟨hc, hk⟩
      · exact goodC_sat ⟨x, by simp, by rw [lit3_vOf hR5.tok hn']; exact hS5 x hx⟩
      · exact hI5 k x k1 k3 (fun i y hi hy => absurd (lt_of_get hy) (by omega)) r k2
      · obtain ⟨q, hq, rfl⟩ := List.mem_map.1 hc
        obtain ⟨j, hj, he⟩ := List.getElem_of_mem hq
        exact hgood j q hj (by rw [List.getElem?_eq_getElem hj, he]) hk
    · cases dn
      · have := hdf rfl
        show 1 + (n.length - L7.length) < 1 + (n.length - L.length)
        omega
      · show 0 < 1 + (n.length - L.length)
        omega
end Go.Proofs.Ytmaekaflpbenmaa
namespace Go.Proofs.Ytmaekaflpbenmaa
open Go Go.Lt Go.RowKit
set_option linter.unusedVariables false
set_option linter.unusedSimpArgs false

/-- What may come of Close. -/
def OutK (n : List (Int × Int)) (l : List Int) (cs : List (List Int)) (o : Option (List Int)) : Prop := (KnownP n l → Out (CL n l cs) (free0 n.length) o) ∧ (¬ KnownP n l → o = none)
theorem free0_ok1 (k : Nat) : OkV (k + 1) (free0 k) := by have := free0_ok k; rwa [show (free0 k).length = k + 1 by simp] at this
theorem outK_unique {n : List (Int × Int)} {l : List Int} {cs : List (List Int)} (hg : GoodNet n) (hn : n.length ≤ 1048576) {o o' : Option (List Int)} (h : OutK n l cs o) (h' : OutK n l cs o') : o = o' := by
  by_cases hk : KnownP n l
  · exact out_unique (CL.lits hg hn hk) (free0_ok1 _) (h.1 hk) (h'.1 hk)
  · rw [h.2 hk, h'.2 hk]
def OutV (w : World) (o : Option (List Int)) (v : Value) : Prop := ∃ a c, v = .tuple #[.slice a (o.getD []).length c, .bool o.isSome] ∧ Row 1 encI w a (o.getD [])
theorem imply_CloseK (ra rl rm : Option Addr) (ca cl cm : Nat) (n : List (Int × Int)) (l : List Int) (more : List (RowV Int)) (w : World) (R : Row 2 encN w ra n) (hna : ra = none → ca = 0) (Rl : Row 1 encI w rl l) (Rm : Row 1 encRow w rm more) (hm : ∀ q ∈ more, Row 1 encI w q.1 q.2.2) (hg : GoodNet n) (hn : n.length ≤ 1000)
    (hl64 : ∀ x ∈ l, x ≤ 9223372036854775807) (hm64 : ∀ q ∈ more, ∀ x ∈ q.2.2, x ≤ 9223372036854775807) :
    Lt.Spec Try.prog 43 [.slice ra n.length ca, .slice rl l.length cl, .slice rm more.length cm] w (fun v w' => Ext w w' ∧ ∃ o, OutV w' o v ∧ OutK n l (more.map (·.2.2)) o) := by
  refine Spec.mono (imply_Close ra rl rm ca cl cm n l more w R hna Rl Rm hm hg hn hl64 hm64) fun v w' ⟨h1, h2⟩ => ⟨h1, ?_⟩
  rcases h2 with ⟨rfl, h3⟩ | ⟨a, c, out, rfl, h3, h4, h5⟩
  · exact ⟨none, ⟨none, 0, rfl, Row.nil _ _ _ _⟩, h3, fun _ => rfl⟩
  · exact ⟨some out, ⟨a, c, rfl, h3⟩, fun _ => h5, fun h => absurd h4 h⟩
theorem ref22_CloseK (ra rl rm : Option Addr) (ca cl cm : Nat) (n : List (Int × Int)) (l : List Int) (more : List (RowV Int)) (w : World) (R : Row 2 encN w ra n) (Rl : Row 1 encI w rl l) (Rm : Row 1 encRow w rm more) (hm : ∀ q ∈ more, Row 1 encI w q.1 q.2.2) (hg : GoodNet n) (hn : n.length ≤ 1048575) (hll : l.length ≤ 1048576) (hcl : l.length ≤ cl) (hml : more.length ≤ 1048576) :
    Lt.Spec Try.prog 44 [.slice ra n.length ca, .slice rl l.length cl, .slice rm more.length cm] w (fun v w' => Ext w w' ∧ ∃ o, OutV w' o v ∧ OutK n l (more.map (·.2.2)) o) := by
  refine Spec.mono (ref22_Close2 ra rl rm ca cl cm n l more w R Rl Rm hm hg hn hll hcl hml) fun v w' ⟨h1, h2⟩ => ⟨h1, ?_⟩
  rcases h2 with ⟨rfl, h3⟩ | ⟨a, c, out, rfl, h3, h4, h5⟩
  · exact ⟨none, ⟨none, 0, rfl, Row.nil _ _ _ _⟩, h3, fun _ => rfl⟩
  · exact ⟨some out, ⟨a, c, rfl, h3⟩, fun _ => h5, fun h => absurd h4 h⟩
def vCt (vals : List Int) : Int → List Int → Int
  | out, [] => out
  | out, x :: r => if tl vals x = 1 then 1 else vCt vals (if tl vals x = 2 then 2 else out) r
def uCt (vals : List Int) : Int → List Int → Int
  | left, [] => left
  | left, x :: r => if tl vals x = 1 ∨ (tl vals x = 2 ∧ (¬ (0 ≤ x ∧ x ≤ 33554433) ∨ (0 ≤ left ∧ left ≠ x))) then -1 else uCt vals (if tl vals x = 2 then x else left) r
theorem vC_t {vals : List Int} (h0 : vals.getD 0 0 = 0) : ∀ (c : List Int) (o : Int), (∀ x ∈ c, litM vals.length x) → vC vals o c = vCt vals o c
  | [], o, _ => rfl
  | x :: r, o, h => by
    have hx := h x (by simp)
    rw [vC, vCt, lit3_tl h0 hx.1 hx.2.1 hx.2.2, vC_t h0 r _ (fun y hy => h y (by simp [hy]))]
theorem uC_t {vals : List Int} (h0 : vals.getD 0 0 = 0) : ∀ (c : List Int) (o : Int), (∀ x ∈ c, litM vals.length x) → uC vals o c = uCt vals o c
  | [], o, _ => rfl
  | x :: r, o, h => by
    have hx := h x (by simp)
    rw [uC, uCt, lit3_tl h0 hx.1 hx.2.1 hx.2.2, uC_t h0 r _ (fun y hy => h y (by simp [hy]))]
abbrev live22 : List (Int × Int) := [(-1, 0), (-1, 0), (2, 4)]
theorem good22 : GoodNet live22 := by
  intro i x hx
  match i, hx with
  | 0, hx => cases hx; unfold badNode; decide
  | 1, hx => cases hx; unfold badNode; decide
  | 2, hx => cases hx; unfold badNode; decide
  | i + 3, hx => simp at hx
theorem gc22 {c : List Int} (h : GC live22 c) : c = [7, 2] ∨ c = [7, 4] ∨ c = [6, 3, 5] := by
  obtain ⟨k, r, x, h1, h2, h3, rfl⟩ := h
  match k, h1 with
  | 0, h1 => cases h1; exact absurd h3 (by decide)
  | 1, h1 => cases h1; exact absurd h3 (by decide)
  | 2, h1 =>
    cases h1
    match r, h2 with
    | 0, _ => exact .inl rfl
    | 1, _ => exact .inr (.inl rfl)
    | 2, _ => exact .inr (.inr rfl)
  | k + 3, h1 => simp at h1
theorem rch22 {C : List Int → Prop} {V0 V c : List Int} {u : Int} (h : Rch C V0 V) (hc : C c) (h0 : V.getD 0 0 = 0) (hl : ∀ x ∈ c, litM V.length x) (hu : uCt V (-1) c = u) (h1 : 1 < u) : Rch C V0 (setV V u) := by
  have e := uC_t h0 c (-1) hl
  have := Rch.step h hc (by rw [e, hu]; exact h1)
  rwa [e, hu] at this
theorem good_t {V c : List Int} (h0 : V.getD 0 0 = 0) (hl : ∀ x ∈ c, litM V.length x) (h1 : vCt V 0 c ≠ 0 ∧ ¬ 1 < uCt V (-1) c) : goodC V c := by
  unfold goodC; rw [vC_t h0 c _ hl, uC_t h0 c _ hl]; exact h1
theorem gc22_mk : GC live22 [7, 2] ∧ GC live22 [7, 4] ∧ GC live22 [6, 3, 5] := ⟨⟨2, 0, (2, 4), rfl, by decide, by decide, rfl⟩, ⟨2, 1, (2, 4), rfl, by decide, by decide, rfl⟩, ⟨2, 2, (2, 4), rfl, by decide, by decide, rfl⟩⟩
theorem known22 (l : List Int) (h : ∀ x ∈ l, 0 ≤ x ∧ x ≤ 7) : KnownP live22 l := fun x hx => by have := h x hx; exact ⟨this.1, by show x ≤ 7; exact this.2⟩
theorem outA : OutK live22 [6] [] (some [0, 1, 1, 1]) := by
  have hk : KnownP live22 [6] := known22 _ (by decide)
  refine ⟨fun _ => ⟨?_, fun c hc => ?_⟩, fun h => absurd hk h⟩
  · have r1 := rch22 (C := CL live22 [6] []) (V0 := free0 3) .base (c := [6]) (.inl ⟨6, by simp, rfl⟩) rfl (by unfold litM; decide) (u := 6) (by decide) (by decide)
    have r2 := rch22 r1 (c := [7, 2]) (.inr (.inl gc22_mk.1)) rfl (by unfold litM; decide) (u := 2) (by decide) (by decide)
    exact rch22 r2 (c := [7, 4]) (.inr (.inl gc22_mk.2.1)) rfl (by unfold litM; decide) (u := 4) (by decide) (by decide)
  · rcases hc with ⟨x, hx, rfl⟩ | hc | ⟨hc, _⟩
    · obtain rfl := List.mem_singleton.1 hx; exact good_t rfl (by unfold litM; decide) (by decide)
    · rcases gc22 hc with rfl | rfl | rfl <;> exact good_t rfl (by unfold litM; decide) (by decide)
    · cases hc
theorem outB : OutK live22 [7, 2] [] (some [0, 1, 0, 0]) := by
  have hk : KnownP live22 [7, 2] := known22 _ (by decide)
  refine ⟨fun _ => ⟨?_, fun c hc => ?_⟩, fun h => absurd hk h⟩
  · have r1 := rch22 (C := CL live22 [7, 2] []) (V0 := free0 3) .base (c := [7]) (.inl ⟨7, by simp, rfl⟩) rfl (by unfold litM; decide) (u := 7) (by decide) (by decide)
    have r2 := rch22 r1 (c := [2]) (.inl ⟨2, by simp, rfl⟩) rfl (by unfold litM; decide) (u := 2) (by decide) (by decide)
    exact rch22 r2 (c := [6, 3, 5]) (.inr (.inl gc22_mk.2.2)) rfl (by unfold litM; decide) (u := 5) (by decide) (by decide)
  · rcases hc with ⟨x, hx, rfl⟩ | hc | ⟨hc, _⟩
    · simp only [List.mem_cons, List.not_mem_nil, or_false] at hx
      rcases hx with rfl | rfl <;> exact good_t rfl (by unfold litM; decide) (by decide)
    · rcases gc22 hc with rfl | rfl | rfl <;> exact good_t rfl (by unfold litM; decide) (by decide)
    · cases hc
theorem imply_CloseL (ra rl : Option Addr) (ca cl : Nat) (l out : List Int) (w : World) (R : Row 2 encN w ra live22) (hna : ra = none → ca = 0) (Rl : Row 1 encI w rl l) (hl : ∀ x ∈ l, x ≤ 9223372036854775807) (h : OutK live22 l [] (some out)) :
    Lt.Spec Try.prog 43 [.slice ra 3 ca, .slice rl l.length cl, .slice none 0 0] w (fun v w' => Ext w w' ∧ ∃ a c, v = .tuple #[.slice a out.length c, .bool true] ∧ Row 1 encI w' a out) := by
  refine Spec.mono (imply_CloseK ra rl none ca cl 0 live22 l [] w R hna Rl (Row.nil _ _ _ _) (fun q h => by cases h) good22 (by decide) hl (fun q h => by cases h)) fun v w' ⟨h1, o, ⟨a, c, h2, h3⟩, h4⟩ => ⟨h1, a, c, ?_⟩
  obtain rfl := outK_unique good22 (by decide) h4 h
  exact ⟨h2, h3⟩
set_option maxHeartbeats 8000000 in
theorem lives22 (w : World) : Pure Try.prog 42 [] w (.bool true) := by
  refine Spec.of _ Try.func42 rfl Try.ntmps42 (by kernel_rfl) rfl ?_
  repeat' (first
    | (apply WL.build tOk; exact rfl; exact rfl; exact rfl; exact rfl; exact rfl; exact rfl; exact rfl; kernel_rfl)
    | (apply WL.lit tOk; exact rfl; exact rfl; exact rfl; exact rfl; exact rfl; exact rfl; (first | exact rfl | kernel_rfl | (simp [Instr.fill, catCells]; done)); exact rfl; intro gb w' hb hge hc hx; have hO := Own.of_block (live22) encN_ok hb hge rfl; (obtain ⟨hOn, rfl⟩ : ∃ x, x = hO := ⟨_, rfl⟩; obtain ⟨hxn, rfl⟩ : ∃ x, x = hx := ⟨_, rfl⟩; obtain ⟨wn, rfl⟩ : ∃ x, x = w' := ⟨_, rfl⟩; have Rn := Own.row encN_ok hOn))
    | (apply WL.lit tOk; exact rfl; exact rfl; exact rfl; exact rfl; exact rfl; exact rfl; (first | exact rfl | kernel_rfl | (simp [Instr.fill, catCells]; done)); exact rfl; intro gb w' hb hge hc hx; have hO := Own.of_block ([(6 : Int)]) encI_ok hb hge rfl; (obtain ⟨hOa, rfl⟩ : ∃ x, x = hO := ⟨_, rfl⟩; obtain ⟨hxa, rfl⟩ : ∃ x, x = hx := ⟨_, rfl⟩; obtain ⟨wa, rfl⟩ : ∃ x, x = w' := ⟨_, rfl⟩))
    | (apply WL.lit tOk; exact rfl; exact rfl; exact rfl; exact rfl; exact rfl; exact rfl; (first | exact rfl | kernel_rfl | (simp [Instr.fill, catCells]; done)); exact rfl; intro gb w' hb hge hc hx; have hO := Own.of_block ([(7 : Int), 2]) encI_ok hb hge rfl; (obtain ⟨hOb, rfl⟩ : ∃ x, x = hO := ⟨_, rfl⟩; obtain ⟨hxb, rfl⟩ : ∃ x, x = hx := ⟨_, rfl⟩; obtain ⟨wb, rfl⟩ : ∃ x, x = w' := ⟨_, rfl⟩))
    | (apply WL.lit tOk; exact rfl; exact rfl; exact rfl; exact rfl; exact rfl; exact rfl; (first | exact rfl | kernel_rfl | (simp [Instr.fill, catCells]; done)); exact rfl; intro gb w' hb hge hc hx; have hO := Own.of_block ([(0 : Int), 1, 1, 1]) encI_ok hb hge rfl; (obtain ⟨hOc, rfl⟩ : ∃ x, x = hO := ⟨_, rfl⟩; obtain ⟨hxc, rfl⟩ : ∃ x, x = hx := ⟨_, rfl⟩; obtain ⟨wc, rfl⟩ : ∃ x, x = w' := ⟨_, rfl⟩))
    | (apply WL.lit tOk; exact rfl; exact rfl; exact rfl; exact rfl; exact rfl; exact rfl; (first | exact rfl | kernel_rfl | (simp [Instr.fill, catCells]; done)); exact rfl; intro gb w' hb hge hc hx; have hO := Own.of_block ([(0 : Int), 1, 0, 0]) encI_ok hb hge rfl; (obtain ⟨hOd, rfl⟩ : ∃ x, x = hO := ⟨_, rfl⟩; obtain ⟨hxd, rfl⟩ : ∃ x, x = hx := ⟨_, rfl⟩; obtain ⟨wd, rfl⟩ : ∃ x, x = w' := ⟨_, rfl⟩))
    | (((show WL _ _ _ (⟨_, .call ⟨.value (.func 43), _, _⟩, _, _, _, _⟩ :: _) _ _ _); apply WL.call; exact rfl; exact rfl; exact rfl; exact rfl; exact imply_CloseL _ _ _ _ [7, 2] [0, 1, 0, 0] _ (Rn.ext (by (exact extA))) (fun h => by cases h) (Own.row encI_ok hOb) (by decide) outB; rintro v' w4 ⟨hX4, a4, c4, rfl, Ra4⟩))
    | (((show WL _ _ _ (⟨_, .call ⟨.value (.func 43), _, _⟩, _, _, _, _⟩ :: _) _ _ _); apply WL.call; exact rfl; exact rfl; exact rfl; exact rfl; exact imply_CloseL _ _ _ _ [6] [0, 1, 1, 1] _ (Rn.ext (by (exact extA))) (fun h => by cases h) (Own.row encI_ok hOa) (by decide) outA; rintro v' w3 ⟨hX3, a3, c3, rfl, Ra3⟩))
    | (apply WL.gT; exact rfl; exact rfl; (focus (exact dec_true rfl; done)))
    | (apply WL.gF; exact rfl; exact rfl; (focus (exact dec_true rfl; done)))
    | (apply W.condKT; exact rfl; (focus (exact dec_true rfl; done)))
    | (apply W.condKF; exact rfl; (focus (exact dec_true rfl; done)))
    | ((show WL _ _ _ (⟨_, .call ⟨.value (.func 22), _, _⟩, _, _, _, _⟩ :: _) _ _ _); apply WL.callS; exact rfl; exact rfl; exact rfl; exact rfl; exact ref_Ints _ _ _ _ [0, 1, 1, 1] [0, 1, 1, 1] _ (Ra3.ext (by (exact extA))) (Own.row encI_ok hOc))
    | ((show WL _ _ _ (⟨_, .call ⟨.value (.func 22), _, _⟩, _, _, _, _⟩ :: _) _ _ _); apply WL.callS; exact rfl; exact rfl; exact rfl; exact rfl; exact ref_Ints _ _ _ _ [0, 1, 0, 0] [0, 1, 0, 0] _ (Ra4.ext (by (exact extA))) (Own.row encI_ok hOd))
    | (show WL _ _ _ _ _ _ _; first | apply WL.nil | (apply WL.pev tOk; exact rfl; exact rfl; exact rfl) | (apply WL.load tOk; exact rfl; exact rfl; exact rfl; exact rfl; exact rfl; (first | assumption | (focus (apply Ext.cell; rotate_left; assumption; (exact extA); done)))) | (apply WL.index tOk; exact rfl; exact rfl; exact rfl; exact rfl; exact rfl; exact rfl; exact rfl; exact rfl; assumption; (exact extA); exact rfl; omega; assumption; intro b off h; have hcc := h; first | (obtain ⟨h1, h2, h3, h4, h5, h6, _⟩ := h) | (obtain ⟨h1, h2, h3, _⟩ := h) | (obtain ⟨h1, h2, _⟩ := h) | (obtain ⟨h1, _⟩ := h)) | (apply WL.add; exact rfl; exact rfl; exact rfl; exact rfl; omega) | (apply WL.sub; exact rfl; exact rfl; exact rfl; exact rfl; omega) | (apply WL.mul; exact rfl; exact rfl; exact rfl; exact rfl; omega) | (apply WL.quo; exact rfl; exact rfl; exact rfl; exact rfl; omega) | (apply WL.rem; exact rfl; exact rfl; exact rfl; exact rfl; omega) | (apply WL.loadA tOk; exact rfl; exact rfl; exact rfl; exact rfl; exact rfl; (first | assumption | (focus (apply Cells.ext; rotate_left; assumption; (exact extA); done))); exact rfl) | (apply WL.guardF; exact rfl; exact rfl) | (apply WL.gD; exact rfl; exact rfl; all_goals intro _) | (apply WL.gN; exact rfl; exact rfl; all_goals intro _) | (apply WL.gB; exact rfl; exact rfl; all_goals intro _))
    | (show Z _ _ _ _ _; first | apply Z.tail | apply Z.then_normal | apply Z.block_normal | apply Z.then_exit | apply Z.block_exit | apply Z.then_ret | apply Z.block_ret | (apply Z.block_other; exact rfl))
    | (show W _ _ _ _ _ _; first | apply W.seq | apply W.region | apply W.block | apply W.skip | apply W.ret | apply W.exit | (apply W.condT; exact rfl) | (apply W.condF; exact rfl) | (apply W.condD; exact rfl; all_goals intro _) | (apply W.condN; exact rfl; all_goals intro _) | (apply W.condB; exact rfl; all_goals intro _)))
  exact Z.body1 Try.results42 rfl fun m => ⟨rfl, Ext.at (by (exact extA)) m⟩
end Go.Proofs.Ytmaekaflpbenmaa
namespace Go.Proofs.Ytmaekaflpbenmaa
open Go Go.Lt Go.RowKit
set_option linter.unusedVariables false
set_option linter.unusedSimpArgs false

abbrev b01 (b : Bool) : Int := if b = true then 1 else 0
abbrev valB (M : List Bool) : List Int := M.map b01
theorem valB_ok {n : List (Int × Int)} (ins : List Bool) : OkV (n.length + 1) (valB (values n ins)) := by
  refine ⟨by rw [List.length_map, values_len'], ?_, fun i z hz => ?_⟩
  · have h := values_zero n ins
    have hl := values_len' n ins
    obtain ⟨b, hb⟩ := getI (values n ins) (show 0 < (values n ins).length by omega)
    rw [getD_of hb] at h; subst h
    rw [show (valB (values n ins)).getD 0 0 = b01 false from getD_of (by rw [List.getElem?_map, hb]; rfl)]; rfl
  · rw [List.getElem?_map] at hz
    obtain ⟨b, _, rfl⟩ := Option.map_eq_some_iff.1 hz
    cases b
    · exact .inl rfl
    · exact .inr (.inl rfl)
theorem litB {n : List (Int × Int)} {ins : List Bool} {x : Int} (hx : litM (n.length + 1) x) : lit3 (valB (values n ins)) x = b01 (ofL (values n ins) x) := by
  have hl := values_len' n ins
  obtain ⟨b, hb⟩ := getI (values n ins) (show (x / 2).toNat < (values n ins).length by have := hx.2.1; omega)
  obtain ⟨z, hz, h⟩ := (valB_ok (n := n) ins).at_ hx
  rw [List.getElem?_map, hb] at hz
  obtain rfl : b01 b = z := Option.some.inj hz
  unfold ofL
  rw [getD_of hb]
  by_cases hp : x % 2 = 1
  · rw [decide_eq_true hp]
    rw [if_pos hp, if_pos hp] at h
    cases b <;> simp [b01] at h ⊢ <;> omega
  · rw [decide_eq_false hp]
    rw [if_neg hp, if_neg hp] at h
    cases b <;> simp [b01] at h ⊢ <;> omega
theorem ofL_x1 (v : List Bool) {l : Int} (h : 0 ≤ l) : ofL v (Lt.xor1 l) = !ofL v l := by
  unfold ofL Lt.xor1
  by_cases hp : l % 2 = 1
  · rw [if_neg (by omega), show ((l - 1) / 2).toNat = (l / 2).toNat by omega, decide_eq_true hp, decide_eq_false (by omega)]; simp
  · rw [if_pos (by omega), show ((l + 1) / 2).toNat = (l / 2).toNat by omega, decide_eq_false hp, decide_eq_true (by omega)]; simp
theorem gc_sat {n : List (Int × Int)} (hg : GoodNet n) (hn : n.length ≤ 1048576) (ins : List Bool) {c : List Int} (h : GC n c) : goodC (valB (values n ins)) c := by
  have hk := known_lit hn (h.lits hg)
  obtain ⟨k, r, x, h1, h2, h3, rfl⟩ := h
  have hgx := hg.gate h1 h3
  have e := values_gate hg ins h1 h3
  have hkl := lt_of_get h1
  have ev : ofL (values n ins) (2 * ((k : Int) + 1)) = (values n ins).getD (k + 1) false := by
    unfold ofL; rw [show (2 * ((k : Int) + 1) / 2).toNat = k + 1 by omega, decide_eq_false (by omega)]; simp
  have ev1 : ofL (values n ins) (2 * ((k : Int) + 1) + 1) = !(values n ins).getD (k + 1) false := by
    unfold ofL; rw [show ((2 * ((k : Int) + 1) + 1) / 2).toNat = k + 1 by omega, decide_eq_true (by omega)]; simp
  have nx : ∀ z : Int, 0 ≤ z → ofL (values n ins) (Lt.xor1 z) = !ofL (values n ins) z := fun z hz => ofL_x1 _ hz
  refine goodC_sat ?_
  rw [e] at ev ev1
  have key : ∃ y ∈ clL ((k : Int) + 1) r x, ofL (values n ins) y = true := by
    unfold clL
    rw [if_neg (by omega)]
    by_cases r0 : r = 0
    · rw [if_pos r0]
      cases ha : ofL (values n ins) x.1
      · exact ⟨2 * ((k : Int) + 1) + 1, by simp, by rw [ev1, ha]; rfl⟩
      · exact ⟨x.1, by simp, ha⟩
    · rw [if_neg r0]
      by_cases r1 : r = 1
      · rw [if_pos r1]
        cases hb : ofL (values n ins) x.2
        · exact ⟨2 * ((k : Int) + 1) + 1, by simp, by rw [ev1, hb]; simp⟩
        · exact ⟨x.2, by simp, hb⟩
      · rw [if_neg r1]
        cases ha : ofL (values n ins) x.1
        · exact ⟨Lt.xor1 x.1, by simp, by rw [nx _ h3, ha]; rfl⟩
        · cases hb : ofL (values n ins) x.2
          · exact ⟨Lt.xor1 x.2, by simp, by rw [nx _ hgx.2.1, hb]; rfl⟩
          · exact ⟨2 * ((k : Int) + 1), by simp, by rw [ev, ha, hb]; rfl⟩
  obtain ⟨y, hy, ho⟩ := key
  exact ⟨y, hy, by rw [litB (hk y hy), ho]; rfl⟩
theorem free_le {n : List (Int × Int)} (ins : List Bool) : LeV (free0 n.length) (valB (values n ins)) := fun i z hz => by
  cases i with
  | zero =>
    right
    simp at hz; subst hz
    have hk := (valB_ok (n := n) ins)
    obtain ⟨b, hb⟩ := getI (valB (values n ins)) (show 0 < (valB (values n ins)).length by rw [hk.len]; omega)
    have := hk.head
    rw [getD_of hb] at this
    rw [hb, this]
  | succ i =>
    left
    have hz' : (List.replicate n.length (2 : Int))[i]? = some z := hz
    rw [List.getElem?_replicate] at hz'
    split at hz'
    · exact (Option.some.inj hz').symm
    · cases hz'
/-- What is said holds of a model. -/
theorem said_so {n : List (Int × Int)} (hg : GoodNet n) (hn : n.length ≤ 1048576) (ins : List Bool) {l : List Int} {cs : List (List Int)} {o : Option (List Int)} (hl : ∀ x ∈ l, KnownP n [x] ∧ vC (valB (values n ins)) 0 [x] = 1) (hc : ∀ c ∈ cs, KnownP n c ∧ vC (valB (values n ins)) 0 c = 1) (h : OutK n l cs o) :
    ∃ V, o = some V ∧ LeV V (valB (values n ins)) ∧ V.length = n.length + 1 := by
  have hk : KnownP n l := fun x hx => (hl x hx).1 x (by simp)
  have hlit := CL.lits hg hn hk (cs := cs)
  have hgood : ∀ c, CL n l cs c → goodC (valB (values n ins)) c := fun c hcc => by
    rcases hcc with ⟨x, hx, rfl⟩ | hcc | ⟨hcc, _⟩
    · exact goodC_sat ((vC_one _ 0 (by decide)).1 (hl x hx).2)
    · exact gc_sat hg hn ins hcc
    · exact goodC_sat ((vC_one _ 0 (by decide)).1 (hc c hcc).2)
  have hO := h.1 hk
  cases o with
  | none =>
    obtain ⟨V, c, h1, h2, h3⟩ := hO
    exact (no_zero hlit (free0_ok1 _) (valB_ok ins) (free_le ins) hgood h1 h2 h3).elim
  | some V =>
    exact ⟨V, rfl, hO.1.le hlit (free0_ok1 _) (valB_ok ins) (free_le ins) hgood, (hO.1.ok hlit (free0_ok1 _)).1.len⟩
end Go.Proofs.Ytmaekaflpbenmaa
namespace Go.Proofs.Ytmaekaflpbenmaa
open Go Go.Lt Go.RowKit
set_option linter.unusedVariables false
set_option linter.unusedSimpArgs false

set_option maxHeartbeats 4000000 in
theorem ref22_ClauseW (ra : Option Addr) (ca : Nat) (n : List (Int × Int)) (why : Int) (w : World) (R : Row 2 encN w ra n) (hg : GoodNet n) (hn : n.length ≤ 1048576) (hw : inI64 why) :
    Lt.Spec Try.prog 51 [.slice ra n.length ca, .int .i64 why] w (IsFresh 1 encI 3 w (clW n why)) := by
  by_cases hout : why < 3 ∨ (n.length : Int) < why / 3
  · rw [clW, if_pos hout]
    by_cases hneg : why < 3
    · refine Spec.of _ Try.func51 rfl Try.ntmps51 (by kernel_rfl) rfl ?_
      repeat' (first
        | ((apply WL.quow; exact rfl; exact rfl; exact rfl; exact rfl; exact ⟨hw, by decide⟩))
        | (apply WL.gT; exact rfl; exact rfl; (focus (first | exact dec_true hneg | exact dec_true (by omega); done)))
        | (apply WL.gF; exact rfl; exact rfl; (focus (first | exact dec_true hneg | exact dec_true (by omega); done)))
        | (apply W.condKT; exact rfl; (focus (first | exact dec_true hneg | exact dec_true (by omega); done)))
        | (apply W.condKF; exact rfl; (focus (first | exact dec_true hneg | exact dec_true (by omega); done)))
        | (show WL _ _ _ _ _ _ _; first | apply WL.nil | (apply WL.pev tOk; exact rfl; exact rfl; exact rfl) | (apply WL.load tOk; exact rfl; exact rfl; exact rfl; exact rfl; exact rfl; (first | assumption | (focus (apply Ext.cell; rotate_left; assumption; (exact extA); done)))) | (apply WL.index tOk; exact rfl; exact rfl; exact rfl; exact rfl; exact rfl; exact rfl; exact rfl; exact rfl; assumption; (exact extA); exact rfl; omega; assumption; intro b off h; have hcc := h; first | (obtain ⟨h1, h2, h3, h4, h5, h6, _⟩ := h) | (obtain ⟨h1, h2, h3, _⟩ := h) | (obtain ⟨h1, h2, _⟩ := h) | (obtain ⟨h1, _⟩ := h)) | (apply WL.add; exact rfl; exact rfl; exact rfl; exact rfl; omega) | (apply WL.sub; exact rfl; exact rfl; exact rfl; exact rfl; omega) | (apply WL.mul; exact rfl; exact rfl; exact rfl; exact rfl; omega) | (apply WL.quo; exact rfl; exact rfl; exact rfl; exact rfl; omega) | (apply WL.rem; exact rfl; exact rfl; exact rfl; exact rfl; omega) | (apply WL.loadA tOk; exact rfl; exact rfl; exact rfl; exact rfl; exact rfl; (first | assumption | (focus (apply Cells.ext; rotate_left; assumption; (exact extA); done))); exact rfl) | (apply WL.guardF; exact rfl; exact rfl) | (apply WL.gD; exact rfl; exact rfl; all_goals intro _) | (apply WL.gN; exact rfl; exact rfl; all_goals intro _) | (apply WL.gB; exact rfl; exact rfl; all_goals intro _))
        | (show Z _ _ _ _ _; first | apply Z.tail | apply Z.then_normal | apply Z.block_normal | apply Z.then_exit | apply Z.block_exit | apply Z.then_ret | apply Z.block_ret | (apply Z.block_other; exact rfl))
        | (show W _ _ _ _ _ _; first | apply W.seq | apply W.region | apply W.block | apply W.skip | apply W.ret | apply W.exit | (apply W.condT; exact rfl) | (apply W.condF; exact rfl) | (apply W.condD; exact rfl; all_goals intro _) | (apply W.condN; exact rfl; all_goals intro _) | (apply W.condB; exact rfl; all_goals intro _)))
      all_goals exact Z.body1 Try.results51 rfl fun m => ⟨(Ext.refl _).at m, none, 0, rfl, Own.nil⟩
    · refine Spec.of _ Try.func51 rfl Try.ntmps51 (by kernel_rfl) rfl ?_
      repeat' (first
        | (apply WL.gT; exact rfl; exact rfl; (focus (first | exact dec_false hneg | exact dec_true (by omega); done)))
        | (apply WL.gF; exact rfl; exact rfl; (focus (first | exact dec_false hneg | exact dec_true (by omega); done)))
        | (apply W.condKT; exact rfl; (focus (first | exact dec_false hneg | exact dec_true (by omega); done)))
        | (apply W.condKF; exact rfl; (focus (first | exact dec_false hneg | exact dec_true (by omega); done)))
        | (show WL _ _ _ _ _ _ _; first | apply WL.nil | (apply WL.pev tOk; exact rfl; exact rfl; exact rfl) | (apply WL.load tOk; exact rfl; exact rfl; exact rfl; exact rfl; exact rfl; (first | assumption | (focus (apply Ext.cell; rotate_left; assumption; (exact extA); done)))) | (apply WL.index tOk; exact rfl; exact rfl; exact rfl; exact rfl; exact rfl; exact rfl; exact rfl; exact rfl; assumption; (exact extA); exact rfl; omega; assumption; intro b off h; have hcc := h; first | (obtain ⟨h1, h2, h3, h4, h5, h6, _⟩ := h) | (obtain ⟨h1, h2, h3, _⟩ := h) | (obtain ⟨h1, h2, _⟩ := h) | (obtain ⟨h1, _⟩ := h)) | (apply WL.add; exact rfl; exact rfl; exact rfl; exact rfl; omega) | (apply WL.sub; exact rfl; exact rfl; exact rfl; exact rfl; omega) | (apply WL.mul; exact rfl; exact rfl; exact rfl; exact rfl; omega) | (apply WL.quo; exact rfl; exact rfl; exact rfl; exact rfl; omega) | (apply WL.rem; exact rfl; exact rfl; exact rfl; exact rfl; omega) | (apply WL.loadA tOk; exact rfl; exact rfl; exact rfl; exact rfl; exact rfl; (first | assumption | (focus (apply Cells.ext; rotate_left; assumption; (exact extA); done))); exact rfl) | (apply WL.guardF; exact rfl; exact rfl) | (apply WL.gD; exact rfl; exact rfl; all_goals intro _) | (apply WL.gN; exact rfl; exact rfl; all_goals intro _) | (apply WL.gB; exact rfl; exact rfl; all_goals intro _))
        | (show Z _ _ _ _ _; first | apply Z.tail | apply Z.then_normal | apply Z.block_normal | apply Z.then_exit | apply Z.block_exit | apply Z.then_ret | apply Z.block_ret | (apply Z.block_other; exact rfl))
        | (show W _ _ _ _ _ _; first | apply W.seq | apply W.region | apply W.block | apply W.skip | apply W.ret | apply W.exit | (apply W.condT; exact rfl) | (apply W.condF; exact rfl) | (apply W.condD; exact rfl; all_goals intro _) | (apply W.condN; exact rfl; all_goals intro _) | (apply W.condB; exact rfl; all_goals intro _)))
      all_goals exact Z.body1 Try.results51 rfl fun m => ⟨(Ext.refl _).at m, none, 0, rfl, Own.nil⟩
  · obtain ⟨x, hx⟩ := getI n (show (why / 3 - 1).toNat < n.length by omega)
    have h := ref22_Clause ra ca n (why / 3 - 1).toNat (why % 3).toNat why x w R hg hn hx (by omega) (by omega)
    rw [clW, if_neg hout, hx]
    exact h
/-- If a net alone says nothing, nothing is said where nothing is set. -/
theorem plain_inv {n : List (Int × Int)} (hg : GoodNet n) (hn : n.length ≤ 1048576) {o : Option (List Int)} (h : OutK n [] [] o) (hp : ∀ (v : Nat) (z : Int), 1 ≤ v → (o.getD [])[v]? = some z → z = 2) {L : List T3} (hT : TOk n.length L) : InvR n 0 L := by
  have hk : KnownP n [] := fun x hx => by cases hx
  obtain ⟨V, rfl, hle, hVn⟩ := said_so hg hn [] (l := []) (cs := []) (fun x hx => by cases hx) (fun c hc => by cases hc) h
  have hO := h.1 hk
  have hok := (hO.1.ok (CL.lits hg hn hk) (free0_ok1 _)).1
  have eV : V = vOf n.length [] := by
    rw [vOf_nil]
    apply List.ext_getElem?
    intro i
    by_cases hi : i < n.length + 1
    · obtain ⟨z, hz⟩ := getI V (show i < V.length by omega)
      cases i with
      | zero =>
        have := hok.head
        rw [getD_of hz] at this
        rw [hz, this]; rfl
      | succ i =>
        rw [hz, hp (i + 1) z (by omega) hz]
        show _ = (List.replicate n.length (2 : Int))[i]?
        rw [List.getElem?_replicate, if_pos (by omega)]
    · rw [List.getElem?_eq_none (by omega), List.getElem?_eq_none (by simp; omega)]
  intro k x hx h0 hpend r hr
  have h1 := hO.2 (clL ((k : Int) + 1) r x) (.inr (.inl ⟨k, r, x, hx, hr, h0, rfl⟩))
  rw [eV] at h1
  have := good_app (L := []) (D := L) hg hn (by simpa using hT) hx h0 (fun y hy => by
    obtain ⟨i, hi, he⟩ := List.getElem_of_mem hy
    exact hpend i y (Nat.zero_le _) (by rw [List.getElem?_eq_getElem hi, he])) h1
  simpa using this
theorem place_lt {n : Nat} {L : List T3} (hT : TOk n L) {i : Nat} {z : Int} (h : valT n (L.take i) z = 0) : valT n L z = 0 ∧ (ofT n L (z / 2)).2.2 < i := by
  have e : L = L.take i ++ L.drop i := (List.take_append_drop i L).symm
  have hT' : TOk n (L.take i ++ L.drop i) := by rw [← e]; exact hT
  have h1 : valT n L z = 0 := by
    have := valT_keep hT' (z := z) (by rw [h]; decide)
    rw [← e] at this; rw [this, h]
  refine ⟨h1, ?_⟩
  have hr := h
  unfold valT at hr
  by_cases h01 : z = 0 ∨ z = 1
  · rw [if_pos h01] at hr
    subst hr
    rw [show (0 : Int) / 2 = 0 from rfl, ofT_zero]; show (-1 : Int) < i; omega
  · rw [if_neg h01] at hr
    by_cases h2 : 1 < z ∧ z / 2 ≤ (n : Int)
    · rw [if_pos h2] at hr
      cases hp : plc (z / 2) (L.take i) with
      | none => rw [hp] at hr; cases hr
      | some j =>
        obtain ⟨x, hx, hv⟩ := plc_some hp
        have hj := lt_of_get hx
        rw [List.length_take] at hj
        rw [List.getElem?_take, if_pos (by omega)] at hx
        rw [ofT_set hT hx hv]
        show ((j : Nat) : Int) < i; omega
    · rw [if_neg h2] at hr; cases hr
set_option maxHeartbeats 32000000 in
theorem law_ImplyRuns (ra rl : Option Addr) (ca cl : Nat) (n : List (Int × Int)) (l : List Int) (why : Int) (w : World) (R : Row 2 encN w ra n) (hna : ra = none → ca = 0) (Rl : Row 1 encI w rl l) (hl64 : ∀ x ∈ l, x ≤ 9223372036854775807) (hw64 : inI64 why) :
    Pure Try.prog 11 [.slice ra n.length ca, .slice rl l.length cl, .int .i64 why] w (.bool true) := by
  have hll := Rl.len
  by_cases hsm : (n.length ≤ 40 ∧ GoodNet n) ∧ l.length ≤ 30
  rotate_left
  · refine Spec.of _ Try.func11 rfl Try.ntmps11 (by kernel_rfl) rfl ?_
    repeat' (first
      | ((show WL _ _ _ (⟨_, .call ⟨.value (.func 40), _, _⟩, _, _, _, _⟩ :: _) _ _ _); apply WL.callS; exact rfl; exact rfl; exact rfl; exact rfl; exact law07_Small _ _ _ _ _ R (by omega))
      | ((show WL _ _ _ (⟨_, .call ⟨.value (.func 42), _, _⟩, _, _, _, _⟩ :: _) _ _ _); apply WL.callP; exact rfl; exact rfl; exact rfl; exact rfl; exact lives22 _; intro w' hx)
      | (show WL _ _ _ _ _ _ _; first | apply WL.nil | (apply WL.pev tOk; exact rfl; exact rfl; exact rfl) | (apply WL.load tOk; exact rfl; exact rfl; exact rfl; exact rfl; exact rfl; (first | assumption | (focus (apply Ext.cell; rotate_left; assumption; (exact extA); done)))) | (apply WL.index tOk; exact rfl; exact rfl; exact rfl; exact rfl; exact rfl; exact rfl; exact rfl; exact rfl; assumption; (exact extA); exact rfl; omega; assumption; intro b off h; have hcc := h; first | (obtain ⟨h1, h2, h3, h4, h5, h6, _⟩ := h) | (obtain ⟨h1, h2, h3, _⟩ := h) | (obtain ⟨h1, h2, _⟩ := h) | (obtain ⟨h1, _⟩ := h)) | (apply WL.add; exact rfl; exact rfl; exact rfl; exact rfl; omega) | (apply WL.sub; exact rfl; exact rfl; exact rfl; exact rfl; omega) | (apply WL.mul; exact rfl; exact rfl; exact rfl; exact rfl; omega) | (apply WL.quo; exact rfl; exact rfl; exact rfl; exact rfl; omega) | (apply WL.rem; exact rfl; exact rfl; exact rfl; exact rfl; omega) | (apply WL.loadA tOk; exact rfl; exact rfl; exact rfl; exact rfl; exact rfl; (first | assumption | (focus (apply Cells.ext; rotate_left; assumption; (exact extA); done))); exact rfl) | (apply WL.guardF; exact rfl; exact rfl) | (apply WL.gD; exact rfl; exact rfl; all_goals intro _) | (apply WL.gN; exact rfl; exact rfl; all_goals intro _) | (apply WL.gB; exact rfl; exact rfl; all_goals intro _))
      | (show Z _ _ _ _ _; first | apply Z.tail | apply Z.then_normal | apply Z.block_normal | apply Z.then_exit | apply Z.block_exit | apply Z.then_ret | apply Z.block_ret | (apply Z.block_other; exact rfl))
      | (show W _ _ _ _ _ _; first | apply W.seq | apply W.region | apply W.block | apply W.skip | apply W.ret | apply W.exit | (apply W.condT; exact rfl) | (apply W.condF; exact rfl) | (apply W.condD; exact rfl; all_goals intro _) | (apply W.condN; exact rfl; all_goals intro _) | (apply W.condB; exact rfl; all_goals intro _)))
    all_goals first
      | exact Z.body1 Try.results11 rfl fun m => ⟨rfl, Ext.at (by (exact extA)) m⟩
      | skip
    all_goals (exfalso; apply hsm; refine ⟨⟨?_, ?_⟩, ?_⟩ <;> first | assumption | omega | exact (And.right (by assumption)))
  obtain ⟨⟨hn, hg⟩, hl30⟩ := hsm
  have hn' : n.length ≤ 1048576 := by omega
  refine Spec.of _ Try.func11 rfl Try.ntmps11 (by kernel_rfl) rfl ?_
  repeat' (first
    | ((show WL _ _ _ (⟨_, .call ⟨.value (.func 40), _, _⟩, _, _, _, _⟩ :: _) _ _ _); apply WL.callS; exact rfl; exact rfl; exact rfl; exact rfl; exact law07_Small _ _ _ _ _ R (by omega))
    | (apply WL.nilc; exact rfl; exact rfl; exact rfl)
    | (apply WL.eqNilS tOk; exact rfl; exact rfl; exact rfl; exact rfl; exact rfl; exact rfl)
    | (apply WL.neNilS tOk; exact rfl; exact rfl; exact rfl; exact rfl; exact rfl; exact rfl)
    | (apply WL.eqNil tOk; exact rfl; exact rfl; exact rfl; exact rfl; exact rfl; exact rfl)
    | (apply WL.neNil tOk; exact rfl; exact rfl; exact rfl; exact rfl; exact rfl; exact rfl)
    | (apply WL.gT; exact rfl; exact rfl; (focus (first | (rw [dec_true (show ((n.length : Nat) : Int) ≤ 40 ∧ GoodNet n from ⟨by omega, hg⟩)]; rfl) | exact dec_false (by omega) | (rw [dec_true rfl]; rfl); done)))
    | (apply WL.gF; exact rfl; exact rfl; (focus (first | (rw [dec_true (show ((n.length : Nat) : Int) ≤ 40 ∧ GoodNet n from ⟨by omega, hg⟩)]; rfl) | exact dec_false (by omega) | (rw [dec_true rfl]; rfl); done)))
    | (apply W.condKT; exact rfl; (focus (first | (rw [dec_true (show ((n.length : Nat) : Int) ≤ 40 ∧ GoodNet n from ⟨by omega, hg⟩)]; rfl) | exact dec_false (by omega) | (rw [dec_true rfl]; rfl); done)))
    | (apply W.condKF; exact rfl; (focus (first | (rw [dec_true (show ((n.length : Nat) : Int) ≤ 40 ∧ GoodNet n from ⟨by omega, hg⟩)]; rfl) | exact dec_false (by omega) | (rw [dec_true rfl]; rfl); done)))
    | (((show WL _ _ _ (⟨_, .call ⟨.value (.func 49), _, _⟩, _, _, _, _⟩ :: _) _ _ _); apply WL.call; exact rfl; exact rfl; exact rfl; exact rfl; exact imply_New _ _ n _ R hna hg (by omega); rintro v' w1 ⟨hX1, gr, an, cn, ao, co, rs, rfl, hD1⟩))
    | (((show WL _ _ _ (⟨_, .call ⟨.value (.func 48), _, _⟩, _, _, _, _⟩ :: _) _ _ _); apply WL.call; exact rfl; exact rfl; exact rfl; exact rfl; exact trail_New n.length (by omega) w1 w1 (Ext.refl _); rintro v' w2 ⟨hX2, gt, rfl, hA2⟩))
    | ((show WL _ _ _ (⟨_, .call ⟨.value (.func 50), _, _⟩, _, _, _, _⟩ :: _) _ _ _); apply WL.call; exact rfl; exact rfl; exact rfl; exact rfl; exact imply_Clause w.heap.size gr n why _ ⟨_, _, _, _, _, hD1.keep (fun k _ hk => (show Ext w1 _ from (by (exact extA))).block k hk)⟩ hg hn' hw64.2; rintro v' w' ⟨hx, a', cap', rfl, hO⟩; (obtain ⟨hOa, rfl⟩ : ∃ x, x = hO := ⟨_, rfl⟩; obtain ⟨hxa, rfl⟩ : ∃ x, x = hx := ⟨_, rfl⟩; obtain ⟨wa, rfl⟩ : ∃ x, x = w' := ⟨_, rfl⟩; obtain ⟨aa, rfl⟩ : ∃ x, x = a' := ⟨_, rfl⟩; obtain ⟨ca2, rfl⟩ : ∃ x, x = cap' := ⟨_, rfl⟩))
    | ((show WL _ _ _ (⟨_, .call ⟨.value (.func 51), _, _⟩, _, _, _, _⟩ :: _) _ _ _); apply WL.call; exact rfl; exact rfl; exact rfl; exact rfl; exact ref22_ClauseW ra ca n why _ (R.ext (by (exact extA))) hg hn' hw64; rintro v' w' ⟨hx, a', cap', rfl, hO⟩; (obtain ⟨hOb, rfl⟩ : ∃ x, x = hO := ⟨_, rfl⟩; obtain ⟨hxb, rfl⟩ : ∃ x, x = hx := ⟨_, rfl⟩; obtain ⟨wb, rfl⟩ : ∃ x, x = w' := ⟨_, rfl⟩; obtain ⟨ab, rfl⟩ : ∃ x, x = a' := ⟨_, rfl⟩; obtain ⟨cb2, rfl⟩ : ∃ x, x = cap' := ⟨_, rfl⟩))
    | ((show WL _ _ _ (⟨_, .call ⟨.value (.func 22), _, _⟩, _, _, _, _⟩ :: _) _ _ _); apply WL.callS; exact rfl; exact rfl; exact rfl; exact rfl; exact ref_Ints _ _ _ _ (clW n why) (clW n why) _ ((Own.row encI_ok hOa).ext (by (exact extA))) ((Own.row encI_ok hOb).ext (by (exact extA))))
    | (apply WL.lit (len := 0) tOk; exact rfl; exact rfl; exact rfl; exact rfl; exact rfl; exact rfl; (first | exact rfl | kernel_rfl | (simp [Instr.fill, catCells]; done)); exact rfl; intro gb w' hb hge hc hx; have hO0 := Own.of_block0 (enc := encI) (s := 1) hb hge)
    | (show WL _ _ _ _ _ _ _; first | apply WL.nil | (apply WL.pev tOk; exact rfl; exact rfl; exact rfl) | (apply WL.load tOk; exact rfl; exact rfl; exact rfl; exact rfl; exact rfl; (first | assumption | (focus (apply Ext.cell; rotate_left; assumption; (exact extA); done)))) | (apply WL.index tOk; exact rfl; exact rfl; exact rfl; exact rfl; exact rfl; exact rfl; exact rfl; exact rfl; assumption; (exact extA); exact rfl; omega; assumption; intro b off h; have hcc := h; first | (obtain ⟨h1, h2, h3, h4, h5, h6, _⟩ := h) | (obtain ⟨h1, h2, h3, _⟩ := h) | (obtain ⟨h1, h2, _⟩ := h) | (obtain ⟨h1, _⟩ := h)) | (apply WL.add; exact rfl; exact rfl; exact rfl; exact rfl; omega) | (apply WL.sub; exact rfl; exact rfl; exact rfl; exact rfl; omega) | (apply WL.mul; exact rfl; exact rfl; exact rfl; exact rfl; omega) | (apply WL.quo; exact rfl; exact rfl; exact rfl; exact rfl; omega) | (apply WL.rem; exact rfl; exact rfl; exact rfl; exact rfl; omega) | (apply WL.loadA tOk; exact rfl; exact rfl; exact rfl; exact rfl; exact rfl; (first | assumption | (focus (apply Cells.ext; rotate_left; assumption; (exact extA); done))); exact rfl) | (apply WL.guardF; exact rfl; exact rfl) | (apply WL.gD; exact rfl; exact rfl; all_goals intro _) | (apply WL.gN; exact rfl; exact rfl; all_goals intro _) | (apply WL.gB; exact rfl; exact rfl; all_goals intro _))
    | (show Z _ _ _ _ _; first | apply Z.tail | apply Z.then_normal | apply Z.block_normal | apply Z.then_exit | apply Z.block_exit | apply Z.then_ret | apply Z.block_ret | (apply Z.block_other; exact rfl))
    | (show W _ _ _ _ _ _; first | apply W.seq | apply W.region | apply W.block | apply W.skip | apply W.ret | apply W.exit | (apply W.condT; exact rfl) | (apply W.condF; exact rfl) | (apply W.condD; exact rfl; all_goals intro _) | (apply W.condN; exact rfl; all_goals intro _) | (apply W.condB; exact rfl; all_goals intro _)))
  have hX12 : Ext w2 w' := (by (exact extA))
  have hA3 : TrAt w1.heap.size w' gt n.length [] [] [prow 1 encI 3 w1.heap.size (some ⟨gb, 0, none⟩) 0 []] := by
    obtain ⟨av, cv, am, cm, M, al, cl', ae, ce, hM, hS⟩ := hA2
    have h1 := Sep.newRow' (hS.ext (show Ext w2 wb from (by (exact extA)))) hx hO0 (show w1.heap.size ≤ wb.heap.size from (show Ext w1 wb from (by (exact extA))).size)
    exact ⟨av, cv, am, cm, M, al, cl', ae, ce, hM, Sep.comm (ps := [_]) h1⟩
  have hXw : Ext w1 w' := (by (exact extA))
  have hset : ∀ (w3 : World) (L : List T3) (rst : List Piece) (x : Int), Ext w1 w3 → TrAt w1.heap.size w3 gt n.length L [] rst → TOk n.length L → x ≤ 9223372036854775807 → Lt.Spec Try.prog 52 [.pointer (some ⟨gt, 0, none⟩), .int .i64 x, .int .i64 (-1)] w3 (fun v w' => Ext w1 w' ∧ v = .int .i64 (setE n.length L x) ∧ TrAt w1.heap.size w' gt n.length (setT n.length L x 0 (-1)) [] rst) := fun w3 L rst x h1 h2 h3 h4 => by
    obtain ⟨av, cv, am, cm', M, al, cl', ae, ce, hM, hS⟩ := h2
    exact trail_Set h1 hS h3 hM (by omega) (by have := h3.len_le; omega) x (-1) h4
  refine W.loop (fun s : Nat × List T3 × List Int × Option Addr × Nat × World => s.1 ≤ l.length ∧ Ext w1 s.2.2.2.2.2 ∧ TrAt w1.heap.size s.2.2.2.2.2 gt n.length s.2.1 [] [prow 1 encI 3 w1.heap.size s.2.2.2.1 s.2.2.2.2.1 s.2.2.1] ∧ TOk n.length s.2.1 ∧ s.2.2.1 = s.2.1.map (·.1) ∧ Rch (CL n s.2.2.1 []) (free0 n.length) (vOf n.length s.2.1) ∧ ∀ x ∈ s.2.2.1, valT n.length s.2.1 x = 1 ∧ 0 ≤ x ∧ x ≤ 2 * (n.length : Int) + 1) (fun s => [(0, .slice ra n.length ca), (1, .slice rl l.length cl), (2, .int .i64 why), (7, .pointer (some ⟨gr, 0, none⟩)), (8, .pointer (some ⟨gt, 0, none⟩)), (9, .slice s.2.2.2.1 s.2.2.1.length s.2.2.2.2.1), (10, .int .i64 s.1)]) (fun s => s.2.2.2.2.2) (fun s => l.length - s.1) (0, [], [], some ⟨gb, 0, none⟩, 0, w') ⟨Nat.zero_le _, hXw, hA3, TOk.nil _, rfl, by rw [vOf_nil]; exact .base, fun x h => by cases h⟩ ⟨rfl, rfl, rfl, rfl, rfl, rfl, rfl, trivial⟩ rfl ?_
  clear hA3 hX12 hXw hO0 hx
  rintro ⟨i, L, sd, a3, c3, w3⟩ ⟨hi, hX3, hA3, hT3, hsd, qR3, hS3⟩
  dsimp only at hi hX3 hA3 hT3 hsd qR3 hS3
  have hL3 := hT3.len_le
  have hsl : sd.length = L.length := by rw [hsd, List.length_map]
  by_cases hlt : i < l.length
  · obtain ⟨x, hxl⟩ := getI l hlt
    have hxm := List.mem_of_getElem? hxl
    have Rl3 := Rl.ext (hX1.trans hX3)
    have hsx := hset w3 L _ x hX3 hA3 hT3 (hl64 x hxm)
    rcases set_ways hT3 x 0 (-1) with ⟨k0, k1, k2, k3, k4, k5, k6, k7⟩ | ⟨k0, k1⟩
    · rw [k0, k1] at hsx
      repeat' (first
        | (apply WL.gT; exact rfl; exact rfl; (focus (first | exact dec_true (by omega) | exact dec_true rfl; done)))
        | (apply WL.gF; exact rfl; exact rfl; (focus (first | exact dec_true (by omega) | exact dec_true rfl; done)))
        | (apply W.condKT; exact rfl; (focus (first | exact dec_true (by omega) | exact dec_true rfl; done)))
        | (apply W.condKF; exact rfl; (focus (first | exact dec_true (by omega) | exact dec_true rfl; done)))
        | (((show WL _ _ _ (⟨_, .call ⟨.value (.func 52), _, _⟩, _, _, _, _⟩ :: _) _ _ _); apply WL.call; exact rfl; exact rfl; exact rfl; exact rfl; exact hsx; rintro v' w4 ⟨hX4, rfl, av, cv, am, cm, M, al, cl', ae, ce, hM, hS⟩; have hR5 := hS.row (i := 5) rfl; have Rl4 := Rl.ext (hX1.trans hX4)))
        | (apply WL.lit tOk; exact rfl; exact rfl; exact rfl; exact rfl; exact rfl; exact rfl; (first | exact rfl | kernel_rfl | (simp [Instr.fill, catCells]; done)); exact rfl; intro gb w' hb hge hc hx)
        | (apply WL.append1 (z := (x)) tOk encI_ok; exact rfl; exact rfl; exact rfl; exact rfl; exact rfl; exact rfl; exact rfl; exact rfl; exact rfl; exact rfl; assumption; (exact extA); (first | exact rfl | (simp; done) | (simp [*]; done) | omega | (simp only [List.length_set]; omega)); assumption; exact rfl; exact rfl; (exact extA); (first | omega | (simp; omega) | (simp at *; omega)); intro a' cap' w' hO hX' hU hF; (first | replace hS := Sep.updRow (i := 0) rfl hU hO hF hS (by (exact extA)) (by (first | exact Nat.le_refl _ | exact Below.size (by (exact extA)))) | replace hS := Sep.updRow (i := 1) rfl hU hO hF hS (by (exact extA)) (by (first | exact Nat.le_refl _ | exact Below.size (by (exact extA)))) | replace hS := Sep.updRow (i := 2) rfl hU hO hF hS (by (exact extA)) (by (first | exact Nat.le_refl _ | exact Below.size (by (exact extA)))) | replace hS := Sep.updRow (i := 3) rfl hU hO hF hS (by (exact extA)) (by (first | exact Nat.le_refl _ | exact Below.size (by (exact extA)))) | replace hS := Sep.updRow (i := 4) rfl hU hO hF hS (by (exact extA)) (by (first | exact Nat.le_refl _ | exact Below.size (by (exact extA)))) | replace hS := Sep.updRow (i := 5) rfl hU hO hF hS (by (exact extA)) (by (first | exact Nat.le_refl _ | exact Below.size (by (exact extA))))); (try simp only [List.set_cons_zero, List.set_cons_succ] at hS); (try have hR0 := hS.row (i := 0) rfl); (try have hR1 := hS.row (i := 1) rfl); (try have hR2 := hS.row (i := 2) rfl); (try have hR3 := hS.row (i := 3) rfl); (try have hR4 := hS.row (i := 4) rfl); (try have hC0 := hS.cell (i := 0) rfl); (try have hD0 := (cells_heap hC0).1); (try have hE0 := (cells_heap hC0).2.1); (try have hF0 := (cells_heap hC0).2.2.1); (try have hG0 := (cells_heap hC0).2.2.2.1); (try have hC1 := hS.cell (i := 1) rfl); (try have hD1 := (cells_heap hC1).1); (try have hE1 := (cells_heap hC1).2.1); (try have hF1 := (cells_heap hC1).2.2.1); (try have hG1 := (cells_heap hC1).2.2.2.1); (try have hC2 := hS.cell (i := 2) rfl); (try have hD2 := (cells_heap hC2).1); (try have hE2 := (cells_heap hC2).2.1); (try have hF2 := (cells_heap hC2).2.2.1); (try have hG2 := (cells_heap hC2).2.2.2.1); (try have hC3 := hS.cell (i := 3) rfl); (try have hD3 := (cells_heap hC3).1); (try have hE3 := (cells_heap hC3).2.1); (try have hF3 := (cells_heap hC3).2.2.1); (try have hG3 := (cells_heap hC3).2.2.2.1); (try have hC4 := hS.cell (i := 4) rfl); (try have hD4 := (cells_heap hC4).1); (try have hE4 := (cells_heap hC4).2.1); (try have hF4 := (cells_heap hC4).2.2.1); (try have hG4 := (cells_heap hC4).2.2.2.1); (try have hM0 := hS.map (i := 0) rfl); (try have hM1 := hS.map (i := 1) rfl); (try have hM2 := hS.map (i := 2) rfl); (try have hM3 := hS.map (i := 3) rfl); (try have hM4 := hS.map (i := 4) rfl))
        | (show WL _ _ _ _ _ _ _; first | apply WL.nil | (apply WL.pev tOk; exact rfl; exact rfl; exact rfl) | (apply WL.load tOk; exact rfl; exact rfl; exact rfl; exact rfl; exact rfl; (first | assumption | (focus (apply Ext.cell; rotate_left; assumption; (exact extA); done)))) | (apply WL.index tOk; exact rfl; exact rfl; exact rfl; exact rfl; exact rfl; exact rfl; exact rfl; exact rfl; assumption; (exact extA); exact rfl; omega; assumption; intro b off h; have hcc := h; first | (obtain ⟨h1, h2, h3, h4, h5, h6, _⟩ := h) | (obtain ⟨h1, h2, h3, _⟩ := h) | (obtain ⟨h1, h2, _⟩ := h) | (obtain ⟨h1, _⟩ := h)) | (apply WL.add; exact rfl; exact rfl; exact rfl; exact rfl; omega) | (apply WL.sub; exact rfl; exact rfl; exact rfl; exact rfl; omega) | (apply WL.mul; exact rfl; exact rfl; exact rfl; exact rfl; omega) | (apply WL.quo; exact rfl; exact rfl; exact rfl; exact rfl; omega) | (apply WL.rem; exact rfl; exact rfl; exact rfl; exact rfl; omega) | (apply WL.loadA tOk; exact rfl; exact rfl; exact rfl; exact rfl; exact rfl; (first | assumption | (focus (apply Cells.ext; rotate_left; assumption; (exact extA); done))); exact rfl) | (apply WL.guardF; exact rfl; exact rfl) | (apply WL.gD; exact rfl; exact rfl; all_goals intro _) | (apply WL.gN; exact rfl; exact rfl; all_goals intro _) | (apply WL.gB; exact rfl; exact rfl; all_goals intro _))
        | (show Z _ _ _ _ _; first | apply Z.tail | apply Z.then_normal | apply Z.block_normal | apply Z.then_exit | apply Z.block_exit | apply Z.then_ret | apply Z.block_ret | (apply Z.block_other; exact rfl))
        | (show W _ _ _ _ _ _; first | apply W.seq | apply W.region | apply W.block | apply W.skip | apply W.ret | apply W.exit | (apply W.condT; exact rfl) | (apply W.condF; exact rfl) | (apply W.condD; exact rfl; all_goals intro _) | (apply W.condN; exact rfl; all_goals intro _) | (apply W.condB; exact rfl; all_goals intro _)))
      refine Z.again (i + 1, L ++ [(x, 0, -1)], sd ++ [x], a', cap', w') ⟨by show i + 1 ≤ _; omega, hX', ⟨av, cv, am, cm, M, al, cl', ae, ce, hM, hS⟩, k2, by show sd ++ [x] = _; rw [hsd, List.map_append]; rfl, ?_, fun z hz => ?_⟩ (by show l.length - (i + 1) < l.length - i; omega) ⟨rfl, rfl, rfl, rfl, rfl, rfl, rfl, trivial⟩ rfl
      · have h1 := qR3.mono (D := CL n (sd ++ [x]) []) fun c hc => by
          rcases hc with ⟨z, hz, rfl⟩ | hc
          · exact .inl ⟨z, List.mem_append_left _ hz, rfl⟩
          · exact .inr hc
        have hu := one_unit hT3 hn' (x := x) (by omega) k5
        have := Rch.step h1 (c := [x]) (.inl ⟨x, by simp, rfl⟩) (by rw [hu]; exact k3)
        rw [hu, ← k6] at this
        exact this
      · rcases List.mem_append.1 hz with hz | hz
        · rw [valT_keep k2 (by rw [(hS3 z hz).1]; decide)]; exact hS3 z hz
        · rw [List.mem_singleton.1 hz]; exact ⟨k7, by omega, by omega⟩
    · rw [k1] at hsx
      repeat' (first
        | (apply WL.gT; exact rfl; exact rfl; (focus (first | exact dec_true (by omega) | exact dec_false k0; done)))
        | (apply WL.gF; exact rfl; exact rfl; (focus (first | exact dec_true (by omega) | exact dec_false k0; done)))
        | (apply W.condKT; exact rfl; (focus (first | exact dec_true (by omega) | exact dec_false k0; done)))
        | (apply W.condKF; exact rfl; (focus (first | exact dec_true (by omega) | exact dec_false k0; done)))
        | (((show WL _ _ _ (⟨_, .call ⟨.value (.func 52), _, _⟩, _, _, _, _⟩ :: _) _ _ _); apply WL.call; exact rfl; exact rfl; exact rfl; exact rfl; exact hsx; rintro v' w4 ⟨hX4, rfl, hA4⟩))
        | (show WL _ _ _ _ _ _ _; first | apply WL.nil | (apply WL.pev tOk; exact rfl; exact rfl; exact rfl) | (apply WL.load tOk; exact rfl; exact rfl; exact rfl; exact rfl; exact rfl; (first | assumption | (focus (apply Ext.cell; rotate_left; assumption; (exact extA); done)))) | (apply WL.index tOk; exact rfl; exact rfl; exact rfl; exact rfl; exact rfl; exact rfl; exact rfl; exact rfl; assumption; (exact extA); exact rfl; omega; assumption; intro b off h; have hcc := h; first | (obtain ⟨h1, h2, h3, h4, h5, h6, _⟩ := h) | (obtain ⟨h1, h2, h3, _⟩ := h) | (obtain ⟨h1, h2, _⟩ := h) | (obtain ⟨h1, _⟩ := h)) | (apply WL.add; exact rfl; exact rfl; exact rfl; exact rfl; omega) | (apply WL.sub; exact rfl; exact rfl; exact rfl; exact rfl; omega) | (apply WL.mul; exact rfl; exact rfl; exact rfl; exact rfl; omega) | (apply WL.quo; exact rfl; exact rfl; exact rfl; exact rfl; omega) | (apply WL.rem; exact rfl; exact rfl; exact rfl; exact rfl; omega) | (apply WL.loadA tOk; exact rfl; exact rfl; exact rfl; exact rfl; exact rfl; (first | assumption | (focus (apply Cells.ext; rotate_left; assumption; (exact extA); done))); exact rfl) | (apply WL.guardF; exact rfl; exact rfl) | (apply WL.gD; exact rfl; exact rfl; all_goals intro _) | (apply WL.gN; exact rfl; exact rfl; all_goals intro _) | (apply WL.gB; exact rfl; exact rfl; all_goals intro _))
        | (show Z _ _ _ _ _; first | apply Z.tail | apply Z.then_normal | apply Z.block_normal | apply Z.then_exit | apply Z.block_exit | apply Z.then_ret | apply Z.block_ret | (apply Z.block_other; exact rfl))
        | (show W _ _ _ _ _ _; first | apply W.seq | apply W.region | apply W.block | apply W.skip | apply W.ret | apply W.exit | (apply W.condT; exact rfl) | (apply W.condF; exact rfl) | (apply W.condD; exact rfl; all_goals intro _) | (apply W.condN; exact rfl; all_goals intro _) | (apply W.condB; exact rfl; all_goals intro _)))
      exact Z.again (i + 1, L, sd, a3, c3, w4) ⟨by show i + 1 ≤ _; omega, hX4, hA4, hT3, hsd, qR3, hS3⟩ (by show l.length - (i + 1) < l.length - i; omega) ⟨rfl, rfl, rfl, rfl, rfl, rfl, rfl, trivial⟩ rfl
  have hknS : KnownP n sd := fun x hx => (hS3 x hx).2
  have hX03 : Ext w w3 := hX1.trans hX3
  repeat' (first
    | (apply WL.gT; exact rfl; exact rfl; (focus (exact dec_false (by omega); done)))
    | (apply WL.gF; exact rfl; exact rfl; (focus (exact dec_false (by omega); done)))
    | (apply W.condKT; exact rfl; (focus (exact dec_false (by omega); done)))
    | (apply W.condKF; exact rfl; (focus (exact dec_false (by omega); done)))
    | (((show WL _ _ _ (⟨_, .call ⟨.value (.func 44), _, _⟩, _, _, _, _⟩ :: _) _ _ _); apply WL.call; exact rfl; exact rfl; exact rfl; exact rfl; exact ref22_CloseK ra none none ca 0 0 n [] [] _ (R.ext (by (exact extA))) (Row.nil _ _ _ _) (Row.nil _ _ _ _) (fun q h => by cases h) hg (by omega) (by decide) (by decide) (by decide); rintro v' w4 ⟨hX4, o0, ⟨a4, c4, rfl, R4⟩, hK0⟩))
    | (show WL _ _ _ _ _ _ _; first | apply WL.nil | (apply WL.pev tOk; exact rfl; exact rfl; exact rfl) | (apply WL.load tOk; exact rfl; exact rfl; exact rfl; exact rfl; exact rfl; (first | assumption | (focus (apply Ext.cell; rotate_left; assumption; (exact extA); done)))) | (apply WL.index tOk; exact rfl; exact rfl; exact rfl; exact rfl; exact rfl; exact rfl; exact rfl; exact rfl; assumption; (exact extA); exact rfl; omega; assumption; intro b off h; have hcc := h; first | (obtain ⟨h1, h2, h3, h4, h5, h6, _⟩ := h) | (obtain ⟨h1, h2, h3, _⟩ := h) | (obtain ⟨h1, h2, _⟩ := h) | (obtain ⟨h1, _⟩ := h)) | (apply WL.add; exact rfl; exact rfl; exact rfl; exact rfl; omega) | (apply WL.sub; exact rfl; exact rfl; exact rfl; exact rfl; omega) | (apply WL.mul; exact rfl; exact rfl; exact rfl; exact rfl; omega) | (apply WL.quo; exact rfl; exact rfl; exact rfl; exact rfl; omega) | (apply WL.rem; exact rfl; exact rfl; exact rfl; exact rfl; omega) | (apply WL.loadA tOk; exact rfl; exact rfl; exact rfl; exact rfl; exact rfl; (first | assumption | (focus (apply Cells.ext; rotate_left; assumption; (exact extA); done))); exact rfl) | (apply WL.guardF; exact rfl; exact rfl) | (apply WL.gD; exact rfl; exact rfl; all_goals intro _) | (apply WL.gN; exact rfl; exact rfl; all_goals intro _) | (apply WL.gB; exact rfl; exact rfl; all_goals intro _))
    | (show Z _ _ _ _ _; first | apply Z.tail | apply Z.then_normal | apply Z.block_normal | apply Z.then_exit | apply Z.block_exit | apply Z.then_ret | apply Z.block_ret | (apply Z.block_other; exact rfl))
    | (show W _ _ _ _ _ _; first | apply W.seq | apply W.region | apply W.block | apply W.skip | apply W.ret | apply W.exit | (apply W.condT; exact rfl) | (apply W.condF; exact rfl) | (apply W.condD; exact rfl; all_goals intro _) | (apply W.condN; exact rfl; all_goals intro _) | (apply W.condB; exact rfl; all_goals intro _)))
  have hA4 := hA3.ext hX4
  have hX14 : Ext w1 w4 := hX3.trans hX4
  have hlo := R4.len
  refine W.loop (fun v : Nat => 1 ≤ v ∧ ∀ (u : Nat) (z : Int), 1 ≤ u → u < v → (o0.getD [])[u]? = some z → z = 2) (fun v => [(0, .slice ra n.length ca), (2, .int .i64 why), (7, .pointer (some ⟨gr, 0, none⟩)), (8, .pointer (some ⟨gt, 0, none⟩)), (9, .slice a3 sd.length c3), (11, .slice a4 (o0.getD []).length c4), (13, .int .i64 v)]) (fun _ => w4) (fun v => (o0.getD []).length - v) 1 ⟨Nat.le_refl _, fun u z h1 h2 => absurd h2 (by omega)⟩ ⟨rfl, rfl, rfl, rfl, rfl, rfl, rfl, trivial⟩ rfl ?_
  rintro v ⟨hv1, hv2⟩
  by_cases hlt2 : v < (o0.getD []).length
  · obtain ⟨z, hz⟩ := getI (o0.getD []) hlt2
    by_cases hz2 : z = 2
    · repeat' (first
        | (apply WL.gT; exact rfl; exact rfl; (focus (first | exact dec_true (by omega) | exact dec_false (fun h => h hz2); done)))
        | (apply WL.gF; exact rfl; exact rfl; (focus (first | exact dec_true (by omega) | exact dec_false (fun h => h hz2); done)))
        | (apply W.condKT; exact rfl; (focus (first | exact dec_true (by omega) | exact dec_false (fun h => h hz2); done)))
        | (apply W.condKF; exact rfl; (focus (first | exact dec_true (by omega) | exact dec_false (fun h => h hz2); done)))
        | (show WL _ _ _ _ _ _ _; first | apply WL.nil | (apply WL.pev tOk; exact rfl; exact rfl; exact rfl) | (apply WL.load tOk; exact rfl; exact rfl; exact rfl; exact rfl; exact rfl; (first | assumption | (focus (apply Ext.cell; rotate_left; assumption; (exact extA); done)))) | (apply WL.index tOk; exact rfl; exact rfl; exact rfl; exact rfl; exact rfl; exact rfl; exact rfl; exact rfl; assumption; (exact extA); exact rfl; omega; assumption; intro b off h; have hcc := h; first | (obtain ⟨h1, h2, h3, h4, h5, h6, _⟩ := h) | (obtain ⟨h1, h2, h3, _⟩ := h) | (obtain ⟨h1, h2, _⟩ := h) | (obtain ⟨h1, _⟩ := h)) | (apply WL.add; exact rfl; exact rfl; exact rfl; exact rfl; omega) | (apply WL.sub; exact rfl; exact rfl; exact rfl; exact rfl; omega) | (apply WL.mul; exact rfl; exact rfl; exact rfl; exact rfl; omega) | (apply WL.quo; exact rfl; exact rfl; exact rfl; exact rfl; omega) | (apply WL.rem; exact rfl; exact rfl; exact rfl; exact rfl; omega) | (apply WL.loadA tOk; exact rfl; exact rfl; exact rfl; exact rfl; exact rfl; (first | assumption | (focus (apply Cells.ext; rotate_left; assumption; (exact extA); done))); exact rfl) | (apply WL.guardF; exact rfl; exact rfl) | (apply WL.gD; exact rfl; exact rfl; all_goals intro _) | (apply WL.gN; exact rfl; exact rfl; all_goals intro _) | (apply WL.gB; exact rfl; exact rfl; all_goals intro _))
        | (show Z _ _ _ _ _; first | apply Z.tail | apply Z.then_normal | apply Z.block_normal | apply Z.then_exit | apply Z.block_exit | apply Z.then_ret | apply Z.block_ret | (apply Z.block_other; exact rfl))
        | (show W _ _ _ _ _ _; first | apply W.seq | apply W.region | apply W.block | apply W.skip | apply W.ret | apply W.exit | (apply W.condT; exact rfl) | (apply W.condF; exact rfl) | (apply W.condD; exact rfl; all_goals intro _) | (apply W.condN; exact rfl; all_goals intro _) | (apply W.condB; exact rfl; all_goals intro _)))
      refine Z.again (v + 1) ⟨by omega, fun u y h1 h2 hy => ?_⟩ (by show (o0.getD []).length - (v + 1) < (o0.getD []).length - v; omega) ⟨rfl, rfl, rfl, rfl, rfl, rfl, rfl, trivial⟩ rfl
      by_cases he : u = v
      · subst he; rw [hz] at hy; rw [← Option.some.inj hy]; exact hz2
      · exact hv2 u y h1 (by omega) hy
    · repeat' (first
        | (apply WL.gT; exact rfl; exact rfl; (focus (first | exact dec_true (by omega) | exact dec_true hz2; done)))
        | (apply WL.gF; exact rfl; exact rfl; (focus (first | exact dec_true (by omega) | exact dec_true hz2; done)))
        | (apply W.condKT; exact rfl; (focus (first | exact dec_true (by omega) | exact dec_true hz2; done)))
        | (apply W.condKF; exact rfl; (focus (first | exact dec_true (by omega) | exact dec_true hz2; done)))
        | ((show WL _ _ _ (⟨_, .call ⟨.value (.func 42), _, _⟩, _, _, _, _⟩ :: _) _ _ _); apply WL.callP; exact rfl; exact rfl; exact rfl; exact rfl; exact lives22 _; intro w' hx)
        | (show WL _ _ _ _ _ _ _; first | apply WL.nil | (apply WL.pev tOk; exact rfl; exact rfl; exact rfl) | (apply WL.load tOk; exact rfl; exact rfl; exact rfl; exact rfl; exact rfl; (first | assumption | (focus (apply Ext.cell; rotate_left; assumption; (exact extA); done)))) | (apply WL.index tOk; exact rfl; exact rfl; exact rfl; exact rfl; exact rfl; exact rfl; exact rfl; exact rfl; assumption; (exact extA); exact rfl; omega; assumption; intro b off h; have hcc := h; first | (obtain ⟨h1, h2, h3, h4, h5, h6, _⟩ := h) | (obtain ⟨h1, h2, h3, _⟩ := h) | (obtain ⟨h1, h2, _⟩ := h) | (obtain ⟨h1, _⟩ := h)) | (apply WL.add; exact rfl; exact rfl; exact rfl; exact rfl; omega) | (apply WL.sub; exact rfl; exact rfl; exact rfl; exact rfl; omega) | (apply WL.mul; exact rfl; exact rfl; exact rfl; exact rfl; omega) | (apply WL.quo; exact rfl; exact rfl; exact rfl; exact rfl; omega) | (apply WL.rem; exact rfl; exact rfl; exact rfl; exact rfl; omega) | (apply WL.loadA tOk; exact rfl; exact rfl; exact rfl; exact rfl; exact rfl; (first | assumption | (focus (apply Cells.ext; rotate_left; assumption; (exact extA); done))); exact rfl) | (apply WL.guardF; exact rfl; exact rfl) | (apply WL.gD; exact rfl; exact rfl; all_goals intro _) | (apply WL.gN; exact rfl; exact rfl; all_goals intro _) | (apply WL.gB; exact rfl; exact rfl; all_goals intro _))
        | (show Z _ _ _ _ _; first | apply Z.tail | apply Z.then_normal | apply Z.block_normal | apply Z.then_exit | apply Z.block_exit | apply Z.then_ret | apply Z.block_ret | (apply Z.block_other; exact rfl))
        | (show W _ _ _ _ _ _; first | apply W.seq | apply W.region | apply W.block | apply W.skip | apply W.ret | apply W.exit | (apply W.condT; exact rfl) | (apply W.condF; exact rfl) | (apply W.condD; exact rfl; all_goals intro _) | (apply W.condN; exact rfl; all_goals intro _) | (apply W.condB; exact rfl; all_goals intro _)))
      exact Z.body1 Try.results11 rfl fun m => ⟨rfl, Ext.at (by (exact extA)) m⟩
  have hI0 : InvR n 0 L := plain_inv hg hn' hK0 (fun u z h1 h2 => hv2 u z h1 (by have := lt_of_get h2; omega) h2) hT3
  have HD : KeepsT w1 gt n [] [prow 1 encI 3 w1.heap.size a3 c3 sd] (fun w' => RulesD w.heap.size w' gr n an cn ao co rs) := fun w' L' h1 _ => hD1.keep fun k _ hk => h1.block k hk
  repeat' (first
    | (apply WL.gT; exact rfl; exact rfl; (focus (exact dec_false (by omega); done)))
    | (apply WL.gF; exact rfl; exact rfl; (focus (exact dec_false (by omega); done)))
    | (apply W.condKT; exact rfl; (focus (exact dec_false (by omega); done)))
    | (apply W.condKF; exact rfl; (focus (exact dec_false (by omega); done)))
    | (((show WL _ _ _ (⟨_, .call ⟨.value (.func 47), _, _⟩, _, _, _, _⟩ :: _) _ _ _); apply WL.call; exact rfl; exact rfl; exact rfl; exact rfl; exact imply_Run w.heap.size gr gt n L [] _ an ao cn co rs w4 w1 hX14 hA4 hT3 HD hg hn' 0 (Nat.zero_le _) hI0; rintro v' w5 ⟨hX5, L5, t5, c5, rfl, hA5, hR5, hr5⟩))
    | (show WL _ _ _ _ _ _ _; first | apply WL.nil | (apply WL.pev tOk; exact rfl; exact rfl; exact rfl) | (apply WL.load tOk; exact rfl; exact rfl; exact rfl; exact rfl; exact rfl; (first | assumption | (focus (apply Ext.cell; rotate_left; assumption; (exact extA); done)))) | (apply WL.index tOk; exact rfl; exact rfl; exact rfl; exact rfl; exact rfl; exact rfl; exact rfl; exact rfl; assumption; (exact extA); exact rfl; omega; assumption; intro b off h; have hcc := h; first | (obtain ⟨h1, h2, h3, h4, h5, h6, _⟩ := h) | (obtain ⟨h1, h2, h3, _⟩ := h) | (obtain ⟨h1, h2, _⟩ := h) | (obtain ⟨h1, _⟩ := h)) | (apply WL.add; exact rfl; exact rfl; exact rfl; exact rfl; omega) | (apply WL.sub; exact rfl; exact rfl; exact rfl; exact rfl; omega) | (apply WL.mul; exact rfl; exact rfl; exact rfl; exact rfl; omega) | (apply WL.quo; exact rfl; exact rfl; exact rfl; exact rfl; omega) | (apply WL.rem; exact rfl; exact rfl; exact rfl; exact rfl; omega) | (apply WL.loadA tOk; exact rfl; exact rfl; exact rfl; exact rfl; exact rfl; (first | assumption | (focus (apply Cells.ext; rotate_left; assumption; (exact extA); done))); exact rfl) | (apply WL.guardF; exact rfl; exact rfl) | (apply WL.gD; exact rfl; exact rfl; all_goals intro _) | (apply WL.gN; exact rfl; exact rfl; all_goals intro _) | (apply WL.gB; exact rfl; exact rfl; all_goals intro _))
    | (show Z _ _ _ _ _; first | apply Z.tail | apply Z.then_normal | apply Z.block_normal | apply Z.then_exit | apply Z.block_exit | apply Z.then_ret | apply Z.block_ret | (apply Z.block_other; exact rfl))
    | (show W _ _ _ _ _ _; first | apply W.seq | apply W.region | apply W.block | apply W.skip | apply W.ret | apply W.exit | (apply W.condT; exact rfl) | (apply W.condF; exact rfl) | (apply W.condD; exact rfl; all_goals intro _) | (apply W.condN; exact rfl; all_goals intro _) | (apply W.condB; exact rfl; all_goals intro _)))
  obtain ⟨av, cv, am, cm, M, al, cl', ae, ce, hM, hS⟩ := hA5
  have hsaid := hS.row (i := 5) rfl
  have Rsaid := Own.row encI_ok hsaid
  have hcap := hsaid.capLe
  have hL5 := hR5.tok.len_le
  have hXw5 : Ext w w5 := hX1.trans hX5
  have hR5' : Rch (CL n sd []) (free0 n.length) (vOf n.length L5) := qR3.trans (rch_gc hR5.rch)
  obtain ⟨D5, hD5⟩ := hR5.pre
  rcases hr5 with ⟨rfl, rfl, hI5⟩ | ⟨ht5, k, j, x, hxn, h0, hj, rfl, hz5⟩
  · have hK : OutK n sd [] (some (vOf n.length L5)) := ⟨fun _ => ⟨hR5', fun c hc => by
      rcases hc with ⟨x, hx, rfl⟩ | ⟨k, r, x, k1, k2, k3, rfl⟩ | ⟨hc, _⟩
      · refine goodC_sat ⟨x, by simp, ?_⟩
        rw [lit3_vOf hR5.tok hn', hD5, valT_keep (by rw [← hD5]; exact hR5.tok) (by rw [(hS3 x hx).1]; decide)]; exact (hS3 x hx).1
      · exact hI5 k x k1 k3 (fun i y hi hy => absurd (lt_of_get hy) (by omega)) r k2
      · cases hc⟩, fun h => absurd hknS h⟩
    repeat' (first
      | (((show WL _ _ _ (⟨_, .call ⟨.value (.func 44), _, _⟩, _, _, _, _⟩ :: _) _ _ _); apply WL.call; exact rfl; exact rfl; exact rfl; exact rfl; exact ref22_CloseK ra a3 none ca c3 0 n sd [] _ (R.ext (by (exact extA))) Rsaid (Row.nil _ _ _ _) (fun q h => by cases h) hg (by omega) (by omega) hcap (by decide); rintro v' w6 ⟨hX6, o1, ⟨a6, c6, rfl, R6⟩, hK1⟩; obtain rfl := outK_unique hg hn' hK1 hK; have R6' : Row 1 encI w6 a6 (vOf n.length L5) := R6))
      | (apply WL.gT; exact rfl; exact rfl; (focus (first | exact dec_false (fun h => h (dec_true (by decide))) | exact dec_false (by show ¬ (0 : Int) ≤ -1; decide) | exact dec_false (fun h => h (by rw [List.length_map])) | (rw [dec_true rfl]; rfl); done)))
      | (apply WL.gF; exact rfl; exact rfl; (focus (first | exact dec_false (fun h => h (dec_true (by decide))) | exact dec_false (by show ¬ (0 : Int) ≤ -1; decide) | exact dec_false (fun h => h (by rw [List.length_map])) | (rw [dec_true rfl]; rfl); done)))
      | (apply W.condKT; exact rfl; (focus (first | exact dec_false (fun h => h (dec_true (by decide))) | exact dec_false (by show ¬ (0 : Int) ≤ -1; decide) | exact dec_false (fun h => h (by rw [List.length_map])) | (rw [dec_true rfl]; rfl); done)))
      | (apply W.condKF; exact rfl; (focus (first | exact dec_false (fun h => h (dec_true (by decide))) | exact dec_false (by show ¬ (0 : Int) ≤ -1; decide) | exact dec_false (fun h => h (by rw [List.length_map])) | (rw [dec_true rfl]; rfl); done)))
      | ((show WL _ _ _ (⟨_, .call ⟨.value (.func 55), _, _⟩, _, _, _, _⟩ :: _) _ _ _); apply WL.call; exact rfl; exact rfl; exact rfl; exact rfl; exact trail_List (hS.ext (by (exact extA))) (by rw [List.length_map]; omega); rintro v' w' ⟨hx, a', cap', rfl, hO⟩; (obtain ⟨hOl, rfl⟩ : ∃ x, x = hO := ⟨_, rfl⟩; obtain ⟨hxl, rfl⟩ : ∃ x, x = hx := ⟨_, rfl⟩; obtain ⟨wl, rfl⟩ : ∃ x, x = w' := ⟨_, rfl⟩; obtain ⟨al2, rfl⟩ : ∃ x, x = a' := ⟨_, rfl⟩; obtain ⟨cl2, rfl⟩ : ∃ x, x = cap' := ⟨_, rfl⟩))
      | ((show WL _ _ _ (⟨_, .call ⟨.value (.func 54), _, _⟩, _, _, _, _⟩ :: _) _ _ _); apply WL.call; exact rfl; exact rfl; exact rfl; exact rfl; exact trail_Values (hS.ext (by (exact extA))) (vOf_len _ _) (by omega); rintro v' w' ⟨hx, a', cap', rfl, hO⟩; (obtain ⟨hOv, rfl⟩ : ∃ x, x = hO := ⟨_, rfl⟩; obtain ⟨hxv, rfl⟩ : ∃ x, x = hx := ⟨_, rfl⟩; obtain ⟨wv, rfl⟩ : ∃ x, x = w' := ⟨_, rfl⟩; obtain ⟨av2, rfl⟩ : ∃ x, x = a' := ⟨_, rfl⟩; obtain ⟨cv2, rfl⟩ : ∃ x, x = cap' := ⟨_, rfl⟩))
      | ((show WL _ _ _ (⟨_, .call ⟨.value (.func 22), _, _⟩, _, _, _, _⟩ :: _) _ _ _); apply WL.callS; exact rfl; exact rfl; exact rfl; exact rfl; exact ref_Ints _ _ _ _ (vOf n.length L5) (vOf n.length L5) _ (Own.row encI_ok hOv) (R6'.ext (by (exact extA))))
      | (show WL _ _ _ _ _ _ _; first | apply WL.nil | (apply WL.pev tOk; exact rfl; exact rfl; exact rfl) | (apply WL.load tOk; exact rfl; exact rfl; exact rfl; exact rfl; exact rfl; (first | assumption | (focus (apply Ext.cell; rotate_left; assumption; (exact extA); done)))) | (apply WL.index tOk; exact rfl; exact rfl; exact rfl; exact rfl; exact rfl; exact rfl; exact rfl; exact rfl; assumption; (exact extA); exact rfl; omega; assumption; intro b off h; have hcc := h; first | (obtain ⟨h1, h2, h3, h4, h5, h6, _⟩ := h) | (obtain ⟨h1, h2, h3, _⟩ := h) | (obtain ⟨h1, h2, _⟩ := h) | (obtain ⟨h1, _⟩ := h)) | (apply WL.add; exact rfl; exact rfl; exact rfl; exact rfl; omega) | (apply WL.sub; exact rfl; exact rfl; exact rfl; exact rfl; omega) | (apply WL.mul; exact rfl; exact rfl; exact rfl; exact rfl; omega) | (apply WL.quo; exact rfl; exact rfl; exact rfl; exact rfl; omega) | (apply WL.rem; exact rfl; exact rfl; exact rfl; exact rfl; omega) | (apply WL.loadA tOk; exact rfl; exact rfl; exact rfl; exact rfl; exact rfl; (first | assumption | (focus (apply Cells.ext; rotate_left; assumption; (exact extA); done))); exact rfl) | (apply WL.guardF; exact rfl; exact rfl) | (apply WL.gD; exact rfl; exact rfl; all_goals intro _) | (apply WL.gN; exact rfl; exact rfl; all_goals intro _) | (apply WL.gB; exact rfl; exact rfl; all_goals intro _))
      | (show Z _ _ _ _ _; first | apply Z.tail | apply Z.then_normal | apply Z.block_normal | apply Z.then_exit | apply Z.block_exit | apply Z.then_ret | apply Z.block_ret | (apply Z.block_other; exact rfl))
      | (show W _ _ _ _ _ _; first | apply W.seq | apply W.region | apply W.block | apply W.skip | apply W.ret | apply W.exit | (apply W.condT; exact rfl) | (apply W.condF; exact rfl) | (apply W.condD; exact rfl; all_goals intro _) | (apply W.condN; exact rfl; all_goals intro _) | (apply W.condB; exact rfl; all_goals intro _)))
    have RL := (Own.row encI_ok hOl).ext hxv
    have hSv := hS.ext (show Ext w5 wv from (by (exact extA)))
    have hXwv : Ext w wv := (by (exact extA))
    have hsl5 : sd.length ≤ L5.length := by rw [hD5, List.length_append]; omega
    have hLl : (L5.map (·.1)).length = L5.length := List.length_map _
    refine W.loop (fun s : Nat × World => sd.length ≤ s.1 ∧ s.1 ≤ L5.length ∧ Ext wv s.2) (fun s => [(0, .slice ra n.length ca), (8, .pointer (some ⟨gt, 0, none⟩)), (19, .slice al2 (L5.map (·.1)).length cl2), (20, .int .i64 s.1)]) (fun s => s.2) (fun s => L5.length - s.1) (sd.length, wv) ⟨Nat.le_refl _, hsl5, Ext.refl _⟩ ⟨rfl, rfl, rfl, rfl, trivial⟩ rfl ?_
    rintro ⟨i, w7⟩ ⟨hi1, hi2, hX7⟩
    dsimp only at hi1 hi2 hX7
    by_cases hlt3 : i < L5.length
    rotate_left
    · repeat' (first
        | (apply WL.gT; exact rfl; exact rfl; (focus (exact dec_false (by omega); done)))
        | (apply WL.gF; exact rfl; exact rfl; (focus (exact dec_false (by omega); done)))
        | (apply W.condKT; exact rfl; (focus (exact dec_false (by omega); done)))
        | (apply W.condKF; exact rfl; (focus (exact dec_false (by omega); done)))
        | ((show WL _ _ _ (⟨_, .call ⟨.value (.func 42), _, _⟩, _, _, _, _⟩ :: _) _ _ _); apply WL.callP; exact rfl; exact rfl; exact rfl; exact rfl; exact lives22 _; intro w' hx)
        | (show WL _ _ _ _ _ _ _; first | apply WL.nil | (apply WL.pev tOk; exact rfl; exact rfl; exact rfl) | (apply WL.load tOk; exact rfl; exact rfl; exact rfl; exact rfl; exact rfl; (first | assumption | (focus (apply Ext.cell; rotate_left; assumption; (exact extA); done)))) | (apply WL.index tOk; exact rfl; exact rfl; exact rfl; exact rfl; exact rfl; exact rfl; exact rfl; exact rfl; assumption; (exact extA); exact rfl; omega; assumption; intro b off h; have hcc := h; first | (obtain ⟨h1, h2, h3, h4, h5, h6, _⟩ := h) | (obtain ⟨h1, h2, h3, _⟩ := h) | (obtain ⟨h1, h2, _⟩ := h) | (obtain ⟨h1, _⟩ := h)) | (apply WL.add; exact rfl; exact rfl; exact rfl; exact rfl; omega) | (apply WL.sub; exact rfl; exact rfl; exact rfl; exact rfl; omega) | (apply WL.mul; exact rfl; exact rfl; exact rfl; exact rfl; omega) | (apply WL.quo; exact rfl; exact rfl; exact rfl; exact rfl; omega) | (apply WL.rem; exact rfl; exact rfl; exact rfl; exact rfl; omega) | (apply WL.loadA tOk; exact rfl; exact rfl; exact rfl; exact rfl; exact rfl; (first | assumption | (focus (apply Cells.ext; rotate_left; assumption; (exact extA); done))); exact rfl) | (apply WL.guardF; exact rfl; exact rfl) | (apply WL.gD; exact rfl; exact rfl; all_goals intro _) | (apply WL.gN; exact rfl; exact rfl; all_goals intro _) | (apply WL.gB; exact rfl; exact rfl; all_goals intro _))
        | (show Z _ _ _ _ _; first | apply Z.tail | apply Z.then_normal | apply Z.block_normal | apply Z.then_exit | apply Z.block_exit | apply Z.then_ret | apply Z.block_ret | (apply Z.block_other; exact rfl))
        | (show W _ _ _ _ _ _; first | apply W.seq | apply W.region | apply W.block | apply W.skip | apply W.ret | apply W.exit | (apply W.condT; exact rfl) | (apply W.condF; exact rfl) | (apply W.condD; exact rfl; all_goals intro _) | (apply W.condN; exact rfl; all_goals intro _) | (apply W.condB; exact rfl; all_goals intro _)))
      exact Z.body1 Try.results11 rfl fun m => ⟨rfl, Ext.at (by (exact extA)) m⟩
    obtain ⟨y, hy⟩ := getI L5 hlt3
    obtain ⟨k, r, x, hxn, h0, hr3, hyr, hym, hyz⟩ := hR5.rea L.length (Rea.start n L) i y (by omega) hy
    have hy1 : (L5.map (·.1))[((i : Nat) : Int).toNat]? = some y.1 := by rw [Int.toNat_natCast, List.getElem?_map, hy]; rfl
    have hyb := hR5.tok.1 y (List.mem_of_getElem? hy)
    have hxl := lt_of_get hxn
    have hwhy := fun (w9 : World) (h9 : Ext w5 w9) => trail_Why (hS.ext h9) hR5.tok hM hn' (y.1 / 2)
    rw [ofT_set hR5.tok hy rfl] at hwhy
    have hcl := fun (w9 : World) (h9 : Ext w w9) => ref22_ClauseW ra ca n y.2.2 w9 (R.ext h9) hg hn' (by rw [hyr]; constructor <;> omega)
    rw [clW_at hxn hr3 hyr] at hcl
    have hgc : GC n (clL ((k : Int) + 1) r x) := ⟨k, r, x, hxn, hr3, h0, rfl⟩
    have hclk := hgc.lits hg
    have RL7 := RL.ext hX7
    repeat' (first
      | (apply WL.gT; exact rfl; exact rfl; (focus (first | exact dec_true (by omega) | (rw [dec_true hym]; rfl); done)))
      | (apply WL.gF; exact rfl; exact rfl; (focus (first | exact dec_true (by omega) | (rw [dec_true hym]; rfl); done)))
      | (apply W.condKT; exact rfl; (focus (first | exact dec_true (by omega) | (rw [dec_true hym]; rfl); done)))
      | (apply W.condKF; exact rfl; (focus (first | exact dec_true (by omega) | (rw [dec_true hym]; rfl); done)))
      | (apply WL.callP; exact rfl; exact rfl; exact rfl; exact rfl; exact hwhy _ (by (exact extA)); intro w' hx)
      | (apply WL.call; exact rfl; exact rfl; exact rfl; exact rfl; exact hcl _ (by (exact extA)); rintro v' w' ⟨hx, a', cap', rfl, hO⟩; (obtain ⟨hOc, rfl⟩ : ∃ x, x = hO := ⟨_, rfl⟩; obtain ⟨hxc, rfl⟩ : ∃ x, x = hx := ⟨_, rfl⟩; obtain ⟨wc, rfl⟩ : ∃ x, x = w' := ⟨_, rfl⟩; obtain ⟨ac, rfl⟩ : ∃ x, x = a' := ⟨_, rfl⟩; obtain ⟨cc2, rfl⟩ : ∃ x, x = cap' := ⟨_, rfl⟩))
      | ((show WL _ _ _ (⟨_, .call ⟨.value (.func 57), _, _⟩, _, _, _, _⟩ :: _) _ _ _); apply WL.callS; exact rfl; exact rfl; exact rfl; exact rfl; exact ref_Has _ _ (clL ((k : Int) + 1) r x) y.1 _ (Own.row encI_ok hOc))
      | (show WL _ _ _ _ _ _ _; first | apply WL.nil | (apply WL.pev tOk; exact rfl; exact rfl; exact rfl) | (apply WL.load tOk; exact rfl; exact rfl; exact rfl; exact rfl; exact rfl; (first | assumption | (focus (apply Ext.cell; rotate_left; assumption; (exact extA); done)))) | (apply WL.index tOk; exact rfl; exact rfl; exact rfl; exact rfl; exact rfl; exact rfl; exact rfl; exact rfl; assumption; (exact extA); exact rfl; omega; assumption; intro b off h; have hcc := h; first | (obtain ⟨h1, h2, h3, h4, h5, h6, _⟩ := h) | (obtain ⟨h1, h2, h3, _⟩ := h) | (obtain ⟨h1, h2, _⟩ := h) | (obtain ⟨h1, _⟩ := h)) | (apply WL.add; exact rfl; exact rfl; exact rfl; exact rfl; omega) | (apply WL.sub; exact rfl; exact rfl; exact rfl; exact rfl; omega) | (apply WL.mul; exact rfl; exact rfl; exact rfl; exact rfl; omega) | (apply WL.quo; exact rfl; exact rfl; exact rfl; exact rfl; omega) | (apply WL.rem; exact rfl; exact rfl; exact rfl; exact rfl; omega) | (apply WL.loadA tOk; exact rfl; exact rfl; exact rfl; exact rfl; exact rfl; (first | assumption | (focus (apply Cells.ext; rotate_left; assumption; (exact extA); done))); exact rfl) | (apply WL.guardF; exact rfl; exact rfl) | (apply WL.gD; exact rfl; exact rfl; all_goals intro _) | (apply WL.gN; exact rfl; exact rfl; all_goals intro _) | (apply WL.gB; exact rfl; exact rfl; all_goals intro _))
      | (show Z _ _ _ _ _; first | apply Z.tail | apply Z.then_normal | apply Z.block_normal | apply Z.then_exit | apply Z.block_exit | apply Z.then_ret | apply Z.block_ret | (apply Z.block_other; exact rfl))
      | (show W _ _ _ _ _ _; first | apply W.seq | apply W.region | apply W.block | apply W.skip | apply W.ret | apply W.exit | (apply W.condT; exact rfl) | (apply W.condF; exact rfl) | (apply W.condD; exact rfl; all_goals intro _) | (apply W.condN; exact rfl; all_goals intro _) | (apply W.condB; exact rfl; all_goals intro _)))
    have Rc := Own.row encI_ok hOc
    have hX7c : Ext w7 wc := (by (exact extA))
    refine W.loop (fun s : Nat × World => s.1 ≤ (clL ((k : Int) + 1) r x).length ∧ Ext wc s.2) (fun s => [(0, .slice ra n.length ca), (8, .pointer (some ⟨gt, 0, none⟩)), (19, .slice al2 (L5.map (·.1)).length cl2), (20, .int .i64 i), (21, .slice ac (clL ((k : Int) + 1) r x).length cc2), (22, .int .i64 s.1)]) (fun s => s.2) (fun s => (clL ((k : Int) + 1) r x).length - s.1) (0, wc) ⟨Nat.zero_le _, Ext.refl _⟩ ⟨rfl, rfl, rfl, rfl, rfl, rfl, trivial⟩ rfl ?_
    rintro ⟨q, w8⟩ ⟨hq, hX8⟩
    dsimp only at hq hX8
    have hqlen := Rc.len
    by_cases hlt4 : q < (clL ((k : Int) + 1) r x).length
    · obtain ⟨z, hz⟩ := getI (clL ((k : Int) + 1) r x) hlt4
      have hzk := hclk z (List.mem_of_getElem? hz)
      have Rc8 := Rc.ext hX8
      have RL8 := RL7.ext (hX7c.trans hX8)
      have hS8 := hS.ext (show Ext w5 w8 from (show Ext w5 wv from (by (exact extA))).trans (hX7.trans (hX7c.trans hX8)))
      by_cases hzy : z = y.1
      · repeat' (first
          | (apply WL.gT; exact rfl; exact rfl; (focus (first | exact dec_true (by omega) | exact dec_false (fun h => h hzy); done)))
          | (apply WL.gF; exact rfl; exact rfl; (focus (first | exact dec_true (by omega) | exact dec_false (fun h => h hzy); done)))
          | (apply QL.gT; exact rfl; exact rfl; (focus (first | exact dec_true (by omega) | exact dec_false (fun h => h hzy); done)))
          | (apply QL.gF; exact rfl; exact rfl; (focus (first | exact dec_true (by omega) | exact dec_false (fun h => h hzy); done)))
          | (apply W.condKT; exact rfl; (focus (first | exact dec_true (by omega) | exact dec_false (fun h => h hzy); done)))
          | (apply W.condKF; exact rfl; (focus (first | exact dec_true (by omega) | exact dec_false (fun h => h hzy); done)))
          | (show WL _ _ _ _ _ _ _; first | apply WL.nil | (apply WL.pev tOk; exact rfl; exact rfl; exact rfl) | (apply WL.load tOk; exact rfl; exact rfl; exact rfl; exact rfl; exact rfl; (first | assumption | (focus (apply Ext.cell; rotate_left; assumption; (exact extA); done)))) | (apply WL.index tOk; exact rfl; exact rfl; exact rfl; exact rfl; exact rfl; exact rfl; exact rfl; exact rfl; assumption; (exact extA); exact rfl; omega; assumption; intro b off h; have hcc := h; first | (obtain ⟨h1, h2, h3, h4, h5, h6, _⟩ := h) | (obtain ⟨h1, h2, h3, _⟩ := h) | (obtain ⟨h1, h2, _⟩ := h) | (obtain ⟨h1, _⟩ := h)) | (apply WL.add; exact rfl; exact rfl; exact rfl; exact rfl; omega) | (apply WL.sub; exact rfl; exact rfl; exact rfl; exact rfl; omega) | (apply WL.mul; exact rfl; exact rfl; exact rfl; exact rfl; omega) | (apply WL.quo; exact rfl; exact rfl; exact rfl; exact rfl; omega) | (apply WL.rem; exact rfl; exact rfl; exact rfl; exact rfl; omega) | (apply WL.loadA tOk; exact rfl; exact rfl; exact rfl; exact rfl; exact rfl; (first | assumption | (focus (apply Cells.ext; rotate_left; assumption; (exact extA); done))); exact rfl) | (apply WL.guardF; exact rfl; exact rfl) | (apply WL.gD; exact rfl; exact rfl; all_goals intro _) | (apply WL.gN; exact rfl; exact rfl; all_goals intro _) | (apply WL.gB; exact rfl; exact rfl; all_goals intro _))
          | (show QL _ _ _ _ _ _ _; first | (apply QL.nilX; intro w' hx) | (apply QL.pev tOk; exact rfl; exact rfl; exact rfl) | (apply QL.load tOk; exact rfl; exact rfl; exact rfl; exact rfl; exact rfl; (first | assumption | (focus (apply Ext.cell; rotate_left; assumption; (exact extA); done)))) | (apply QL.index tOk; exact rfl; exact rfl; exact rfl; exact rfl; exact rfl; exact rfl; exact rfl; exact rfl; assumption; (exact extA); exact rfl; omega; assumption; intro b off h; have hcc := h; first | (obtain ⟨h1, h2, h3, h4, h5, h6, _⟩ := h) | (obtain ⟨h1, h2, h3, _⟩ := h) | (obtain ⟨h1, h2, _⟩ := h) | (obtain ⟨h1, _⟩ := h)) | (apply QL.add; exact rfl; exact rfl; exact rfl; exact rfl; omega) | (apply QL.sub; exact rfl; exact rfl; exact rfl; exact rfl; omega) | (apply QL.mul; exact rfl; exact rfl; exact rfl; exact rfl; omega) | (apply QL.quo; exact rfl; exact rfl; exact rfl; exact rfl; omega) | (apply QL.rem; exact rfl; exact rfl; exact rfl; exact rfl; omega) | (apply QL.loadA tOk; exact rfl; exact rfl; exact rfl; exact rfl; exact rfl; (first | assumption | (focus (apply Cells.ext; rotate_left; assumption; (exact extA); done))); exact rfl) | (apply QL.guardF; exact rfl; exact rfl) | (apply QL.gD; exact rfl; exact rfl; all_goals intro _) | (apply QL.gN; exact rfl; exact rfl; all_goals intro _) | (apply QL.gB; exact rfl; exact rfl; all_goals intro _))
          | (show Z _ _ _ _ _; first | apply Z.tail | apply Z.then_normal | apply Z.block_normal | apply Z.then_exit | apply Z.block_exit | apply Z.then_ret | apply Z.block_ret | (apply Z.block_other; exact rfl))
          | (show W _ _ _ _ _ _; first | apply W.seq | apply W.region | apply W.block | apply W.skip | apply W.ret | apply W.exit | (apply W.condT; exact rfl) | (apply W.condF; exact rfl) | (apply W.condD; exact rfl; all_goals intro _) | (apply W.condN; exact rfl; all_goals intro _) | (apply W.condB; exact rfl; all_goals intro _) | (apply W.regionX tMix; kernel_rfl)))
        exact Z.again (q + 1, w') ⟨by show q + 1 ≤ _; omega, hX8.trans hx⟩ (by show (clL ((k : Int) + 1) r x).length - (q + 1) < (clL ((k : Int) + 1) r x).length - q; omega) ⟨rfl, rfl, rfl, rfl, rfl, rfl, trivial⟩ rfl
      · have hpl := place_lt hR5.tok (hyz z (List.mem_of_getElem? hz) hzy)
        repeat' (first
          | (apply WL.gT; exact rfl; exact rfl; (focus (first | exact dec_true (by omega) | exact dec_true hzy | exact dec_false (fun h => h hpl.1) | exact dec_false (by omega); done)))
          | (apply WL.gF; exact rfl; exact rfl; (focus (first | exact dec_true (by omega) | exact dec_true hzy | exact dec_false (fun h => h hpl.1) | exact dec_false (by omega); done)))
          | (apply QL.gT; exact rfl; exact rfl; (focus (first | exact dec_true (by omega) | exact dec_true hzy | exact dec_false (fun h => h hpl.1) | exact dec_false (by omega); done)))
          | (apply QL.gF; exact rfl; exact rfl; (focus (first | exact dec_true (by omega) | exact dec_true hzy | exact dec_false (fun h => h hpl.1) | exact dec_false (by omega); done)))
          | (apply W.condKT; exact rfl; (focus (first | exact dec_true (by omega) | exact dec_true hzy | exact dec_false (fun h => h hpl.1) | exact dec_false (by omega); done)))
          | (apply W.condKF; exact rfl; (focus (first | exact dec_true (by omega) | exact dec_true hzy | exact dec_false (fun h => h hpl.1) | exact dec_false (by omega); done)))
          | ((show QL _ _ _ _ (⟨_, .call ⟨.value (.func 58), _, _⟩, _, _, _, _⟩ :: _) _ _); apply QL.callP; exact rfl; exact rfl; exact rfl; exact rfl; exact (fun w9 h9 => (trail_Value (hS8.ext h9) hR5.tok hn' z).pure))
          | ((show QL _ _ _ _ (⟨_, .call ⟨.value (.func 59), _, _⟩, _, _, _, _⟩ :: _) _ _); apply QL.callP; exact rfl; exact rfl; exact rfl; exact rfl; exact (fun w9 h9 => trail_Place (hS8.ext h9) hR5.tok hM hn' (z / 2)))
          | (show WL _ _ _ _ _ _ _; first | apply WL.nil | (apply WL.pev tOk; exact rfl; exact rfl; exact rfl) | (apply WL.load tOk; exact rfl; exact rfl; exact rfl; exact rfl; exact rfl; (first | assumption | (focus (apply Ext.cell; rotate_left; assumption; (exact extA); done)))) | (apply WL.index tOk; exact rfl; exact rfl; exact rfl; exact rfl; exact rfl; exact rfl; exact rfl; exact rfl; assumption; (exact extA); exact rfl; omega; assumption; intro b off h; have hcc := h; first | (obtain ⟨h1, h2, h3, h4, h5, h6, _⟩ := h) | (obtain ⟨h1, h2, h3, _⟩ := h) | (obtain ⟨h1, h2, _⟩ := h) | (obtain ⟨h1, _⟩ := h)) | (apply WL.add; exact rfl; exact rfl; exact rfl; exact rfl; omega) | (apply WL.sub; exact rfl; exact rfl; exact rfl; exact rfl; omega) | (apply WL.mul; exact rfl; exact rfl; exact rfl; exact rfl; omega) | (apply WL.quo; exact rfl; exact rfl; exact rfl; exact rfl; omega) | (apply WL.rem; exact rfl; exact rfl; exact rfl; exact rfl; omega) | (apply WL.loadA tOk; exact rfl; exact rfl; exact rfl; exact rfl; exact rfl; (first | assumption | (focus (apply Cells.ext; rotate_left; assumption; (exact extA); done))); exact rfl) | (apply WL.guardF; exact rfl; exact rfl) | (apply WL.gD; exact rfl; exact rfl; all_goals intro _) | (apply WL.gN; exact rfl; exact rfl; all_goals intro _) | (apply WL.gB; exact rfl; exact rfl; all_goals intro _))
          | (show QL _ _ _ _ _ _ _; first | (apply QL.nilX; intro w' hx) | (apply QL.pev tOk; exact rfl; exact rfl; exact rfl) | (apply QL.load tOk; exact rfl; exact rfl; exact rfl; exact rfl; exact rfl; (first | assumption | (focus (apply Ext.cell; rotate_left; assumption; (exact extA); done)))) | (apply QL.index tOk; exact rfl; exact rfl; exact rfl; exact rfl; exact rfl; exact rfl; exact rfl; exact rfl; assumption; (exact extA); exact rfl; omega; assumption; intro b off h; have hcc := h; first | (obtain ⟨h1, h2, h3, h4, h5, h6, _⟩ := h) | (obtain ⟨h1, h2, h3, _⟩ := h) | (obtain ⟨h1, h2, _⟩ := h) | (obtain ⟨h1, _⟩ := h)) | (apply QL.add; exact rfl; exact rfl; exact rfl; exact rfl; omega) | (apply QL.sub; exact rfl; exact rfl; exact rfl; exact rfl; omega) | (apply QL.mul; exact rfl; exact rfl; exact rfl; exact rfl; omega) | (apply QL.quo; exact rfl; exact rfl; exact rfl; exact rfl; omega) | (apply QL.rem; exact rfl; exact rfl; exact rfl; exact rfl; omega) | (apply QL.loadA tOk; exact rfl; exact rfl; exact rfl; exact rfl; exact rfl; (first | assumption | (focus (apply Cells.ext; rotate_left; assumption; (exact extA); done))); exact rfl) | (apply QL.guardF; exact rfl; exact rfl) | (apply QL.gD; exact rfl; exact rfl; all_goals intro _) | (apply QL.gN; exact rfl; exact rfl; all_goals intro _) | (apply QL.gB; exact rfl; exact rfl; all_goals intro _))
          | (show Z _ _ _ _ _; first | apply Z.tail | apply Z.then_normal | apply Z.block_normal | apply Z.then_exit | apply Z.block_exit | apply Z.then_ret | apply Z.block_ret | (apply Z.block_other; exact rfl))
          | (show W _ _ _ _ _ _; first | apply W.seq | apply W.region | apply W.block | apply W.skip | apply W.ret | apply W.exit | (apply W.condT; exact rfl) | (apply W.condF; exact rfl) | (apply W.condD; exact rfl; all_goals intro _) | (apply W.condN; exact rfl; all_goals intro _) | (apply W.condB; exact rfl; all_goals intro _) | (apply W.regionX tMix; kernel_rfl)))
        exact Z.again (q + 1, w') ⟨by show q + 1 ≤ _; omega, hX8.trans hx⟩ (by show (clL ((k : Int) + 1) r x).length - (q + 1) < (clL ((k : Int) + 1) r x).length - q; omega) ⟨rfl, rfl, rfl, rfl, rfl, rfl, trivial⟩ rfl
    · repeat' (first
        | (apply WL.gT; exact rfl; exact rfl; (focus (exact dec_false (by omega); done)))
        | (apply WL.gF; exact rfl; exact rfl; (focus (exact dec_false (by omega); done)))
        | (apply W.condKT; exact rfl; (focus (exact dec_false (by omega); done)))
        | (apply W.condKF; exact rfl; (focus (exact dec_false (by omega); done)))
        | (show WL _ _ _ _ _ _ _; first | apply WL.nil | (apply WL.pev tOk; exact rfl; exact rfl; exact rfl) | (apply WL.load tOk; exact rfl; exact rfl; exact rfl; exact rfl; exact rfl; (first | assumption | (focus (apply Ext.cell; rotate_left; assumption; (exact extA); done)))) | (apply WL.index tOk; exact rfl; exact rfl; exact rfl; exact rfl; exact rfl; exact rfl; exact rfl; exact rfl; assumption; (exact extA); exact rfl; omega; assumption; intro b off h; have hcc := h; first | (obtain ⟨h1, h2, h3, h4, h5, h6, _⟩ := h) | (obtain ⟨h1, h2, h3, _⟩ := h) | (obtain ⟨h1, h2, _⟩ := h) | (obtain ⟨h1, _⟩ := h)) | (apply WL.add; exact rfl; exact rfl; exact rfl; exact rfl; omega) | (apply WL.sub; exact rfl; exact rfl; exact rfl; exact rfl; omega) | (apply WL.mul; exact rfl; exact rfl; exact rfl; exact rfl; omega) | (apply WL.quo; exact rfl; exact rfl; exact rfl; exact rfl; omega) | (apply WL.rem; exact rfl; exact rfl; exact rfl; exact rfl; omega) | (apply WL.loadA tOk; exact rfl; exact rfl; exact rfl; exact rfl; exact rfl; (first | assumption | (focus (apply Cells.ext; rotate_left; assumption; (exact extA); done))); exact rfl) | (apply WL.guardF; exact rfl; exact rfl) | (apply WL.gD; exact rfl; exact rfl; all_goals intro _) | (apply WL.gN; exact rfl; exact rfl; all_goals intro _) | (apply WL.gB; exact rfl; exact rfl; all_goals intro _))
        | (show Z _ _ _ _ _; first | apply Z.tail | apply Z.then_normal | apply Z.block_normal | apply Z.then_exit | apply Z.block_exit | apply Z.then_ret | apply Z.block_ret | (apply Z.block_other; exact rfl))
        | (show W _ _ _ _ _ _; first | apply W.seq | apply W.region | apply W.block | apply W.skip | apply W.ret | apply W.exit | (apply W.condT; exact rfl) | (apply W.condF; exact rfl) | (apply W.condD; exact rfl; all_goals intro _) | (apply W.condN; exact rfl; all_goals intro _) | (apply W.condB; exact rfl; all_goals intro _)))
      exact Z.again (i + 1, w8) ⟨by show sd.length ≤ i + 1; omega, by show i + 1 ≤ _; omega, hX7.trans (hX7c.trans hX8)⟩ (by show L5.length - (i + 1) < L5.length - i; omega) ⟨rfl, rfl, rfl, rfl, trivial⟩ rfl
  · have hK : OutK n sd [] none := ⟨fun _ => ⟨_, _, hR5', .inr (.inl ⟨k, j, x, hxn, hj, h0, rfl⟩), hz5⟩, fun _ => rfl⟩
    have hkl := lt_of_get hxn
    have hLl : (L5.map (·.1)).length = L5.length := List.length_map _
    have hcl := fun (w9 : World) (h9 : Ext w w9) => ref22_ClauseW ra ca n (3 * ((k : Int) + 1) + j) w9 (R.ext h9) hg hn' (by constructor <;> omega)
    rw [clW_at hxn hj rfl] at hcl
    have hne : (0 : Int) < ((clL ((k : Int) + 1) j x).length : Int) := by
      unfold clL; rw [if_neg (by omega)]; split
      · exact Int.natCast_pos.2 (Nat.succ_pos _)
      · split <;> exact Int.natCast_pos.2 (Nat.succ_pos _)
    repeat' (first
      | (((show WL _ _ _ (⟨_, .call ⟨.value (.func 44), _, _⟩, _, _, _, _⟩ :: _) _ _ _); apply WL.call; exact rfl; exact rfl; exact rfl; exact rfl; exact ref22_CloseK ra a3 none ca c3 0 n sd [] _ (R.ext (by (exact extA))) Rsaid (Row.nil _ _ _ _) (fun q h => by cases h) hg (by omega) (by omega) hcap (by decide); rintro v' w6 ⟨hX6, o1, ⟨a6, c6, rfl, R6⟩, hK1⟩; obtain rfl := outK_unique hg hn' hK1 hK))
      | (apply WL.gT; exact rfl; exact rfl; (focus (first | exact dec_false (fun h => h (dec_false (by omega))) | exact dec_true hne | exact dec_true hz5 | exact dec_true (by omega); done)))
      | (apply WL.gF; exact rfl; exact rfl; (focus (first | exact dec_false (fun h => h (dec_false (by omega))) | exact dec_true hne | exact dec_true hz5 | exact dec_true (by omega); done)))
      | (apply W.condKT; exact rfl; (focus (first | exact dec_false (fun h => h (dec_false (by omega))) | exact dec_true hne | exact dec_true hz5 | exact dec_true (by omega); done)))
      | (apply W.condKF; exact rfl; (focus (first | exact dec_false (fun h => h (dec_false (by omega))) | exact dec_true hne | exact dec_true hz5 | exact dec_true (by omega); done)))
      | (apply WL.call; exact rfl; exact rfl; exact rfl; exact rfl; exact hcl _ (by (exact extA)); rintro v' w' ⟨hx, a', cap', rfl, hO⟩; (obtain ⟨hOc, rfl⟩ : ∃ x, x = hO := ⟨_, rfl⟩; obtain ⟨hxc, rfl⟩ : ∃ x, x = hx := ⟨_, rfl⟩; obtain ⟨wc, rfl⟩ : ∃ x, x = w' := ⟨_, rfl⟩; obtain ⟨ac, rfl⟩ : ∃ x, x = a' := ⟨_, rfl⟩; obtain ⟨cc2, rfl⟩ : ∃ x, x = cap' := ⟨_, rfl⟩))
      | ((show WL _ _ _ (⟨_, .call ⟨.value (.func 54), _, _⟩, _, _, _, _⟩ :: _) _ _ _); apply WL.call; exact rfl; exact rfl; exact rfl; exact rfl; exact trail_Values (hS.ext (by (exact extA))) (vOf_len _ _) (by omega); rintro v' w' ⟨hx, a', cap', rfl, hO⟩; (obtain ⟨hOv, rfl⟩ : ∃ x, x = hO := ⟨_, rfl⟩; obtain ⟨hxv, rfl⟩ : ∃ x, x = hx := ⟨_, rfl⟩; obtain ⟨wv, rfl⟩ : ∃ x, x = w' := ⟨_, rfl⟩; obtain ⟨av2, rfl⟩ : ∃ x, x = a' := ⟨_, rfl⟩; obtain ⟨cv2, rfl⟩ : ∃ x, x = cap' := ⟨_, rfl⟩))
      | ((show WL _ _ _ (⟨_, .call ⟨.value (.func 53), _, _⟩, _, _, _, _⟩ :: _) _ _ _); apply WL.callS; exact rfl; exact rfl; exact rfl; exact rfl; exact trail_Len (hS.ext (by (exact extA))))
      | ((show WL _ _ _ (⟨_, .call ⟨.value (.func 46), _, _⟩, _, _, _, _⟩ :: _) _ _ _); apply WL.callS; exact rfl; exact rfl; exact rfl; exact rfl; exact ref20_Value _ _ _ _ (vOf n.length L5) (clL ((k : Int) + 1) j x) _ (Own.row encI_ok hOv) ((Own.row encI_ok hOc).ext (by (exact extA))))
      | ((show WL _ _ _ (⟨_, .call ⟨.value (.func 42), _, _⟩, _, _, _, _⟩ :: _) _ _ _); apply WL.callP; exact rfl; exact rfl; exact rfl; exact rfl; exact lives22 _; intro w' hx)
      | (show WL _ _ _ _ _ _ _; first | apply WL.nil | (apply WL.pev tOk; exact rfl; exact rfl; exact rfl) | (apply WL.load tOk; exact rfl; exact rfl; exact rfl; exact rfl; exact rfl; (first | assumption | (focus (apply Ext.cell; rotate_left; assumption; (exact extA); done)))) | (apply WL.index tOk; exact rfl; exact rfl; exact rfl; exact rfl; exact rfl; exact rfl; exact rfl; exact rfl; assumption; (exact extA); exact rfl; omega; assumption; intro b off h; have hcc := h; first | (obtain ⟨h1, h2, h3, h4, h5, h6, _⟩ := h) | (obtain ⟨h1, h2, h3, _⟩ := h) | (obtain ⟨h1, h2, _⟩ := h) | (obtain ⟨h1, _⟩ := h)) | (apply WL.add; exact rfl; exact rfl; exact rfl; exact rfl; omega) | (apply WL.sub; exact rfl; exact rfl; exact rfl; exact rfl; omega) | (apply WL.mul; exact rfl; exact rfl; exact rfl; exact rfl; omega) | (apply WL.quo; exact rfl; exact rfl; exact rfl; exact rfl; omega) | (apply WL.rem; exact rfl; exact rfl; exact rfl; exact rfl; omega) | (apply WL.loadA tOk; exact rfl; exact rfl; exact rfl; exact rfl; exact rfl; (first | assumption | (focus (apply Cells.ext; rotate_left; assumption; (exact extA); done))); exact rfl) | (apply WL.guardF; exact rfl; exact rfl) | (apply WL.gD; exact rfl; exact rfl; all_goals intro _) | (apply WL.gN; exact rfl; exact rfl; all_goals intro _) | (apply WL.gB; exact rfl; exact rfl; all_goals intro _))
      | (show Z _ _ _ _ _; first | apply Z.tail | apply Z.then_normal | apply Z.block_normal | apply Z.then_exit | apply Z.block_exit | apply Z.then_ret | apply Z.block_ret | (apply Z.block_other; exact rfl))
      | (show W _ _ _ _ _ _; first | apply W.seq | apply W.region | apply W.block | apply W.skip | apply W.ret | apply W.exit | (apply W.condT; exact rfl) | (apply W.condF; exact rfl) | (apply W.condD; exact rfl; all_goals intro _) | (apply W.condN; exact rfl; all_goals intro _) | (apply W.condB; exact rfl; all_goals intro _)))
    exact Z.body1 Try.results11 rfl fun m => ⟨rfl, Ext.at (by (exact extA)) m⟩
end Go.Proofs.Ytmaekaflpbenmaa
namespace Go.Proofs.Ytmaekaflpbenmaa
open Go Go.Lt Go.ChangeShapes Go.WideShapes Go.ChangeAt Go.RowKit
set_option linter.unusedVariables false
set_option linter.unusedSimpArgs false
open Go.ChangeMaps (open_string shut_string)
namespace implyRuns
theorem own : ownKnob Try.prog.godebug = none := by kernel_rfl
theorem laidOut : laidOutB Try.prog = true := factLaid
set_option maxRecDepth 100000 in
theorem lifted (os : Os) (started : os.Started) (H : Type) (enc : TypeId × Value → H) :
    ReturnsInHanded {} Try.checked os 11 .any (Rows.implyRunsSpec.pre6 enc Try.prog Try.f11 Rows.implyRunsRow.domain false) (Rows.implyRunsSpec.post enc Try.prog Try.f11 false true false false) := by
  refine returnsInHanded_of_change (C := Try.checked) own started (by kernel_rfl) Try.func11
    (ChangeSpec.witness6 (enc := enc) (C := Try.checked) false ⟨#[], #[.slice none 0 0, .slice none 0 0, .int .i64 0], []⟩ 8 (by kernel_rfl) (by kernel_rfl) (by kernel_rfl) (by kernel_rfl)) ?_
  intro W base args ds gs before hval0 hW hcnd _
  have hval : ∀ (j : Nat) t v, Try.f11.params[j]? = some t → args[j]? = some v → Value.okWide Try.prog W .any base t v := hval0
  have hW' := hW
  obtain ⟨p, q, hA0, hV, rfl, hfz, hnd⟩ := hW
  have hA : DataW.TrodAll enc Try.prog W 0 (fun _ => true) true Try.f11.params.toList args.toList ds p := hA0
  rw [Try.params11] at hA hval
  obtain ⟨v0, vs0, d0, ds0, p0, q0, hargs, rfl, rfl, h0, r0⟩ := trodAll_cons hA
  obtain ⟨v1, vs1, d1, ds1, p1, q1, rfl, rfl, rfl, h1, r1⟩ := trodAll_cons r0
  obtain ⟨v2, vs2, d2, ds2, p2, q2, rfl, rfl, rfl, h2, r2⟩ := trodAll_cons r1
  obtain ⟨rfl, rfl, rfl⟩ := trodAll_nil r2
  obtain rfl : args = #[v0, v1, v2] := by cases args; simp_all
  obtain ⟨rfl, rfl⟩ := trodVars_none hV
  have k0 := h0
  have lt0 : ∀ x ∈ p0, x.block < W.heap.size := by obtain ⟨m, hm⟩ := k0; exact DataW.trod_lt m _ _ _ hm
  have k1 := h1
  have lt1 : ∀ x ∈ p1, x.block < W.heap.size := by obtain ⟨m, hm⟩ := k1; exact DataW.trod_lt m _ _ _ hm
  have k2 := h2
  have lt2 : ∀ x ∈ p2, x.block < W.heap.size := by obtain ⟨m, hm⟩ := k2; exact DataW.trod_lt m _ _ _ hm
  obtain ⟨a0, l0, cap0, rfl, hl0, hm0, hna0, R0, w0⟩ := row_of (s := 2) (reads_pair' (s0 := 1) (s1 := 1) Try.underlying56 (reads_int Try.underlying3) (reads_int Try.underlying3) (by kernel_rfl) rfl rfl (by kernel_rfl) (by kernel_rfl)) (by kernel_rfl) Try.underlying22 (fun _ => rfl) (by decide) (hval 0 22 v0 rfl rfl) h0
  obtain ⟨a1, l1, cap1, rfl, hl1, hm1, hna1, R1, w1⟩ := row_of (s := 1) (reads_int Try.underlying3) (by kernel_rfl) Try.underlying23 (fun _ => rfl) (by decide) (hval 1 23 v1 rfl rfl) h1
  obtain ⟨n2, rfl, rfl, rfl, w2⟩ := open_int Try.underlying3 (hval 2 3 v2 rfl rfl) h2
  clear hA0 hval0
  refine (Spec.law (law_ImplyRuns a0 a1 cap0 cap1 l0 l1 n2 W R0 hna0 R1 (fun x hx => (wf_i64 (w1 x hx)).2) (wf_i64 w2))).mono fun e W' ⟨he, bel⟩ => ?_
  subst he
  exact ⟨_, rfl, _, _, _, [], _, [], hW', trodAll_mk1 (shut_bool Try.underlying4 _), (trodAll_cons_mk (Below.trod laidOut (by kernel_rfl) (of_decide_eq_true (by kernel_rfl)) k0 bel lt0) (trodAll_cons_mk (Below.trod laidOut (by kernel_rfl) (of_decide_eq_true (by kernel_rfl)) k1 bel lt1) (trodAll_cons_mk (Below.trod laidOut (by kernel_rfl) (of_decide_eq_true (by kernel_rfl)) k2 bel lt2) trodAll_mk0))), rfl, bel.frame _, fun h => by cases h⟩
theorem j0 : (Rows.implyRunsRow.wf (OpenSpec.ofChange Rows.implyRunsSpec)) = true := by kernel_rfl
theorem j3 : (Try.f11.params.all (Try.prog.readableRec ·)) = true := by kernel_rfl
theorem j4 : (namedTie Try.prog Rows.implyRunsRow.named Rows.implyRunsSpec.vars) = true := by kernel_rfl
theorem j5 : ((Rows.implyRunsRow.stops == [])) = true := by kernel_rfl
theorem j7 : ((Rows.implyRunsRow.knobs == [])) = true := by kernel_rfl
theorem j9 : ((Rows.implyRunsRow.inPlace == Try.prog.inPlace 11)) = true := by kernel_rfl
theorem j10 : ((Rows.implyRunsRow.unfollowed == Try.prog.unfollowed 11)) = true := by kernel_rfl
theorem j11 : ((Rows.implyRunsRow.recurses == Try.prog.recurses 11)) = true := by kernel_rfl
theorem j12 : ((Rows.implyRunsRow.named == Try.prog.varsNamed 11)) = true := by kernel_rfl
theorem j13 : ((Rows.implyRunsRow.maps == (Try.f11.params.toList ++ Rows.implyRunsSpec.plain.varTypes Try.prog).any (Try.prog.mapsRec ·))) = true := by kernel_rfl
theorem j14 : ((Rows.implyRunsRow.ifaces == (Try.f11.params.toList ++ Rows.implyRunsSpec.plain.varTypes Try.prog).any (Try.prog.ifacesRec ·))) = true := by kernel_rfl
theorem j15 : ((Rows.implyRunsRow.mapsOut == Try.prog.mapsAmong Try.f11.resultTypes.toList)) = true := by kernel_rfl
theorem j16 : ((Rows.implyRunsRow.loops == (Try.f11.params.toList ++ Rows.implyRunsSpec.plain.varTypes Try.prog).any (Try.prog.loopsFrom ·))) = true := by kernel_rfl
theorem j17 : ((Rows.implyRunsRow.wideKeys == (Try.f11.params.toList ++ Rows.implyRunsSpec.plain.varTypes Try.prog ++ Try.f11.resultTypes.toList).any (Try.prog.wideKeysFrom ·))) = true := by kernel_rfl
theorem j18 : (Rows.implyRunsSpec.vars.all (Try.prog.varReadable ·)) = true := by kernel_rfl
theorem j19 : (Try.f11.resultTypes.all (fun t => Try.prog.readableRec t && decide (t < Try.prog.types.size))) = true := by kernel_rfl
theorem j20 : ((Rows.implyRunsRow.ifacesOut == Try.f11.resultTypes.toList.any (Try.prog.ifacesRec ·))) = true := by kernel_rfl
theorem j21 : ((Rows.implyRunsRow.loopsOut == Try.f11.resultTypes.toList.any (Try.prog.loopsFrom ·))) = true := by kernel_rfl
theorem j22 : ((Rows.implyRunsRow.plainKeys == Try.prog.plainKeys)) = true := by rw [show Rows.implyRunsRow.plainKeys = Rows.balanceMeansRow.plainKeys by kernel_rfl]; exact factKeys
theorem j23 : (Rows.implyRunsRow.shortTexts.isNone) = true := by kernel_rfl
theorem j26 : ((Rows.implyRunsRow.lifted == Try.prog.liftsFinal)) = true := by rw [show Rows.implyRunsRow.lifted = Rows.balanceMeansRow.lifted by kernel_rfl]; exact factLifts
theorem j27 : ((Try.prog.make == some Rows.implyRunsRow.make)) = true := by rw [show Rows.implyRunsRow.make = Rows.balanceMeansRow.make by kernel_rfl]; exact factMake
theorem j28 : ((Rows.implyRunsRow.kinds == (if Rows.implyRunsRow.domain.isEmpty then [] else Try.f11.params.toList.map fun t => match Try.prog.underlying t with | some (.int k) => some k | _ => none))) = true := by kernel_rfl
theorem j29 : ((Rows.implyRunsRow.pinned == Rows.implyRunsRow.pinnedBy)) = true := by kernel_rfl
theorem j30 : ((Rows.implyRunsRow.veiled == (Try.f11.params.toList ++ Rows.implyRunsSpec.plain.varTypes Try.prog ++ Try.f11.resultTypes.toList).any (Try.prog.veiledRec ·))) = true := by kernel_rfl
theorem j31 : (Rows.implyRunsRow.veiledFits Try.prog Try.f11.params.toList (Try.f11.params.toList ++ Rows.implyRunsSpec.plain.varTypes Try.prog ++ Try.f11.resultTypes.toList)) = true := by kernel_rfl
set_option maxRecDepth 100000 in
theorem closed : joinedFacts Try.checked.prog 11 Try.f11 Rows.implyRunsSpec Rows.implyRunsRow = true := by unfold joinedFacts; exact (band (band (band (band (band (band (band (band (band (band (band (band (band (band (band (band (band (band (band (band (band (band (band (band (band (band (band (band (band (band (band j0 factLaid) factMaps) j3) j4) j5) factStops) j7) factKnobs) j9) j10) j11) j12) j13) j14) j15) j16) j17) j18) j19) j20) j21) j22) j23) factHeard) factEnter) j26) j27) j28) j29) j30) j31)
theorem named : Try.checked.prog.funcNamed Rows.implyRunsRow.func = some 11 := by kernel_rfl
theorem over : Rows.implyRunsRow.holds Try.pinned (OpenSpec.ofChange Rows.implyRunsSpec) :=
  OpenClaim.holds_of_wide 11 Try.f11 rfl rfl rfl rfl rfl rfl rfl ⟨rfl, rfl, rfl, rfl, rfl⟩ rfl rfl rfl rfl rfl named Try.func11 closed
    (of_decide_eq_true (by kernel_rfl)) (by unfold Func.isWrapper; first | (rw [if_pos (by decide +kernel)]; kernel_rfl) | (rw [if_neg (by decide +kernel)]; exact ⟨rfl, rfl⟩))
    (fun os started H enc _ => lifted os started H enc)
/-- The statement. -/
theorem proved : Rows.ImplyRunsSaid := over
end implyRuns
end Go.Proofs.Ytmaekaflpbenmaa
