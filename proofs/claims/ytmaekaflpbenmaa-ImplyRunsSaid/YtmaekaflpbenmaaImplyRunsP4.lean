/- Part 4 of what the claim ImplyRuns needs: lemmas and contracts, printed from longer texts. No conditions. -/
import Derived.Test.YtmaekaflpbenmaaRows
import Derived.Lib.SmallJoins
import Derived.KernelRfl
import Derived.WalkKit
import Derived.ProofKit
import Derived.Deep.Quiet
import Derived.Deep.LoopGhost
import Derived.StillTail
import Derived.Test.YtmaekaflpbenmaaProg
import Derived.OpenShut
import Derived.ShutString
import Derived.ChangeOld
import Derived.Deep.Slices
import Derived.SizedLaws
import Derived.Laws.StructEq
import Derived.Laws.Externs
import Derived.MapKept
import Derived.Test.YtmaekaflpbenmaaImplyRunsP3
namespace Go.Proofs.Ytmaekaflpbenmaa
open Go Go.Lt Go.RowKit
set_option linter.unusedVariables false
set_option linter.unusedSimpArgs false

theorem TrAt.weak {B : Nat} {w : World} {gt n : Nat} {Lr : List T3} {E : List Int} {rest fr : List Piece} (h : TrAt B w gt n Lr E (rest ++ fr)) : TrAt B w gt n Lr E rest := by
  obtain ⟨av, cv, am, cm, M, al, cl, ae, ce, h1, h2⟩ := h
  refine ⟨av, cv, am, cm, M, al, cl, ae, ce, h1, h2.pick (fun i => i) (fun i p hp => ?_) (fun i j _ _ h => h)⟩
  rw [← List.append_assoc, List.getElem?_append_left (lt_of_get hp)]; exact hp
theorem TrAt.freeze {B : Nat} {w1 w2 : World} {gt n : Nat} {Lr : List T3} {E : List Int} {rest : List Piece} (h : TrAt B w1 gt n Lr E rest) (hx : Ext w1 w2) (hB : B ≤ w1.heap.size) : TrAt B w2 gt n Lr E (rest ++ frz w1.heap.size w2) := by
  obtain ⟨av, cv, am, cm, M, al, cl, ae, ce, h1, h2⟩ := h
  refine ⟨av, cv, am, cm, M, al, cl, ae, ce, h1, ?_⟩
  rw [← List.append_assoc]; exact h2.freeze hx hB
theorem TrAt.frozen {B b : Nat} {w w2 : World} {gt n : Nat} {Lr : List T3} {E : List Int} {rest : List Piece} (h : TrAt B w gt n Lr E (rest ++ frz b w2)) {k : Nat} (h1 : b ≤ k) (h2 : k < w2.heap.size) : w.heap[k]? = w2.heap[k]? := by
  obtain ⟨av, cv, am, cm, M, al, cl, ae, ce, _, hS⟩ := h
  rw [← List.append_assoc] at hS; exact hS.frozen h1 h2
/-- What was said on a trail. -/
structure RS (n : List (Int × Int)) (L0 L : List T3) : Prop where
  tok : TOk n.length L
  rch : Rch (GC n) (vOf n.length L0) (vOf n.length L)
  rea : ∀ s, Rea n s L0 → Rea n s L
  pre : ∃ D, L = L0 ++ D
theorem RS.start {n : List (Int × Int)} {L : List T3} (h : TOk n.length L) : RS n L L := ⟨h, .base, fun s h => h, ⟨[], by simp⟩⟩
theorem RS.step {n : List (Int × Int)} {L0 L D : List T3} {k : Nat} {x : Int × Int} (h : RS n L0 L) (g : GStep n k x L D) : RS n L0 (L ++ D) :=
  ⟨g.tok, h.rch.trans g.rch, fun s hs => g.rea s (h.rea s hs), by obtain ⟨D0, rfl⟩ := h.pre; exact ⟨D0 ++ D, by simp⟩⟩
abbrev InvR (n : List (Int × Int)) (s : Nat) (L : List T3) : Prop := ∀ k, GIf n s L k
/-- Gates that hang on a variable, and the variable, if it is one. -/
noncomputable def allG (n : List (Int × Int)) (u : Nat) (x : Int × Int) : List Int := if 0 ≤ x.1 then (u : Int) :: fanL n u else fanL n u
theorem allG_gate {n : List (Int × Int)} {u : Nat} {x : Int × Int} (hx : n[u - 1]? = some x) (hu : 1 ≤ u) {g : Int} (h : g ∈ allG n u x) : ∃ (k : Nat) (y : Int × Int), g = (k : Int) + 1 ∧ n[k]? = some y ∧ 0 ≤ y.1 := by
  have key : g ∈ fanL n u → ∃ (k : Nat) (y : Int × Int), g = (k : Int) + 1 ∧ n[k]? = some y ∧ 0 ≤ y.1 := fun h => by
    unfold fanL fanTo at h
    obtain ⟨v, rfl, _, k, y, rfl, h2, h3, _⟩ := sel_mem.1 h
    exact ⟨k, y, by omega, h2, h3⟩
  unfold allG at h
  split at h
  · rcases List.mem_cons.1 h with rfl | h
    · exact ⟨u - 1, x, by omega, hx, by assumption⟩
    · exact key h
  · exact key h
theorem allG_has {n : List (Int × Int)} {u : Nat} {x : Int × Int} (hx : n[u - 1]? = some x) {k : Nat} {y : Int × Int} (hy : n[k]? = some y) (h0 : 0 ≤ y.1) (h1 : 0 ≤ y.2) (hv : gVar k y (u : Int)) (hu : 1 ≤ u) : ((k + 1 : Nat) : Int) ∈ allG n u x := by
  have hk := lt_of_get hy
  by_cases he : k + 1 = u
  · subst he
    rw [show k + 1 - 1 = k by omega, hy] at hx; cases hx
    unfold allG; rw [if_pos h0]; simp
  · have : ((k + 1 : Nat) : Int) ∈ fanL n u := by
      unfold fanL fanTo
      exact sel_mem.2 ⟨k + 1, rfl, by omega, (kid_node hy u).2 ⟨h0, by rcases hv with h | h | h <;> omega⟩⟩
    unfold allG
    split
    · exact List.mem_cons_of_mem _ this
    · exact this
/-- What a run answers. -/
def RunR (n : List (Int × Int)) (L : List T3) (t b : Int) : Prop :=
  (b = -1 ∧ t = (L.length : Int) ∧ InvR n L.length L) ∨ (t < (L.length : Int) ∧ ∃ (k j : Nat) (x : Int × Int), n[k]? = some x ∧ 0 ≤ x.1 ∧ j < 3 ∧ b = 3 * ((k : Int) + 1) + j ∧ vC (vOf n.length L) 0 (clL ((k : Int) + 1) j x) = 0)
set_option maxHeartbeats 16000000 in
theorem imply_Run (bb gr gt : Nat) (n : List (Int × Int)) (L0 : List T3) (E : List Int) (rest : List Piece) (an ao : Option Addr) (cn co : Nat) (rs : List (RowV Int)) (w w0 : World) (hX : Ext w0 w) (hA : TrAt w0.heap.size w gt n.length L0 E rest) (hT : TOk n.length L0) (HD : KeepsT w0 gt n E rest (fun w' => RulesD bb w' gr n an cn ao co rs))
    (hg : GoodNet n) (hn : n.length ≤ 1048576) (s0 : Nat) (hs0 : s0 ≤ L0.length) (hI : InvR n s0 L0) :
    Lt.Spec Try.prog 47 [.pointer (some ⟨gr, 0, none⟩), .pointer (some ⟨gt, 0, none⟩), .int .i64 s0] w (fun v w' => Ext w0 w' ∧ ∃ L t c, v = .tuple #[.int .i64 t, .int .i64 c] ∧ TrAt w0.heap.size w' gt n.length L E rest ∧ RS n L0 L ∧ RunR n L t c) := by
  have hB := hX.size
  have HR : KeepsT w0 gt n E rest (fun w' => RulesAt bb w' gr n) := fun w' Lr' h1 h2 => ⟨_, _, _, _, _, HD w' Lr' h1 h2⟩
  have hrl : ∀ u, u ≤ n.length → ∃ r, rs[u]? = some r ∧ r.2.2 = fanL n u := fun u hu => by
    obtain ⟨_, _, _, _, h5⟩ := HD w L0 hX hA
    have hl := congrArg List.length h5
    rw [List.length_map, tab_len] at hl
    obtain ⟨r, hr⟩ := getI rs (show u < rs.length by omega)
    refine ⟨r, hr, ?_⟩
    have h6 := congrArg (fun l => l[u]?) h5
    simp only [List.getElem?_map, hr, Option.map_some] at h6
    rw [tab_get _ (by omega)] at h6
    exact Option.some.inj h6
  have hLe := hT.len_le
  have hlist : ∀ (w1 : World) (L : List T3) (rst : List Piece), TrAt w0.heap.size w1 gt n.length L E rst → L.length ≤ 1048576 → Lt.Spec Try.prog 55 [.pointer (some ⟨gt, 0, none⟩)] w1 (IsFresh 1 encI 3 w1 (L.map (·.1))) := fun w1 L rst h hl => by
    obtain ⟨av, cv, am, cm, M, al, cl, ae, ce, _, hS⟩ := h
    exact trail_List hS (by rw [List.length_map]; exact hl)
  have hlen : ∀ (w1 : World) (L : List T3) (rst : List Piece), TrAt w0.heap.size w1 gt n.length L E rst → Still Try.prog 53 [.pointer (some ⟨gt, 0, none⟩)] w1 (.int .i64 L.length) := fun w1 L rst h => by
    obtain ⟨av, cv, am, cm, M, al, cl, ae, ce, _, hS⟩ := h
    have := trail_Len hS
    rwa [List.length_map] at this
  refine Spec.of _ Try.func47 rfl Try.ntmps47 (by kernel_rfl) rfl ?_
  repeat' (first
    | (apply WL.nilc; exact rfl; exact rfl; exact rfl)
    | (apply WL.eqNilS tOk; exact rfl; exact rfl; exact rfl; exact rfl; exact rfl; exact rfl)
    | (apply WL.neNilS tOk; exact rfl; exact rfl; exact rfl; exact rfl; exact rfl; exact rfl)
    | (apply WL.eqNil tOk; exact rfl; exact rfl; exact rfl; exact rfl; exact rfl; exact rfl)
    | (apply WL.neNil tOk; exact rfl; exact rfl; exact rfl; exact rfl; exact rfl; exact rfl)
    | (apply WL.min; exact rfl; exact rfl; exact rfl; exact rfl)
    | (apply WL.max; exact rfl; exact rfl; exact rfl; exact rfl)
    | (apply WL.call; exact rfl; exact rfl; exact rfl; exact rfl; exact hlist w L0 rest hA (by omega); rintro v' w' ⟨hx, a', cap', rfl, hO⟩)
    | (show WL _ _ _ _ _ _ _; first | apply WL.nil | (apply WL.pev tOk; exact rfl; exact rfl; exact rfl) | (apply WL.load tOk; exact rfl; exact rfl; exact rfl; exact rfl; exact rfl; (first | assumption | (focus (apply Ext.cell; rotate_left; assumption; (exact extA); done)))) | (apply WL.index tOk; exact rfl; exact rfl; exact rfl; exact rfl; exact rfl; exact rfl; exact rfl; exact rfl; assumption; (exact extA); exact rfl; omega; assumption; intro b off h; have hcc := h; first | (obtain ⟨h1, h2, h3, h4, h5, h6, _⟩ := h) | (obtain ⟨h1, h2, h3, _⟩ := h) | (obtain ⟨h1, h2, _⟩ := h) | (obtain ⟨h1, _⟩ := h)) | (apply WL.add; exact rfl; exact rfl; exact rfl; exact rfl; omega) | (apply WL.sub; exact rfl; exact rfl; exact rfl; exact rfl; omega) | (apply WL.mul; exact rfl; exact rfl; exact rfl; exact rfl; omega) | (apply WL.quo; exact rfl; exact rfl; exact rfl; exact rfl; omega) | (apply WL.rem; exact rfl; exact rfl; exact rfl; exact rfl; omega) | (apply WL.loadA tOk; exact rfl; exact rfl; exact rfl; exact rfl; exact rfl; (first | assumption | (focus (apply Cells.ext; rotate_left; assumption; (exact extA); done))); exact rfl) | (apply WL.guardF; exact rfl; exact rfl) | (apply WL.gD; exact rfl; exact rfl; all_goals intro _) | (apply WL.gN; exact rfl; exact rfl; all_goals intro _) | (apply WL.gB; exact rfl; exact rfl; all_goals intro _))
    | (show Z _ _ _ _ _; first | apply Z.tail | apply Z.then_normal | apply Z.block_normal | apply Z.then_exit | apply Z.block_exit | apply Z.then_ret | apply Z.block_ret | (apply Z.block_other; exact rfl))
    | (show W _ _ _ _ _ _; first | apply W.seq | apply W.region | apply W.block | apply W.skip | apply W.ret | apply W.exit | (apply W.condT; exact rfl) | (apply W.condF; exact rfl) | (apply W.condD; exact rfl; all_goals intro _) | (apply W.condN; exact rfl; all_goals intro _) | (apply W.condB; exact rfl; all_goals intro _)))
  have hA1 := hA.freeze hx hB
  have eL0 : L0.map (·.1) <+: L0.map (·.1) := List.prefix_refl _
  refine W.loop (fun s : Nat × List T3 × RowV Int × List Piece × World => s.1 ≤ s.2.1.length ∧ Ext w0 s.2.2.2.2 ∧ TrAt w0.heap.size s.2.2.2.2 gt n.length s.2.1 E (rest ++ s.2.2.2.1) ∧ RS n L0 s.2.1 ∧ InvR n s.1 s.2.1 ∧ s.2.2.1.2.2 <+: s.2.1.map (·.1) ∧ KeepsT w0 gt n E (rest ++ s.2.2.2.1) (fun w' => Row 1 encI w' s.2.2.1.1 s.2.2.1.2.2))
    (fun s => [(0, .pointer (some ⟨gr, 0, none⟩)), (1, .pointer (some ⟨gt, 0, none⟩)), (2, .int .i64 s.1), (8, .slice s.2.2.1.1 s.2.2.1.2.2.length s.2.2.1.2.1)]) (fun s => s.2.2.2.2) (fun s => n.length - s.1) (s0, L0, (a', cap', L0.map (·.1)), frz w.heap.size w', w')
    ⟨hs0, hX.trans hx, hA1, RS.start hT, hI, eL0, fun w2 L2 h1 h2 => (Own.row encI_ok hO).keep fun k hk => h2.frozen (hO.blk_lt k hk).1 (hO.blk_lt k hk).2⟩ ⟨rfl, rfl, (by show some (Value.int _ (max _ _)) = some (Value.int _ _); rw [show max (s0 : Int) 0 = (s0 : Int) by omega]), rfl, trivial⟩ rfl ?_
  rintro ⟨s, L, ⟨la, lc, lp⟩, fr, w1⟩ ⟨hs, hX1, hA1, hR1, hI1, hP1, hK1⟩
  dsimp only at hs hX1 hA1 hR1 hI1 hP1 hK1
  have hLL := hR1.tok.len_le
  have hpl := hP1.length_le
  rw [List.length_map] at hpl
  by_cases hlt : s < L.length
  · obtain ⟨y, hy⟩ := getI L hlt
    have hym := hR1.tok.1 y (List.mem_of_getElem? hy)
    obtain ⟨u, hu⟩ : ∃ u : Nat, y.1 / 2 = u := ⟨(y.1 / 2).toNat, by omega⟩
    obtain ⟨x, hxu⟩ := getI n (show u - 1 < n.length by omega)
    obtain ⟨q, hq, hqf⟩ := hrl u (by omega)
    have hym1 : (L.map (·.1))[s]? = some y.1 := by rw [List.getElem?_map, hy]; rfl
    -- the list, anew if need be
    repeat' (first
      | (apply WL.callS; exact rfl; exact rfl; exact rfl; exact rfl; exact hlen w1 L _ hA1)
      | (show WL _ _ _ _ _ _ _; first | apply WL.nil | (apply WL.pev tOk; exact rfl; exact rfl; exact rfl) | (apply WL.load tOk; exact rfl; exact rfl; exact rfl; exact rfl; exact rfl; (first | assumption | (focus (apply Ext.cell; rotate_left; assumption; (exact extA); done)))) | (apply WL.index tOk; exact rfl; exact rfl; exact rfl; exact rfl; exact rfl; exact rfl; exact rfl; exact rfl; assumption; (exact extA); exact rfl; omega; assumption; intro b off h; have hcc := h; first | (obtain ⟨h1, h2, h3, h4, h5, h6, _⟩ := h) | (obtain ⟨h1, h2, h3, _⟩ := h) | (obtain ⟨h1, h2, _⟩ := h) | (obtain ⟨h1, _⟩ := h)) | (apply WL.add; exact rfl; exact rfl; exact rfl; exact rfl; omega) | (apply WL.sub; exact rfl; exact rfl; exact rfl; exact rfl; omega) | (apply WL.mul; exact rfl; exact rfl; exact rfl; exact rfl; omega) | (apply WL.quo; exact rfl; exact rfl; exact rfl; exact rfl; omega) | (apply WL.rem; exact rfl; exact rfl; exact rfl; exact rfl; omega) | (apply WL.loadA tOk; exact rfl; exact rfl; exact rfl; exact rfl; exact rfl; (first | assumption | (focus (apply Cells.ext; rotate_left; assumption; (exact extA); done))); exact rfl) | (apply WL.guardF; exact rfl; exact rfl) | (apply WL.gD; exact rfl; exact rfl; all_goals intro _) | (apply WL.gN; exact rfl; exact rfl; all_goals intro _) | (apply WL.gB; exact rfl; exact rfl; all_goals intro _))
      | (show Z _ _ _ _ _; first | apply Z.tail | apply Z.then_normal | apply Z.block_normal | apply Z.then_exit | apply Z.block_exit | apply Z.then_ret | apply Z.block_ret | (apply Z.block_other; exact rfl))
      | (show W _ _ _ _ _ _; first | apply W.seq | apply W.region | apply W.block | apply W.skip | apply W.ret | apply W.exit))
    refine W.condKT rfl (dec_true (by show ((s : Nat) : Int) < _; omega)) ?_
    repeat' (first
      | (show WL _ _ _ _ _ _ _; first | apply WL.nil | (apply WL.pev tOk; exact rfl; exact rfl; exact rfl) | (apply WL.load tOk; exact rfl; exact rfl; exact rfl; exact rfl; exact rfl; (first | assumption | (focus (apply Ext.cell; rotate_left; assumption; (exact extA); done)))) | (apply WL.index tOk; exact rfl; exact rfl; exact rfl; exact rfl; exact rfl; exact rfl; exact rfl; exact rfl; assumption; (exact extA); exact rfl; omega; assumption; intro b off h; have hcc := h; first | (obtain ⟨h1, h2, h3, h4, h5, h6, _⟩ := h) | (obtain ⟨h1, h2, h3, _⟩ := h) | (obtain ⟨h1, h2, _⟩ := h) | (obtain ⟨h1, _⟩ := h)) | (apply WL.add; exact rfl; exact rfl; exact rfl; exact rfl; omega) | (apply WL.sub; exact rfl; exact rfl; exact rfl; exact rfl; omega) | (apply WL.mul; exact rfl; exact rfl; exact rfl; exact rfl; omega) | (apply WL.quo; exact rfl; exact rfl; exact rfl; exact rfl; omega) | (apply WL.rem; exact rfl; exact rfl; exact rfl; exact rfl; omega) | (apply WL.loadA tOk; exact rfl; exact rfl; exact rfl; exact rfl; exact rfl; (first | assumption | (focus (apply Cells.ext; rotate_left; assumption; (exact extA); done))); exact rfl) | (apply WL.guardF; exact rfl; exact rfl) | (apply WL.gD; exact rfl; exact rfl; all_goals intro _) | (apply WL.gN; exact rfl; exact rfl; all_goals intro _) | (apply WL.gB; exact rfl; exact rfl; all_goals intro _))
      | (show Z _ _ _ _ _; first | apply Z.tail | apply Z.then_normal | apply Z.block_normal | apply Z.then_exit | apply Z.block_exit | apply Z.then_ret | apply Z.block_ret | (apply Z.block_other; exact rfl))
      | (show W _ _ _ _ _ _; first | apply W.seq | apply W.region | apply W.block | apply W.skip | apply W.ret | apply W.exit))
    refine W.cutT (σ := RowV Int × List Piece × World) (fun t => Ext w0 t.2.2 ∧ TrAt w0.heap.size t.2.2 gt n.length L E (rest ++ t.2.1) ∧ t.1.2.2 <+: L.map (·.1) ∧ s < t.1.2.2.length ∧ KeepsT w0 gt n E (rest ++ t.2.1) (fun w' => Row 1 encI w' t.1.1 t.1.2.2)) (fun t => [(0, .pointer (some ⟨gr, 0, none⟩)), (1, .pointer (some ⟨gt, 0, none⟩)), (2, .int .i64 s), (8, .slice t.1.1 t.1.2.2.length t.1.2.1)]) (fun t => t.2.2) ?_ ?_
    · by_cases hsl : lp.length ≤ s
      · repeat' (first
          | (apply WL.gT; exact rfl; exact rfl; (focus (exact dec_true (by show ((lp.length : Nat) : Int) ≤ (s : Int); omega); done)))
          | (apply WL.gF; exact rfl; exact rfl; (focus (exact dec_true (by show ((lp.length : Nat) : Int) ≤ (s : Int); omega); done)))
          | (apply W.condKT; exact rfl; (focus (exact dec_true (by show ((lp.length : Nat) : Int) ≤ (s : Int); omega); done)))
          | (apply W.condKF; exact rfl; (focus (exact dec_true (by show ((lp.length : Nat) : Int) ≤ (s : Int); omega); done)))
          | (apply WL.call; exact rfl; exact rfl; exact rfl; exact rfl; exact hlist w1 L _ hA1 (by omega); rintro v' w' ⟨hx, a', cap', rfl, hO⟩)
          | (show WL _ _ _ _ _ _ _; first | apply WL.nil | (apply WL.pev tOk; exact rfl; exact rfl; exact rfl) | (apply WL.load tOk; exact rfl; exact rfl; exact rfl; exact rfl; exact rfl; (first | assumption | (focus (apply Ext.cell; rotate_left; assumption; (exact extA); done)))) | (apply WL.index tOk; exact rfl; exact rfl; exact rfl; exact rfl; exact rfl; exact rfl; exact rfl; exact rfl; assumption; (exact extA); exact rfl; omega; assumption; intro b off h; have hcc := h; first | (obtain ⟨h1, h2, h3, h4, h5, h6, _⟩ := h) | (obtain ⟨h1, h2, h3, _⟩ := h) | (obtain ⟨h1, h2, _⟩ := h) | (obtain ⟨h1, _⟩ := h)) | (apply WL.add; exact rfl; exact rfl; exact rfl; exact rfl; omega) | (apply WL.sub; exact rfl; exact rfl; exact rfl; exact rfl; omega) | (apply WL.mul; exact rfl; exact rfl; exact rfl; exact rfl; omega) | (apply WL.quo; exact rfl; exact rfl; exact rfl; exact rfl; omega) | (apply WL.rem; exact rfl; exact rfl; exact rfl; exact rfl; omega) | (apply WL.loadA tOk; exact rfl; exact rfl; exact rfl; exact rfl; exact rfl; (first | assumption | (focus (apply Cells.ext; rotate_left; assumption; (exact extA); done))); exact rfl) | (apply WL.guardF; exact rfl; exact rfl) | (apply WL.gD; exact rfl; exact rfl; all_goals intro _) | (apply WL.gN; exact rfl; exact rfl; all_goals intro _) | (apply WL.gB; exact rfl; exact rfl; all_goals intro _))
          | (show Z _ _ _ _ _; first | apply Z.tail | apply Z.then_normal | apply Z.block_normal | apply Z.then_exit | apply Z.block_exit | apply Z.then_ret | apply Z.block_ret | (apply Z.block_other; exact rfl))
          | (show W _ _ _ _ _ _; first | apply W.seq | apply W.region | apply W.block | apply W.skip | apply W.ret | apply W.exit | (apply W.condT; exact rfl) | (apply W.condF; exact rfl) | (apply W.condD; exact rfl; all_goals intro _) | (apply W.condN; exact rfl; all_goals intro _) | (apply W.condB; exact rfl; all_goals intro _)))
        have hA2 := hA1.weak.freeze hx hX1.size
        refine Z.cut ((a', cap', L.map (·.1)), frz w1.heap.size w', w') ⟨hX1.trans hx, hA2, List.prefix_refl _, by rw [List.length_map]; exact hlt, fun w2 L2 h1 h2 => (Own.row encI_ok hO).keep fun k hk => h2.frozen (hO.blk_lt k hk).1 (hO.blk_lt k hk).2⟩ ⟨rfl, rfl, rfl, rfl, trivial⟩ rfl
      · repeat' (first
          | (apply WL.gT; exact rfl; exact rfl; (focus (exact dec_false (by show ¬ ((lp.length : Nat) : Int) ≤ (s : Int); omega); done)))
          | (apply WL.gF; exact rfl; exact rfl; (focus (exact dec_false (by show ¬ ((lp.length : Nat) : Int) ≤ (s : Int); omega); done)))
          | (apply W.condKT; exact rfl; (focus (exact dec_false (by show ¬ ((lp.length : Nat) : Int) ≤ (s : Int); omega); done)))
          | (apply W.condKF; exact rfl; (focus (exact dec_false (by show ¬ ((lp.length : Nat) : Int) ≤ (s : Int); omega); done)))
          | (show WL _ _ _ _ _ _ _; first | apply WL.nil | (apply WL.pev tOk; exact rfl; exact rfl; exact rfl) | (apply WL.load tOk; exact rfl; exact rfl; exact rfl; exact rfl; exact rfl; (first | assumption | (focus (apply Ext.cell; rotate_left; assumption; (exact extA); done)))) | (apply WL.index tOk; exact rfl; exact rfl; exact rfl; exact rfl; exact rfl; exact rfl; exact rfl; exact rfl; assumption; (exact extA); exact rfl; omega; assumption; intro b off h; have hcc := h; first | (obtain ⟨h1, h2, h3, h4, h5, h6, _⟩ := h) | (obtain ⟨h1, h2, h3, _⟩ := h) | (obtain ⟨h1, h2, _⟩ := h) | (obtain ⟨h1, _⟩ := h)) | (apply WL.add; exact rfl; exact rfl; exact rfl; exact rfl; omega) | (apply WL.sub; exact rfl; exact rfl; exact rfl; exact rfl; omega) | (apply WL.mul; exact rfl; exact rfl; exact rfl; exact rfl; omega) | (apply WL.quo; exact rfl; exact rfl; exact rfl; exact rfl; omega) | (apply WL.rem; exact rfl; exact rfl; exact rfl; exact rfl; omega) | (apply WL.loadA tOk; exact rfl; exact rfl; exact rfl; exact rfl; exact rfl; (first | assumption | (focus (apply Cells.ext; rotate_left; assumption; (exact extA); done))); exact rfl) | (apply WL.guardF; exact rfl; exact rfl) | (apply WL.gD; exact rfl; exact rfl; all_goals intro _) | (apply WL.gN; exact rfl; exact rfl; all_goals intro _) | (apply WL.gB; exact rfl; exact rfl; all_goals intro _))
          | (show Z _ _ _ _ _; first | apply Z.tail | apply Z.then_normal | apply Z.block_normal | apply Z.then_exit | apply Z.block_exit | apply Z.then_ret | apply Z.block_ret | (apply Z.block_other; exact rfl))
          | (show W _ _ _ _ _ _; first | apply W.seq | apply W.region | apply W.block | apply W.skip | apply W.ret | apply W.exit | (apply W.condT; exact rfl) | (apply W.condF; exact rfl) | (apply W.condD; exact rfl; all_goals intro _) | (apply W.condN; exact rfl; all_goals intro _) | (apply W.condB; exact rfl; all_goals intro _)))
        exact Z.cut ((la, lc, lp), fr, w1) ⟨hX1, hA1, hP1, by show s < lp.length; omega, hK1⟩ ⟨rfl, rfl, rfl, rfl, trivial⟩ rfl
    rintro ⟨⟨la2, lc2, lp2⟩, fr2, w2⟩ ⟨hX2, hA2, hP2, hs2, hK2⟩
    dsimp only at hX2 hA2 hP2 hs2 hK2
    have hlp : lp2[(s : Int).toNat]? = some y.1 := by
      obtain ⟨tl, he⟩ := hP2
      rw [← he, List.getElem?_append_left hs2] at hym1
      exact hym1
    have Rl2 := hK2 w2 L hX2 hA2
    obtain ⟨hgr, hcell, hOn, hRR, _⟩ := HD w2 L hX2 hA2.weak
    have c0 := (cells_heap hcell).1
    have c1 := (cells_heap hcell).2.1
    have Rn := Own.row encN_ok hOn
    have Ro := Own.row encRow_ok hRR.outer
    have hqI := hRR.inner u q hq
    have Rq := Own.row encI_ok hqI
    have hqn := Own.noneCap hqI
    have hqu : rs[(y.1 / 2).toNat]? = some q := by rw [hu]; exact hq
    have hxn : n[(y.1 / 2 - 1).toNat]? = some x := by rw [show (y.1 / 2 - 1).toNat = u - 1 by omega]; exact hxu
    repeat' (first
      | (apply WL.nilc; exact rfl; exact rfl; exact rfl)
      | (apply WL.eqNilS tOk; exact rfl; exact rfl; exact rfl; exact rfl; exact rfl; exact rfl)
      | (apply WL.neNilS tOk; exact rfl; exact rfl; exact rfl; exact rfl; exact rfl; exact rfl)
      | (apply WL.eqNil tOk; exact rfl; exact rfl; exact rfl; exact rfl; exact rfl; exact rfl)
      | (apply WL.neNil tOk; exact rfl; exact rfl; exact rfl; exact rfl; exact rfl; exact rfl)
      | (show WL _ _ _ _ _ _ _; first | apply WL.nil | (apply WL.pev tOk; exact rfl; exact rfl; exact rfl) | (apply WL.load tOk; exact rfl; exact rfl; exact rfl; exact rfl; exact rfl; (first | assumption | (focus (apply Ext.cell; rotate_left; assumption; (exact extA); done)))) | (apply WL.index tOk; exact rfl; exact rfl; exact rfl; exact rfl; exact rfl; exact rfl; exact rfl; exact rfl; assumption; (exact extA); exact rfl; omega; assumption; intro b off h; have hcc := h; first | (obtain ⟨h1, h2, h3, h4, h5, h6, _⟩ := h) | (obtain ⟨h1, h2, h3, _⟩ := h) | (obtain ⟨h1, h2, _⟩ := h) | (obtain ⟨h1, _⟩ := h)) | (apply WL.add; exact rfl; exact rfl; exact rfl; exact rfl; omega) | (apply WL.sub; exact rfl; exact rfl; exact rfl; exact rfl; omega) | (apply WL.mul; exact rfl; exact rfl; exact rfl; exact rfl; omega) | (apply WL.quo; exact rfl; exact rfl; exact rfl; exact rfl; omega) | (apply WL.rem; exact rfl; exact rfl; exact rfl; exact rfl; omega) | (apply WL.loadA tOk; exact rfl; exact rfl; exact rfl; exact rfl; exact rfl; (first | assumption | (focus (apply Cells.ext; rotate_left; assumption; (exact extA); done))); exact rfl) | (apply WL.guardF; exact rfl; exact rfl) | (apply WL.gD; exact rfl; exact rfl; all_goals intro _) | (apply WL.gN; exact rfl; exact rfl; all_goals intro _) | (apply WL.gB; exact rfl; exact rfl; all_goals intro _))
      | (show Z _ _ _ _ _; first | apply Z.tail | apply Z.then_normal | apply Z.block_normal | apply Z.then_exit | apply Z.block_exit | apply Z.then_ret | apply Z.block_ret | (apply Z.block_other; exact rfl))
      | (show W _ _ _ _ _ _; first | apply W.seq | apply W.region | apply W.block | apply W.skip | apply W.ret | apply W.exit))
    refine W.cutT (σ := (Option Addr × Nat) × List Piece × World) (fun t => Ext w0 t.2.2 ∧ TrAt w0.heap.size t.2.2 gt n.length L E ((rest ++ fr2) ++ t.2.1) ∧ KeepsT w0 gt n E ((rest ++ fr2) ++ t.2.1) (fun w' => Row 1 encI w' t.1.1 (allG n u x))) (fun t => [(0, .pointer (some ⟨gr, 0, none⟩)), (1, .pointer (some ⟨gt, 0, none⟩)), (2, .int .i64 s), (8, .slice la2 lp2.length lc2), (10, .slice t.1.1 (allG n u x).length t.1.2)]) (fun t => t.2.2) ?_ ?_
    · by_cases h0 : 0 ≤ x.1
      · have eG : allG n u x = [y.1 / 2] ++ q.2.2 := by unfold allG; rw [if_pos h0, hqf, hu]; rfl
        have hfl := fanTo_len n u n.length
        have hql : q.2.2.length ≤ n.length + 1 := by rw [hqf]; exact hfl
        rw [eG]
        repeat' (first
          | (apply WL.gT; exact rfl; exact rfl; (focus (exact dec_true h0; done)))
          | (apply WL.gF; exact rfl; exact rfl; (focus (exact dec_true h0; done)))
          | (apply W.condKT; exact rfl; (focus (exact dec_true h0; done)))
          | (apply W.condKF; exact rfl; (focus (exact dec_true h0; done)))
          | (apply WL.lit tOk; exact rfl; exact rfl; exact rfl; exact rfl; exact rfl; exact rfl; (first | exact rfl | kernel_rfl | (simp [Instr.fill, catCells]; done)); exact rfl; intro gb w' hb hge hc hx; have hO := Own.of_block ([y.1 / 2]) encI_ok hb hge rfl)
          | (apply WL.appendS tOk encI_ok; exact rfl; exact rfl; exact rfl; exact rfl; exact rfl; exact rfl; exact rfl; exact rfl; exact rfl; exact rfl; assumption; (exact extA); (first | exact rfl | (simp; done) | (simp [*]; done) | omega | (simp only [List.length_set]; omega)); assumption; (exact extA); (first | exact rfl | (simp; done) | (simp [*]; done) | omega | (simp only [List.length_set]; omega)); (first | assumption | (intro h; cases h) | exact Own.noneCap (by assumption)); exact rfl; (exact extA); (first | omega | (simp; omega) | (simp at *; omega)); intro a' cap' w' hO hX' hU hF)
          | (show WL _ _ _ _ _ _ _; first | apply WL.nil | (apply WL.pev tOk; exact rfl; exact rfl; exact rfl) | (apply WL.load tOk; exact rfl; exact rfl; exact rfl; exact rfl; exact rfl; (first | assumption | (focus (apply Ext.cell; rotate_left; assumption; (exact extA); done)))) | (apply WL.index tOk; exact rfl; exact rfl; exact rfl; exact rfl; exact rfl; exact rfl; exact rfl; exact rfl; assumption; (exact extA); exact rfl; omega; assumption; intro b off h; have hcc := h; first | (obtain ⟨h1, h2, h3, h4, h5, h6, _⟩ := h) | (obtain ⟨h1, h2, h3, _⟩ := h) | (obtain ⟨h1, h2, _⟩ := h) | (obtain ⟨h1, _⟩ := h)) | (apply WL.add; exact rfl; exact rfl; exact rfl; exact rfl; omega) | (apply WL.sub; exact rfl; exact rfl; exact rfl; exact rfl; omega) | (apply WL.mul; exact rfl; exact rfl; exact rfl; exact rfl; omega) | (apply WL.quo; exact rfl; exact rfl; exact rfl; exact rfl; omega) | (apply WL.rem; exact rfl; exact rfl; exact rfl; exact rfl; omega) | (apply WL.loadA tOk; exact rfl; exact rfl; exact rfl; exact rfl; exact rfl; (first | assumption | (focus (apply Cells.ext; rotate_left; assumption; (exact extA); done))); exact rfl) | (apply WL.guardF; exact rfl; exact rfl) | (apply WL.gD; exact rfl; exact rfl; all_goals intro _) | (apply WL.gN; exact rfl; exact rfl; all_goals intro _) | (apply WL.gB; exact rfl; exact rfl; all_goals intro _))
          | (show Z _ _ _ _ _; first | apply Z.tail | apply Z.then_normal | apply Z.block_normal | apply Z.then_exit | apply Z.block_exit | apply Z.then_ret | apply Z.block_ret | (apply Z.block_other; exact rfl))
          | (show W _ _ _ _ _ _; first | apply W.seq | apply W.region | apply W.block | apply W.skip | apply W.ret | apply W.exit | (apply W.condT; exact rfl) | (apply W.condF; exact rfl) | (apply W.condD; exact rfl; all_goals intro _) | (apply W.condN; exact rfl; all_goals intro _) | (apply W.condB; exact rfl; all_goals intro _)))
        exact Z.cut ((a', cap'), frz w2.heap.size w', w') ⟨hX2.trans hX', hA2.freeze hX' hX2.size, fun w3 L3 h1 h2 => (Own.row encI_ok hO).keep fun k hk => h2.frozen (hO.blk_lt k hk).1 (hO.blk_lt k hk).2⟩ ⟨rfl, rfl, rfl, rfl, rfl, trivial⟩ rfl
      · have eG : allG n u x = q.2.2 := by unfold allG; rw [if_neg h0, hqf]
        rw [eG]
        repeat' (first
          | (apply WL.gT; exact rfl; exact rfl; (focus (exact dec_false h0; done)))
          | (apply WL.gF; exact rfl; exact rfl; (focus (exact dec_false h0; done)))
          | (apply W.condKT; exact rfl; (focus (exact dec_false h0; done)))
          | (apply W.condKF; exact rfl; (focus (exact dec_false h0; done)))
          | (show WL _ _ _ _ _ _ _; first | apply WL.nil | (apply WL.pev tOk; exact rfl; exact rfl; exact rfl) | (apply WL.load tOk; exact rfl; exact rfl; exact rfl; exact rfl; exact rfl; (first | assumption | (focus (apply Ext.cell; rotate_left; assumption; (exact extA); done)))) | (apply WL.index tOk; exact rfl; exact rfl; exact rfl; exact rfl; exact rfl; exact rfl; exact rfl; exact rfl; assumption; (exact extA); exact rfl; omega; assumption; intro b off h; have hcc := h; first | (obtain ⟨h1, h2, h3, h4, h5, h6, _⟩ := h) | (obtain ⟨h1, h2, h3, _⟩ := h) | (obtain ⟨h1, h2, _⟩ := h) | (obtain ⟨h1, _⟩ := h)) | (apply WL.add; exact rfl; exact rfl; exact rfl; exact rfl; omega) | (apply WL.sub; exact rfl; exact rfl; exact rfl; exact rfl; omega) | (apply WL.mul; exact rfl; exact rfl; exact rfl; exact rfl; omega) | (apply WL.quo; exact rfl; exact rfl; exact rfl; exact rfl; omega) | (apply WL.rem; exact rfl; exact rfl; exact rfl; exact rfl; omega) | (apply WL.loadA tOk; exact rfl; exact rfl; exact rfl; exact rfl; exact rfl; (first | assumption | (focus (apply Cells.ext; rotate_left; assumption; (exact extA); done))); exact rfl) | (apply WL.guardF; exact rfl; exact rfl) | (apply WL.gD; exact rfl; exact rfl; all_goals intro _) | (apply WL.gN; exact rfl; exact rfl; all_goals intro _) | (apply WL.gB; exact rfl; exact rfl; all_goals intro _))
          | (show Z _ _ _ _ _; first | apply Z.tail | apply Z.then_normal | apply Z.block_normal | apply Z.then_exit | apply Z.block_exit | apply Z.then_ret | apply Z.block_ret | (apply Z.block_other; exact rfl))
          | (show W _ _ _ _ _ _; first | apply W.seq | apply W.region | apply W.block | apply W.skip | apply W.ret | apply W.exit | (apply W.condT; exact rfl) | (apply W.condF; exact rfl) | (apply W.condD; exact rfl; all_goals intro _) | (apply W.condN; exact rfl; all_goals intro _) | (apply W.condB; exact rfl; all_goals intro _)))
        refine Z.cut ((q.1, q.2.1), [], w2) ⟨hX2, by rw [List.append_nil]; exact hA2, fun w3 L3 h1 h2 => ?_⟩ ⟨rfl, rfl, rfl, rfl, rfl, trivial⟩ rfl
        obtain ⟨_, _, _, hRR3, _⟩ := HD w3 L3 h1 h2.weak.weak
        exact Own.row encI_ok (hRR3.inner u q hq)
    rintro ⟨⟨a3, c3⟩, fr3, w3⟩ ⟨hX3, hA3, hK3⟩
    dsimp only at hX3 hA3 hK3
    have hGl := (hK3 w3 L hX3 hA3).len
    repeat' (first
      | (show WL _ _ _ _ _ _ _; first | apply WL.nil | (apply WL.pev tOk; exact rfl; exact rfl; exact rfl) | (apply WL.load tOk; exact rfl; exact rfl; exact rfl; exact rfl; exact rfl; (first | assumption | (focus (apply Ext.cell; rotate_left; assumption; (exact extA); done)))) | (apply WL.index tOk; exact rfl; exact rfl; exact rfl; exact rfl; exact rfl; exact rfl; exact rfl; exact rfl; assumption; (exact extA); exact rfl; omega; assumption; intro b off h; have hcc := h; first | (obtain ⟨h1, h2, h3, h4, h5, h6, _⟩ := h) | (obtain ⟨h1, h2, h3, _⟩ := h) | (obtain ⟨h1, h2, _⟩ := h) | (obtain ⟨h1, _⟩ := h)) | (apply WL.add; exact rfl; exact rfl; exact rfl; exact rfl; omega) | (apply WL.sub; exact rfl; exact rfl; exact rfl; exact rfl; omega) | (apply WL.mul; exact rfl; exact rfl; exact rfl; exact rfl; omega) | (apply WL.quo; exact rfl; exact rfl; exact rfl; exact rfl; omega) | (apply WL.rem; exact rfl; exact rfl; exact rfl; exact rfl; omega) | (apply WL.loadA tOk; exact rfl; exact rfl; exact rfl; exact rfl; exact rfl; (first | assumption | (focus (apply Cells.ext; rotate_left; assumption; (exact extA); done))); exact rfl) | (apply WL.guardF; exact rfl; exact rfl) | (apply WL.gD; exact rfl; exact rfl; all_goals intro _) | (apply WL.gN; exact rfl; exact rfl; all_goals intro _) | (apply WL.gB; exact rfl; exact rfl; all_goals intro _))
      | (show Z _ _ _ _ _; first | apply Z.tail | apply Z.then_normal | apply Z.block_normal | apply Z.then_exit | apply Z.block_exit | apply Z.then_ret | apply Z.block_ret | (apply Z.block_other; exact rfl))
      | (show W _ _ _ _ _ _; first | apply W.seq | apply W.region | apply W.block | apply W.skip | apply W.ret | apply W.exit | (apply W.condT; exact rfl) | (apply W.condF; exact rfl) | (apply W.condD; exact rfl; all_goals intro _) | (apply W.condN; exact rfl; all_goals intro _) | (apply W.condB; exact rfl; all_goals intro _)))
    refine W.loop (fun t : Nat × List T3 × World => t.1 ≤ (allG n u x).length ∧ Ext w0 t.2.2 ∧ TrAt w0.heap.size t.2.2 gt n.length t.2.1 E ((rest ++ fr2) ++ fr3) ∧ RS n L t.2.1 ∧ ∀ (j : Nat) (k : Nat), j < t.1 → (allG n u x)[j]? = some (((k + 1 : Nat) : Int)) → GIf n (s + 1) t.2.1 k) (fun t => [(0, .pointer (some ⟨gr, 0, none⟩)), (1, .pointer (some ⟨gt, 0, none⟩)), (2, .int .i64 s), (8, .slice la2 lp2.length lc2), (62, .slice a3 (allG n u x).length c3), (63, .int .i64 (allG n u x).length), (64, .int .i64 t.1)]) (fun t => t.2.2) (fun t => (allG n u x).length - t.1) (0, L, w3) ⟨Nat.zero_le _, hX3, hA3, RS.start hR1.tok, fun j k hj => absurd hj (Nat.not_lt_zero _)⟩ ⟨rfl, rfl, rfl, rfl, rfl, rfl, rfl, trivial⟩ rfl ?_
    rintro ⟨i, L4, w4⟩ ⟨hi, hX4, hA4, hR4, hG4⟩
    dsimp only at hi hX4 hA4 hR4 hG4
    have hL4 := hR4.tok.len_le
    obtain ⟨D4, hD4⟩ := hR4.pre
    by_cases hil : i < (allG n u x).length
    · obtain ⟨g, hgi⟩ := getI (allG n u x) hil
      obtain ⟨k, z, rfl, hz, hz0⟩ := allG_gate hxu (by omega) (List.mem_of_getElem? hgi)
      have Rg := hK3 w4 L4 hX4 hA4
      repeat' (first
        | (show WL _ _ _ _ _ _ _; first | apply WL.nil | (apply WL.pev tOk; exact rfl; exact rfl; exact rfl) | (apply WL.load tOk; exact rfl; exact rfl; exact rfl; exact rfl; exact rfl; (first | assumption | (focus (apply Ext.cell; rotate_left; assumption; (exact extA); done)))) | (apply WL.index tOk; exact rfl; exact rfl; exact rfl; exact rfl; exact rfl; exact rfl; exact rfl; exact rfl; assumption; (exact extA); exact rfl; omega; assumption; intro b off h; have hcc := h; first | (obtain ⟨h1, h2, h3, h4, h5, h6, _⟩ := h) | (obtain ⟨h1, h2, h3, _⟩ := h) | (obtain ⟨h1, h2, _⟩ := h) | (obtain ⟨h1, _⟩ := h)) | (apply WL.add; exact rfl; exact rfl; exact rfl; exact rfl; omega) | (apply WL.sub; exact rfl; exact rfl; exact rfl; exact rfl; omega) | (apply WL.mul; exact rfl; exact rfl; exact rfl; exact rfl; omega) | (apply WL.quo; exact rfl; exact rfl; exact rfl; exact rfl; omega) | (apply WL.rem; exact rfl; exact rfl; exact rfl; exact rfl; omega) | (apply WL.loadA tOk; exact rfl; exact rfl; exact rfl; exact rfl; exact rfl; (first | assumption | (focus (apply Cells.ext; rotate_left; assumption; (exact extA); done))); exact rfl) | (apply WL.guardF; exact rfl; exact rfl) | (apply WL.gD; exact rfl; exact rfl; all_goals intro _) | (apply WL.gN; exact rfl; exact rfl; all_goals intro _) | (apply WL.gB; exact rfl; exact rfl; all_goals intro _))
        | (show Z _ _ _ _ _; first | apply Z.tail | apply Z.then_normal | apply Z.block_normal | apply Z.then_exit | apply Z.block_exit | apply Z.then_ret | apply Z.block_ret | (apply Z.block_other; exact rfl))
        | (show W _ _ _ _ _ _; first | apply W.seq | apply W.region | apply W.block | apply W.skip | apply W.ret | apply W.exit))
      refine W.condKT rfl (dec_true (by show ((i : Nat) : Int) < _; omega)) ?_
      repeat' (first
        | (((show WL _ _ _ (⟨_, .call ⟨.value (.func 95), _, _⟩, _, _, _, _⟩ :: _) _ _ _); apply WL.call; exact rfl; exact rfl; exact rfl; exact rfl; exact imply_gate bb gr gt n L4 E ((rest ++ fr2) ++ fr3) w4 w0 hX4 hA4 hR4.tok (fun w' L' h1 h2 => HR w' L' h1 h2.weak.weak) hg hn k z hz hz0; rintro v' w5 ⟨hX5, D5, r5, rfl, hA5, hG5, hr5⟩))
        | (show WL _ _ _ _ _ _ _; first | apply WL.nil | (apply WL.pev tOk; exact rfl; exact rfl; exact rfl) | (apply WL.load tOk; exact rfl; exact rfl; exact rfl; exact rfl; exact rfl; (first | assumption | (focus (apply Ext.cell; rotate_left; assumption; (exact extA); done)))) | (apply WL.index tOk; exact rfl; exact rfl; exact rfl; exact rfl; exact rfl; exact rfl; exact rfl; exact rfl; assumption; (exact extA); exact rfl; omega; assumption; intro b off h; have hcc := h; first | (obtain ⟨h1, h2, h3, h4, h5, h6, _⟩ := h) | (obtain ⟨h1, h2, h3, _⟩ := h) | (obtain ⟨h1, h2, _⟩ := h) | (obtain ⟨h1, _⟩ := h)) | (apply WL.add; exact rfl; exact rfl; exact rfl; exact rfl; omega) | (apply WL.sub; exact rfl; exact rfl; exact rfl; exact rfl; omega) | (apply WL.mul; exact rfl; exact rfl; exact rfl; exact rfl; omega) | (apply WL.quo; exact rfl; exact rfl; exact rfl; exact rfl; omega) | (apply WL.rem; exact rfl; exact rfl; exact rfl; exact rfl; omega) | (apply WL.loadA tOk; exact rfl; exact rfl; exact rfl; exact rfl; exact rfl; (first | assumption | (focus (apply Cells.ext; rotate_left; assumption; (exact extA); done))); exact rfl) | (apply WL.guardF; exact rfl; exact rfl) | (apply WL.gD; exact rfl; exact rfl; all_goals intro _) | (apply WL.gN; exact rfl; exact rfl; all_goals intro _) | (apply WL.gB; exact rfl; exact rfl; all_goals intro _))
        | (show Z _ _ _ _ _; first | apply Z.tail | apply Z.then_normal | apply Z.block_normal | apply Z.then_exit | apply Z.block_exit | apply Z.then_ret | apply Z.block_ret | (apply Z.block_other; exact rfl))
        | (show W _ _ _ _ _ _; first | apply W.seq | apply W.region | apply W.block | apply W.skip | apply W.ret | apply W.exit))
      have hgt := imply_gate bb gr gt n L4 E ((rest ++ fr2) ++ fr3) w4 w0 hX4 hA4 hR4.tok (fun w' L' h1 h2 => HR w' L' h1 h2.weak.weak) hg hn k z hz hz0
      repeat' (first
        | (((show WL _ _ _ (⟨_, .call ⟨.value (.func 95), _, _⟩, _, _, _, _⟩ :: _) _ _ _); apply WL.call; exact rfl; exact rfl; exact rfl; exact rfl; exact hgt; rintro v' w5 ⟨hX5, D5, r5, rfl, hA5, hG5, hr5⟩))
        | (show WL _ _ _ _ _ _ _; first | apply WL.nil | (apply WL.pev tOk; exact rfl; exact rfl; exact rfl) | (apply WL.load tOk; exact rfl; exact rfl; exact rfl; exact rfl; exact rfl; (first | assumption | (focus (apply Ext.cell; rotate_left; assumption; (exact extA); done)))) | (apply WL.index tOk; exact rfl; exact rfl; exact rfl; exact rfl; exact rfl; exact rfl; exact rfl; exact rfl; assumption; (exact extA); exact rfl; omega; assumption; intro b off h; have hcc := h; first | (obtain ⟨h1, h2, h3, h4, h5, h6, _⟩ := h) | (obtain ⟨h1, h2, h3, _⟩ := h) | (obtain ⟨h1, h2, _⟩ := h) | (obtain ⟨h1, _⟩ := h)) | (apply WL.add; exact rfl; exact rfl; exact rfl; exact rfl; omega) | (apply WL.sub; exact rfl; exact rfl; exact rfl; exact rfl; omega) | (apply WL.mul; exact rfl; exact rfl; exact rfl; exact rfl; omega) | (apply WL.quo; exact rfl; exact rfl; exact rfl; exact rfl; omega) | (apply WL.rem; exact rfl; exact rfl; exact rfl; exact rfl; omega) | (apply WL.loadA tOk; exact rfl; exact rfl; exact rfl; exact rfl; exact rfl; (first | assumption | (focus (apply Cells.ext; rotate_left; assumption; (exact extA); done))); exact rfl) | (apply WL.guardF; exact rfl; exact rfl) | (apply WL.gD; exact rfl; exact rfl; all_goals intro _) | (apply WL.gN; exact rfl; exact rfl; all_goals intro _) | (apply WL.gB; exact rfl; exact rfl; all_goals intro _))
        | (show Z _ _ _ _ _; first | apply Z.tail | apply Z.then_normal | apply Z.block_normal | apply Z.then_exit | apply Z.block_exit | apply Z.then_ret | apply Z.block_ret | (apply Z.block_other; exact rfl))
        | (show W _ _ _ _ _ _; first | apply W.seq | apply W.region | apply W.block | apply W.skip | apply W.ret | apply W.exit))
      have hR5 := hR4.step hG5
      have hR05 : RS n L0 (L4 ++ D5) := ⟨hR5.tok, hR1.rch.trans hR5.rch, fun s hs => hR5.rea s (hR1.rea s hs), by obtain ⟨Da, ha⟩ := hR1.pre; obtain ⟨Db, hb⟩ := hR5.pre; exact ⟨Da ++ Db, by rw [hb, ha]; simp⟩⟩
      rcases hr5 with ⟨rfl, hgood⟩ | ⟨j, hj, rfl, hz5⟩
      · repeat' (first
          | (apply WL.gT; exact rfl; exact rfl; (focus (exact dec_false (by omega); done)))
          | (apply WL.gF; exact rfl; exact rfl; (focus (exact dec_false (by omega); done)))
          | (apply W.condKT; exact rfl; (focus (exact dec_false (by omega); done)))
          | (apply W.condKF; exact rfl; (focus (exact dec_false (by omega); done)))
          | (show WL _ _ _ _ _ _ _; first | apply WL.nil | (apply WL.pev tOk; exact rfl; exact rfl; exact rfl) | (apply WL.load tOk; exact rfl; exact rfl; exact rfl; exact rfl; exact rfl; (first | assumption | (focus (apply Ext.cell; rotate_left; assumption; (exact extA); done)))) | (apply WL.index tOk; exact rfl; exact rfl; exact rfl; exact rfl; exact rfl; exact rfl; exact rfl; exact rfl; assumption; (exact extA); exact rfl; omega; assumption; intro b off h; have hcc := h; first | (obtain ⟨h1, h2, h3, h4, h5, h6, _⟩ := h) | (obtain ⟨h1, h2, h3, _⟩ := h) | (obtain ⟨h1, h2, _⟩ := h) | (obtain ⟨h1, _⟩ := h)) | (apply WL.add; exact rfl; exact rfl; exact rfl; exact rfl; omega) | (apply WL.sub; exact rfl; exact rfl; exact rfl; exact rfl; omega) | (apply WL.mul; exact rfl; exact rfl; exact rfl; exact rfl; omega) | (apply WL.quo; exact rfl; exact rfl; exact rfl; exact rfl; omega) | (apply WL.rem; exact rfl; exact rfl; exact rfl; exact rfl; omega) | (apply WL.loadA tOk; exact rfl; exact rfl; exact rfl; exact rfl; exact rfl; (first | assumption | (focus (apply Cells.ext; rotate_left; assumption; (exact extA); done))); exact rfl) | (apply WL.guardF; exact rfl; exact rfl) | (apply WL.gD; exact rfl; exact rfl; all_goals intro _) | (apply WL.gN; exact rfl; exact rfl; all_goals intro _) | (apply WL.gB; exact rfl; exact rfl; all_goals intro _))
          | (show Z _ _ _ _ _; first | apply Z.tail | apply Z.then_normal | apply Z.block_normal | apply Z.then_exit | apply Z.block_exit | apply Z.then_ret | apply Z.block_ret | (apply Z.block_other; exact rfl))
          | (show W _ _ _ _ _ _; first | apply W.seq | apply W.region | apply W.block | apply W.skip | apply W.ret | apply W.exit | (apply W.condT; exact rfl) | (apply W.condF; exact rfl) | (apply W.condD; exact rfl; all_goals intro _) | (apply W.condN; exact rfl; all_goals intro _) | (apply W.condB; exact rfl; all_goals intro _)))
        refine Z.again (i + 1, L4 ++ D5, w5) ⟨by show i + 1 ≤ _; omega, hX5, hA5, hR5, fun j k' hj hk' => ?_⟩ (by show (allG n u x).length - (i + 1) < (allG n u x).length - i; omega) ⟨rfl, rfl, rfl, rfl, rfl, rfl, rfl, trivial⟩ rfl
        have hs4 : s + 1 ≤ L4.length := by rw [hD4, List.length_append]; omega
        by_cases he : j = i
        · subst he
          rw [hgi] at hk'
          obtain rfl : k = k' := by have := Option.some.inj hk'; omega
          refine GIf.called hs4 (fun x' hx' y' hy' => ?_) (fun hD x' hx' r hr => ?_)
          · rw [hz] at hx'; cases hx'; exact hG5.vars y' hy'
          · rw [hz] at hx'; cases hx'; exact hgood hD r hr
        · exact GIf.push hg hn hR5.tok hs4 (hG4 j k' (by have : j < i + 1 := hj; omega) hk')
      · repeat' (first
          | (apply WL.gT; exact rfl; exact rfl; (focus (exact dec_true (by omega); done)))
          | (apply WL.gF; exact rfl; exact rfl; (focus (exact dec_true (by omega); done)))
          | (apply W.condKT; exact rfl; (focus (exact dec_true (by omega); done)))
          | (apply W.condKF; exact rfl; (focus (exact dec_true (by omega); done)))
          | (show WL _ _ _ _ _ _ _; first | apply WL.nil | (apply WL.pev tOk; exact rfl; exact rfl; exact rfl) | (apply WL.load tOk; exact rfl; exact rfl; exact rfl; exact rfl; exact rfl; (first | assumption | (focus (apply Ext.cell; rotate_left; assumption; (exact extA); done)))) | (apply WL.index tOk; exact rfl; exact rfl; exact rfl; exact rfl; exact rfl; exact rfl; exact rfl; exact rfl; assumption; (exact extA); exact rfl; omega; assumption; intro b off h; have hcc := h; first | (obtain ⟨h1, h2, h3, h4, h5, h6, _⟩ := h) | (obtain ⟨h1, h2, h3, _⟩ := h) | (obtain ⟨h1, h2, _⟩ := h) | (obtain ⟨h1, _⟩ := h)) | (apply WL.add; exact rfl; exact rfl; exact rfl; exact rfl; omega) | (apply WL.sub; exact rfl; exact rfl; exact rfl; exact rfl; omega) | (apply WL.mul; exact rfl; exact rfl; exact rfl; exact rfl; omega) | (apply WL.quo; exact rfl; exact rfl; exact rfl; exact rfl; omega) | (apply WL.rem; exact rfl; exact rfl; exact rfl; exact rfl; omega) | (apply WL.loadA tOk; exact rfl; exact rfl; exact rfl; exact rfl; exact rfl; (first | assumption | (focus (apply Cells.ext; rotate_left; assumption; (exact extA); done))); exact rfl) | (apply WL.guardF; exact rfl; exact rfl) | (apply WL.gD; exact rfl; exact rfl; all_goals intro _) | (apply WL.gN; exact rfl; exact rfl; all_goals intro _) | (apply WL.gB; exact rfl; exact rfl; all_goals intro _))
          | (show Z _ _ _ _ _; first | apply Z.tail | apply Z.then_normal | apply Z.block_normal | apply Z.then_exit | apply Z.block_exit | apply Z.then_ret | apply Z.block_ret | (apply Z.block_other; exact rfl))
          | (show W _ _ _ _ _ _; first | apply W.seq | apply W.region | apply W.block | apply W.skip | apply W.ret | apply W.exit | (apply W.condT; exact rfl) | (apply W.condF; exact rfl) | (apply W.condD; exact rfl; all_goals intro _) | (apply W.condN; exact rfl; all_goals intro _) | (apply W.condB; exact rfl; all_goals intro _)))
        refine Z.body2 Try.results47 rfl rfl fun m => ⟨hX5.at m, L4 ++ D5, s, _, rfl, hA5.weak.weak.ext ((Ext.refl _).at m), hR05, .inr ⟨?_, k, j, z, hz, hz0, hj, rfl, hz5⟩⟩
        rw [List.length_append, hD4, List.length_append]; omega
    · obtain rfl : i = (allG n u x).length := by omega
      have hI5 : InvR n (s + 1) L4 := by
        intro k
        by_cases hv : ∃ z, n[k]? = some z ∧ 0 ≤ z.1 ∧ gVar k z (y.1 / 2)
        · obtain ⟨z, hz, hz0, hv⟩ := hv
          rw [hu] at hv
          have hm := allG_has hxu hz hz0 (hg.gate hz hz0).2.1 hv (by omega)
          obtain ⟨j, hj, he⟩ := List.getElem_of_mem hm
          exact hG4 j k hj (by rw [List.getElem?_eq_getElem hj, he])
        · have h1 := (hI1 k).up hy fun x' hx' h0 hgv => hv ⟨x', hx', h0, hgv⟩
          rw [hD4]
          exact h1.push hg hn (by rw [← hD4]; exact hR4.tok) (by omega)
      repeat' (first
        | (apply WL.gT; exact rfl; exact rfl; (focus (exact dec_false (by show ¬ (((allG n u x).length : Nat) : Int) < _; omega); done)))
        | (apply WL.gF; exact rfl; exact rfl; (focus (exact dec_false (by show ¬ (((allG n u x).length : Nat) : Int) < _; omega); done)))
        | (apply W.condKT; exact rfl; (focus (exact dec_false (by show ¬ (((allG n u x).length : Nat) : Int) < _; omega); done)))
        | (apply W.condKF; exact rfl; (focus (exact dec_false (by show ¬ (((allG n u x).length : Nat) : Int) < _; omega); done)))
        | (show WL _ _ _ _ _ _ _; first | apply WL.nil | (apply WL.pev tOk; exact rfl; exact rfl; exact rfl) | (apply WL.load tOk; exact rfl; exact rfl; exact rfl; exact rfl; exact rfl; (first | assumption | (focus (apply Ext.cell; rotate_left; assumption; (exact extA); done)))) | (apply WL.index tOk; exact rfl; exact rfl; exact rfl; exact rfl; exact rfl; exact rfl; exact rfl; exact rfl; assumption; (exact extA); exact rfl; omega; assumption; intro b off h; have hcc := h; first | (obtain ⟨h1, h2, h3, h4, h5, h6, _⟩ := h) | (obtain ⟨h1, h2, h3, _⟩ := h) | (obtain ⟨h1, h2, _⟩ := h) | (obtain ⟨h1, _⟩ := h)) | (apply WL.add; exact rfl; exact rfl; exact rfl; exact rfl; omega) | (apply WL.sub; exact rfl; exact rfl; exact rfl; exact rfl; omega) | (apply WL.mul; exact rfl; exact rfl; exact rfl; exact rfl; omega) | (apply WL.quo; exact rfl; exact rfl; exact rfl; exact rfl; omega) | (apply WL.rem; exact rfl; exact rfl; exact rfl; exact rfl; omega) | (apply WL.loadA tOk; exact rfl; exact rfl; exact rfl; exact rfl; exact rfl; (first | assumption | (focus (apply Cells.ext; rotate_left; assumption; (exact extA); done))); exact rfl) | (apply WL.guardF; exact rfl; exact rfl) | (apply WL.gD; exact rfl; exact rfl; all_goals intro _) | (apply WL.gN; exact rfl; exact rfl; all_goals intro _) | (apply WL.gB; exact rfl; exact rfl; all_goals intro _))
        | (show Z _ _ _ _ _; first | apply Z.tail | apply Z.then_normal | apply Z.block_normal | apply Z.then_exit | apply Z.block_exit | apply Z.then_ret | apply Z.block_ret | (apply Z.block_other; exact rfl))
        | (show W _ _ _ _ _ _; first | apply W.seq | apply W.region | apply W.block | apply W.skip | apply W.ret | apply W.exit | (apply W.condT; exact rfl) | (apply W.condF; exact rfl) | (apply W.condD; exact rfl; all_goals intro _) | (apply W.condN; exact rfl; all_goals intro _) | (apply W.condB; exact rfl; all_goals intro _)))
      have hs4 : s + 1 ≤ L4.length := by rw [hD4, List.length_append]; omega
      refine Z.again (s + 1, L4, (la2, lc2, lp2), fr2, w4) ⟨hs4, hX4, hA4.weak, ⟨hR4.tok, hR1.rch.trans hR4.rch, fun s hs => hR4.rea s (hR1.rea s hs), ?_⟩, hI5, ?_, hK2⟩ (by show n.length - (s + 1) < n.length - s; omega) ⟨rfl, rfl, rfl, rfl, trivial⟩ rfl
      · obtain ⟨Da, ha⟩ := hR1.pre; exact ⟨Da ++ D4, by rw [hD4, ha]; simp⟩
      · obtain ⟨tl, he⟩ := hP2
        exact ⟨tl ++ D4.map (·.1), by rw [hD4, List.map_append, ← he]; simp⟩
  · obtain rfl : s = L.length := by omega
    repeat' (first
      | (apply WL.gT; exact rfl; exact rfl; (focus (exact dec_false (by show ¬ ((L.length : Nat) : Int) < _; omega); done)))
      | (apply WL.gF; exact rfl; exact rfl; (focus (exact dec_false (by show ¬ ((L.length : Nat) : Int) < _; omega); done)))
      | (apply W.condKT; exact rfl; (focus (exact dec_false (by show ¬ ((L.length : Nat) : Int) < _; omega); done)))
      | (apply W.condKF; exact rfl; (focus (exact dec_false (by show ¬ ((L.length : Nat) : Int) < _; omega); done)))
      | (apply WL.callS; exact rfl; exact rfl; exact rfl; exact rfl; exact hlen w1 L _ hA1)
      | (show WL _ _ _ _ _ _ _; first | apply WL.nil | (apply WL.pev tOk; exact rfl; exact rfl; exact rfl) | (apply WL.load tOk; exact rfl; exact rfl; exact rfl; exact rfl; exact rfl; (first | assumption | (focus (apply Ext.cell; rotate_left; assumption; (exact extA); done)))) | (apply WL.index tOk; exact rfl; exact rfl; exact rfl; exact rfl; exact rfl; exact rfl; exact rfl; exact rfl; assumption; (exact extA); exact rfl; omega; assumption; intro b off h; have hcc := h; first | (obtain ⟨h1, h2, h3, h4, h5, h6, _⟩ := h) | (obtain ⟨h1, h2, h3, _⟩ := h) | (obtain ⟨h1, h2, _⟩ := h) | (obtain ⟨h1, _⟩ := h)) | (apply WL.add; exact rfl; exact rfl; exact rfl; exact rfl; omega) | (apply WL.sub; exact rfl; exact rfl; exact rfl; exact rfl; omega) | (apply WL.mul; exact rfl; exact rfl; exact rfl; exact rfl; omega) | (apply WL.quo; exact rfl; exact rfl; exact rfl; exact rfl; omega) | (apply WL.rem; exact rfl; exact rfl; exact rfl; exact rfl; omega) | (apply WL.loadA tOk; exact rfl; exact rfl; exact rfl; exact rfl; exact rfl; (first | assumption | (focus (apply Cells.ext; rotate_left; assumption; (exact extA); done))); exact rfl) | (apply WL.guardF; exact rfl; exact rfl) | (apply WL.gD; exact rfl; exact rfl; all_goals intro _) | (apply WL.gN; exact rfl; exact rfl; all_goals intro _) | (apply WL.gB; exact rfl; exact rfl; all_goals intro _))
      | (show Z _ _ _ _ _; first | apply Z.tail | apply Z.then_normal | apply Z.block_normal | apply Z.then_exit | apply Z.block_exit | apply Z.then_ret | apply Z.block_ret | (apply Z.block_other; exact rfl))
      | (show W _ _ _ _ _ _; first | apply W.seq | apply W.region | apply W.block | apply W.skip | apply W.ret | apply W.exit | (apply W.condT; exact rfl) | (apply W.condF; exact rfl) | (apply W.condD; exact rfl; all_goals intro _) | (apply W.condN; exact rfl; all_goals intro _) | (apply W.condB; exact rfl; all_goals intro _)))
    exact Z.body2 Try.results47 rfl rfl fun m => ⟨hX1.at m, L, L.length, -1, rfl, hA1.weak.ext ((Ext.refl _).at m), hR1, .inl ⟨rfl, rfl, hI1⟩⟩
end Go.Proofs.Ytmaekaflpbenmaa
namespace Go.Lt
open Go.RowKit
set_option linter.unusedVariables false
section
variable {P : Program}
theorem run_sliceLH {T : Tab} {t : TypeId} (hT : OkTab P T) {ti : TI} {el : TypeId} {ei : TI} {ao : Option Addr} {n cap : Nat} {k k' : IntKind} {lo hi : Int} (ht : tget T t = some ti) (htd : ti.desc = .slice el) (he : tget T el = some ei) (h0 : 0 ≤ lo ∧ lo ≤ hi) (h1 : hi ≤ cap) (w : World) :
    (Instr.sliceAt t (.slice ao n cap) (some (.int k lo)) (some (.int k' hi)) none).run P w = .ok (.slice (if cap = lo.toNat then ao else ao.map (·.add (lo.toNat * ei.size))) (hi.toNat - lo.toNat) (cap - lo.toNat)) w := by
  have e1 := run_underlying' (hT.at ht); rw [htd] at e1
  have e2 := run_sizeOf' (hT.at he)
  have e3 : 0 ≤ hi := by omega
  simp [Instr.sliceAt, Instr.slice, e1, e2, Instr.sliceBounds, Instr.sliceBound, asIntOf, h0.1, e3, h1]
  intro hh; exfalso; omega
end
section rules
variable {P : Program} {N : Nat} {e : Env} {w : World} {Q : Exit → Act → World → Prop} {ops : List Oper} {l : List Oper} {T : Tab}
  {d : Nat} {tt ty : TypeId} {ps : String} {af : Array Edge} {g : Option (Nat × Bool)} {t : TypeId} {α : Type} {s : Nat} {enc : α → List Value} {B : Nat} {ti ei : TI} {el : TypeId} {C : World → Prop}
/-- l[i:i+1] -/
theorem WL.slice1 {x y z : Operand} {a : Option Addr} {xs : List α} {v : α} {n cap i : Nat} {kk k2 : IntKind} {lo hi : Int} {w0 : World} (hT : OkTab P T) (hg : gate ops e g = some true) (hd : Nat.blt d N = true)
    (hx : ev e x = some (.slice a n cap)) (hy : ev e y = some (.int kk lo)) (hz : ev e z = some (.int k2 hi)) (ht : tget T t = some ti) (htd : ti.desc = .slice el) (he : tget T el = some ei) (hs : ei.size = s)
    (R : Row s enc w0 a xs) (hn : xs.length = n) (hc : xs.length ≤ cap) (hv : xs[i]? = some v) (hlo : lo = i) (hhi : hi = (i : Int) + 1)
    (k : ∀ a' cap', Row s enc w0 a' [v] → WL P N ops.toArray l ((d, .slice a' [v].length cap') :: e) w Q) : WL P N ops.toArray (⟨some d, .slice t x (some y) (some z) none, tt, ps, af, g⟩ :: l) e w Q := by
  have hi' := (List.getElem?_eq_some_iff.1 hv).1
  have e0 : (xs.drop i).take 1 = [v] := by
    rw [List.drop_eq_getElem_cons hi', (List.getElem?_eq_some_iff.1 hv).2]; rfl
  have R1 : Row s enc w0 (if cap = i then a else a.map (·.add (i * s))) [v] := e0 ▸ ((R.dropAt i cap hc).take 1)
  refine WL.step hg hd ?_ (k _ (cap - i) R1)
  refine Yields.in ?_
  intro ρ hρ w'
  have := run_sliceLH (P := P) hT (t := t) (ao := a) (n := n) (cap := cap) (k := kk) (k' := k2) (lo := lo) (hi := hi) ht htd he (by omega) (by omega) w'
  have e2 : hi.toNat - lo.toNat = 1 := by omega
  have e3 : lo.toNat = i := by omega
  rw [hs, e2, e3] at this
  simp [execOp, hρ _ _ hx, hρ _ _ hy, hρ _ _ hz, this]
end rules
end Go.Lt
namespace Go.Proofs.Ytmaekaflpbenmaa
open Go Go.Lt Go.RowKit
set_option linter.unusedVariables false
set_option linter.unusedSimpArgs false

abbrev free0 (k : Nat) : List Int := 0 :: List.replicate k 2
theorem free0_succ (k : Nat) : free0 k ++ [2] = free0 (k + 1) := by
  show (0 : Int) :: (List.replicate k (2 : Int) ++ [2]) = 0 :: List.replicate (k + 1) 2
  rw [List.replicate_succ']
theorem free0_ok (k : Nat) : OkV (free0 k).length (free0 k) := by
  refine ⟨rfl, rfl, fun i z hz => ?_⟩
  cases i with
  | zero => simp at hz; exact .inl hz.symm
  | succ i =>
    have hz' : (List.replicate k (2 : Int))[i]? = some z := hz
    rw [List.getElem?_replicate] at hz'
    split at hz'
    · exact .inr (.inr (Option.some.inj hz').symm)
    · cases hz'
end Go.Proofs.Ytmaekaflpbenmaa
namespace Go.Proofs.Ytmaekaflpbenmaa
open Go Go.Lt Go.RowKit
set_option linter.unusedVariables false
set_option linter.unusedSimpArgs false

/-- Rows of clauses: given ones, and new ones that lie apart. -/
structure RJ (w0 : World) (w : World) (B : Nat) (a : Option Addr) (cap : Nat) (rs : List (RowV Int)) : Prop where
  outer : Own 1 encRI 23 B w a cap rs
  inner : ∀ q ∈ rs, Row 1 encI w0 q.1 q.2.2 ∨ ((∃ B', B ≤ B' ∧ Own 1 encI 3 B' w q.1 q.2.1 q.2.2) ∧ (blk q.1 = none ∨ blk q.1 ≠ blk a))
theorem RJ.ext {w0 w w1 : World} {B : Nat} {a : Option Addr} {cap : Nat} {rs : List (RowV Int)} (h : RJ w0 w B a cap rs) (hx : Ext w w1) : RJ w0 w1 B a cap rs :=
  ⟨h.outer.ext hx, fun q hq => (h.inner q hq).imp id fun ⟨⟨B', h1, h2⟩, h3⟩ => ⟨⟨B', h1, h2.ext hx⟩, h3⟩⟩
theorem RJ.grow {w0 w2 w3 : World} {B : Nat} {a a' : Option Addr} {cap cap' : Nat} {rs : List (RowV Int)} {q : RowV Int} (h2 : RJ w0 w2 B a cap rs)
    (hq : Row 1 encI w0 q.1 q.2.2 ∨ ((∃ B', B ≤ B' ∧ Own 1 encI 3 B' w2 q.1 q.2.1 q.2.2) ∧ (blk q.1 = none ∨ blk q.1 ≠ blk a)))
    (hU : Upd B a w2 w3) (hF : blk a' = blk a ∨ ∃ k, blk a' = some k ∧ w2.heap.size ≤ k) (hO : Own 1 encRI 23 B w3 a' cap' (rs ++ [q])) : RJ w0 w3 B a' cap' (rs ++ [q]) := by
  have key : ∀ (B' : Nat) (p : RowV Int), Own 1 encI 3 B' w2 p.1 p.2.1 p.2.2 → (blk p.1 = none ∨ blk p.1 ≠ blk a) → Own 1 encI 3 B' w3 p.1 p.2.1 p.2.2 ∧ (blk p.1 = none ∨ blk p.1 ≠ blk a') := fun B' p ho hn => by
    refine ⟨hU.own ho hn, ?_⟩
    rcases hF with hF | ⟨k, hk, hle⟩
    · rw [hF]; exact hn
    · cases hb : blk p.1 with
      | none => exact .inl rfl
      | some b =>
        refine .inr fun he => ?_
        rw [hk] at he
        have h1 := (ho.blk_lt b hb).2
        have h2 := Option.some.inj he
        omega
  refine ⟨hO, fun p hp => ?_⟩
  have hp' : Row 1 encI w0 p.1 p.2.2 ∨ ((∃ B', B ≤ B' ∧ Own 1 encI 3 B' w2 p.1 p.2.1 p.2.2) ∧ (blk p.1 = none ∨ blk p.1 ≠ blk a)) := by
    rcases List.mem_append.1 hp with hp | hp
    · exact h2.inner p hp
    · obtain rfl := List.mem_singleton.1 hp; exact hq
  rcases hp' with h | ⟨⟨B', e1, e2⟩, e3⟩
  · exact .inl h
  · obtain ⟨k1, k2⟩ := key B' p e2 e3
    exact .inr ⟨⟨B', e1, k1⟩, k2⟩
theorem RJ.push {w0 w w1 w2 w3 : World} {B : Nat} {a a' : Option Addr} {cap cap' : Nat} {rs : List (RowV Int)} {q : RowV Int} (h : RJ w0 w B a cap rs) (hx : Ext w w1) (hq : Own 1 encI 3 w.heap.size w1 q.1 q.2.1 q.2.2)
    (hB : B ≤ w.heap.size) (hx2 : Ext w1 w2) (hU : Upd B a w2 w3) (hF : blk a' = blk a ∨ ∃ k, blk a' = some k ∧ w2.heap.size ≤ k) (hO : Own 1 encRI 23 B w3 a' cap' (rs ++ [q])) : RJ w0 w3 B a' cap' (rs ++ [q]) := by
  refine (h.ext (hx.trans hx2)).grow (.inr ⟨⟨_, hB, hq.ext hx2⟩, ?_⟩) hU hF hO
  cases hb : blk q.1 with
  | none => exact .inl rfl
  | some k =>
    refine .inr fun he => ?_
    have e1 := (hq.blk_lt k hb).1
    have e2 := (h.outer.blk_lt k he.symm).2
    omega
abbrev rowsC (rs : List (RowV Int)) (c : List Int) : Prop := ∃ q ∈ rs, q.2.2 = c
theorem clL_gc {n : List (Int × Int)} {k r : Nat} {x : Int × Int} (hx : n[k]? = some x) (hr : r < 3) {v : Int} (hv : v = (k : Int) + 1) (h : clL v r x ≠ []) : GC n (clL v r x) := by
  refine ⟨k, r, x, hx, hr, ?_, by rw [hv]⟩
  rcases Int.lt_or_le x.1 0 with h1 | h1
  · exact absurd (by unfold clL; rw [if_pos h1]) h
  · exact h1
theorem gc_has {n : List (Int × Int)} {rs : List (RowV Int)} {k : Nat} (hC : ∀ j, j < k → hasC n rs j) (hk : 3 * n.length ≤ k) {c : List Int} (h : GC n c) : rowsC rs c := by
  obtain ⟨i, r, x, h1, h2, h3, rfl⟩ := h
  have hi := lt_of_get h1
  have h4 := hC (3 * i + r) (by omega)
  have e1 : (3 * i + r) / 3 = i := by omega
  have e2 : (3 * i + r) % 3 = r := by omega
  unfold hasC at h4
  rw [e1, e2] at h4
  rcases h4 x h1 with h5 | ⟨q, h5, h6⟩
  · exfalso
    unfold clL at h5
    rw [if_neg (by omega)] at h5
    split at h5
    · cases h5
    · split at h5 <;> cases h5
  · exact ⟨q, h5, h6⟩
set_option maxHeartbeats 8000000 in
theorem ref22_All2 (ra rm : Option Addr) (ca cm : Nat) (n : List (Int × Int)) (more : List (RowV Int)) (w w0 : World) (hw : Ext w0 w) (R : Row 2 encN w ra n) (Rm : Row 1 encRow w rm more) (hm : ∀ q ∈ more, Row 1 encI w0 q.1 q.2.2) (hg : GoodNet n) (hn : n.length ≤ 1048576) (hml : more.length ≤ 1048576) :
    Lt.Spec Try.prog 99 [.slice ra n.length ca, .slice rm more.length cm] w (fun v w' => Ext w w' ∧ ∃ a cap rs, v = .slice a rs.length cap ∧ RJ w0 w' w.heap.size a cap rs ∧ rs.length ≤ 3 * n.length + more.length ∧ ∀ c, rowsC rs c ↔ (GC n c ∨ (c ∈ more.map (·.2.2) ∧ KnownP n c))) := by
  refine Spec.of _ Try.func99 rfl Try.ntmps99 (by kernel_rfl) rfl ?_
  repeat' (first
    | (apply WL.lit (len := 0) tOk; exact rfl; exact rfl; exact rfl; exact rfl; exact rfl; exact rfl; (first | exact rfl | kernel_rfl | (simp [Instr.fill, catCells]; done)); exact rfl; intro gb w' hb hge hc hx; have hO0 := Own.of_block0 (enc := encRI) (s := 1) hb hge)
    | (show WL _ _ _ _ _ _ _; first | apply WL.nil | (apply WL.pev tOk; exact rfl; exact rfl; exact rfl) | (apply WL.load tOk; exact rfl; exact rfl; exact rfl; exact rfl; exact rfl; (first | assumption | (focus (apply Ext.cell; rotate_left; assumption; (exact extA); done)))) | (apply WL.index tOk; exact rfl; exact rfl; exact rfl; exact rfl; exact rfl; exact rfl; exact rfl; exact rfl; assumption; (exact extA); exact rfl; omega; assumption; intro b off h; have hcc := h; first | (obtain ⟨h1, h2, h3, h4, h5, h6, _⟩ := h) | (obtain ⟨h1, h2, h3, _⟩ := h) | (obtain ⟨h1, h2, _⟩ := h) | (obtain ⟨h1, _⟩ := h)) | (apply WL.add; exact rfl; exact rfl; exact rfl; exact rfl; omega) | (apply WL.sub; exact rfl; exact rfl; exact rfl; exact rfl; omega) | (apply WL.mul; exact rfl; exact rfl; exact rfl; exact rfl; omega) | (apply WL.quo; exact rfl; exact rfl; exact rfl; exact rfl; omega) | (apply WL.rem; exact rfl; exact rfl; exact rfl; exact rfl; omega) | (apply WL.loadA tOk; exact rfl; exact rfl; exact rfl; exact rfl; exact rfl; (first | assumption | (focus (apply Cells.ext; rotate_left; assumption; (exact extA); done))); exact rfl) | (apply WL.guardF; exact rfl; exact rfl) | (apply WL.gD; exact rfl; exact rfl; all_goals intro _) | (apply WL.gN; exact rfl; exact rfl; all_goals intro _) | (apply WL.gB; exact rfl; exact rfl; all_goals intro _))
    | (show Z _ _ _ _ _; first | apply Z.tail | apply Z.then_normal | apply Z.block_normal | apply Z.then_exit | apply Z.block_exit | apply Z.then_ret | apply Z.block_ret | (apply Z.block_other; exact rfl))
    | (show W _ _ _ _ _ _; first | apply W.seq | apply W.region | apply W.block | apply W.skip | apply W.ret | apply W.exit | (apply W.condT; exact rfl) | (apply W.condF; exact rfl) | (apply W.condD; exact rfl; all_goals intro _) | (apply W.condN; exact rfl; all_goals intro _) | (apply W.condB; exact rfl; all_goals intro _)))
  refine W.loop (fun s : Nat × List (RowV Int) × Option Addr × Nat × World => s.1 ≤ 3 * n.length ∧ s.2.1.length ≤ s.1 ∧ Ext w s.2.2.2.2 ∧ RJ w0 s.2.2.2.2 w.heap.size s.2.2.1 s.2.2.2.1 s.2.1 ∧ (∀ j, j < s.1 → hasC n s.2.1 j) ∧ ∀ q ∈ s.2.1, GC n q.2.2) (fun s => [(0, .slice ra n.length ca), (1, .slice rm more.length cm), (5, .slice s.2.2.1 s.2.1.length s.2.2.2.1), (6, .int .i64 ((s.1 : Int) + 3))]) (fun s => s.2.2.2.2) (fun s => 3 * n.length - s.1) (0, [], some ⟨gb, 0, none⟩, 0, w') ⟨Nat.zero_le _, Nat.le_refl _, hx, ⟨hO0, (fun q h => by cases h)⟩, (fun j h => absurd h (Nat.not_lt_zero _)), (fun q h => by cases h)⟩ ⟨rfl, rfl, rfl, rfl, trivial⟩ rfl ?_
  rintro ⟨k, rs, ao, co, w9⟩ ⟨hk, hrl, hX9, hI, hC, hG⟩
  dsimp only at hk hrl hX9 hI hC hG
  by_cases hlt : k < 3 * n.length
  · obtain ⟨x, hxn⟩ := getI n (show k / 3 < n.length by omega)
    have ev : ((k : Int) + 3) / 3 = ((k / 3 : Nat) : Int) + 1 := by omega
    have hO1 := hI.outer
    have hsz := hX9.size
    by_cases hnil : clL (((k : Int) + 3) / 3) (k % 3) x = []
    · repeat' (first
        | ((show WL _ _ _ (⟨_, .call ⟨.value (.func 51), _, _⟩, _, _, _, _⟩ :: _) _ _ _); apply WL.call; exact rfl; exact rfl; exact rfl; exact rfl; exact ref22_Clause _ _ n (k / 3) (k % 3) _ x _ (R.ext (by (exact extA))) hg hn hxn (by omega) (by omega); rintro v' w' ⟨hx, a', cap', rfl, hO⟩)
        | (apply WL.gT; exact rfl; exact rfl; (focus (first | exact dec_true (by omega) | exact dec_false (by rw [hnil]; decide); done)))
        | (apply WL.gF; exact rfl; exact rfl; (focus (first | exact dec_true (by omega) | exact dec_false (by rw [hnil]; decide); done)))
        | (apply W.condKT; exact rfl; (focus (first | exact dec_true (by omega) | exact dec_false (by rw [hnil]; decide); done)))
        | (apply W.condKF; exact rfl; (focus (first | exact dec_true (by omega) | exact dec_false (by rw [hnil]; decide); done)))
        | (show WL _ _ _ _ _ _ _; first | apply WL.nil | (apply WL.pev tOk; exact rfl; exact rfl; exact rfl) | (apply WL.load tOk; exact rfl; exact rfl; exact rfl; exact rfl; exact rfl; (first | assumption | (focus (apply Ext.cell; rotate_left; assumption; (exact extA); done)))) | (apply WL.index tOk; exact rfl; exact rfl; exact rfl; exact rfl; exact rfl; exact rfl; exact rfl; exact rfl; assumption; (exact extA); exact rfl; omega; assumption; intro b off h; have hcc := h; first | (obtain ⟨h1, h2, h3, h4, h5, h6, _⟩ := h) | (obtain ⟨h1, h2, h3, _⟩ := h) | (obtain ⟨h1, h2, _⟩ := h) | (obtain ⟨h1, _⟩ := h)) | (apply WL.add; exact rfl; exact rfl; exact rfl; exact rfl; omega) | (apply WL.sub; exact rfl; exact rfl; exact rfl; exact rfl; omega) | (apply WL.mul; exact rfl; exact rfl; exact rfl; exact rfl; omega) | (apply WL.quo; exact rfl; exact rfl; exact rfl; exact rfl; omega) | (apply WL.rem; exact rfl; exact rfl; exact rfl; exact rfl; omega) | (apply WL.loadA tOk; exact rfl; exact rfl; exact rfl; exact rfl; exact rfl; (first | assumption | (focus (apply Cells.ext; rotate_left; assumption; (exact extA); done))); exact rfl) | (apply WL.guardF; exact rfl; exact rfl) | (apply WL.gD; exact rfl; exact rfl; all_goals intro _) | (apply WL.gN; exact rfl; exact rfl; all_goals intro _) | (apply WL.gB; exact rfl; exact rfl; all_goals intro _))
        | (show Z _ _ _ _ _; first | apply Z.tail | apply Z.then_normal | apply Z.block_normal | apply Z.then_exit | apply Z.block_exit | apply Z.then_ret | apply Z.block_ret | (apply Z.block_other; exact rfl))
        | (show W _ _ _ _ _ _; first | apply W.seq | apply W.region | apply W.block | apply W.skip | apply W.ret | apply W.exit | (apply W.condT; exact rfl) | (apply W.condF; exact rfl) | (apply W.condD; exact rfl; all_goals intro _) | (apply W.condN; exact rfl; all_goals intro _) | (apply W.condB; exact rfl; all_goals intro _)))
      refine Z.again (k + 1, rs, ao, co, w') ⟨by show k + 1 ≤ _; omega, by show rs.length ≤ k + 1; omega, (by (exact extA)), hI.ext hx, fun j hj => ?_, hG⟩ (by show 3 * n.length - (k + 1) < 3 * n.length - k; omega) ⟨rfl, rfl, rfl, rfl, trivial⟩ rfl
      by_cases he : j = k
      · subst he
        intro y hy
        rw [hxn] at hy; cases hy
        exact .inl (by rw [← ev]; exact hnil)
      · exact hC j (by have : j < k + 1 := hj; omega)
    · have hpos : (0 : Int) < ((clL (((k : Int) + 3) / 3) (k % 3) x).length : Int) := by
        have := List.length_pos_iff.2 hnil; omega
      repeat' (first
        | ((show WL _ _ _ (⟨_, .call ⟨.value (.func 51), _, _⟩, _, _, _, _⟩ :: _) _ _ _); apply WL.call; exact rfl; exact rfl; exact rfl; exact rfl; exact ref22_Clause _ _ n (k / 3) (k % 3) _ x _ (R.ext (by (exact extA))) hg hn hxn (by omega) (by omega); rintro v' w' ⟨hx, a', cap', rfl, hO⟩; (obtain ⟨hO3, rfl⟩ : ∃ x, x = hO := ⟨_, rfl⟩; obtain ⟨w3, rfl⟩ : ∃ x, x = w' := ⟨_, rfl⟩; obtain ⟨hx3, rfl⟩ : ∃ x, x = hx := ⟨_, rfl⟩; obtain ⟨a3, rfl⟩ : ∃ x, x = a' := ⟨_, rfl⟩; obtain ⟨cap3, rfl⟩ : ∃ x, x = cap' := ⟨_, rfl⟩))
        | (apply WL.gT; exact rfl; exact rfl; (focus (first | exact dec_true (by omega) | exact dec_true hpos; done)))
        | (apply WL.gF; exact rfl; exact rfl; (focus (first | exact dec_true (by omega) | exact dec_true hpos; done)))
        | (apply W.condKT; exact rfl; (focus (first | exact dec_true (by omega) | exact dec_true hpos; done)))
        | (apply W.condKF; exact rfl; (focus (first | exact dec_true (by omega) | exact dec_true hpos; done)))
        | (apply WL.lit tOk; exact rfl; exact rfl; exact rfl; exact rfl; exact rfl; exact rfl; (first | exact rfl | kernel_rfl | (simp [Instr.fill, catCells]; done)); exact rfl; intro gb w' hb hge hc hx)
        | (apply WL.append1 (z := ((a3, cap3, clL (((k : Int) + 3) / 3) (k % 3) x))) tOk encRI_ok; exact rfl; exact rfl; exact rfl; exact rfl; exact rfl; exact rfl; exact rfl; exact rfl; exact rfl; exact rfl; assumption; (exact extA); (first | exact rfl | (simp; done) | (simp [*]; done) | omega | (simp only [List.length_set]; omega)); assumption; exact rfl; exact rfl; (exact extA); (first | omega | (simp; omega) | (simp at *; omega)); intro a' cap' w' hO hX' hU hF)
        | (show WL _ _ _ _ _ _ _; first | apply WL.nil | (apply WL.pev tOk; exact rfl; exact rfl; exact rfl) | (apply WL.load tOk; exact rfl; exact rfl; exact rfl; exact rfl; exact rfl; (first | assumption | (focus (apply Ext.cell; rotate_left; assumption; (exact extA); done)))) | (apply WL.index tOk; exact rfl; exact rfl; exact rfl; exact rfl; exact rfl; exact rfl; exact rfl; exact rfl; assumption; (exact extA); exact rfl; omega; assumption; intro b off h; have hcc := h; first | (obtain ⟨h1, h2, h3, h4, h5, h6, _⟩ := h) | (obtain ⟨h1, h2, h3, _⟩ := h) | (obtain ⟨h1, h2, _⟩ := h) | (obtain ⟨h1, _⟩ := h)) | (apply WL.add; exact rfl; exact rfl; exact rfl; exact rfl; omega) | (apply WL.sub; exact rfl; exact rfl; exact rfl; exact rfl; omega) | (apply WL.mul; exact rfl; exact rfl; exact rfl; exact rfl; omega) | (apply WL.quo; exact rfl; exact rfl; exact rfl; exact rfl; omega) | (apply WL.rem; exact rfl; exact rfl; exact rfl; exact rfl; omega) | (apply WL.loadA tOk; exact rfl; exact rfl; exact rfl; exact rfl; exact rfl; (first | assumption | (focus (apply Cells.ext; rotate_left; assumption; (exact extA); done))); exact rfl) | (apply WL.guardF; exact rfl; exact rfl) | (apply WL.gD; exact rfl; exact rfl; all_goals intro _) | (apply WL.gN; exact rfl; exact rfl; all_goals intro _) | (apply WL.gB; exact rfl; exact rfl; all_goals intro _))
        | (show Z _ _ _ _ _; first | apply Z.tail | apply Z.then_normal | apply Z.block_normal | apply Z.then_exit | apply Z.block_exit | apply Z.then_ret | apply Z.block_ret | (apply Z.block_other; exact rfl))
        | (show W _ _ _ _ _ _; first | apply W.seq | apply W.region | apply W.block | apply W.skip | apply W.ret | apply W.exit | (apply W.condT; exact rfl) | (apply W.condF; exact rfl) | (apply W.condD; exact rfl; all_goals intro _) | (apply W.condN; exact rfl; all_goals intro _) | (apply W.condB; exact rfl; all_goals intro _)))
      refine Z.again (k + 1, rs ++ [(a3, cap3, clL (((k : Int) + 3) / 3) (k % 3) x)], a', cap', w') ⟨by show k + 1 ≤ _; omega, by show (rs ++ [_]).length ≤ k + 1; rw [List.length_append]; exact Nat.succ_le_succ hrl, hX', hI.push hx3 hO3 hsz hx hU hF hO, fun j hj => ?_, fun q hq => ?_⟩ (by show 3 * n.length - (k + 1) < 3 * n.length - k; omega) ⟨rfl, rfl, rfl, rfl, trivial⟩ rfl
      · by_cases he : j = k
        · subst he
          intro y hy
          rw [hxn] at hy; cases hy
          exact .inr ⟨_, List.mem_append_right _ (List.mem_singleton.2 rfl), by show clL _ _ _ = _; rw [ev]⟩
        · intro y hy
          rcases hC j (by have : j < k + 1 := hj; omega) y hy with h5 | ⟨q, h5, h6⟩
          · exact .inl h5
          · exact .inr ⟨q, List.mem_append_left _ h5, h6⟩
      · rcases List.mem_append.1 hq with h5 | h5
        · exact hG q h5
        · obtain rfl := List.mem_singleton.1 h5
          exact clL_gc hxn (by omega) ev hnil
  · repeat' (first
      | (apply WL.gT; exact rfl; exact rfl; (focus (exact dec_false (by omega); done)))
      | (apply WL.gF; exact rfl; exact rfl; (focus (exact dec_false (by omega); done)))
      | (apply W.condKT; exact rfl; (focus (exact dec_false (by omega); done)))
      | (apply W.condKF; exact rfl; (focus (exact dec_false (by omega); done)))
      | (show WL _ _ _ _ _ _ _; first | apply WL.nil | (apply WL.pev tOk; exact rfl; exact rfl; exact rfl) | (apply WL.load tOk; exact rfl; exact rfl; exact rfl; exact rfl; exact rfl; (first | assumption | (focus (apply Ext.cell; rotate_left; assumption; (exact extA); done)))) | (apply WL.index tOk; exact rfl; exact rfl; exact rfl; exact rfl; exact rfl; exact rfl; exact rfl; exact rfl; assumption; (exact extA); exact rfl; omega; assumption; intro b off h; have hcc := h; first | (obtain ⟨h1, h2, h3, h4, h5, h6, _⟩ := h) | (obtain ⟨h1, h2, h3, _⟩ := h) | (obtain ⟨h1, h2, _⟩ := h) | (obtain ⟨h1, _⟩ := h)) | (apply WL.add; exact rfl; exact rfl; exact rfl; exact rfl; omega) | (apply WL.sub; exact rfl; exact rfl; exact rfl; exact rfl; omega) | (apply WL.mul; exact rfl; exact rfl; exact rfl; exact rfl; omega) | (apply WL.quo; exact rfl; exact rfl; exact rfl; exact rfl; omega) | (apply WL.rem; exact rfl; exact rfl; exact rfl; exact rfl; omega) | (apply WL.loadA tOk; exact rfl; exact rfl; exact rfl; exact rfl; exact rfl; (first | assumption | (focus (apply Cells.ext; rotate_left; assumption; (exact extA); done))); exact rfl) | (apply WL.guardF; exact rfl; exact rfl) | (apply WL.gD; exact rfl; exact rfl; all_goals intro _) | (apply WL.gN; exact rfl; exact rfl; all_goals intro _) | (apply WL.gB; exact rfl; exact rfl; all_goals intro _))
      | (show Z _ _ _ _ _; first | apply Z.tail | apply Z.then_normal | apply Z.block_normal | apply Z.then_exit | apply Z.block_exit | apply Z.then_ret | apply Z.block_ret | (apply Z.block_other; exact rfl))
      | (show W _ _ _ _ _ _; first | apply W.seq | apply W.region | apply W.block | apply W.skip | apply W.ret | apply W.exit | (apply W.condT; exact rfl) | (apply W.condF; exact rfl) | (apply W.condD; exact rfl; all_goals intro _) | (apply W.condN; exact rfl; all_goals intro _) | (apply W.condB; exact rfl; all_goals intro _)))
    obtain rfl : k = 3 * n.length := by omega
    have hsz9 := hX9.size
    refine W.loop (fun s : Nat × List (RowV Int) × Option Addr × Nat × World => s.1 ≤ more.length ∧ s.2.1.length ≤ 3 * n.length + s.1 ∧ Ext w s.2.2.2.2 ∧ RJ w0 s.2.2.2.2 w.heap.size s.2.2.1 s.2.2.2.1 s.2.1 ∧ (∀ q ∈ rs, q ∈ s.2.1) ∧ (∀ j q, j < s.1 → more[j]? = some q → KnownP n q.2.2 → rowsC s.2.1 q.2.2) ∧ ∀ q ∈ s.2.1, GC n q.2.2 ∨ (q.2.2 ∈ more.map (·.2.2) ∧ KnownP n q.2.2)) (fun s => [(0, .slice ra n.length ca), (1, .slice rm more.length cm), (5, .slice s.2.2.1 s.2.1.length s.2.2.2.1), (8, .int .i64 s.1)]) (fun s => s.2.2.2.2) (fun s => more.length - s.1) (0, rs, ao, co, w9) ⟨Nat.zero_le _, hrl, hX9, hI, (fun q h => h), (fun j q h => absurd h (Nat.not_lt_zero _)), fun q h => .inl (hG q h)⟩ ⟨rfl, rfl, rfl, rfl, trivial⟩ rfl ?_
    rintro ⟨k, rs2, a2, c2, w2⟩ ⟨hk2, hrl2, hX2, hI2, hS2, hC2, hG2⟩
    dsimp only at hk2 hrl2 hX2 hI2 hS2 hC2 hG2
    have hO2 := hI2.outer
    by_cases hlt2 : k < more.length
    · obtain ⟨q, hq⟩ := getI more hlt2
      have Rq := (hm q (List.mem_of_getElem? hq)).ext (hw.trans hX2)
      have Rm2 := Rm.ext hX2
      by_cases hkn : KnownP n q.2.2
      · repeat' (first
          | (apply WL.gT; exact rfl; exact rfl; (focus (first | exact dec_true (by show ((k : Nat) : Int) < _; omega) | exact dec_true hkn; done)))
          | (apply WL.gF; exact rfl; exact rfl; (focus (first | exact dec_true (by show ((k : Nat) : Int) < _; omega) | exact dec_true hkn; done)))
          | (apply W.condKT; exact rfl; (focus (first | exact dec_true (by show ((k : Nat) : Int) < _; omega) | exact dec_true hkn; done)))
          | (apply W.condKF; exact rfl; (focus (first | exact dec_true (by show ((k : Nat) : Int) < _; omega) | exact dec_true hkn; done)))
          | ((show WL _ _ _ (⟨_, .call ⟨.value (.func 45), _, _⟩, _, _, _, _⟩ :: _) _ _ _); apply WL.callS; exact rfl; exact rfl; exact rfl; exact rfl; exact ref22_Known _ _ _ _ n q.2.2 _ Rq (by omega))
          | (apply WL.lit tOk; exact rfl; exact rfl; exact rfl; exact rfl; exact rfl; exact rfl; (first | exact rfl | kernel_rfl | (simp [Instr.fill, catCells]; done)); exact rfl; intro gb w' hb hge hc hx)
          | (apply WL.append1 (z := (q)) tOk encRI_ok; exact rfl; exact rfl; exact rfl; exact rfl; exact rfl; exact rfl; exact rfl; exact rfl; exact rfl; exact rfl; assumption; (exact extA); (first | exact rfl | (simp; done) | (simp [*]; done) | omega | (simp only [List.length_set]; omega)); assumption; exact rfl; exact rfl; (exact extA); (first | omega | (simp; omega) | (simp at *; omega)); intro a' cap' w' hO hX' hU hF)
          | (show WL _ _ _ _ _ _ _; first | apply WL.nil | (apply WL.pev tOk; exact rfl; exact rfl; exact rfl) | (apply WL.load tOk; exact rfl; exact rfl; exact rfl; exact rfl; exact rfl; (first | assumption | (focus (apply Ext.cell; rotate_left; assumption; (exact extA); done)))) | (apply WL.index tOk; exact rfl; exact rfl; exact rfl; exact rfl; exact rfl; exact rfl; exact rfl; exact rfl; assumption; (exact extA); exact rfl; omega; assumption; intro b off h; have hcc := h; first | (obtain ⟨h1, h2, h3, h4, h5, h6, _⟩ := h) | (obtain ⟨h1, h2, h3, _⟩ := h) | (obtain ⟨h1, h2, _⟩ := h) | (obtain ⟨h1, _⟩ := h)) | (apply WL.add; exact rfl; exact rfl; exact rfl; exact rfl; omega) | (apply WL.sub; exact rfl; exact rfl; exact rfl; exact rfl; omega) | (apply WL.mul; exact rfl; exact rfl; exact rfl; exact rfl; omega) | (apply WL.quo; exact rfl; exact rfl; exact rfl; exact rfl; omega) | (apply WL.rem; exact rfl; exact rfl; exact rfl; exact rfl; omega) | (apply WL.loadA tOk; exact rfl; exact rfl; exact rfl; exact rfl; exact rfl; (first | assumption | (focus (apply Cells.ext; rotate_left; assumption; (exact extA); done))); exact rfl) | (apply WL.guardF; exact rfl; exact rfl) | (apply WL.gD; exact rfl; exact rfl; all_goals intro _) | (apply WL.gN; exact rfl; exact rfl; all_goals intro _) | (apply WL.gB; exact rfl; exact rfl; all_goals intro _))
          | (show Z _ _ _ _ _; first | apply Z.tail | apply Z.then_normal | apply Z.block_normal | apply Z.then_exit | apply Z.block_exit | apply Z.then_ret | apply Z.block_ret | (apply Z.block_other; exact rfl))
          | (show W _ _ _ _ _ _; first | apply W.seq | apply W.region | apply W.block | apply W.skip | apply W.ret | apply W.exit | (apply W.condT; exact rfl) | (apply W.condF; exact rfl) | (apply W.condD; exact rfl; all_goals intro _) | (apply W.condN; exact rfl; all_goals intro _) | (apply W.condB; exact rfl; all_goals intro _)))
        refine Z.again (k + 1, rs2 ++ [q], a', cap', w') ⟨by show k + 1 ≤ _; omega, by show (rs2 ++ [_]).length ≤ _; rw [List.length_append]; show rs2.length + 1 ≤ 3 * n.length + (k + 1); omega, hX', (hI2.ext (by (exact extA))).grow (.inl (hm q (List.mem_of_getElem? hq))) hU hF hO, (fun p hp => List.mem_append_left _ (hS2 p hp)), fun j p hj hp hpk => ?_, fun p hp => ?_⟩ (by show more.length - (k + 1) < more.length - k; omega) ⟨rfl, rfl, rfl, rfl, trivial⟩ rfl
        · by_cases he : j = k
          · subst he
            rw [hq] at hp; cases hp
            exact ⟨q, List.mem_append_right _ (List.mem_singleton.2 rfl), rfl⟩
          · obtain ⟨p2, h5, h6⟩ := hC2 j p (by have : j < k + 1 := hj; omega) hp hpk
            exact ⟨p2, List.mem_append_left _ h5, h6⟩
        · rcases List.mem_append.1 hp with h5 | h5
          · exact hG2 p h5
          · obtain rfl := List.mem_singleton.1 h5
            exact .inr ⟨List.mem_map.2 ⟨p, List.mem_of_getElem? hq, rfl⟩, hkn⟩
      · repeat' (first
          | (apply WL.gT; exact rfl; exact rfl; (focus (first | exact dec_true (by show ((k : Nat) : Int) < _; omega) | exact dec_false hkn; done)))
          | (apply WL.gF; exact rfl; exact rfl; (focus (first | exact dec_true (by show ((k : Nat) : Int) < _; omega) | exact dec_false hkn; done)))
          | (apply W.condKT; exact rfl; (focus (first | exact dec_true (by show ((k : Nat) : Int) < _; omega) | exact dec_false hkn; done)))
          | (apply W.condKF; exact rfl; (focus (first | exact dec_true (by show ((k : Nat) : Int) < _; omega) | exact dec_false hkn; done)))
          | ((show WL _ _ _ (⟨_, .call ⟨.value (.func 45), _, _⟩, _, _, _, _⟩ :: _) _ _ _); apply WL.callS; exact rfl; exact rfl; exact rfl; exact rfl; exact ref22_Known _ _ _ _ n q.2.2 _ Rq (by omega))
          | (show WL _ _ _ _ _ _ _; first | apply WL.nil | (apply WL.pev tOk; exact rfl; exact rfl; exact rfl) | (apply WL.load tOk; exact rfl; exact rfl; exact rfl; exact rfl; exact rfl; (first | assumption | (focus (apply Ext.cell; rotate_left; assumption; (exact extA); done)))) | (apply WL.index tOk; exact rfl; exact rfl; exact rfl; exact rfl; exact rfl; exact rfl; exact rfl; exact rfl; assumption; (exact extA); exact rfl; omega; assumption; intro b off h; have hcc := h; first | (obtain ⟨h1, h2, h3, h4, h5, h6, _⟩ := h) | (obtain ⟨h1, h2, h3, _⟩ := h) | (obtain ⟨h1, h2, _⟩ := h) | (obtain ⟨h1, _⟩ := h)) | (apply WL.add; exact rfl; exact rfl; exact rfl; exact rfl; omega) | (apply WL.sub; exact rfl; exact rfl; exact rfl; exact rfl; omega) | (apply WL.mul; exact rfl; exact rfl; exact rfl; exact rfl; omega) | (apply WL.quo; exact rfl; exact rfl; exact rfl; exact rfl; omega) | (apply WL.rem; exact rfl; exact rfl; exact rfl; exact rfl; omega) | (apply WL.loadA tOk; exact rfl; exact rfl; exact rfl; exact rfl; exact rfl; (first | assumption | (focus (apply Cells.ext; rotate_left; assumption; (exact extA); done))); exact rfl) | (apply WL.guardF; exact rfl; exact rfl) | (apply WL.gD; exact rfl; exact rfl; all_goals intro _) | (apply WL.gN; exact rfl; exact rfl; all_goals intro _) | (apply WL.gB; exact rfl; exact rfl; all_goals intro _))
          | (show Z _ _ _ _ _; first | apply Z.tail | apply Z.then_normal | apply Z.block_normal | apply Z.then_exit | apply Z.block_exit | apply Z.then_ret | apply Z.block_ret | (apply Z.block_other; exact rfl))
          | (show W _ _ _ _ _ _; first | apply W.seq | apply W.region | apply W.block | apply W.skip | apply W.ret | apply W.exit | (apply W.condT; exact rfl) | (apply W.condF; exact rfl) | (apply W.condD; exact rfl; all_goals intro _) | (apply W.condN; exact rfl; all_goals intro _) | (apply W.condB; exact rfl; all_goals intro _)))
        refine Z.again (k + 1, rs2, a2, c2, w2) ⟨by show k + 1 ≤ _; omega, by show rs2.length ≤ 3 * n.length + (k + 1); omega, hX2, hI2, hS2, fun j p hj hp hpk => ?_, hG2⟩ (by show more.length - (k + 1) < more.length - k; omega) ⟨rfl, rfl, rfl, rfl, trivial⟩ rfl
        by_cases he : j = k
        · subst he
          rw [hq] at hp; cases hp
          exact absurd hpk hkn
        · exact hC2 j p (by have : j < k + 1 := hj; omega) hp hpk
    · repeat' (first
        | (apply WL.gT; exact rfl; exact rfl; (focus (exact dec_false (by omega); done)))
        | (apply WL.gF; exact rfl; exact rfl; (focus (exact dec_false (by omega); done)))
        | (apply W.condKT; exact rfl; (focus (exact dec_false (by omega); done)))
        | (apply W.condKF; exact rfl; (focus (exact dec_false (by omega); done)))
        | (show WL _ _ _ _ _ _ _; first | apply WL.nil | (apply WL.pev tOk; exact rfl; exact rfl; exact rfl) | (apply WL.load tOk; exact rfl; exact rfl; exact rfl; exact rfl; exact rfl; (first | assumption | (focus (apply Ext.cell; rotate_left; assumption; (exact extA); done)))) | (apply WL.index tOk; exact rfl; exact rfl; exact rfl; exact rfl; exact rfl; exact rfl; exact rfl; exact rfl; assumption; (exact extA); exact rfl; omega; assumption; intro b off h; have hcc := h; first | (obtain ⟨h1, h2, h3, h4, h5, h6, _⟩ := h) | (obtain ⟨h1, h2, h3, _⟩ := h) | (obtain ⟨h1, h2, _⟩ := h) | (obtain ⟨h1, _⟩ := h)) | (apply WL.add; exact rfl; exact rfl; exact rfl; exact rfl; omega) | (apply WL.sub; exact rfl; exact rfl; exact rfl; exact rfl; omega) | (apply WL.mul; exact rfl; exact rfl; exact rfl; exact rfl; omega) | (apply WL.quo; exact rfl; exact rfl; exact rfl; exact rfl; omega) | (apply WL.rem; exact rfl; exact rfl; exact rfl; exact rfl; omega) | (apply WL.loadA tOk; exact rfl; exact rfl; exact rfl; exact rfl; exact rfl; (first | assumption | (focus (apply Cells.ext; rotate_left; assumption; (exact extA); done))); exact rfl) | (apply WL.guardF; exact rfl; exact rfl) | (apply WL.gD; exact rfl; exact rfl; all_goals intro _) | (apply WL.gN; exact rfl; exact rfl; all_goals intro _) | (apply WL.gB; exact rfl; exact rfl; all_goals intro _))
        | (show Z _ _ _ _ _; first | apply Z.tail | apply Z.then_normal | apply Z.block_normal | apply Z.then_exit | apply Z.block_exit | apply Z.then_ret | apply Z.block_ret | (apply Z.block_other; exact rfl))
        | (show W _ _ _ _ _ _; first | apply W.seq | apply W.region | apply W.block | apply W.skip | apply W.ret | apply W.exit | (apply W.condT; exact rfl) | (apply W.condF; exact rfl) | (apply W.condD; exact rfl; all_goals intro _) | (apply W.condN; exact rfl; all_goals intro _) | (apply W.condB; exact rfl; all_goals intro _)))
      obtain rfl : k = more.length := by omega
      refine Z.body1 Try.results99 rfl fun m => ⟨hX2.at m, a2, c2, rs2, rfl, hI2.ext ((Ext.refl _).at m), hrl2, fun c => ⟨fun ⟨q, h1, h2⟩ => by rw [← h2]; exact hG2 q h1, fun h => ?_⟩⟩
      rcases h with h | ⟨h, h'⟩
      · obtain ⟨q, h1, h2⟩ := gc_has hC (Nat.le_refl _) h
        exact ⟨q, hS2 q h1, h2⟩
      · obtain ⟨q, h1, rfl⟩ := List.mem_map.1 h
        obtain ⟨j, hj, he⟩ := List.getElem_of_mem h1
        exact hC2 j q hj (by rw [List.getElem?_eq_getElem hj, he]) h'

set_option maxHeartbeats 8000000 in
theorem ref22_Units2 (ra rc : Option Addr) (ca cc : Nat) (vals : List Int) (cs : List (RowV Int)) (w : World) (R : Row 1 encI w ra vals) (Rc : Row 1 encRow w rc cs) (hin : ∀ c ∈ cs, Row 1 encI w c.1 c.2.2 ∧ ∀ x ∈ c.2.2, 0 ≤ x ∧ (x / 2).toNat < vals.length ∧ x ≤ 33554433) (hna : ra = none → ca = 0) (hvl : vals.length ≤ 1048577) (hok : OkV vals.length vals) :
    Lt.Spec Try.prog 98 [.slice ra vals.length ca, .slice rc cs.length cc] w (fun v w' => Ext w w' ∧ ((v = .tuple #[.slice none 0 0, .bool false] ∧ Out (rowsC cs) vals none) ∨ ∃ a c out, v = .tuple #[.slice a out.length c, .bool true] ∧ Own 1 encI 3 w.heap.size w' a c out ∧ Out (rowsC cs) vals (some out))) := by
  have hcl := Rc.len
  have hlit : LitC vals.length (rowsC cs) := fun c ⟨q, h1, h2⟩ => by rw [← h2]; exact (hin q h1).2
  refine Spec.of _ Try.func98 rfl Try.ntmps98 (by kernel_rfl) rfl ?_
  repeat' (first
    | (apply WL.lit (len := 0) tOk; exact rfl; exact rfl; exact rfl; exact rfl; exact rfl; exact rfl; (first | exact rfl | kernel_rfl | (simp [Instr.fill, catCells]; done)); exact rfl; intro gb w' hb hge hc hx; have hO0 := Own.of_block0 (enc := encI) (s := 1) hb hge)
    | (apply WL.appendS tOk encI_ok; exact rfl; exact rfl; exact rfl; exact rfl; exact rfl; exact rfl; exact rfl; exact rfl; exact rfl; exact rfl; assumption; (exact extA); (first | exact rfl | (simp; done) | (simp [*]; done) | omega | (simp only [List.length_set]; omega)); assumption; (exact extA); (first | exact rfl | (simp; done) | (simp [*]; done) | omega | (simp only [List.length_set]; omega)); (first | assumption | (intro h; cases h) | exact Own.noneCap (by assumption)); exact rfl; (exact extA); (first | omega | (simp; omega) | (simp at *; omega)); intro a' cap' w' hO hX' hU hF)
    | (show WL _ _ _ _ _ _ _; first | apply WL.nil | (apply WL.pev tOk; exact rfl; exact rfl; exact rfl) | (apply WL.load tOk; exact rfl; exact rfl; exact rfl; exact rfl; exact rfl; (first | assumption | (focus (apply Ext.cell; rotate_left; assumption; (exact extA); done)))) | (apply WL.index tOk; exact rfl; exact rfl; exact rfl; exact rfl; exact rfl; exact rfl; exact rfl; exact rfl; assumption; (exact extA); exact rfl; omega; assumption; intro b off h; have hcc := h; first | (obtain ⟨h1, h2, h3, h4, h5, h6, _⟩ := h) | (obtain ⟨h1, h2, h3, _⟩ := h) | (obtain ⟨h1, h2, _⟩ := h) | (obtain ⟨h1, _⟩ := h)) | (apply WL.add; exact rfl; exact rfl; exact rfl; exact rfl; omega) | (apply WL.sub; exact rfl; exact rfl; exact rfl; exact rfl; omega) | (apply WL.mul; exact rfl; exact rfl; exact rfl; exact rfl; omega) | (apply WL.quo; exact rfl; exact rfl; exact rfl; exact rfl; omega) | (apply WL.rem; exact rfl; exact rfl; exact rfl; exact rfl; omega) | (apply WL.loadA tOk; exact rfl; exact rfl; exact rfl; exact rfl; exact rfl; (first | assumption | (focus (apply Cells.ext; rotate_left; assumption; (exact extA); done))); exact rfl) | (apply WL.guardF; exact rfl; exact rfl) | (apply WL.gD; exact rfl; exact rfl; all_goals intro _) | (apply WL.gN; exact rfl; exact rfl; all_goals intro _) | (apply WL.gB; exact rfl; exact rfl; all_goals intro _))
    | (show Z _ _ _ _ _; first | apply Z.tail | apply Z.then_normal | apply Z.block_normal | apply Z.then_exit | apply Z.block_exit | apply Z.then_ret | apply Z.block_ret | (apply Z.block_other; exact rfl))
    | (show W _ _ _ _ _ _; first | apply W.seq | apply W.region | apply W.block | apply W.skip | apply W.ret | apply W.exit | (apply W.condT; exact rfl) | (apply W.condF; exact rfl) | (apply W.condD; exact rfl; all_goals intro _) | (apply W.condN; exact rfl; all_goals intro _) | (apply W.condB; exact rfl; all_goals intro _)))
  rw [List.nil_append] at hO
  refine W.loop (fun s : List Int × Option Addr × Nat × World => Rch (rowsC cs) vals s.1 ∧ Ext w s.2.2.2 ∧ Own 1 encI 3 w.heap.size s.2.2.2 s.2.1 s.2.2.1 s.1) (fun s => [(1, .slice rc cs.length cc), (6, .slice s.2.1 s.1.length s.2.2.1)]) (fun s => s.2.2.2) (fun s => cnt2 s.1) (vals, a', cap', w') ⟨.base, hX', hO⟩ ⟨rfl, rfl, trivial⟩ rfl ?_
  rintro ⟨out0, ao, co, w0⟩ ⟨hr0, hX0, hO0⟩
  dsimp only at hr0 hX0 hO0
  repeat' (first
    | (show WL _ _ _ _ _ _ _; first | apply WL.nil | (apply WL.pev tOk; exact rfl; exact rfl; exact rfl) | (apply WL.load tOk; exact rfl; exact rfl; exact rfl; exact rfl; exact rfl; (first | assumption | (focus (apply Ext.cell; rotate_left; assumption; (exact extA); done)))) | (apply WL.index tOk; exact rfl; exact rfl; exact rfl; exact rfl; exact rfl; exact rfl; exact rfl; exact rfl; assumption; (exact extA); exact rfl; omega; assumption; intro b off h; have hcc := h; first | (obtain ⟨h1, h2, h3, h4, h5, h6, _⟩ := h) | (obtain ⟨h1, h2, h3, _⟩ := h) | (obtain ⟨h1, h2, _⟩ := h) | (obtain ⟨h1, _⟩ := h)) | (apply WL.add; exact rfl; exact rfl; exact rfl; exact rfl; omega) | (apply WL.sub; exact rfl; exact rfl; exact rfl; exact rfl; omega) | (apply WL.mul; exact rfl; exact rfl; exact rfl; exact rfl; omega) | (apply WL.quo; exact rfl; exact rfl; exact rfl; exact rfl; omega) | (apply WL.rem; exact rfl; exact rfl; exact rfl; exact rfl; omega) | (apply WL.loadA tOk; exact rfl; exact rfl; exact rfl; exact rfl; exact rfl; (first | assumption | (focus (apply Cells.ext; rotate_left; assumption; (exact extA); done))); exact rfl) | (apply WL.guardF; exact rfl; exact rfl) | (apply WL.gD; exact rfl; exact rfl; all_goals intro _) | (apply WL.gN; exact rfl; exact rfl; all_goals intro _) | (apply WL.gB; exact rfl; exact rfl; all_goals intro _))
    | (show Z _ _ _ _ _; first | apply Z.tail | apply Z.then_normal | apply Z.block_normal | apply Z.then_exit | apply Z.block_exit | apply Z.then_ret | apply Z.block_ret | (apply Z.block_other; exact rfl))
    | (show W _ _ _ _ _ _; first | apply W.seq | apply W.region | apply W.block | apply W.skip | apply W.ret | apply W.exit | (apply W.condT; exact rfl) | (apply W.condF; exact rfl) | (apply W.condD; exact rfl; all_goals intro _) | (apply W.condN; exact rfl; all_goals intro _) | (apply W.condB; exact rfl; all_goals intro _)))
  refine W.loop (fun s : Nat × Bool × List Int × World => s.1 ≤ cs.length ∧ Rch (rowsC cs) vals s.2.2.1 ∧ Ext w s.2.2.2 ∧ Own 1 encI 3 w.heap.size s.2.2.2 ao co s.2.2.1 ∧ (s.2.1 = true → cnt2 s.2.2.1 < cnt2 out0) ∧ (s.2.1 = false → s.2.2.1 = out0 ∧ ∀ q ∈ cs.take s.1, goodC out0 q.2.2)) (fun s => [(1, .slice rc cs.length cc), (6, .slice ao s.2.2.1.length co), (7, .bool s.2.1), (8, .int .i64 s.1)]) (fun s => s.2.2.2) (fun s => cs.length - s.1) (0, false, out0, w0) ⟨Nat.zero_le _, hr0, hX0, hO0, (fun h => by cases h), fun _ => ⟨rfl, fun q h => by simp at h⟩⟩ ⟨rfl, rfl, rfl, rfl, trivial⟩ rfl ?_
  rintro ⟨k, more, out, w9⟩ ⟨hk, hr9, hX9, hO9, hm1, hm2⟩
  dsimp only at hk hr9 hX9 hO9 hm1 hm2
  have hkv := (hr9.ok hlit hok).1
  have hol := hkv.len
  by_cases hlt : k < cs.length
  · obtain ⟨c, hc⟩ := getI cs hlt
    obtain ⟨Rq, hq⟩ := hin c (List.mem_of_getElem? hc)
    have hmem : rowsC cs c.2.2 := ⟨c, List.mem_of_getElem? hc, rfl⟩
    have Rq9 := Rq.ext hX9
    have Rc9 := Rc.ext hX9
    have Ro := Own.row encI_ok hO9
    by_cases z1 : vC out 0 c.2.2 = 0
    · repeat' (first
        | ((show WL _ _ _ (⟨_, .call ⟨.value (.func 46), _, _⟩, _, _, _, _⟩ :: _) _ _ _); apply WL.callS; exact rfl; exact rfl; exact rfl; exact rfl; exact ref20_Value _ _ _ _ out c.2.2 _ Ro Rq9)
        | (apply WL.gT; exact rfl; exact rfl; (focus (first | exact dec_true (by show ((k : Nat) : Int) < _; omega) | exact dec_true z1; done)))
        | (apply WL.gF; exact rfl; exact rfl; (focus (first | exact dec_true (by show ((k : Nat) : Int) < _; omega) | exact dec_true z1; done)))
        | (apply W.condKT; exact rfl; (focus (first | exact dec_true (by show ((k : Nat) : Int) < _; omega) | exact dec_true z1; done)))
        | (apply W.condKF; exact rfl; (focus (first | exact dec_true (by show ((k : Nat) : Int) < _; omega) | exact dec_true z1; done)))
        | (show WL _ _ _ _ _ _ _; first | apply WL.nil | (apply WL.pev tOk; exact rfl; exact rfl; exact rfl) | (apply WL.load tOk; exact rfl; exact rfl; exact rfl; exact rfl; exact rfl; (first | assumption | (focus (apply Ext.cell; rotate_left; assumption; (exact extA); done)))) | (apply WL.index tOk; exact rfl; exact rfl; exact rfl; exact rfl; exact rfl; exact rfl; exact rfl; exact rfl; assumption; (exact extA); exact rfl; omega; assumption; intro b off h; have hcc := h; first | (obtain ⟨h1, h2, h3, h4, h5, h6, _⟩ := h) | (obtain ⟨h1, h2, h3, _⟩ := h) | (obtain ⟨h1, h2, _⟩ := h) | (obtain ⟨h1, _⟩ := h)) | (apply WL.add; exact rfl; exact rfl; exact rfl; exact rfl; omega) | (apply WL.sub; exact rfl; exact rfl; exact rfl; exact rfl; omega) | (apply WL.mul; exact rfl; exact rfl; exact rfl; exact rfl; omega) | (apply WL.quo; exact rfl; exact rfl; exact rfl; exact rfl; omega) | (apply WL.rem; exact rfl; exact rfl; exact rfl; exact rfl; omega) | (apply WL.loadA tOk; exact rfl; exact rfl; exact rfl; exact rfl; exact rfl; (first | assumption | (focus (apply Cells.ext; rotate_left; assumption; (exact extA); done))); exact rfl) | (apply WL.guardF; exact rfl; exact rfl) | (apply WL.gD; exact rfl; exact rfl; all_goals intro _) | (apply WL.gN; exact rfl; exact rfl; all_goals intro _) | (apply WL.gB; exact rfl; exact rfl; all_goals intro _))
        | (show Z _ _ _ _ _; first | apply Z.tail | apply Z.then_normal | apply Z.block_normal | apply Z.then_exit | apply Z.block_exit | apply Z.then_ret | apply Z.block_ret | (apply Z.block_other; exact rfl))
        | (show W _ _ _ _ _ _; first | apply W.seq | apply W.region | apply W.block | apply W.skip | apply W.ret | apply W.exit | (apply W.condT; exact rfl) | (apply W.condF; exact rfl) | (apply W.condD; exact rfl; all_goals intro _) | (apply W.condN; exact rfl; all_goals intro _) | (apply W.condB; exact rfl; all_goals intro _)))
      exact Z.body2 Try.results98 rfl rfl fun m => ⟨hX9.at m, .inl ⟨rfl, out, c.2.2, hr9, hmem, z1⟩⟩
    · by_cases z2 : 1 < uC out (-1) c.2.2
      · have hu := (uC_unit z2).2
        have hu2 := hq _ hu.1
        have h2 := hkv.two (by omega) hu2.2.1 hu2.2.2 hu.2
        have hcs := cnt2_set out _ (if uC out (-1) c.2.2 % 2 = 1 then 0 else 1) h2 (by split <;> decide)
        have hle : cnt2 out ≤ cnt2 out0 := by
          cases more
          · rw [(hm2 rfl).1]; exact Nat.le_refl _
          · exact Nat.le_of_lt (hm1 rfl)
        repeat' (first
          | ((show WL _ _ _ (⟨_, .call ⟨.value (.func 46), _, _⟩, _, _, _, _⟩ :: _) _ _ _); apply WL.callS; exact rfl; exact rfl; exact rfl; exact rfl; exact ref20_Value _ _ _ _ out c.2.2 _ Ro Rq9)
          | ((show WL _ _ _ (⟨_, .call ⟨.value (.func 124), _, _⟩, _, _, _, _⟩ :: _) _ _ _); apply WL.callS; exact rfl; exact rfl; exact rfl; exact rfl; exact ref20_Unit _ _ _ _ out c.2.2 _ Ro Rq9)
          | (apply WL.gT; exact rfl; exact rfl; (focus (first | exact dec_true (by show ((k : Nat) : Int) < _; omega) | exact dec_false z1 | exact dec_true z2; done)))
          | (apply WL.gF; exact rfl; exact rfl; (focus (first | exact dec_true (by show ((k : Nat) : Int) < _; omega) | exact dec_false z1 | exact dec_true z2; done)))
          | (apply W.condKT; exact rfl; (focus (first | exact dec_true (by show ((k : Nat) : Int) < _; omega) | exact dec_false z1 | exact dec_true z2; done)))
          | (apply W.condKF; exact rfl; (focus (first | exact dec_true (by show ((k : Nat) : Int) < _; omega) | exact dec_false z1 | exact dec_true z2; done)))
          | (((show WL _ _ _ (⟨_, .call ⟨.value (.func 125), _, _⟩, _, _, _, _⟩ :: _) _ _ _); apply WL.call; exact rfl; exact rfl; exact rfl; exact rfl; exact ref22_set _ _ out (uC out (-1) c.2.2) _ w hX9 hO9 ⟨by omega, by omega, by omega⟩; rintro v' w8 ⟨rfl, hX8, hO8⟩))
          | (show WL _ _ _ _ _ _ _; first | apply WL.nil | (apply WL.pev tOk; exact rfl; exact rfl; exact rfl) | (apply WL.load tOk; exact rfl; exact rfl; exact rfl; exact rfl; exact rfl; (first | assumption | (focus (apply Ext.cell; rotate_left; assumption; (exact extA); done)))) | (apply WL.index tOk; exact rfl; exact rfl; exact rfl; exact rfl; exact rfl; exact rfl; exact rfl; exact rfl; assumption; (exact extA); exact rfl; omega; assumption; intro b off h; have hcc := h; first | (obtain ⟨h1, h2, h3, h4, h5, h6, _⟩ := h) | (obtain ⟨h1, h2, h3, _⟩ := h) | (obtain ⟨h1, h2, _⟩ := h) | (obtain ⟨h1, _⟩ := h)) | (apply WL.add; exact rfl; exact rfl; exact rfl; exact rfl; omega) | (apply WL.sub; exact rfl; exact rfl; exact rfl; exact rfl; omega) | (apply WL.mul; exact rfl; exact rfl; exact rfl; exact rfl; omega) | (apply WL.quo; exact rfl; exact rfl; exact rfl; exact rfl; omega) | (apply WL.rem; exact rfl; exact rfl; exact rfl; exact rfl; omega) | (apply WL.loadA tOk; exact rfl; exact rfl; exact rfl; exact rfl; exact rfl; (first | assumption | (focus (apply Cells.ext; rotate_left; assumption; (exact extA); done))); exact rfl) | (apply WL.guardF; exact rfl; exact rfl) | (apply WL.gD; exact rfl; exact rfl; all_goals intro _) | (apply WL.gN; exact rfl; exact rfl; all_goals intro _) | (apply WL.gB; exact rfl; exact rfl; all_goals intro _))
          | (show Z _ _ _ _ _; first | apply Z.tail | apply Z.then_normal | apply Z.block_normal | apply Z.then_exit | apply Z.block_exit | apply Z.then_ret | apply Z.block_ret | (apply Z.block_other; exact rfl))
          | (show W _ _ _ _ _ _; first | apply W.seq | apply W.region | apply W.block | apply W.skip | apply W.ret | apply W.exit | (apply W.condT; exact rfl) | (apply W.condF; exact rfl) | (apply W.condD; exact rfl; all_goals intro _) | (apply W.condN; exact rfl; all_goals intro _) | (apply W.condB; exact rfl; all_goals intro _)))
        exact Z.again (k + 1, true, setV out (uC out (-1) c.2.2), w8) ⟨by show k + 1 ≤ _; omega, .step hr9 hmem z2, hX8, hO8, fun _ => by show cnt2 (setV _ _) < _; unfold setV; omega, (fun h => by cases h)⟩ (by show cs.length - (k + 1) < cs.length - k; omega) ⟨rfl, by rw [setV_len]; exact rfl, rfl, rfl, trivial⟩ rfl
      · repeat' (first
          | ((show WL _ _ _ (⟨_, .call ⟨.value (.func 46), _, _⟩, _, _, _, _⟩ :: _) _ _ _); apply WL.callS; exact rfl; exact rfl; exact rfl; exact rfl; exact ref20_Value _ _ _ _ out c.2.2 _ Ro Rq9)
          | ((show WL _ _ _ (⟨_, .call ⟨.value (.func 124), _, _⟩, _, _, _, _⟩ :: _) _ _ _); apply WL.callS; exact rfl; exact rfl; exact rfl; exact rfl; exact ref20_Unit _ _ _ _ out c.2.2 _ Ro Rq9)
          | (apply WL.gT; exact rfl; exact rfl; (focus (first | exact dec_true (by show ((k : Nat) : Int) < _; omega) | exact dec_false z1 | exact dec_false z2; done)))
          | (apply WL.gF; exact rfl; exact rfl; (focus (first | exact dec_true (by show ((k : Nat) : Int) < _; omega) | exact dec_false z1 | exact dec_false z2; done)))
          | (apply W.condKT; exact rfl; (focus (first | exact dec_true (by show ((k : Nat) : Int) < _; omega) | exact dec_false z1 | exact dec_false z2; done)))
          | (apply W.condKF; exact rfl; (focus (first | exact dec_true (by show ((k : Nat) : Int) < _; omega) | exact dec_false z1 | exact dec_false z2; done)))
          | (show WL _ _ _ _ _ _ _; first | apply WL.nil | (apply WL.pev tOk; exact rfl; exact rfl; exact rfl) | (apply WL.load tOk; exact rfl; exact rfl; exact rfl; exact rfl; exact rfl; (first | assumption | (focus (apply Ext.cell; rotate_left; assumption; (exact extA); done)))) | (apply WL.index tOk; exact rfl; exact rfl; exact rfl; exact rfl; exact rfl; exact rfl; exact rfl; exact rfl; assumption; (exact extA); exact rfl; omega; assumption; intro b off h; have hcc := h; first | (obtain ⟨h1, h2, h3, h4, h5, h6, _⟩ := h) | (obtain ⟨h1, h2, h3, _⟩ := h) | (obtain ⟨h1, h2, _⟩ := h) | (obtain ⟨h1, _⟩ := h)) | (apply WL.add; exact rfl; exact rfl; exact rfl; exact rfl; omega) | (apply WL.sub; exact rfl; exact rfl; exact rfl; exact rfl; omega) | (apply WL.mul; exact rfl; exact rfl; exact rfl; exact rfl; omega) | (apply WL.quo; exact rfl; exact rfl; exact rfl; exact rfl; omega) | (apply WL.rem; exact rfl; exact rfl; exact rfl; exact rfl; omega) | (apply WL.loadA tOk; exact rfl; exact rfl; exact rfl; exact rfl; exact rfl; (first | assumption | (focus (apply Cells.ext; rotate_left; assumption; (exact extA); done))); exact rfl) | (apply WL.guardF; exact rfl; exact rfl) | (apply WL.gD; exact rfl; exact rfl; all_goals intro _) | (apply WL.gN; exact rfl; exact rfl; all_goals intro _) | (apply WL.gB; exact rfl; exact rfl; all_goals intro _))
          | (show Z _ _ _ _ _; first | apply Z.tail | apply Z.then_normal | apply Z.block_normal | apply Z.then_exit | apply Z.block_exit | apply Z.then_ret | apply Z.block_ret | (apply Z.block_other; exact rfl))
          | (show W _ _ _ _ _ _; first | apply W.seq | apply W.region | apply W.block | apply W.skip | apply W.ret | apply W.exit | (apply W.condT; exact rfl) | (apply W.condF; exact rfl) | (apply W.condD; exact rfl; all_goals intro _) | (apply W.condN; exact rfl; all_goals intro _) | (apply W.condB; exact rfl; all_goals intro _)))
        exact Z.again (k + 1, more, out, w9) ⟨by show k + 1 ≤ _; omega, hr9, hX9, hO9, hm1, fun h => ⟨(hm2 h).1, fun q hqm => by
          obtain ⟨e1, e2⟩ := hm2 h
          rw [take_succ' hc] at hqm
          rcases List.mem_append.1 hqm with h3 | h3
          · exact e2 q h3
          · obtain rfl := List.mem_singleton.1 h3; rw [← e1]; exact ⟨z1, z2⟩⟩⟩ (by show cs.length - (k + 1) < cs.length - k; omega) ⟨rfl, rfl, rfl, rfl, trivial⟩ rfl
  · obtain rfl : k = cs.length := by omega
    cases more
    · obtain ⟨e1, e2⟩ := hm2 rfl
      rw [List.take_length] at e2
      repeat' (first
        | (apply WL.gT; exact rfl; exact rfl; (focus (exact dec_false (by show ¬ ((cs.length : Nat) : Int) < _; omega); done)))
        | (apply WL.gF; exact rfl; exact rfl; (focus (exact dec_false (by show ¬ ((cs.length : Nat) : Int) < _; omega); done)))
        | (apply W.condKT; exact rfl; (focus (exact dec_false (by show ¬ ((cs.length : Nat) : Int) < _; omega); done)))
        | (apply W.condKF; exact rfl; (focus (exact dec_false (by show ¬ ((cs.length : Nat) : Int) < _; omega); done)))
        | (show WL _ _ _ _ _ _ _; first | apply WL.nil | (apply WL.pev tOk; exact rfl; exact rfl; exact rfl) | (apply WL.load tOk; exact rfl; exact rfl; exact rfl; exact rfl; exact rfl; (first | assumption | (focus (apply Ext.cell; rotate_left; assumption; (exact extA); done)))) | (apply WL.index tOk; exact rfl; exact rfl; exact rfl; exact rfl; exact rfl; exact rfl; exact rfl; exact rfl; assumption; (exact extA); exact rfl; omega; assumption; intro b off h; have hcc := h; first | (obtain ⟨h1, h2, h3, h4, h5, h6, _⟩ := h) | (obtain ⟨h1, h2, h3, _⟩ := h) | (obtain ⟨h1, h2, _⟩ := h) | (obtain ⟨h1, _⟩ := h)) | (apply WL.add; exact rfl; exact rfl; exact rfl; exact rfl; omega) | (apply WL.sub; exact rfl; exact rfl; exact rfl; exact rfl; omega) | (apply WL.mul; exact rfl; exact rfl; exact rfl; exact rfl; omega) | (apply WL.quo; exact rfl; exact rfl; exact rfl; exact rfl; omega) | (apply WL.rem; exact rfl; exact rfl; exact rfl; exact rfl; omega) | (apply WL.loadA tOk; exact rfl; exact rfl; exact rfl; exact rfl; exact rfl; (first | assumption | (focus (apply Cells.ext; rotate_left; assumption; (exact extA); done))); exact rfl) | (apply WL.guardF; exact rfl; exact rfl) | (apply WL.gD; exact rfl; exact rfl; all_goals intro _) | (apply WL.gN; exact rfl; exact rfl; all_goals intro _) | (apply WL.gB; exact rfl; exact rfl; all_goals intro _))
        | (show Z _ _ _ _ _; first | apply Z.tail | apply Z.then_normal | apply Z.block_normal | apply Z.then_exit | apply Z.block_exit | apply Z.then_ret | apply Z.block_ret | (apply Z.block_other; exact rfl))
        | (show W _ _ _ _ _ _; first | apply W.seq | apply W.region | apply W.block | apply W.skip | apply W.ret | apply W.exit | (apply W.condT; exact rfl) | (apply W.condF; exact rfl) | (apply W.condD; exact rfl; all_goals intro _) | (apply W.condN; exact rfl; all_goals intro _) | (apply W.condB; exact rfl; all_goals intro _)))
      exact Z.body2 Try.results98 rfl rfl fun m => ⟨hX9.at m, .inr ⟨ao, co, out, rfl, hO9.ext ((Ext.refl _).at m), hr9, fun c ⟨q, h5, h6⟩ => by rw [← h6, e1]; exact e2 q h5⟩⟩
    · repeat' (first
        | (apply WL.gT; exact rfl; exact rfl; (focus (exact dec_false (by show ¬ ((cs.length : Nat) : Int) < _; omega); done)))
        | (apply WL.gF; exact rfl; exact rfl; (focus (exact dec_false (by show ¬ ((cs.length : Nat) : Int) < _; omega); done)))
        | (apply W.condKT; exact rfl; (focus (exact dec_false (by show ¬ ((cs.length : Nat) : Int) < _; omega); done)))
        | (apply W.condKF; exact rfl; (focus (exact dec_false (by show ¬ ((cs.length : Nat) : Int) < _; omega); done)))
        | (show WL _ _ _ _ _ _ _; first | apply WL.nil | (apply WL.pev tOk; exact rfl; exact rfl; exact rfl) | (apply WL.load tOk; exact rfl; exact rfl; exact rfl; exact rfl; exact rfl; (first | assumption | (focus (apply Ext.cell; rotate_left; assumption; (exact extA); done)))) | (apply WL.index tOk; exact rfl; exact rfl; exact rfl; exact rfl; exact rfl; exact rfl; exact rfl; exact rfl; assumption; (exact extA); exact rfl; omega; assumption; intro b off h; have hcc := h; first | (obtain ⟨h1, h2, h3, h4, h5, h6, _⟩ := h) | (obtain ⟨h1, h2, h3, _⟩ := h) | (obtain ⟨h1, h2, _⟩ := h) | (obtain ⟨h1, _⟩ := h)) | (apply WL.add; exact rfl; exact rfl; exact rfl; exact rfl; omega) | (apply WL.sub; exact rfl; exact rfl; exact rfl; exact rfl; omega) | (apply WL.mul; exact rfl; exact rfl; exact rfl; exact rfl; omega) | (apply WL.quo; exact rfl; exact rfl; exact rfl; exact rfl; omega) | (apply WL.rem; exact rfl; exact rfl; exact rfl; exact rfl; omega) | (apply WL.loadA tOk; exact rfl; exact rfl; exact rfl; exact rfl; exact rfl; (first | assumption | (focus (apply Cells.ext; rotate_left; assumption; (exact extA); done))); exact rfl) | (apply WL.guardF; exact rfl; exact rfl) | (apply WL.gD; exact rfl; exact rfl; all_goals intro _) | (apply WL.gN; exact rfl; exact rfl; all_goals intro _) | (apply WL.gB; exact rfl; exact rfl; all_goals intro _))
        | (show Z _ _ _ _ _; first | apply Z.tail | apply Z.then_normal | apply Z.block_normal | apply Z.then_exit | apply Z.block_exit | apply Z.then_ret | apply Z.block_ret | (apply Z.block_other; exact rfl))
        | (show W _ _ _ _ _ _; first | apply W.seq | apply W.region | apply W.block | apply W.skip | apply W.ret | apply W.exit | (apply W.condT; exact rfl) | (apply W.condF; exact rfl) | (apply W.condD; exact rfl; all_goals intro _) | (apply W.condN; exact rfl; all_goals intro _) | (apply W.condB; exact rfl; all_goals intro _)))
      exact Z.again (out, ao, co, w9) ⟨hr9, hX9, hO9⟩ (hm1 rfl) ⟨rfl, rfl, trivial⟩ rfl

theorem out_congr {C D : List Int → Prop} (h : ∀ c, C c ↔ D c) {V : List Int} {o : Option (List Int)} (k : Out C V o) : Out D V o := by
  rw [← funext fun c => propext (h c)]; exact k
set_option maxHeartbeats 8000000 in
theorem ref22_Close2 (ra rl rm : Option Addr) (ca cl cm : Nat) (n : List (Int × Int)) (l : List Int) (more : List (RowV Int)) (w : World) (R : Row 2 encN w ra n) (Rl : Row 1 encI w rl l) (Rm : Row 1 encRow w rm more) (hm : ∀ q ∈ more, Row 1 encI w q.1 q.2.2) (hg : GoodNet n) (hn : n.length ≤ 1048575) (hll : l.length ≤ 1048576) (hcl : l.length ≤ cl) (hml : more.length ≤ 1048576) :
    Lt.Spec Try.prog 44 [.slice ra n.length ca, .slice rl l.length cl, .slice rm more.length cm] w (fun v w' => Ext w w' ∧ ((v = .tuple #[.slice none 0 0, .bool false] ∧ (KnownP n l → Out (CL n l (more.map (·.2.2))) (free0 n.length) none)) ∨ ∃ a c out, v = .tuple #[.slice a out.length c, .bool true] ∧ Row 1 encI w' a out ∧ KnownP n l ∧ Out (CL n l (more.map (·.2.2))) (free0 n.length) (some out))) := by
  refine Spec.of _ Try.func44 rfl Try.ntmps44 (by kernel_rfl) rfl ?_
  repeat' (first
    | (apply WL.lit tOk; exact rfl; exact rfl; exact rfl; exact rfl; exact rfl; exact rfl; (first | exact rfl | kernel_rfl | (simp [Instr.fill, catCells]; done)); exact rfl; intro gb w' hb hge hc hx; have hO := Own.of_block ([(0 : Int)]) encI_ok hb hge rfl)
    | (show WL _ _ _ _ _ _ _; first | apply WL.nil | (apply WL.pev tOk; exact rfl; exact rfl; exact rfl) | (apply WL.load tOk; exact rfl; exact rfl; exact rfl; exact rfl; exact rfl; (first | assumption | (focus (apply Ext.cell; rotate_left; assumption; (exact extA); done)))) | (apply WL.index tOk; exact rfl; exact rfl; exact rfl; exact rfl; exact rfl; exact rfl; exact rfl; exact rfl; assumption; (exact extA); exact rfl; omega; assumption; intro b off h; have hcc := h; first | (obtain ⟨h1, h2, h3, h4, h5, h6, _⟩ := h) | (obtain ⟨h1, h2, h3, _⟩ := h) | (obtain ⟨h1, h2, _⟩ := h) | (obtain ⟨h1, _⟩ := h)) | (apply WL.add; exact rfl; exact rfl; exact rfl; exact rfl; omega) | (apply WL.sub; exact rfl; exact rfl; exact rfl; exact rfl; omega) | (apply WL.mul; exact rfl; exact rfl; exact rfl; exact rfl; omega) | (apply WL.quo; exact rfl; exact rfl; exact rfl; exact rfl; omega) | (apply WL.rem; exact rfl; exact rfl; exact rfl; exact rfl; omega) | (apply WL.loadA tOk; exact rfl; exact rfl; exact rfl; exact rfl; exact rfl; (first | assumption | (focus (apply Cells.ext; rotate_left; assumption; (exact extA); done))); exact rfl) | (apply WL.guardF; exact rfl; exact rfl) | (apply WL.gD; exact rfl; exact rfl; all_goals intro _) | (apply WL.gN; exact rfl; exact rfl; all_goals intro _) | (apply WL.gB; exact rfl; exact rfl; all_goals intro _))
    | (show Z _ _ _ _ _; first | apply Z.tail | apply Z.then_normal | apply Z.block_normal | apply Z.then_exit | apply Z.block_exit | apply Z.then_ret | apply Z.block_ret | (apply Z.block_other; exact rfl))
    | (show W _ _ _ _ _ _; first | apply W.seq | apply W.region | apply W.block | apply W.skip | apply W.ret | apply W.exit | (apply W.condT; exact rfl) | (apply W.condF; exact rfl) | (apply W.condD; exact rfl; all_goals intro _) | (apply W.condN; exact rfl; all_goals intro _) | (apply W.condB; exact rfl; all_goals intro _)))
  refine W.loopO n.length (fun k c cp w' => k ≤ n.length ∧ Ext w w' ∧ Own 1 encI 3 w.heap.size w' c cp (free0 k)) (fun k c cp => [(0, .slice ra n.length ca), (1, .slice rl l.length cl), (2, .slice rm more.length cm), (8, .slice c (free0 k).length cp), (9, .int .i64 ((k : Int) + 1))]) (some ⟨gb, 0, none⟩) 1 ⟨by omega, hx, hO⟩ (fun k c cp w' h => h.1) ⟨rfl, rfl, rfl, rfl, rfl, trivial⟩ ?_
  rintro k av cv w1 ⟨hk, hX1, hO1⟩
  have hfl : (free0 k).length = k + 1 := by simp
  by_cases hlt : k < n.length
  · repeat' (first
      | (apply WL.gT; exact rfl; exact rfl; (focus (exact dec_true (by omega); done)))
      | (apply WL.gF; exact rfl; exact rfl; (focus (exact dec_true (by omega); done)))
      | (apply W.condKT; exact rfl; (focus (exact dec_true (by omega); done)))
      | (apply W.condKF; exact rfl; (focus (exact dec_true (by omega); done)))
      | (apply WL.lit tOk; exact rfl; exact rfl; exact rfl; exact rfl; exact rfl; exact rfl; (first | exact rfl | kernel_rfl | (simp [Instr.fill, catCells]; done)); exact rfl; intro gb w' hb hge hc hx)
      | (apply WL.append1 (z := (2)) tOk encI_ok; exact rfl; exact rfl; exact rfl; exact rfl; exact rfl; exact rfl; exact rfl; exact rfl; exact rfl; exact rfl; assumption; (exact extA); (first | exact rfl | (simp; done) | (simp [*]; done) | omega | (simp only [List.length_set]; omega)); assumption; exact rfl; exact rfl; (exact extA); (first | omega | (simp; omega) | (simp at *; omega)); intro a' cap' w' hO hX' hU hF)
      | (show WL _ _ _ _ _ _ _; first | apply WL.nil | (apply WL.pev tOk; exact rfl; exact rfl; exact rfl) | (apply WL.load tOk; exact rfl; exact rfl; exact rfl; exact rfl; exact rfl; (first | assumption | (focus (apply Ext.cell; rotate_left; assumption; (exact extA); done)))) | (apply WL.index tOk; exact rfl; exact rfl; exact rfl; exact rfl; exact rfl; exact rfl; exact rfl; exact rfl; assumption; (exact extA); exact rfl; omega; assumption; intro b off h; have hcc := h; first | (obtain ⟨h1, h2, h3, h4, h5, h6, _⟩ := h) | (obtain ⟨h1, h2, h3, _⟩ := h) | (obtain ⟨h1, h2, _⟩ := h) | (obtain ⟨h1, _⟩ := h)) | (apply WL.add; exact rfl; exact rfl; exact rfl; exact rfl; omega) | (apply WL.sub; exact rfl; exact rfl; exact rfl; exact rfl; omega) | (apply WL.mul; exact rfl; exact rfl; exact rfl; exact rfl; omega) | (apply WL.quo; exact rfl; exact rfl; exact rfl; exact rfl; omega) | (apply WL.rem; exact rfl; exact rfl; exact rfl; exact rfl; omega) | (apply WL.loadA tOk; exact rfl; exact rfl; exact rfl; exact rfl; exact rfl; (first | assumption | (focus (apply Cells.ext; rotate_left; assumption; (exact extA); done))); exact rfl) | (apply WL.guardF; exact rfl; exact rfl) | (apply WL.gD; exact rfl; exact rfl; all_goals intro _) | (apply WL.gN; exact rfl; exact rfl; all_goals intro _) | (apply WL.gB; exact rfl; exact rfl; all_goals intro _))
      | (show Z _ _ _ _ _; first | apply Z.tail | apply Z.then_normal | apply Z.block_normal | apply Z.then_exit | apply Z.block_exit | apply Z.then_ret | apply Z.block_ret | (apply Z.block_other; exact rfl))
      | (show W _ _ _ _ _ _; first | apply W.seq | apply W.region | apply W.block | apply W.skip | apply W.ret | apply W.exit | (apply W.condT; exact rfl) | (apply W.condF; exact rfl) | (apply W.condD; exact rfl; all_goals intro _) | (apply W.condN; exact rfl; all_goals intro _) | (apply W.condB; exact rfl; all_goals intro _)))
    exact Z.againO a' cap' ⟨by omega, hX', by rw [← free0_succ]; exact hO⟩ ⟨rfl, rfl, rfl, by rw [free0_succ]; exact rfl, rfl, trivial⟩
  obtain rfl : k = n.length := by omega
  have Rv := Own.row encI_ok hO1
  have hvn := Own.noneCap hO1
  by_cases hkn : KnownP n l
  · repeat' (first
      | (apply WL.gT; exact rfl; exact rfl; (focus (first | exact dec_false (by omega) | (rw [dec_true hkn]; rfl); done)))
      | (apply WL.gF; exact rfl; exact rfl; (focus (first | exact dec_false (by omega) | (rw [dec_true hkn]; rfl); done)))
      | (apply W.condKT; exact rfl; (focus (first | exact dec_false (by omega) | (rw [dec_true hkn]; rfl); done)))
      | (apply W.condKF; exact rfl; (focus (first | exact dec_false (by omega) | (rw [dec_true hkn]; rfl); done)))
      | ((show WL _ _ _ (⟨_, .call ⟨.value (.func 45), _, _⟩, _, _, _, _⟩ :: _) _ _ _); apply WL.callS; exact rfl; exact rfl; exact rfl; exact rfl; exact ref22_Known _ _ _ _ n l _ (Rl.ext (by (exact extA))) (by omega))
      | (apply WL.lit (len := 0) tOk; exact rfl; exact rfl; exact rfl; exact rfl; exact rfl; exact rfl; (first | exact rfl | kernel_rfl | (simp [Instr.fill, catCells]; done)); exact rfl; intro gb w' hb hge hc hx; have hO0 := Own.of_block0 (enc := encRI) (s := 1) hb hge)
      | (show WL _ _ _ _ _ _ _; first | apply WL.nil | (apply WL.pev tOk; exact rfl; exact rfl; exact rfl) | (apply WL.load tOk; exact rfl; exact rfl; exact rfl; exact rfl; exact rfl; (first | assumption | (focus (apply Ext.cell; rotate_left; assumption; (exact extA); done)))) | (apply WL.index tOk; exact rfl; exact rfl; exact rfl; exact rfl; exact rfl; exact rfl; exact rfl; exact rfl; assumption; (exact extA); exact rfl; omega; assumption; intro b off h; have hcc := h; first | (obtain ⟨h1, h2, h3, h4, h5, h6, _⟩ := h) | (obtain ⟨h1, h2, h3, _⟩ := h) | (obtain ⟨h1, h2, _⟩ := h) | (obtain ⟨h1, _⟩ := h)) | (apply WL.add; exact rfl; exact rfl; exact rfl; exact rfl; omega) | (apply WL.sub; exact rfl; exact rfl; exact rfl; exact rfl; omega) | (apply WL.mul; exact rfl; exact rfl; exact rfl; exact rfl; omega) | (apply WL.quo; exact rfl; exact rfl; exact rfl; exact rfl; omega) | (apply WL.rem; exact rfl; exact rfl; exact rfl; exact rfl; omega) | (apply WL.loadA tOk; exact rfl; exact rfl; exact rfl; exact rfl; exact rfl; (first | assumption | (focus (apply Cells.ext; rotate_left; assumption; (exact extA); done))); exact rfl) | (apply WL.guardF; exact rfl; exact rfl) | (apply WL.gD; exact rfl; exact rfl; all_goals intro _) | (apply WL.gN; exact rfl; exact rfl; all_goals intro _) | (apply WL.gB; exact rfl; exact rfl; all_goals intro _))
      | (show Z _ _ _ _ _; first | apply Z.tail | apply Z.then_normal | apply Z.block_normal | apply Z.then_exit | apply Z.block_exit | apply Z.then_ret | apply Z.block_ret | (apply Z.block_other; exact rfl))
      | (show W _ _ _ _ _ _; first | apply W.seq | apply W.region | apply W.block | apply W.skip | apply W.ret | apply W.exit | (apply W.condT; exact rfl) | (apply W.condF; exact rfl) | (apply W.condD; exact rfl; all_goals intro _) | (apply W.condN; exact rfl; all_goals intro _) | (apply W.condB; exact rfl; all_goals intro _)))
    have hs1 := hX1.size
    refine W.loop (fun s : Nat × List (RowV Int) × Option Addr × Nat × World => s.1 ≤ l.length ∧ s.2.1.length = s.1 ∧ Ext w1 s.2.2.2.2 ∧ Own 1 encRI 23 w1.heap.size s.2.2.2.2 s.2.2.1 s.2.2.2.1 s.2.1 ∧ (∀ q ∈ s.2.1, Row 1 encI w q.1 q.2.2 ∧ ∃ x ∈ l, q.2.2 = [x]) ∧ ∀ (i : Nat) (x : Int), i < s.1 → l[i]? = some x → rowsC s.2.1 [x]) (fun s => [(0, .slice ra n.length ca), (1, .slice rl l.length cl), (2, .slice rm more.length cm), (8, .slice av (free0 n.length).length cv), (10, .slice s.2.2.1 s.2.1.length s.2.2.2.1), (11, .int .i64 s.1)]) (fun s => s.2.2.2.2) (fun s => l.length - s.1) (0, [], some ⟨gb, 0, none⟩, 0, w') ⟨Nat.zero_le _, rfl, hx, hO0, (fun q h => by cases h), fun i x h => absurd h (Nat.not_lt_zero _)⟩ ⟨rfl, rfl, rfl, rfl, rfl, rfl, trivial⟩ rfl ?_
    rintro ⟨k, rs, ao, co, w5⟩ ⟨hk5, hr5, hX5, hO5, hq5, hm5⟩
    dsimp only at hk5 hr5 hX5 hO5 hq5 hm5
    have hX15 : Ext w w5 := hX1.trans hX5
    by_cases hlt2 : k < l.length
    · obtain ⟨x, hxl⟩ := getI l hlt2
      repeat' (first
        | (apply WL.gT; exact rfl; exact rfl; (focus (first | exact dec_true (by omega); done)))
        | (apply WL.gF; exact rfl; exact rfl; (focus (first | exact dec_true (by omega); done)))
        | (apply W.condKT; exact rfl; (focus (first | exact dec_true (by omega); done)))
        | (apply W.condKF; exact rfl; (focus (first | exact dec_true (by omega); done)))
        | ((apply WL.slice1 tOk; exact rfl; exact rfl; exact rfl; exact rfl; exact rfl; exact rfl; exact rfl; exact rfl; exact rfl; exact Rl; exact rfl; exact hcl; exact hxl; exact rfl; exact rfl; intro a6 c6 R6))
        | (apply WL.lit tOk; exact rfl; exact rfl; exact rfl; exact rfl; exact rfl; exact rfl; (first | exact rfl | kernel_rfl | (simp [Instr.fill, catCells]; done)); exact rfl; intro gb w' hb hge hc hx)
        | (apply WL.append1 (z := ((a6, c6, [x]))) tOk encRI_ok; exact rfl; exact rfl; exact rfl; exact rfl; exact rfl; exact rfl; exact rfl; exact rfl; exact rfl; exact rfl; assumption; (exact extA); (first | exact rfl | (simp; done) | (simp [*]; done) | omega | (simp only [List.length_set]; omega)); assumption; exact rfl; exact rfl; (exact extA); (first | omega | (simp; omega) | (simp at *; omega)); intro a' cap' w' hO hX' hU hF)
        | (show WL _ _ _ _ _ _ _; first | apply WL.nil | (apply WL.pev tOk; exact rfl; exact rfl; exact rfl) | (apply WL.load tOk; exact rfl; exact rfl; exact rfl; exact rfl; exact rfl; (first | assumption | (focus (apply Ext.cell; rotate_left; assumption; (exact extA); done)))) | (apply WL.index tOk; exact rfl; exact rfl; exact rfl; exact rfl; exact rfl; exact rfl; exact rfl; exact rfl; assumption; (exact extA); exact rfl; omega; assumption; intro b off h; have hcc := h; first | (obtain ⟨h1, h2, h3, h4, h5, h6, _⟩ := h) | (obtain ⟨h1, h2, h3, _⟩ := h) | (obtain ⟨h1, h2, _⟩ := h) | (obtain ⟨h1, _⟩ := h)) | (apply WL.add; exact rfl; exact rfl; exact rfl; exact rfl; omega) | (apply WL.sub; exact rfl; exact rfl; exact rfl; exact rfl; omega) | (apply WL.mul; exact rfl; exact rfl; exact rfl; exact rfl; omega) | (apply WL.quo; exact rfl; exact rfl; exact rfl; exact rfl; omega) | (apply WL.rem; exact rfl; exact rfl; exact rfl; exact rfl; omega) | (apply WL.loadA tOk; exact rfl; exact rfl; exact rfl; exact rfl; exact rfl; (first | assumption | (focus (apply Cells.ext; rotate_left; assumption; (exact extA); done))); exact rfl) | (apply WL.guardF; exact rfl; exact rfl) | (apply WL.gD; exact rfl; exact rfl; all_goals intro _) | (apply WL.gN; exact rfl; exact rfl; all_goals intro _) | (apply WL.gB; exact rfl; exact rfl; all_goals intro _))
        | (show Z _ _ _ _ _; first | apply Z.tail | apply Z.then_normal | apply Z.block_normal | apply Z.then_exit | apply Z.block_exit | apply Z.then_ret | apply Z.block_ret | (apply Z.block_other; exact rfl))
        | (show W _ _ _ _ _ _; first | apply W.seq | apply W.region | apply W.block | apply W.skip | apply W.ret | apply W.exit | (apply W.condT; exact rfl) | (apply W.condF; exact rfl) | (apply W.condD; exact rfl; all_goals intro _) | (apply W.condN; exact rfl; all_goals intro _) | (apply W.condB; exact rfl; all_goals intro _)))
      refine Z.again (k + 1, rs ++ [(a6, c6, [x])], a', cap', w') ⟨by show k + 1 ≤ _; omega, by show (rs ++ [_]).length = _; rw [List.length_append, hr5]; rfl, hX', hO, fun q hq => ?_, fun i y hi hy => ?_⟩ (by show l.length - (k + 1) < l.length - k; omega) ⟨rfl, rfl, rfl, rfl, rfl, rfl, trivial⟩ rfl
      · rcases List.mem_append.1 hq with h5 | h5
        · exact hq5 q h5
        · obtain rfl := List.mem_singleton.1 h5
          exact ⟨R6, x, List.mem_of_getElem? hxl, rfl⟩
      · by_cases he : i = k
        · subst he
          rw [hxl] at hy; cases hy
          exact ⟨_, List.mem_append_right _ (List.mem_singleton.2 rfl), rfl⟩
        · obtain ⟨q, h5, h6⟩ := hm5 i y (by have : i < k + 1 := hi; omega) hy
          exact ⟨q, List.mem_append_left _ h5, h6⟩
    obtain rfl : k = l.length := by omega
    have Rv5 := Rv.ext hX5
    repeat' (first
      | (apply WL.gT; exact rfl; exact rfl; (focus (first | exact dec_false (by omega); done)))
      | (apply WL.gF; exact rfl; exact rfl; (focus (first | exact dec_false (by omega); done)))
      | (apply W.condKT; exact rfl; (focus (first | exact dec_false (by omega); done)))
      | (apply W.condKF; exact rfl; (focus (first | exact dec_false (by omega); done)))
      | (((show WL _ _ _ (⟨_, .call ⟨.value (.func 99), _, _⟩, _, _, _, _⟩ :: _) _ _ _); apply WL.call; exact rfl; exact rfl; exact rfl; exact rfl; exact ref22_All2 ra rm ca cm n more _ w (by (exact extA)) (R.ext (by (exact extA))) (Rm.ext (by (exact extA))) hm hg (by omega) hml; rintro v' w8 ⟨hX8, a8, c8, r8, rfl, hI8, hl8, hC8⟩; have Ra8 := Own.row encRI_ok hI8.outer; have hn8 := Own.noneCap hI8.outer))
      | ((apply WL.appendS (B := w1.heap.size) (w0 := w1) tOk encRI_ok; exact rfl; exact rfl; exact rfl; exact rfl; exact rfl; exact rfl; exact rfl; exact rfl; exact rfl; exact rfl; exact hO5; exact (by (exact extA)); exact rfl; exact Ra8; exact Ext.refl _; exact rfl; exact hn8; exact rfl; exact (by (exact extA)); omega; intro a' cap' w' hO hX' hU hF))
      | (show WL _ _ _ _ _ _ _; first | apply WL.nil | (apply WL.pev tOk; exact rfl; exact rfl; exact rfl) | (apply WL.load tOk; exact rfl; exact rfl; exact rfl; exact rfl; exact rfl; (first | assumption | (focus (apply Ext.cell; rotate_left; assumption; (exact extA); done)))) | (apply WL.index tOk; exact rfl; exact rfl; exact rfl; exact rfl; exact rfl; exact rfl; exact rfl; exact rfl; assumption; (exact extA); exact rfl; omega; assumption; intro b off h; have hcc := h; first | (obtain ⟨h1, h2, h3, h4, h5, h6, _⟩ := h) | (obtain ⟨h1, h2, h3, _⟩ := h) | (obtain ⟨h1, h2, _⟩ := h) | (obtain ⟨h1, _⟩ := h)) | (apply WL.add; exact rfl; exact rfl; exact rfl; exact rfl; omega) | (apply WL.sub; exact rfl; exact rfl; exact rfl; exact rfl; omega) | (apply WL.mul; exact rfl; exact rfl; exact rfl; exact rfl; omega) | (apply WL.quo; exact rfl; exact rfl; exact rfl; exact rfl; omega) | (apply WL.rem; exact rfl; exact rfl; exact rfl; exact rfl; omega) | (apply WL.loadA tOk; exact rfl; exact rfl; exact rfl; exact rfl; exact rfl; (first | assumption | (focus (apply Cells.ext; rotate_left; assumption; (exact extA); done))); exact rfl) | (apply WL.guardF; exact rfl; exact rfl) | (apply WL.gD; exact rfl; exact rfl; all_goals intro _) | (apply WL.gN; exact rfl; exact rfl; all_goals intro _) | (apply WL.gB; exact rfl; exact rfl; all_goals intro _))
      | (show Z _ _ _ _ _; first | apply Z.tail | apply Z.then_normal | apply Z.block_normal | apply Z.then_exit | apply Z.block_exit | apply Z.then_ret | apply Z.block_ret | (apply Z.block_other; exact rfl))
      | (show W _ _ _ _ _ _; first | apply W.seq | apply W.region | apply W.block | apply W.skip | apply W.ret | apply W.exit | (apply W.condT; exact rfl) | (apply W.condF; exact rfl) | (apply W.condD; exact rfl; all_goals intro _) | (apply W.condN; exact rfl; all_goals intro _) | (apply W.condB; exact rfl; all_goals intro _)))
    have hX1' : Ext w w' := hX1.trans hX'
    have hfl2 : (free0 n.length).length = n.length + 1 := by simp
    have hCC : ∀ c, rowsC (rs ++ r8) c ↔ CL n l (more.map (·.2.2)) c := fun c => by
      refine ⟨fun ⟨q, h1, h2⟩ => ?_, fun h => ?_⟩
      · rcases List.mem_append.1 h1 with h1 | h1
        · obtain ⟨x, hx, h3⟩ := (hq5 q h1).2
          exact .inl ⟨x, hx, by rw [← h2, h3]⟩
        · exact .inr ((hC8 c).1 ⟨q, h1, h2⟩)
      · rcases h with ⟨x, hx, rfl⟩ | h
        · obtain ⟨j, hj, he⟩ := List.getElem_of_mem hx
          obtain ⟨q, h1, h2⟩ := hm5 j x hj (by rw [List.getElem?_eq_getElem hj, he])
          exact ⟨q, List.mem_append_left _ h1, h2⟩
        · obtain ⟨q, h1, h2⟩ := (hC8 c).2 h
          exact ⟨q, List.mem_append_right _ h1, h2⟩
    have hlit := CL.lits hg (show n.length ≤ 1048576 by omega) hkn (cs := more.map (·.2.2))
    have hin : ∀ c ∈ rs ++ r8, Row 1 encI w' c.1 c.2.2 ∧ ∀ x ∈ c.2.2, 0 ≤ x ∧ (x / 2).toNat < (free0 n.length).length ∧ x ≤ 33554433 := fun c hc => by
      refine ⟨?_, by rw [hfl2]; exact hlit _ ((hCC c.2.2).1 ⟨c, hc, rfl⟩)⟩
      rcases List.mem_append.1 hc with h5 | h5
      · exact (hq5 c h5).1.ext hX1'
      · rcases hI8.inner c h5 with h6 | ⟨⟨B', e1, e2⟩, _⟩
        · exact h6.ext hX1'
        · refine Own.row encI_ok (hU.own e2 ?_)
          cases hb : blk c.1 with
          | none => exact .inl rfl
          | some k =>
            refine .inr fun he => ?_
            have e3 := (e2.blk_lt k hb).1
            have e4 := (hO5.blk_lt k he.symm).2
            have e5 : w5.heap.size ≤ B' := e1
            omega
    repeat' (first
      | (((show WL _ _ _ (⟨_, .call ⟨.value (.func 98), _, _⟩, _, _, _, _⟩ :: _) _ _ _); apply WL.call; exact rfl; exact rfl; exact rfl; exact rfl; exact ref22_Units2 av a' cv cap' (free0 n.length) (rs ++ r8) _ (Rv.ext (by (exact extA))) (Own.row encRI_ok hO) hin hvn (by omega) (free0_ok n.length); rintro v' w9 ⟨hX9, ⟨rfl, hOut⟩ | ⟨a9, c9, out, rfl, hO9, hOut⟩⟩))
      | (show WL _ _ _ _ _ _ _; first | apply WL.nil | (apply WL.pev tOk; exact rfl; exact rfl; exact rfl) | (apply WL.load tOk; exact rfl; exact rfl; exact rfl; exact rfl; exact rfl; (first | assumption | (focus (apply Ext.cell; rotate_left; assumption; (exact extA); done)))) | (apply WL.index tOk; exact rfl; exact rfl; exact rfl; exact rfl; exact rfl; exact rfl; exact rfl; exact rfl; assumption; (exact extA); exact rfl; omega; assumption; intro b off h; have hcc := h; first | (obtain ⟨h1, h2, h3, h4, h5, h6, _⟩ := h) | (obtain ⟨h1, h2, h3, _⟩ := h) | (obtain ⟨h1, h2, _⟩ := h) | (obtain ⟨h1, _⟩ := h)) | (apply WL.add; exact rfl; exact rfl; exact rfl; exact rfl; omega) | (apply WL.sub; exact rfl; exact rfl; exact rfl; exact rfl; omega) | (apply WL.mul; exact rfl; exact rfl; exact rfl; exact rfl; omega) | (apply WL.quo; exact rfl; exact rfl; exact rfl; exact rfl; omega) | (apply WL.rem; exact rfl; exact rfl; exact rfl; exact rfl; omega) | (apply WL.loadA tOk; exact rfl; exact rfl; exact rfl; exact rfl; exact rfl; (first | assumption | (focus (apply Cells.ext; rotate_left; assumption; (exact extA); done))); exact rfl) | (apply WL.guardF; exact rfl; exact rfl) | (apply WL.gD; exact rfl; exact rfl; all_goals intro _) | (apply WL.gN; exact rfl; exact rfl; all_goals intro _) | (apply WL.gB; exact rfl; exact rfl; all_goals intro _))
      | (show Z _ _ _ _ _; first | apply Z.tail | apply Z.then_normal | apply Z.block_normal | apply Z.then_exit | apply Z.block_exit | apply Z.then_ret | apply Z.block_ret | (apply Z.block_other; exact rfl))
      | (show W _ _ _ _ _ _; first | apply W.seq | apply W.region | apply W.block | apply W.skip | apply W.ret | apply W.exit | (apply W.condT; exact rfl) | (apply W.condF; exact rfl) | (apply W.condD; exact rfl; all_goals intro _) | (apply W.condN; exact rfl; all_goals intro _) | (apply W.condB; exact rfl; all_goals intro _)))
    · exact Z.body2 Try.results44 rfl rfl fun m => ⟨(hX1'.trans hX9).at m, .inl ⟨rfl, fun _ => out_congr hCC hOut⟩⟩
    · exact Z.body2 Try.results44 rfl rfl fun m => ⟨(hX1'.trans hX9).at m, .inr ⟨a9, c9, out, rfl, (Own.row encI_ok hO9).ext ((Ext.refl _).at m), hkn, out_congr hCC hOut⟩⟩
  · repeat' (first
      | (apply WL.gT; exact rfl; exact rfl; (focus (first | exact dec_false (by omega) | (rw [dec_false hkn]; rfl); done)))
      | (apply WL.gF; exact rfl; exact rfl; (focus (first | exact dec_false (by omega) | (rw [dec_false hkn]; rfl); done)))
      | (apply W.condKT; exact rfl; (focus (first | exact dec_false (by omega) | (rw [dec_false hkn]; rfl); done)))
      | (apply W.condKF; exact rfl; (focus (first | exact dec_false (by omega) | (rw [dec_false hkn]; rfl); done)))
      | ((show WL _ _ _ (⟨_, .call ⟨.value (.func 45), _, _⟩, _, _, _, _⟩ :: _) _ _ _); apply WL.callS; exact rfl; exact rfl; exact rfl; exact rfl; exact ref22_Known _ _ _ _ n l _ (Rl.ext (by (exact extA))) (by omega))
      | (show WL _ _ _ _ _ _ _; first | apply WL.nil | (apply WL.pev tOk; exact rfl; exact rfl; exact rfl) | (apply WL.load tOk; exact rfl; exact rfl; exact rfl; exact rfl; exact rfl; (first | assumption | (focus (apply Ext.cell; rotate_left; assumption; (exact extA); done)))) | (apply WL.index tOk; exact rfl; exact rfl; exact rfl; exact rfl; exact rfl; exact rfl; exact rfl; exact rfl; assumption; (exact extA); exact rfl; omega; assumption; intro b off h; have hcc := h; first | (obtain ⟨h1, h2, h3, h4, h5, h6, _⟩ := h) | (obtain ⟨h1, h2, h3, _⟩ := h) | (obtain ⟨h1, h2, _⟩ := h) | (obtain ⟨h1, _⟩ := h)) | (apply WL.add; exact rfl; exact rfl; exact rfl; exact rfl; omega) | (apply WL.sub; exact rfl; exact rfl; exact rfl; exact rfl; omega) | (apply WL.mul; exact rfl; exact rfl; exact rfl; exact rfl; omega) | (apply WL.quo; exact rfl; exact rfl; exact rfl; exact rfl; omega) | (apply WL.rem; exact rfl; exact rfl; exact rfl; exact rfl; omega) | (apply WL.loadA tOk; exact rfl; exact rfl; exact rfl; exact rfl; exact rfl; (first | assumption | (focus (apply Cells.ext; rotate_left; assumption; (exact extA); done))); exact rfl) | (apply WL.guardF; exact rfl; exact rfl) | (apply WL.gD; exact rfl; exact rfl; all_goals intro _) | (apply WL.gN; exact rfl; exact rfl; all_goals intro _) | (apply WL.gB; exact rfl; exact rfl; all_goals intro _))
      | (show Z _ _ _ _ _; first | apply Z.tail | apply Z.then_normal | apply Z.block_normal | apply Z.then_exit | apply Z.block_exit | apply Z.then_ret | apply Z.block_ret | (apply Z.block_other; exact rfl))
      | (show W _ _ _ _ _ _; first | apply W.seq | apply W.region | apply W.block | apply W.skip | apply W.ret | apply W.exit | (apply W.condT; exact rfl) | (apply W.condF; exact rfl) | (apply W.condD; exact rfl; all_goals intro _) | (apply W.condN; exact rfl; all_goals intro _) | (apply W.condB; exact rfl; all_goals intro _)))
    exact Z.body2 Try.results44 rfl rfl fun m => ⟨hX1.at m, .inl ⟨rfl, fun h => absurd h hkn⟩⟩
end Go.Proofs.Ytmaekaflpbenmaa
namespace Go.Proofs.Ytmaekaflpbenmaa
open Go Go.Lt Go.RowKit
set_option linter.unusedVariables false
set_option linter.unusedSimpArgs false

/-- Where the gates of a net are, by what they are. -/
def gm (N : List (Int × Int)) : Nat → List ((Int × Int) × Int)
  | 0 => []
  | k + 1 => match N[k]? with | some x => if 0 ≤ x.1 then gm N k ++ [(x, 2 * ((k : Int) + 1))] else gm N k | none => gm N k
end Go.Proofs.Ytmaekaflpbenmaa
namespace Go.Proofs.Ytmaekaflpbenmaa
open Go Go.Lt Go.RowKit
set_option linter.unusedVariables false
set_option linter.unusedSimpArgs false

theorem slices_ContainsFunc (a : Option Addr) (cap : Nat) (l : List Int) (f : Nat) (us : List Value) (p : Int → Bool) (w w0 : World) (R : Row 1 encI w0 a l) (E : Ext w0 w)
    (hf : ∀ x ∈ l, Still Try.prog f ([.int .i64 x] ++ us) w (.bool (p x))) :
    Still Try.prog 120 [.slice a l.length cap, fnv f us] w (.bool (dec (∃ x ∈ l, p x = true))) := by
  refine Spec.of _ Try.func120 rfl Try.ntmps120 (by kernel_rfl) rfl ?_
  repeat' (first
    | ((show WL _ _ _ (⟨_, .call ⟨.value (.func 140), _, _⟩, _, _, _, _⟩ :: _) _ _ _); apply WL.callS; exact rfl; exact rfl; exact rfl; exact rfl; exact slices_IndexFunc _ _ l f us p _ w0 R E hf)
    | (show WL _ _ _ _ _ _ _; first | apply WL.nil | (apply WL.pev tOk; exact rfl; exact rfl; exact rfl) | (apply WL.load tOk; exact rfl; exact rfl; exact rfl; exact rfl; exact rfl; (first | assumption | (focus (apply Ext.cell; rotate_left; assumption; (exact extA); done)))) | (apply WL.index tOk; exact rfl; exact rfl; exact rfl; exact rfl; exact rfl; exact rfl; exact rfl; exact rfl; assumption; (exact extA); exact rfl; omega; assumption; intro b off h; have hcc := h; first | (obtain ⟨h1, h2, h3, h4, h5, h6, _⟩ := h) | (obtain ⟨h1, h2, h3, _⟩ := h) | (obtain ⟨h1, h2, _⟩ := h) | (obtain ⟨h1, _⟩ := h)) | (apply WL.add; exact rfl; exact rfl; exact rfl; exact rfl; omega) | (apply WL.sub; exact rfl; exact rfl; exact rfl; exact rfl; omega) | (apply WL.mul; exact rfl; exact rfl; exact rfl; exact rfl; omega) | (apply WL.quo; exact rfl; exact rfl; exact rfl; exact rfl; omega) | (apply WL.rem; exact rfl; exact rfl; exact rfl; exact rfl; omega) | (apply WL.loadA tOk; exact rfl; exact rfl; exact rfl; exact rfl; exact rfl; (first | assumption | (focus (apply Cells.ext; rotate_left; assumption; (exact extA); done))); exact rfl) | (apply WL.guardF; exact rfl; exact rfl) | (apply WL.gD; exact rfl; exact rfl; all_goals intro _) | (apply WL.gN; exact rfl; exact rfl; all_goals intro _) | (apply WL.gB; exact rfl; exact rfl; all_goals intro _))
    | (show Z _ _ _ _ _; first | apply Z.tail | apply Z.then_normal | apply Z.block_normal | apply Z.then_exit | apply Z.block_exit | apply Z.then_ret | apply Z.block_ret | (apply Z.block_other; exact rfl))
    | (show W _ _ _ _ _ _; first | apply W.seq | apply W.region | apply W.block | apply W.skip | apply W.ret | apply W.exit | (apply W.condT; exact rfl) | (apply W.condF; exact rfl) | (apply W.condD; exact rfl; all_goals intro _) | (apply W.condN; exact rfl; all_goals intro _) | (apply W.condB; exact rfl; all_goals intro _)))
  refine Z.body1 Try.results120 rfl fun m => ⟨congrArg Value.bool (dec_congr ?_), m, rfl⟩
  by_cases h : l.findIdx p < l.length
  · rw [if_pos h]
    exact ⟨fun _ => ⟨l[l.findIdx p], List.getElem_mem h, List.findIdx_getElem⟩, fun _ => by omega⟩
  · rw [if_neg h]
    exact ⟨fun hh => by omega, fun hh => absurd (List.findIdx_lt_length_of_exists hh) h⟩
end Go.Proofs.Ytmaekaflpbenmaa
namespace Go.Proofs.Ytmaekaflpbenmaa
open Go Go.Lt Go.RowKit
set_option linter.unusedVariables false
set_option linter.unusedSimpArgs false

theorem lit3_thr (l : List Int) (x : Int) : lit3 l x = 0 ∨ lit3 l x = 1 ∨ lit3 l x = 2 := by
  have h : lit3v l x = 0 ∨ lit3v l x = 1 ∨ lit3v l x = 2 := by
    unfold lit3v
    split
    · exact .inl rfl
    · split
      · exact val3_three _
      · exact .inr (.inr rfl)
  unfold lit3
  split
  · rcases h with h | h | h <;> rw [h] <;> simp [not3]
  · exact h
theorem clause_Value (ra rl : Option Addr) (ca cl : Nat) (vals l : List Int) (w : World) (R : Row 1 encI w ra vals) (Rl : Row 1 encI w rl l) :
    Still Try.prog 96 [.slice ra vals.length ca, .slice rl l.length cl] w (.int .i64 (vC vals 0 l)) := by
  have hlen := Rl.len
  refine Spec.of _ Try.func96 rfl Try.ntmps96 (by kernel_rfl) rfl ?_
  repeat' (first
    | (show WL _ _ _ _ _ _ _; first | apply WL.nil | (apply WL.pev tOk; exact rfl; exact rfl; exact rfl) | (apply WL.load tOk; exact rfl; exact rfl; exact rfl; exact rfl; exact rfl; (first | assumption | (focus (apply Ext.cell; rotate_left; assumption; (exact extA); done)))) | (apply WL.index tOk; exact rfl; exact rfl; exact rfl; exact rfl; exact rfl; exact rfl; exact rfl; exact rfl; assumption; (exact extA); exact rfl; omega; assumption; intro b off h; have hcc := h; first | (obtain ⟨h1, h2, h3, h4, h5, h6, _⟩ := h) | (obtain ⟨h1, h2, h3, _⟩ := h) | (obtain ⟨h1, h2, _⟩ := h) | (obtain ⟨h1, _⟩ := h)) | (apply WL.add; exact rfl; exact rfl; exact rfl; exact rfl; omega) | (apply WL.sub; exact rfl; exact rfl; exact rfl; exact rfl; omega) | (apply WL.mul; exact rfl; exact rfl; exact rfl; exact rfl; omega) | (apply WL.quo; exact rfl; exact rfl; exact rfl; exact rfl; omega) | (apply WL.rem; exact rfl; exact rfl; exact rfl; exact rfl; omega) | (apply WL.loadA tOk; exact rfl; exact rfl; exact rfl; exact rfl; exact rfl; (first | assumption | (focus (apply Cells.ext; rotate_left; assumption; (exact extA); done))); exact rfl) | (apply WL.guardF; exact rfl; exact rfl) | (apply WL.gD; exact rfl; exact rfl; all_goals intro _) | (apply WL.gN; exact rfl; exact rfl; all_goals intro _) | (apply WL.gB; exact rfl; exact rfl; all_goals intro _))
    | (show Z _ _ _ _ _; first | apply Z.tail | apply Z.then_normal | apply Z.block_normal | apply Z.then_exit | apply Z.block_exit | apply Z.then_ret | apply Z.block_ret | (apply Z.block_other; exact rfl))
    | (show W _ _ _ _ _ _; first | apply W.seq | apply W.region | apply W.block | apply W.skip | apply W.ret | apply W.exit | (apply W.condT; exact rfl) | (apply W.condF; exact rfl) | (apply W.condD; exact rfl; all_goals intro _) | (apply W.condN; exact rfl; all_goals intro _) | (apply W.condB; exact rfl; all_goals intro _)))
  refine W.loop (fun s : Nat × Int => s.1 ≤ l.length ∧ vC vals s.2 (l.drop s.1) = vC vals 0 l) (fun s => [(0, .slice ra vals.length ca), (8, .slice rl l.length cl), (9, .int .i64 l.length), (5, .int .i64 s.2), (10, .int .i64 s.1)]) (fun _ => w) (fun s => l.length - s.1) (0, 0) ⟨Nat.zero_le _, rfl⟩ ⟨rfl, rfl, rfl, rfl, rfl, trivial⟩ rfl ?_
  rintro ⟨k, out⟩ ⟨hk, he⟩
  dsimp only at hk he
  by_cases hlt : k < l.length
  · obtain ⟨x, hx⟩ := getI l hlt
    rw [drop_cons hx, vC] at he
    by_cases q1 : lit3 vals x = 1
    · rw [if_pos q1] at he
      rw [← he]
      repeat' (first
        | ((show WL _ _ _ (⟨_, .call ⟨.value (.func 107), _, _⟩, _, _, _, _⟩ :: _) _ _ _); apply WL.callS; exact rfl; exact rfl; exact rfl; exact rfl; exact tri_Lit _ _ vals x _ R)
        | (apply WL.gT; exact rfl; exact rfl; (focus (first | exact dec_true (by omega) | exact dec_true q1; done)))
        | (apply WL.gF; exact rfl; exact rfl; (focus (first | exact dec_true (by omega) | exact dec_true q1; done)))
        | (apply W.condKT; exact rfl; (focus (first | exact dec_true (by omega) | exact dec_true q1; done)))
        | (apply W.condKF; exact rfl; (focus (first | exact dec_true (by omega) | exact dec_true q1; done)))
        | (show WL _ _ _ _ _ _ _; first | apply WL.nil | (apply WL.pev tOk; exact rfl; exact rfl; exact rfl) | (apply WL.load tOk; exact rfl; exact rfl; exact rfl; exact rfl; exact rfl; (first | assumption | (focus (apply Ext.cell; rotate_left; assumption; (exact extA); done)))) | (apply WL.index tOk; exact rfl; exact rfl; exact rfl; exact rfl; exact rfl; exact rfl; exact rfl; exact rfl; assumption; (exact extA); exact rfl; omega; assumption; intro b off h; have hcc := h; first | (obtain ⟨h1, h2, h3, h4, h5, h6, _⟩ := h) | (obtain ⟨h1, h2, h3, _⟩ := h) | (obtain ⟨h1, h2, _⟩ := h) | (obtain ⟨h1, _⟩ := h)) | (apply WL.add; exact rfl; exact rfl; exact rfl; exact rfl; omega) | (apply WL.sub; exact rfl; exact rfl; exact rfl; exact rfl; omega) | (apply WL.mul; exact rfl; exact rfl; exact rfl; exact rfl; omega) | (apply WL.quo; exact rfl; exact rfl; exact rfl; exact rfl; omega) | (apply WL.rem; exact rfl; exact rfl; exact rfl; exact rfl; omega) | (apply WL.loadA tOk; exact rfl; exact rfl; exact rfl; exact rfl; exact rfl; (first | assumption | (focus (apply Cells.ext; rotate_left; assumption; (exact extA); done))); exact rfl) | (apply WL.guardF; exact rfl; exact rfl) | (apply WL.gD; exact rfl; exact rfl; all_goals intro _) | (apply WL.gN; exact rfl; exact rfl; all_goals intro _) | (apply WL.gB; exact rfl; exact rfl; all_goals intro _))
        | (show Z _ _ _ _ _; first | apply Z.tail | apply Z.then_normal | apply Z.block_normal | apply Z.then_exit | apply Z.block_exit | apply Z.then_ret | apply Z.block_ret | (apply Z.block_other; exact rfl))
        | (show W _ _ _ _ _ _; first | apply W.seq | apply W.region | apply W.block | apply W.skip | apply W.ret | apply W.exit | (apply W.condT; exact rfl) | (apply W.condF; exact rfl) | (apply W.condD; exact rfl; all_goals intro _) | (apply W.condN; exact rfl; all_goals intro _) | (apply W.condB; exact rfl; all_goals intro _)))
      exact Z.body1 Try.results96 rfl fun m => ⟨rfl, m, rfl⟩
    · rw [if_neg q1] at he
      by_cases q2 : lit3 vals x = 2
      · rw [if_pos q2] at he
        repeat' (first
          | ((show WL _ _ _ (⟨_, .call ⟨.value (.func 107), _, _⟩, _, _, _, _⟩ :: _) _ _ _); apply WL.callS; exact rfl; exact rfl; exact rfl; exact rfl; exact tri_Lit _ _ vals x _ R)
          | (apply WL.gT; exact rfl; exact rfl; (focus (first | exact dec_true (by omega) | exact dec_true q2 | exact dec_false q1; done)))
          | (apply WL.gF; exact rfl; exact rfl; (focus (first | exact dec_true (by omega) | exact dec_true q2 | exact dec_false q1; done)))
          | (apply W.condKT; exact rfl; (focus (first | exact dec_true (by omega) | exact dec_true q2 | exact dec_false q1; done)))
          | (apply W.condKF; exact rfl; (focus (first | exact dec_true (by omega) | exact dec_true q2 | exact dec_false q1; done)))
          | (show WL _ _ _ _ _ _ _; first | apply WL.nil | (apply WL.pev tOk; exact rfl; exact rfl; exact rfl) | (apply WL.load tOk; exact rfl; exact rfl; exact rfl; exact rfl; exact rfl; (first | assumption | (focus (apply Ext.cell; rotate_left; assumption; (exact extA); done)))) | (apply WL.index tOk; exact rfl; exact rfl; exact rfl; exact rfl; exact rfl; exact rfl; exact rfl; exact rfl; assumption; (exact extA); exact rfl; omega; assumption; intro b off h; have hcc := h; first | (obtain ⟨h1, h2, h3, h4, h5, h6, _⟩ := h) | (obtain ⟨h1, h2, h3, _⟩ := h) | (obtain ⟨h1, h2, _⟩ := h) | (obtain ⟨h1, _⟩ := h)) | (apply WL.add; exact rfl; exact rfl; exact rfl; exact rfl; omega) | (apply WL.sub; exact rfl; exact rfl; exact rfl; exact rfl; omega) | (apply WL.mul; exact rfl; exact rfl; exact rfl; exact rfl; omega) | (apply WL.quo; exact rfl; exact rfl; exact rfl; exact rfl; omega) | (apply WL.rem; exact rfl; exact rfl; exact rfl; exact rfl; omega) | (apply WL.loadA tOk; exact rfl; exact rfl; exact rfl; exact rfl; exact rfl; (first | assumption | (focus (apply Cells.ext; rotate_left; assumption; (exact extA); done))); exact rfl) | (apply WL.guardF; exact rfl; exact rfl) | (apply WL.gD; exact rfl; exact rfl; all_goals intro _) | (apply WL.gN; exact rfl; exact rfl; all_goals intro _) | (apply WL.gB; exact rfl; exact rfl; all_goals intro _))
          | (show Z _ _ _ _ _; first | apply Z.tail | apply Z.then_normal | apply Z.block_normal | apply Z.then_exit | apply Z.block_exit | apply Z.then_ret | apply Z.block_ret | (apply Z.block_other; exact rfl))
          | (show W _ _ _ _ _ _; first | apply W.seq | apply W.region | apply W.block | apply W.skip | apply W.ret | apply W.exit | (apply W.condT; exact rfl) | (apply W.condF; exact rfl) | (apply W.condD; exact rfl; all_goals intro _) | (apply W.condN; exact rfl; all_goals intro _) | (apply W.condB; exact rfl; all_goals intro _)))
        exact Z.again (k + 1, 2) ⟨by show k + 1 ≤ _; omega, he⟩ (by show l.length - (k + 1) < l.length - k; omega) ⟨rfl, rfl, rfl, rfl, rfl, trivial⟩ rfl
      · rw [if_neg q2] at he
        repeat' (first
          | ((show WL _ _ _ (⟨_, .call ⟨.value (.func 107), _, _⟩, _, _, _, _⟩ :: _) _ _ _); apply WL.callS; exact rfl; exact rfl; exact rfl; exact rfl; exact tri_Lit _ _ vals x _ R)
          | (apply WL.gT; exact rfl; exact rfl; (focus (first | exact dec_true (by omega) | exact dec_false q2 | exact dec_false q1; done)))
          | (apply WL.gF; exact rfl; exact rfl; (focus (first | exact dec_true (by omega) | exact dec_false q2 | exact dec_false q1; done)))
          | (apply W.condKT; exact rfl; (focus (first | exact dec_true (by omega) | exact dec_false q2 | exact dec_false q1; done)))
          | (apply W.condKF; exact rfl; (focus (first | exact dec_true (by omega) | exact dec_false q2 | exact dec_false q1; done)))
          | (show WL _ _ _ _ _ _ _; first | apply WL.nil | (apply WL.pev tOk; exact rfl; exact rfl; exact rfl) | (apply WL.load tOk; exact rfl; exact rfl; exact rfl; exact rfl; exact rfl; (first | assumption | (focus (apply Ext.cell; rotate_left; assumption; (exact extA); done)))) | (apply WL.index tOk; exact rfl; exact rfl; exact rfl; exact rfl; exact rfl; exact rfl; exact rfl; exact rfl; assumption; (exact extA); exact rfl; omega; assumption; intro b off h; have hcc := h; first | (obtain ⟨h1, h2, h3, h4, h5, h6, _⟩ := h) | (obtain ⟨h1, h2, h3, _⟩ := h) | (obtain ⟨h1, h2, _⟩ := h) | (obtain ⟨h1, _⟩ := h)) | (apply WL.add; exact rfl; exact rfl; exact rfl; exact rfl; omega) | (apply WL.sub; exact rfl; exact rfl; exact rfl; exact rfl; omega) | (apply WL.mul; exact rfl; exact rfl; exact rfl; exact rfl; omega) | (apply WL.quo; exact rfl; exact rfl; exact rfl; exact rfl; omega) | (apply WL.rem; exact rfl; exact rfl; exact rfl; exact rfl; omega) | (apply WL.loadA tOk; exact rfl; exact rfl; exact rfl; exact rfl; exact rfl; (first | assumption | (focus (apply Cells.ext; rotate_left; assumption; (exact extA); done))); exact rfl) | (apply WL.guardF; exact rfl; exact rfl) | (apply WL.gD; exact rfl; exact rfl; all_goals intro _) | (apply WL.gN; exact rfl; exact rfl; all_goals intro _) | (apply WL.gB; exact rfl; exact rfl; all_goals intro _))
          | (show Z _ _ _ _ _; first | apply Z.tail | apply Z.then_normal | apply Z.block_normal | apply Z.then_exit | apply Z.block_exit | apply Z.then_ret | apply Z.block_ret | (apply Z.block_other; exact rfl))
          | (show W _ _ _ _ _ _; first | apply W.seq | apply W.region | apply W.block | apply W.skip | apply W.ret | apply W.exit | (apply W.condT; exact rfl) | (apply W.condF; exact rfl) | (apply W.condD; exact rfl; all_goals intro _) | (apply W.condN; exact rfl; all_goals intro _) | (apply W.condB; exact rfl; all_goals intro _)))
        exact Z.again (k + 1, out) ⟨by show k + 1 ≤ _; omega, he⟩ (by show l.length - (k + 1) < l.length - k; omega) ⟨rfl, rfl, rfl, rfl, rfl, trivial⟩ rfl
  · obtain rfl : k = l.length := by omega
    rw [List.drop_length, vC] at he
    rw [← he]
    repeat' (first
      | (apply WL.gT; exact rfl; exact rfl; (focus (exact dec_false (by omega); done)))
      | (apply WL.gF; exact rfl; exact rfl; (focus (exact dec_false (by omega); done)))
      | (apply W.condKT; exact rfl; (focus (exact dec_false (by omega); done)))
      | (apply W.condKF; exact rfl; (focus (exact dec_false (by omega); done)))
      | (show WL _ _ _ _ _ _ _; first | apply WL.nil | (apply WL.pev tOk; exact rfl; exact rfl; exact rfl) | (apply WL.load tOk; exact rfl; exact rfl; exact rfl; exact rfl; exact rfl; (first | assumption | (focus (apply Ext.cell; rotate_left; assumption; (exact extA); done)))) | (apply WL.index tOk; exact rfl; exact rfl; exact rfl; exact rfl; exact rfl; exact rfl; exact rfl; exact rfl; assumption; (exact extA); exact rfl; omega; assumption; intro b off h; have hcc := h; first | (obtain ⟨h1, h2, h3, h4, h5, h6, _⟩ := h) | (obtain ⟨h1, h2, h3, _⟩ := h) | (obtain ⟨h1, h2, _⟩ := h) | (obtain ⟨h1, _⟩ := h)) | (apply WL.add; exact rfl; exact rfl; exact rfl; exact rfl; omega) | (apply WL.sub; exact rfl; exact rfl; exact rfl; exact rfl; omega) | (apply WL.mul; exact rfl; exact rfl; exact rfl; exact rfl; omega) | (apply WL.quo; exact rfl; exact rfl; exact rfl; exact rfl; omega) | (apply WL.rem; exact rfl; exact rfl; exact rfl; exact rfl; omega) | (apply WL.loadA tOk; exact rfl; exact rfl; exact rfl; exact rfl; exact rfl; (first | assumption | (focus (apply Cells.ext; rotate_left; assumption; (exact extA); done))); exact rfl) | (apply WL.guardF; exact rfl; exact rfl) | (apply WL.gD; exact rfl; exact rfl; all_goals intro _) | (apply WL.gN; exact rfl; exact rfl; all_goals intro _) | (apply WL.gB; exact rfl; exact rfl; all_goals intro _))
      | (show Z _ _ _ _ _; first | apply Z.tail | apply Z.then_normal | apply Z.block_normal | apply Z.then_exit | apply Z.block_exit | apply Z.then_ret | apply Z.block_ret | (apply Z.block_other; exact rfl))
      | (show W _ _ _ _ _ _; first | apply W.seq | apply W.region | apply W.block | apply W.skip | apply W.ret | apply W.exit | (apply W.condT; exact rfl) | (apply W.condF; exact rfl) | (apply W.condD; exact rfl; all_goals intro _) | (apply W.condN; exact rfl; all_goals intro _) | (apply W.condB; exact rfl; all_goals intro _)))
    exact Z.body1 Try.results96 rfl fun m => ⟨rfl, m, rfl⟩
set_option maxHeartbeats 4000000 in
theorem clause_Unit (ra rl : Option Addr) (ca cl : Nat) (vals l : List Int) (w : World) (R : Row 1 encI w ra vals) (Rl : Row 1 encI w rl l) :
    Still Try.prog 97 [.slice ra vals.length ca, .slice rl l.length cl] w (.tuple #[.int .i64 (max (uC vals (-1) l) 0), .bool (dec (0 ≤ uC vals (-1) l))]) := by
  have hlen := Rl.len
  have efail : ∀ m : Nat, uC vals (-1) l = -1 → (Value.tuple #[.int .i64 0, .bool false]) = .tuple #[.int .i64 (max (uC vals (-1) l) 0), .bool (dec (0 ≤ uC vals (-1) l))] := fun m h => by
    rw [h, dec_false (by decide)]; rfl
  refine Spec.of _ Try.func97 rfl Try.ntmps97 (by kernel_rfl) rfl ?_
  repeat' (first
    | (show WL _ _ _ _ _ _ _; first | apply WL.nil | (apply WL.pev tOk; exact rfl; exact rfl; exact rfl) | (apply WL.load tOk; exact rfl; exact rfl; exact rfl; exact rfl; exact rfl; (first | assumption | (focus (apply Ext.cell; rotate_left; assumption; (exact extA); done)))) | (apply WL.index tOk; exact rfl; exact rfl; exact rfl; exact rfl; exact rfl; exact rfl; exact rfl; exact rfl; assumption; (exact extA); exact rfl; omega; assumption; intro b off h; have hcc := h; first | (obtain ⟨h1, h2, h3, h4, h5, h6, _⟩ := h) | (obtain ⟨h1, h2, h3, _⟩ := h) | (obtain ⟨h1, h2, _⟩ := h) | (obtain ⟨h1, _⟩ := h)) | (apply WL.add; exact rfl; exact rfl; exact rfl; exact rfl; omega) | (apply WL.sub; exact rfl; exact rfl; exact rfl; exact rfl; omega) | (apply WL.mul; exact rfl; exact rfl; exact rfl; exact rfl; omega) | (apply WL.quo; exact rfl; exact rfl; exact rfl; exact rfl; omega) | (apply WL.rem; exact rfl; exact rfl; exact rfl; exact rfl; omega) | (apply WL.loadA tOk; exact rfl; exact rfl; exact rfl; exact rfl; exact rfl; (first | assumption | (focus (apply Cells.ext; rotate_left; assumption; (exact extA); done))); exact rfl) | (apply WL.guardF; exact rfl; exact rfl) | (apply WL.gD; exact rfl; exact rfl; all_goals intro _) | (apply WL.gN; exact rfl; exact rfl; all_goals intro _) | (apply WL.gB; exact rfl; exact rfl; all_goals intro _))
    | (show Z _ _ _ _ _; first | apply Z.tail | apply Z.then_normal | apply Z.block_normal | apply Z.then_exit | apply Z.block_exit | apply Z.then_ret | apply Z.block_ret | (apply Z.block_other; exact rfl))
    | (show W _ _ _ _ _ _; first | apply W.seq | apply W.region | apply W.block | apply W.skip | apply W.ret | apply W.exit | (apply W.condT; exact rfl) | (apply W.condF; exact rfl) | (apply W.condD; exact rfl; all_goals intro _) | (apply W.condN; exact rfl; all_goals intro _) | (apply W.condB; exact rfl; all_goals intro _)))
  refine W.loop (fun s : Nat × Int => s.1 ≤ l.length ∧ uC vals s.2 (l.drop s.1) = uC vals (-1) l) (fun s => [(0, .slice ra vals.length ca), (10, .slice rl l.length cl), (11, .int .i64 l.length), (6, .int .i64 s.2), (12, .int .i64 s.1)]) (fun _ => w) (fun s => l.length - s.1) (0, -1) ⟨Nat.zero_le _, rfl⟩ ⟨rfl, rfl, rfl, rfl, rfl, trivial⟩ rfl ?_
  rintro ⟨k, left⟩ ⟨hk, he⟩
  dsimp only at hk he
  by_cases hlt : k < l.length
  · obtain ⟨x, hx⟩ := getI l hlt
    rw [drop_cons hx, uC] at he
    have h3 := lit3_thr vals x
    by_cases q1 : lit3 vals x = 1
    · rw [if_pos (.inl q1)] at he
      repeat' (first
        | ((show WL _ _ _ (⟨_, .call ⟨.value (.func 107), _, _⟩, _, _, _, _⟩ :: _) _ _ _); apply WL.callS; exact rfl; exact rfl; exact rfl; exact rfl; exact tri_Lit _ _ vals x _ R)
        | ((show WL _ _ _ (⟨_, .call ⟨.value (.func 123), _, _⟩, _, _, _, _⟩ :: _) _ _ _); apply WL.callS; exact rfl; exact rfl; exact rfl; exact rfl; exact lit_Good x _)
        | (apply WL.gT; exact rfl; exact rfl; (focus (first | exact dec_true (by omega) | exact dec_true q1 | exact dec_false (by rw [q1]; decide); done)))
        | (apply WL.gF; exact rfl; exact rfl; (focus (first | exact dec_true (by omega) | exact dec_true q1 | exact dec_false (by rw [q1]; decide); done)))
        | (apply W.condKT; exact rfl; (focus (first | exact dec_true (by omega) | exact dec_true q1 | exact dec_false (by rw [q1]; decide); done)))
        | (apply W.condKF; exact rfl; (focus (first | exact dec_true (by omega) | exact dec_true q1 | exact dec_false (by rw [q1]; decide); done)))
        | (show WL _ _ _ _ _ _ _; first | apply WL.nil | (apply WL.pev tOk; exact rfl; exact rfl; exact rfl) | (apply WL.load tOk; exact rfl; exact rfl; exact rfl; exact rfl; exact rfl; (first | assumption | (focus (apply Ext.cell; rotate_left; assumption; (exact extA); done)))) | (apply WL.index tOk; exact rfl; exact rfl; exact rfl; exact rfl; exact rfl; exact rfl; exact rfl; exact rfl; assumption; (exact extA); exact rfl; omega; assumption; intro b off h; have hcc := h; first | (obtain ⟨h1, h2, h3, h4, h5, h6, _⟩ := h) | (obtain ⟨h1, h2, h3, _⟩ := h) | (obtain ⟨h1, h2, _⟩ := h) | (obtain ⟨h1, _⟩ := h)) | (apply WL.add; exact rfl; exact rfl; exact rfl; exact rfl; omega) | (apply WL.sub; exact rfl; exact rfl; exact rfl; exact rfl; omega) | (apply WL.mul; exact rfl; exact rfl; exact rfl; exact rfl; omega) | (apply WL.quo; exact rfl; exact rfl; exact rfl; exact rfl; omega) | (apply WL.rem; exact rfl; exact rfl; exact rfl; exact rfl; omega) | (apply WL.loadA tOk; exact rfl; exact rfl; exact rfl; exact rfl; exact rfl; (first | assumption | (focus (apply Cells.ext; rotate_left; assumption; (exact extA); done))); exact rfl) | (apply WL.guardF; exact rfl; exact rfl) | (apply WL.gD; exact rfl; exact rfl; all_goals intro _) | (apply WL.gN; exact rfl; exact rfl; all_goals intro _) | (apply WL.gB; exact rfl; exact rfl; all_goals intro _))
        | (show Z _ _ _ _ _; first | apply Z.tail | apply Z.then_normal | apply Z.block_normal | apply Z.then_exit | apply Z.block_exit | apply Z.then_ret | apply Z.block_ret | (apply Z.block_other; exact rfl))
        | (show W _ _ _ _ _ _; first | apply W.seq | apply W.region | apply W.block | apply W.skip | apply W.ret | apply W.exit | (apply W.condT; exact rfl) | (apply W.condF; exact rfl) | (apply W.condD; exact rfl; all_goals intro _) | (apply W.condN; exact rfl; all_goals intro _) | (apply W.condB; exact rfl; all_goals intro _)))
      exact Z.body2 Try.results97 rfl rfl fun m => ⟨efail m he.symm, m, rfl⟩
    · by_cases q2 : lit3 vals x = 2
      · by_cases q3 : goodL x
        · by_cases q4 : 0 ≤ left ∧ left ≠ x
          · rw [if_pos (.inr ⟨q2, .inr q4⟩)] at he
            repeat' (first
              | ((show WL _ _ _ (⟨_, .call ⟨.value (.func 107), _, _⟩, _, _, _, _⟩ :: _) _ _ _); apply WL.callS; exact rfl; exact rfl; exact rfl; exact rfl; exact tri_Lit _ _ vals x _ R)
              | ((show WL _ _ _ (⟨_, .call ⟨.value (.func 123), _, _⟩, _, _, _, _⟩ :: _) _ _ _); apply WL.callS; exact rfl; exact rfl; exact rfl; exact rfl; exact lit_Good x _)
              | (apply WL.gT; exact rfl; exact rfl; (focus (first | exact dec_true (by omega) | exact dec_false q1 | exact dec_false (by rw [q2]; decide) | (rw [dec_true q3]; rfl) | exact dec_true q4.2; done)))
              | (apply WL.gF; exact rfl; exact rfl; (focus (first | exact dec_true (by omega) | exact dec_false q1 | exact dec_false (by rw [q2]; decide) | (rw [dec_true q3]; rfl) | exact dec_true q4.2; done)))
              | (apply W.condKT; exact rfl; (focus (first | exact dec_true (by omega) | exact dec_false q1 | exact dec_false (by rw [q2]; decide) | (rw [dec_true q3]; rfl) | exact dec_true q4.2; done)))
              | (apply W.condKF; exact rfl; (focus (first | exact dec_true (by omega) | exact dec_false q1 | exact dec_false (by rw [q2]; decide) | (rw [dec_true q3]; rfl) | exact dec_true q4.2; done)))
              | (show WL _ _ _ _ _ _ _; first | apply WL.nil | (apply WL.pev tOk; exact rfl; exact rfl; exact rfl) | (apply WL.load tOk; exact rfl; exact rfl; exact rfl; exact rfl; exact rfl; (first | assumption | (focus (apply Ext.cell; rotate_left; assumption; (exact extA); done)))) | (apply WL.index tOk; exact rfl; exact rfl; exact rfl; exact rfl; exact rfl; exact rfl; exact rfl; exact rfl; assumption; (exact extA); exact rfl; omega; assumption; intro b off h; have hcc := h; first | (obtain ⟨h1, h2, h3, h4, h5, h6, _⟩ := h) | (obtain ⟨h1, h2, h3, _⟩ := h) | (obtain ⟨h1, h2, _⟩ := h) | (obtain ⟨h1, _⟩ := h)) | (apply WL.add; exact rfl; exact rfl; exact rfl; exact rfl; omega) | (apply WL.sub; exact rfl; exact rfl; exact rfl; exact rfl; omega) | (apply WL.mul; exact rfl; exact rfl; exact rfl; exact rfl; omega) | (apply WL.quo; exact rfl; exact rfl; exact rfl; exact rfl; omega) | (apply WL.rem; exact rfl; exact rfl; exact rfl; exact rfl; omega) | (apply WL.loadA tOk; exact rfl; exact rfl; exact rfl; exact rfl; exact rfl; (first | assumption | (focus (apply Cells.ext; rotate_left; assumption; (exact extA); done))); exact rfl) | (apply WL.guardF; exact rfl; exact rfl) | (apply WL.gD; exact rfl; exact rfl; all_goals intro _) | (apply WL.gN; exact rfl; exact rfl; all_goals intro _) | (apply WL.gB; exact rfl; exact rfl; all_goals intro _))
              | (show Z _ _ _ _ _; first | apply Z.tail | apply Z.then_normal | apply Z.block_normal | apply Z.then_exit | apply Z.block_exit | apply Z.then_ret | apply Z.block_ret | (apply Z.block_other; exact rfl))
              | (show W _ _ _ _ _ _; first | apply W.seq | apply W.region | apply W.block | apply W.skip | apply W.ret | apply W.exit | (apply W.condT; exact rfl) | (apply W.condF; exact rfl) | (apply W.condD; exact rfl; all_goals intro _) | (apply W.condN; exact rfl; all_goals intro _) | (apply W.condB; exact rfl; all_goals intro _)))
            all_goals exact Z.body2 Try.results97 rfl rfl fun m => ⟨efail m he.symm, m, rfl⟩
          · rw [if_neg (fun h => h.elim q1 (fun h => h.2.elim (fun h => h q3) q4)), if_pos q2] at he
            by_cases q5 : 0 ≤ left
            · repeat' (first
                | ((show WL _ _ _ (⟨_, .call ⟨.value (.func 107), _, _⟩, _, _, _, _⟩ :: _) _ _ _); apply WL.callS; exact rfl; exact rfl; exact rfl; exact rfl; exact tri_Lit _ _ vals x _ R)
                | ((show WL _ _ _ (⟨_, .call ⟨.value (.func 123), _, _⟩, _, _, _, _⟩ :: _) _ _ _); apply WL.callS; exact rfl; exact rfl; exact rfl; exact rfl; exact lit_Good x _)
                | (apply WL.gT; exact rfl; exact rfl; (focus (first | exact dec_true (by omega) | exact dec_false q1 | exact dec_false (by rw [q2]; decide) | (rw [dec_true q3]; rfl) | exact dec_false (by omega); done)))
                | (apply WL.gF; exact rfl; exact rfl; (focus (first | exact dec_true (by omega) | exact dec_false q1 | exact dec_false (by rw [q2]; decide) | (rw [dec_true q3]; rfl) | exact dec_false (by omega); done)))
                | (apply W.condKT; exact rfl; (focus (first | exact dec_true (by omega) | exact dec_false q1 | exact dec_false (by rw [q2]; decide) | (rw [dec_true q3]; rfl) | exact dec_false (by omega); done)))
                | (apply W.condKF; exact rfl; (focus (first | exact dec_true (by omega) | exact dec_false q1 | exact dec_false (by rw [q2]; decide) | (rw [dec_true q3]; rfl) | exact dec_false (by omega); done)))
                | (show WL _ _ _ _ _ _ _; first | apply WL.nil | (apply WL.pev tOk; exact rfl; exact rfl; exact rfl) | (apply WL.load tOk; exact rfl; exact rfl; exact rfl; exact rfl; exact rfl; (first | assumption | (focus (apply Ext.cell; rotate_left; assumption; (exact extA); done)))) | (apply WL.index tOk; exact rfl; exact rfl; exact rfl; exact rfl; exact rfl; exact rfl; exact rfl; exact rfl; assumption; (exact extA); exact rfl; omega; assumption; intro b off h; have hcc := h; first | (obtain ⟨h1, h2, h3, h4, h5, h6, _⟩ := h) | (obtain ⟨h1, h2, h3, _⟩ := h) | (obtain ⟨h1, h2, _⟩ := h) | (obtain ⟨h1, _⟩ := h)) | (apply WL.add; exact rfl; exact rfl; exact rfl; exact rfl; omega) | (apply WL.sub; exact rfl; exact rfl; exact rfl; exact rfl; omega) | (apply WL.mul; exact rfl; exact rfl; exact rfl; exact rfl; omega) | (apply WL.quo; exact rfl; exact rfl; exact rfl; exact rfl; omega) | (apply WL.rem; exact rfl; exact rfl; exact rfl; exact rfl; omega) | (apply WL.loadA tOk; exact rfl; exact rfl; exact rfl; exact rfl; exact rfl; (first | assumption | (focus (apply Cells.ext; rotate_left; assumption; (exact extA); done))); exact rfl) | (apply WL.guardF; exact rfl; exact rfl) | (apply WL.gD; exact rfl; exact rfl; all_goals intro _) | (apply WL.gN; exact rfl; exact rfl; all_goals intro _) | (apply WL.gB; exact rfl; exact rfl; all_goals intro _))
                | (show Z _ _ _ _ _; first | apply Z.tail | apply Z.then_normal | apply Z.block_normal | apply Z.then_exit | apply Z.block_exit | apply Z.then_ret | apply Z.block_ret | (apply Z.block_other; exact rfl))
                | (show W _ _ _ _ _ _; first | apply W.seq | apply W.region | apply W.block | apply W.skip | apply W.ret | apply W.exit | (apply W.condT; exact rfl) | (apply W.condF; exact rfl) | (apply W.condD; exact rfl; all_goals intro _) | (apply W.condN; exact rfl; all_goals intro _) | (apply W.condB; exact rfl; all_goals intro _)))
              exact Z.again (k + 1, x) ⟨by show k + 1 ≤ _; omega, he⟩ (by show l.length - (k + 1) < l.length - k; omega) ⟨rfl, rfl, rfl, rfl, rfl, trivial⟩ rfl
            · repeat' (first
                | ((show WL _ _ _ (⟨_, .call ⟨.value (.func 107), _, _⟩, _, _, _, _⟩ :: _) _ _ _); apply WL.callS; exact rfl; exact rfl; exact rfl; exact rfl; exact tri_Lit _ _ vals x _ R)
                | ((show WL _ _ _ (⟨_, .call ⟨.value (.func 123), _, _⟩, _, _, _, _⟩ :: _) _ _ _); apply WL.callS; exact rfl; exact rfl; exact rfl; exact rfl; exact lit_Good x _)
                | (apply WL.gT; exact rfl; exact rfl; (focus (first | exact dec_true (by omega) | exact dec_false q1 | exact dec_false (by rw [q2]; decide) | (rw [dec_true q3]; rfl) | exact dec_false (by omega); done)))
                | (apply WL.gF; exact rfl; exact rfl; (focus (first | exact dec_true (by omega) | exact dec_false q1 | exact dec_false (by rw [q2]; decide) | (rw [dec_true q3]; rfl) | exact dec_false (by omega); done)))
                | (apply W.condKT; exact rfl; (focus (first | exact dec_true (by omega) | exact dec_false q1 | exact dec_false (by rw [q2]; decide) | (rw [dec_true q3]; rfl) | exact dec_false (by omega); done)))
                | (apply W.condKF; exact rfl; (focus (first | exact dec_true (by omega) | exact dec_false q1 | exact dec_false (by rw [q2]; decide) | (rw [dec_true q3]; rfl) | exact dec_false (by omega); done)))
                | (show WL _ _ _ _ _ _ _; first | apply WL.nil | (apply WL.pev tOk; exact rfl; exact rfl; exact rfl) | (apply WL.load tOk; exact rfl; exact rfl; exact rfl; exact rfl; exact rfl; (first | assumption | (focus (apply Ext.cell; rotate_left; assumption; (exact extA); done)))) | (apply WL.index tOk; exact rfl; exact rfl; exact rfl; exact rfl; exact rfl; exact rfl; exact rfl; exact rfl; assumption; (exact extA); exact rfl; omega; assumption; intro b off h; have hcc := h; first | (obtain ⟨h1, h2, h3, h4, h5, h6, _⟩ := h) | (obtain ⟨h1, h2, h3, _⟩ := h) | (obtain ⟨h1, h2, _⟩ := h) | (obtain ⟨h1, _⟩ := h)) | (apply WL.add; exact rfl; exact rfl; exact rfl; exact rfl; omega) | (apply WL.sub; exact rfl; exact rfl; exact rfl; exact rfl; omega) | (apply WL.mul; exact rfl; exact rfl; exact rfl; exact rfl; omega) | (apply WL.quo; exact rfl; exact rfl; exact rfl; exact rfl; omega) | (apply WL.rem; exact rfl; exact rfl; exact rfl; exact rfl; omega) | (apply WL.loadA tOk; exact rfl; exact rfl; exact rfl; exact rfl; exact rfl; (first | assumption | (focus (apply Cells.ext; rotate_left; assumption; (exact extA); done))); exact rfl) | (apply WL.guardF; exact rfl; exact rfl) | (apply WL.gD; exact rfl; exact rfl; all_goals intro _) | (apply WL.gN; exact rfl; exact rfl; all_goals intro _) | (apply WL.gB; exact rfl; exact rfl; all_goals intro _))
                | (show Z _ _ _ _ _; first | apply Z.tail | apply Z.then_normal | apply Z.block_normal | apply Z.then_exit | apply Z.block_exit | apply Z.then_ret | apply Z.block_ret | (apply Z.block_other; exact rfl))
                | (show W _ _ _ _ _ _; first | apply W.seq | apply W.region | apply W.block | apply W.skip | apply W.ret | apply W.exit | (apply W.condT; exact rfl) | (apply W.condF; exact rfl) | (apply W.condD; exact rfl; all_goals intro _) | (apply W.condN; exact rfl; all_goals intro _) | (apply W.condB; exact rfl; all_goals intro _)))
              exact Z.again (k + 1, x) ⟨by show k + 1 ≤ _; omega, he⟩ (by show l.length - (k + 1) < l.length - k; omega) ⟨rfl, rfl, rfl, rfl, rfl, trivial⟩ rfl
        · rw [if_pos (.inr ⟨q2, .inl q3⟩)] at he
          repeat' (first
            | ((show WL _ _ _ (⟨_, .call ⟨.value (.func 107), _, _⟩, _, _, _, _⟩ :: _) _ _ _); apply WL.callS; exact rfl; exact rfl; exact rfl; exact rfl; exact tri_Lit _ _ vals x _ R)
            | ((show WL _ _ _ (⟨_, .call ⟨.value (.func 123), _, _⟩, _, _, _, _⟩ :: _) _ _ _); apply WL.callS; exact rfl; exact rfl; exact rfl; exact rfl; exact lit_Good x _)
            | (apply WL.gT; exact rfl; exact rfl; (focus (first | exact dec_true (by omega) | exact dec_false q1 | exact dec_false (by rw [q2]; decide) | (rw [dec_false q3]; rfl); done)))
            | (apply WL.gF; exact rfl; exact rfl; (focus (first | exact dec_true (by omega) | exact dec_false q1 | exact dec_false (by rw [q2]; decide) | (rw [dec_false q3]; rfl); done)))
            | (apply W.condKT; exact rfl; (focus (first | exact dec_true (by omega) | exact dec_false q1 | exact dec_false (by rw [q2]; decide) | (rw [dec_false q3]; rfl); done)))
            | (apply W.condKF; exact rfl; (focus (first | exact dec_true (by omega) | exact dec_false q1 | exact dec_false (by rw [q2]; decide) | (rw [dec_false q3]; rfl); done)))
            | (show WL _ _ _ _ _ _ _; first | apply WL.nil | (apply WL.pev tOk; exact rfl; exact rfl; exact rfl) | (apply WL.load tOk; exact rfl; exact rfl; exact rfl; exact rfl; exact rfl; (first | assumption | (focus (apply Ext.cell; rotate_left; assumption; (exact extA); done)))) | (apply WL.index tOk; exact rfl; exact rfl; exact rfl; exact rfl; exact rfl; exact rfl; exact rfl; exact rfl; assumption; (exact extA); exact rfl; omega; assumption; intro b off h; have hcc := h; first | (obtain ⟨h1, h2, h3, h4, h5, h6, _⟩ := h) | (obtain ⟨h1, h2, h3, _⟩ := h) | (obtain ⟨h1, h2, _⟩ := h) | (obtain ⟨h1, _⟩ := h)) | (apply WL.add; exact rfl; exact rfl; exact rfl; exact rfl; omega) | (apply WL.sub; exact rfl; exact rfl; exact rfl; exact rfl; omega) | (apply WL.mul; exact rfl; exact rfl; exact rfl; exact rfl; omega) | (apply WL.quo; exact rfl; exact rfl; exact rfl; exact rfl; omega) | (apply WL.rem; exact rfl; exact rfl; exact rfl; exact rfl; omega) | (apply WL.loadA tOk; exact rfl; exact rfl; exact rfl; exact rfl; exact rfl; (first | assumption | (focus (apply Cells.ext; rotate_left; assumption; (exact extA); done))); exact rfl) | (apply WL.guardF; exact rfl; exact rfl) | (apply WL.gD; exact rfl; exact rfl; all_goals intro _) | (apply WL.gN; exact rfl; exact rfl; all_goals intro _) | (apply WL.gB; exact rfl; exact rfl; all_goals intro _))
            | (show Z _ _ _ _ _; first | apply Z.tail | apply Z.then_normal | apply Z.block_normal | apply Z.then_exit | apply Z.block_exit | apply Z.then_ret | apply Z.block_ret | (apply Z.block_other; exact rfl))
            | (show W _ _ _ _ _ _; first | apply W.seq | apply W.region | apply W.block | apply W.skip | apply W.ret | apply W.exit | (apply W.condT; exact rfl) | (apply W.condF; exact rfl) | (apply W.condD; exact rfl; all_goals intro _) | (apply W.condN; exact rfl; all_goals intro _) | (apply W.condB; exact rfl; all_goals intro _)))
          all_goals exact Z.body2 Try.results97 rfl rfl fun m => ⟨efail m he.symm, m, rfl⟩
      · rw [if_neg (fun h => h.elim q1 (fun h => q2 h.1)), if_neg q2] at he
        repeat' (first
          | ((show WL _ _ _ (⟨_, .call ⟨.value (.func 107), _, _⟩, _, _, _, _⟩ :: _) _ _ _); apply WL.callS; exact rfl; exact rfl; exact rfl; exact rfl; exact tri_Lit _ _ vals x _ R)
          | ((show WL _ _ _ (⟨_, .call ⟨.value (.func 123), _, _⟩, _, _, _, _⟩ :: _) _ _ _); apply WL.callS; exact rfl; exact rfl; exact rfl; exact rfl; exact lit_Good x _)
          | (apply WL.gT; exact rfl; exact rfl; (focus (first | exact dec_true (by omega); done)))
          | (apply WL.gF; exact rfl; exact rfl; (focus (first | exact dec_true (by omega); done)))
          | (apply W.condKT; exact rfl; (focus (first | exact dec_true (by omega); done)))
          | (apply W.condKF; exact rfl; (focus (first | exact dec_true (by omega); done)))
          | (show WL _ _ _ _ _ _ _; first | apply WL.nil | (apply WL.pev tOk; exact rfl; exact rfl; exact rfl) | (apply WL.load tOk; exact rfl; exact rfl; exact rfl; exact rfl; exact rfl; (first | assumption | (focus (apply Ext.cell; rotate_left; assumption; (exact extA); done)))) | (apply WL.index tOk; exact rfl; exact rfl; exact rfl; exact rfl; exact rfl; exact rfl; exact rfl; exact rfl; assumption; (exact extA); exact rfl; omega; assumption; intro b off h; have hcc := h; first | (obtain ⟨h1, h2, h3, h4, h5, h6, _⟩ := h) | (obtain ⟨h1, h2, h3, _⟩ := h) | (obtain ⟨h1, h2, _⟩ := h) | (obtain ⟨h1, _⟩ := h)) | (apply WL.add; exact rfl; exact rfl; exact rfl; exact rfl; omega) | (apply WL.sub; exact rfl; exact rfl; exact rfl; exact rfl; omega) | (apply WL.mul; exact rfl; exact rfl; exact rfl; exact rfl; omega) | (apply WL.quo; exact rfl; exact rfl; exact rfl; exact rfl; omega) | (apply WL.rem; exact rfl; exact rfl; exact rfl; exact rfl; omega) | (apply WL.loadA tOk; exact rfl; exact rfl; exact rfl; exact rfl; exact rfl; (first | assumption | (focus (apply Cells.ext; rotate_left; assumption; (exact extA); done))); exact rfl) | (apply WL.guardF; exact rfl; exact rfl) | (apply WL.gD; exact rfl; exact rfl; all_goals intro _) | (apply WL.gN; exact rfl; exact rfl; all_goals intro _) | (apply WL.gB; exact rfl; exact rfl; all_goals intro _))
          | (show Z _ _ _ _ _; first | apply Z.tail | apply Z.then_normal | apply Z.block_normal | apply Z.then_exit | apply Z.block_exit | apply Z.then_ret | apply Z.block_ret | (apply Z.block_other; exact rfl))
          | (show W _ _ _ _ _ _; first | apply W.seq | apply W.region | apply W.block | apply W.skip | apply W.ret | apply W.exit | (apply W.condT; exact rfl) | (apply W.condF; exact rfl) | (apply W.condD; exact rfl; all_goals intro _) | (apply W.condN; exact rfl; all_goals intro _) | (apply W.condB; exact rfl; all_goals intro _)))
        exact Z.again (k + 1, left) ⟨by show k + 1 ≤ _; omega, he⟩ (by show l.length - (k + 1) < l.length - k; omega) ⟨rfl, rfl, rfl, rfl, rfl, trivial⟩ rfl
  · obtain rfl : k = l.length := by omega
    rw [List.drop_length, uC] at he
    rw [← he]
    repeat' (first
      | (apply WL.gT; exact rfl; exact rfl; (focus (exact dec_false (by omega); done)))
      | (apply WL.gF; exact rfl; exact rfl; (focus (exact dec_false (by omega); done)))
      | (apply W.condKT; exact rfl; (focus (exact dec_false (by omega); done)))
      | (apply W.condKF; exact rfl; (focus (exact dec_false (by omega); done)))
      | (apply WL.min; exact rfl; exact rfl; exact rfl; exact rfl)
      | (apply WL.max; exact rfl; exact rfl; exact rfl; exact rfl)
      | (show WL _ _ _ _ _ _ _; first | apply WL.nil | (apply WL.pev tOk; exact rfl; exact rfl; exact rfl) | (apply WL.load tOk; exact rfl; exact rfl; exact rfl; exact rfl; exact rfl; (first | assumption | (focus (apply Ext.cell; rotate_left; assumption; (exact extA); done)))) | (apply WL.index tOk; exact rfl; exact rfl; exact rfl; exact rfl; exact rfl; exact rfl; exact rfl; exact rfl; assumption; (exact extA); exact rfl; omega; assumption; intro b off h; have hcc := h; first | (obtain ⟨h1, h2, h3, h4, h5, h6, _⟩ := h) | (obtain ⟨h1, h2, h3, _⟩ := h) | (obtain ⟨h1, h2, _⟩ := h) | (obtain ⟨h1, _⟩ := h)) | (apply WL.add; exact rfl; exact rfl; exact rfl; exact rfl; omega) | (apply WL.sub; exact rfl; exact rfl; exact rfl; exact rfl; omega) | (apply WL.mul; exact rfl; exact rfl; exact rfl; exact rfl; omega) | (apply WL.quo; exact rfl; exact rfl; exact rfl; exact rfl; omega) | (apply WL.rem; exact rfl; exact rfl; exact rfl; exact rfl; omega) | (apply WL.loadA tOk; exact rfl; exact rfl; exact rfl; exact rfl; exact rfl; (first | assumption | (focus (apply Cells.ext; rotate_left; assumption; (exact extA); done))); exact rfl) | (apply WL.guardF; exact rfl; exact rfl) | (apply WL.gD; exact rfl; exact rfl; all_goals intro _) | (apply WL.gN; exact rfl; exact rfl; all_goals intro _) | (apply WL.gB; exact rfl; exact rfl; all_goals intro _))
      | (show Z _ _ _ _ _; first | apply Z.tail | apply Z.then_normal | apply Z.block_normal | apply Z.then_exit | apply Z.block_exit | apply Z.then_ret | apply Z.block_ret | (apply Z.block_other; exact rfl))
      | (show W _ _ _ _ _ _; first | apply W.seq | apply W.region | apply W.block | apply W.skip | apply W.ret | apply W.exit | (apply W.condT; exact rfl) | (apply W.condF; exact rfl) | (apply W.condD; exact rfl; all_goals intro _) | (apply W.condN; exact rfl; all_goals intro _) | (apply W.condB; exact rfl; all_goals intro _)))
    exact Z.body2 Try.results97 rfl rfl fun m => ⟨rfl, m, rfl⟩
theorem imply_known1 (g c : Nat) (n : List (Int × Int)) (a : Option Addr) (x : Int) (w : World) (h : w.cell? ⟨g, 0, none⟩ = some (.slice a n.length c)) (hx : x ≤ 9223372036854775807) : Still Try.prog 121 [.int .i64 x, .pointer (some ⟨g, 0, none⟩)] w (.bool (dec (x < 0 ∨ (n.length : Int) < x / 2))) := by
  refine Spec.of _ Try.func121 rfl Try.ntmps121 (by kernel_rfl) rfl ?_
  repeat' (first
    | (show WL _ _ _ _ _ _ _; first | apply WL.nil | (apply WL.pev tOk; exact rfl; exact rfl; exact rfl) | (apply WL.load tOk; exact rfl; exact rfl; exact rfl; exact rfl; exact rfl; (first | assumption | (focus (apply Ext.cell; rotate_left; assumption; (exact extA); done)))) | (apply WL.index tOk; exact rfl; exact rfl; exact rfl; exact rfl; exact rfl; exact rfl; exact rfl; exact rfl; assumption; (exact extA); exact rfl; omega; assumption; intro b off h; have hcc := h; first | (obtain ⟨h1, h2, h3, h4, h5, h6, _⟩ := h) | (obtain ⟨h1, h2, h3, _⟩ := h) | (obtain ⟨h1, h2, _⟩ := h) | (obtain ⟨h1, _⟩ := h)) | (apply WL.add; exact rfl; exact rfl; exact rfl; exact rfl; omega) | (apply WL.sub; exact rfl; exact rfl; exact rfl; exact rfl; omega) | (apply WL.mul; exact rfl; exact rfl; exact rfl; exact rfl; omega) | (apply WL.quo; exact rfl; exact rfl; exact rfl; exact rfl; omega) | (apply WL.rem; exact rfl; exact rfl; exact rfl; exact rfl; omega) | (apply WL.loadA tOk; exact rfl; exact rfl; exact rfl; exact rfl; exact rfl; (first | assumption | (focus (apply Cells.ext; rotate_left; assumption; (exact extA); done))); exact rfl) | (apply WL.guardF; exact rfl; exact rfl) | (apply WL.gD; exact rfl; exact rfl; all_goals intro _) | (apply WL.gN; exact rfl; exact rfl; all_goals intro _) | (apply WL.gB; exact rfl; exact rfl; all_goals intro _))
    | (show Z _ _ _ _ _; first | apply Z.tail | apply Z.then_normal | apply Z.block_normal | apply Z.then_exit | apply Z.block_exit | apply Z.then_ret | apply Z.block_ret | (apply Z.block_other; exact rfl))
    | (show W _ _ _ _ _ _; first | apply W.seq | apply W.region | apply W.block | apply W.skip | apply W.ret | apply W.exit | (apply W.condT; exact rfl) | (apply W.condF; exact rfl) | (apply W.condD; exact rfl; all_goals intro _) | (apply W.condN; exact rfl; all_goals intro _) | (apply W.condB; exact rfl; all_goals intro _)))
  all_goals (refine Z.body1 Try.results121 rfl fun m => ⟨?_, m, rfl⟩; (first | exact congrArg Value.bool (dec_true (by omega)).symm | exact congrArg Value.bool (dec_false (by omega)).symm | exact congrArg Value.bool (dec_true (by omega)) | exact congrArg Value.bool (dec_false (by omega)) | exact congrArg Value.bool (dec_congr (by omega))))
theorem imply_known (a al : Option Addr) (cap cl : Nat) (n : List (Int × Int)) (l : List Int) (w : World) (Rl : Row 1 encI w al l) (hl : ∀ x ∈ l, x ≤ 9223372036854775807) : Pure Try.prog 94 [.slice a n.length cap, .slice al l.length cl] w (.bool (dec (KnownP n l))) := by
  refine Spec.of _ Try.func94 rfl Try.ntmps94 (by kernel_rfl) rfl ?_
  repeat' (first
    | (apply WL.box; exact rfl; exact rfl; exact rfl; intro gb w' hb hge hc hx; have hcc := hc; (first | (obtain ⟨h1, h2, h3, _⟩ := hc) | (obtain ⟨h1, h2, _⟩ := hc)))
    | ((show WL _ _ _ (⟨_, .call ⟨.value (.func 120), _, _⟩, _, _, _, _⟩ :: _) _ _ _); apply WL.callS; exact rfl; exact rfl; exact rfl; exact rfl; exact slices_ContainsFunc _ _ l 121 [.pointer (some ⟨_, 0, none⟩)] (fun x => dec (x < 0 ∨ (n.length : Int) < x / 2)) _ w Rl (by (exact extA)) (fun x hx => imply_known1 _ _ n _ x _ (by assumption) (hl x hx)))
    | (show WL _ _ _ _ _ _ _; first | apply WL.nil | (apply WL.pev tOk; exact rfl; exact rfl; exact rfl) | (apply WL.load tOk; exact rfl; exact rfl; exact rfl; exact rfl; exact rfl; (first | assumption | (focus (apply Ext.cell; rotate_left; assumption; (exact extA); done)))) | (apply WL.index tOk; exact rfl; exact rfl; exact rfl; exact rfl; exact rfl; exact rfl; exact rfl; exact rfl; assumption; (exact extA); exact rfl; omega; assumption; intro b off h; have hcc := h; first | (obtain ⟨h1, h2, h3, h4, h5, h6, _⟩ := h) | (obtain ⟨h1, h2, h3, _⟩ := h) | (obtain ⟨h1, h2, _⟩ := h) | (obtain ⟨h1, _⟩ := h)) | (apply WL.add; exact rfl; exact rfl; exact rfl; exact rfl; omega) | (apply WL.sub; exact rfl; exact rfl; exact rfl; exact rfl; omega) | (apply WL.mul; exact rfl; exact rfl; exact rfl; exact rfl; omega) | (apply WL.quo; exact rfl; exact rfl; exact rfl; exact rfl; omega) | (apply WL.rem; exact rfl; exact rfl; exact rfl; exact rfl; omega) | (apply WL.loadA tOk; exact rfl; exact rfl; exact rfl; exact rfl; exact rfl; (first | assumption | (focus (apply Cells.ext; rotate_left; assumption; (exact extA); done))); exact rfl) | (apply WL.guardF; exact rfl; exact rfl) | (apply WL.gD; exact rfl; exact rfl; all_goals intro _) | (apply WL.gN; exact rfl; exact rfl; all_goals intro _) | (apply WL.gB; exact rfl; exact rfl; all_goals intro _))
    | (show Z _ _ _ _ _; first | apply Z.tail | apply Z.then_normal | apply Z.block_normal | apply Z.then_exit | apply Z.block_exit | apply Z.then_ret | apply Z.block_ret | (apply Z.block_other; exact rfl))
    | (show W _ _ _ _ _ _; first | apply W.seq | apply W.region | apply W.block | apply W.skip | apply W.ret | apply W.exit | (apply W.condT; exact rfl) | (apply W.condF; exact rfl) | (apply W.condD; exact rfl; all_goals intro _) | (apply W.condN; exact rfl; all_goals intro _) | (apply W.condB; exact rfl; all_goals intro _)))
  refine Z.body1 Try.results94 rfl fun m => ⟨?_, Ext.at (by assumption) m⟩
  by_cases h : KnownP n l
  · rw [dec_true h, dec_false]; rfl
    rintro ⟨x, hx, h2⟩
    have := h x hx; have := of_dec h2; omega
  · rw [dec_false h, dec_true]; rfl
    refine Classical.byContradiction fun hh => h fun x hx => ?_
    have : ¬ (x < 0 ∨ (n.length : Int) < x / 2) := fun h3 => hh ⟨x, hx, dec_true h3⟩
    omega
set_option maxHeartbeats 4000000 in
theorem imply_New (a : Option Addr) (cap : Nat) (n : List (Int × Int)) (w : World) (R : Row 2 encN w a n) (hna : a = none → cap = 0) (hg : GoodNet n) (hn : n.length ≤ 1048575) :
    Lt.Spec Try.prog 49 [.slice a n.length cap] w (fun v w' => Ext w w' ∧ ∃ gr an cn ao co rs, v = .pointer (some ⟨gr, 0, none⟩) ∧ RulesD w.heap.size w' gr n an cn ao co rs) := by
  refine Spec.of _ Try.func49 rfl Try.ntmps49 (by kernel_rfl) rfl ?_
  repeat' (first
    | ((show WL _ _ _ (⟨_, .call ⟨.value (.func 101), _, _⟩, _, _, _, _⟩ :: _) _ _ _); apply WL.call; exact rfl; exact rfl; exact rfl; exact rfl; exact slices_CloneN _ _ n _ R hna (by omega); rintro v' w' ⟨hx, a', cap', rfl, hO⟩; (obtain ⟨hO1, rfl⟩ : ∃ x, x = hO := ⟨_, rfl⟩; obtain ⟨w1, rfl⟩ : ∃ x, x = w' := ⟨_, rfl⟩; obtain ⟨hx1, rfl⟩ : ∃ x, x = hx := ⟨_, rfl⟩; obtain ⟨a1, rfl⟩ : ∃ x, x = a' := ⟨_, rfl⟩; obtain ⟨c1, rfl⟩ : ∃ x, x = cap' := ⟨_, rfl⟩))
    | (((show WL _ _ _ (⟨_, .call ⟨.value (.func 102), _, _⟩, _, _, _, _⟩ :: _) _ _ _); apply WL.call; exact rfl; exact rfl; exact rfl; exact rfl; exact cone_Fanouts _ _ n _ (R.ext (by (exact extA))) hg (by omega); rintro v' w2 ⟨hx2, a2, c2, rs, rfl, hO2, e2⟩))
    | (apply WL.build tOk; exact rfl; exact rfl; exact rfl; exact rfl; exact rfl; exact rfl; exact rfl; kernel_rfl)
    | (apply WL.box; exact rfl; exact rfl; exact rfl; intro gb w' hb hge hc hx; have hcc := hc; (first | (obtain ⟨h1, h2, h3, _⟩ := hc) | (obtain ⟨h1, h2, _⟩ := hc)))
    | (show WL _ _ _ _ _ _ _; first | apply WL.nil | (apply WL.pev tOk; exact rfl; exact rfl; exact rfl) | (apply WL.load tOk; exact rfl; exact rfl; exact rfl; exact rfl; exact rfl; (first | assumption | (focus (apply Ext.cell; rotate_left; assumption; (exact extA); done)))) | (apply WL.index tOk; exact rfl; exact rfl; exact rfl; exact rfl; exact rfl; exact rfl; exact rfl; exact rfl; assumption; (exact extA); exact rfl; omega; assumption; intro b off h; have hcc := h; first | (obtain ⟨h1, h2, h3, h4, h5, h6, _⟩ := h) | (obtain ⟨h1, h2, h3, _⟩ := h) | (obtain ⟨h1, h2, _⟩ := h) | (obtain ⟨h1, _⟩ := h)) | (apply WL.add; exact rfl; exact rfl; exact rfl; exact rfl; omega) | (apply WL.sub; exact rfl; exact rfl; exact rfl; exact rfl; omega) | (apply WL.mul; exact rfl; exact rfl; exact rfl; exact rfl; omega) | (apply WL.quo; exact rfl; exact rfl; exact rfl; exact rfl; omega) | (apply WL.rem; exact rfl; exact rfl; exact rfl; exact rfl; omega) | (apply WL.loadA tOk; exact rfl; exact rfl; exact rfl; exact rfl; exact rfl; (first | assumption | (focus (apply Cells.ext; rotate_left; assumption; (exact extA); done))); exact rfl) | (apply WL.guardF; exact rfl; exact rfl) | (apply WL.gD; exact rfl; exact rfl; all_goals intro _) | (apply WL.gN; exact rfl; exact rfl; all_goals intro _) | (apply WL.gB; exact rfl; exact rfl; all_goals intro _))
    | (show Z _ _ _ _ _; first | apply Z.tail | apply Z.then_normal | apply Z.block_normal | apply Z.then_exit | apply Z.block_exit | apply Z.then_ret | apply Z.block_ret | (apply Z.block_other; exact rfl))
    | (show W _ _ _ _ _ _; first | apply W.seq | apply W.region | apply W.block | apply W.skip | apply W.ret | apply W.exit | (apply W.condT; exact rfl) | (apply W.condF; exact rfl) | (apply W.condD; exact rfl; all_goals intro _) | (apply W.condN; exact rfl; all_goals intro _) | (apply W.condB; exact rfl; all_goals intro _)))
  have hs := hx1.size
  exact Z.body1 Try.results49 rfl fun m => ⟨Ext.at (by (exact extA)) m, gb, a1, c1, a2, c2, rs, rfl, by have := hx2.size; omega, (Ext.refl _).at m |>.heap hb, hO1.ext (Ext.at (by (exact extA)) m), ⟨(hO2.outer.base hs).ext (Ext.at (by (exact extA)) m), fun i r hr => ((hO2.inner i r hr).base hs).ext (Ext.at (by (exact extA)) m), hO2.apartO, hO2.apart⟩, e2⟩
end Go.Proofs.Ytmaekaflpbenmaa
