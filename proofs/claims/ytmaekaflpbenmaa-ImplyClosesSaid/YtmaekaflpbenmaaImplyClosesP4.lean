/- Part 4 of what the claim ImplyCloses needs: lemmas and contracts, printed from longer texts. No conditions. -/
import Derived.Test.YtmaekaflpbenmaaRows
import Derived.Lib.SmallJoins
import Derived.KernelRfl
import Derived.WalkKit
import Derived.ProofKit
import Derived.Deep.Quiet
import Derived.Deep.LoopGhost
import Derived.StillTail
import Derived.Test.YtmaekaflpbenmaaProg
import Derived.OpenShut
import Derived.ShutString
import Derived.ChangeOld
import Derived.Deep.Slices
import Derived.SizedLaws
import Derived.Laws.StructEq
import Derived.Laws.Externs
import Derived.MapKept
import Derived.Test.YtmaekaflpbenmaaImplyClosesP3
namespace Go.Proofs.Ytmaekaflpbenmaa
open Go Go.Lt Go.RowKit
set_option linter.unusedVariables false
set_option linter.unusedSimpArgs false

/-- Rows of clauses: given ones, and new ones that lie apart. -/
structure RJ (w0 : World) (w : World) (B : Nat) (a : Option Addr) (cap : Nat) (rs : List (RowV Int)) : Prop where
  outer : Own 1 encRI 23 B w a cap rs
  inner : ∀ q ∈ rs, Row 1 encI w0 q.1 q.2.2 ∨ ((∃ B', B ≤ B' ∧ Own 1 encI 3 B' w q.1 q.2.1 q.2.2) ∧ (blk q.1 = none ∨ blk q.1 ≠ blk a))
theorem RJ.ext {w0 w w1 : World} {B : Nat} {a : Option Addr} {cap : Nat} {rs : List (RowV Int)} (h : RJ w0 w B a cap rs) (hx : Ext w w1) : RJ w0 w1 B a cap rs :=
  ⟨h.outer.ext hx, fun q hq => (h.inner q hq).imp id fun ⟨⟨B', h1, h2⟩, h3⟩ => ⟨⟨B', h1, h2.ext hx⟩, h3⟩⟩
theorem RJ.grow {w0 w2 w3 : World} {B : Nat} {a a' : Option Addr} {cap cap' : Nat} {rs : List (RowV Int)} {q : RowV Int} (h2 : RJ w0 w2 B a cap rs)
    (hq : Row 1 encI w0 q.1 q.2.2 ∨ ((∃ B', B ≤ B' ∧ Own 1 encI 3 B' w2 q.1 q.2.1 q.2.2) ∧ (blk q.1 = none ∨ blk q.1 ≠ blk a)))
    (hU : Upd B a w2 w3) (hF : blk a' = blk a ∨ ∃ k, blk a' = some k ∧ w2.heap.size ≤ k) (hO : Own 1 encRI 23 B w3 a' cap' (rs ++ [q])) : RJ w0 w3 B a' cap' (rs ++ [q]) := by
  have key : ∀ (B' : Nat) (p : RowV Int), Own 1 encI 3 B' w2 p.1 p.2.1 p.2.2 → (blk p.1 = none ∨ blk p.1 ≠ blk a) → Own 1 encI 3 B' w3 p.1 p.2.1 p.2.2 ∧ (blk p.1 = none ∨ blk p.1 ≠ blk a') := fun B' p ho hn => by
    refine ⟨hU.own ho hn, ?_⟩
    rcases hF with hF | ⟨k, hk, hle⟩
    · rw [hF]; exact hn
    · cases hb : blk p.1 with
      | none => exact .inl rfl
      | some b =>
        refine .inr fun he => ?_
        rw [hk] at he
        have h1 := (ho.blk_lt b hb).2
        have h2 := Option.some.inj he
        omega
  refine ⟨hO, fun p hp => ?_⟩
  have hp' : Row 1 encI w0 p.1 p.2.2 ∨ ((∃ B', B ≤ B' ∧ Own 1 encI 3 B' w2 p.1 p.2.1 p.2.2) ∧ (blk p.1 = none ∨ blk p.1 ≠ blk a)) := by
    rcases List.mem_append.1 hp with hp | hp
    · exact h2.inner p hp
    · obtain rfl := List.mem_singleton.1 hp; exact hq
  rcases hp' with h | ⟨⟨B', e1, e2⟩, e3⟩
  · exact .inl h
  · obtain ⟨k1, k2⟩ := key B' p e2 e3
    exact .inr ⟨⟨B', e1, k1⟩, k2⟩
theorem RJ.push {w0 w w1 w2 w3 : World} {B : Nat} {a a' : Option Addr} {cap cap' : Nat} {rs : List (RowV Int)} {q : RowV Int} (h : RJ w0 w B a cap rs) (hx : Ext w w1) (hq : Own 1 encI 3 w.heap.size w1 q.1 q.2.1 q.2.2)
    (hB : B ≤ w.heap.size) (hx2 : Ext w1 w2) (hU : Upd B a w2 w3) (hF : blk a' = blk a ∨ ∃ k, blk a' = some k ∧ w2.heap.size ≤ k) (hO : Own 1 encRI 23 B w3 a' cap' (rs ++ [q])) : RJ w0 w3 B a' cap' (rs ++ [q]) := by
  refine (h.ext (hx.trans hx2)).grow (.inr ⟨⟨_, hB, hq.ext hx2⟩, ?_⟩) hU hF hO
  cases hb : blk q.1 with
  | none => exact .inl rfl
  | some k =>
    refine .inr fun he => ?_
    have e1 := (hq.blk_lt k hb).1
    have e2 := (h.outer.blk_lt k he.symm).2
    omega
abbrev rowsC (rs : List (RowV Int)) (c : List Int) : Prop := ∃ q ∈ rs, q.2.2 = c
theorem clL_gc {n : List (Int × Int)} {k r : Nat} {x : Int × Int} (hx : n[k]? = some x) (hr : r < 3) {v : Int} (hv : v = (k : Int) + 1) (h : clL v r x ≠ []) : GC n (clL v r x) := by
  refine ⟨k, r, x, hx, hr, ?_, by rw [hv]⟩
  rcases Int.lt_or_le x.1 0 with h1 | h1
  · exact absurd (by unfold clL; rw [if_pos h1]) h
  · exact h1
theorem gc_has {n : List (Int × Int)} {rs : List (RowV Int)} {k : Nat} (hC : ∀ j, j < k → hasC n rs j) (hk : 3 * n.length ≤ k) {c : List Int} (h : GC n c) : rowsC rs c := by
  obtain ⟨i, r, x, h1, h2, h3, rfl⟩ := h
  have hi := lt_of_get h1
  have h4 := hC (3 * i + r) (by omega)
  have e1 : (3 * i + r) / 3 = i := by omega
  have e2 : (3 * i + r) % 3 = r := by omega
  unfold hasC at h4
  rw [e1, e2] at h4
  rcases h4 x h1 with h5 | ⟨q, h5, h6⟩
  · exfalso
    unfold clL at h5
    rw [if_neg (by omega)] at h5
    split at h5
    · cases h5
    · split at h5 <;> cases h5
  · exact ⟨q, h5, h6⟩
set_option maxHeartbeats 8000000 in
theorem ref22_All2 (ra rm : Option Addr) (ca cm : Nat) (n : List (Int × Int)) (more : List (RowV Int)) (w w0 : World) (hw : Ext w0 w) (R : Row 2 encN w ra n) (Rm : Row 1 encRow w rm more) (hm : ∀ q ∈ more, Row 1 encI w0 q.1 q.2.2) (hg : GoodNet n) (hn : n.length ≤ 1048576) (hml : more.length ≤ 1048576) :
    Lt.Spec Try.prog 99 [.slice ra n.length ca, .slice rm more.length cm] w (fun v w' => Ext w w' ∧ ∃ a cap rs, v = .slice a rs.length cap ∧ RJ w0 w' w.heap.size a cap rs ∧ rs.length ≤ 3 * n.length + more.length ∧ ∀ c, rowsC rs c ↔ (GC n c ∨ (c ∈ more.map (·.2.2) ∧ KnownP n c))) := by
  refine Spec.of _ Try.func99 rfl Try.ntmps99 (by kernel_rfl) rfl ?_
  repeat' (first
    | (apply WL.lit (len := 0) tOk; exact rfl; exact rfl; exact rfl; exact rfl; exact rfl; exact rfl; (first | exact rfl | kernel_rfl | (simp [Instr.fill, catCells]; done)); exact rfl; intro gb w' hb hge hc hx; have hO0 := Own.of_block0 (enc := encRI) (s := 1) hb hge)
    | (show WL _ _ _ _ _ _ _; first | apply WL.nil | (apply WL.pev tOk; exact rfl; exact rfl; exact rfl) | (apply WL.load tOk; exact rfl; exact rfl; exact rfl; exact rfl; exact rfl; (first | assumption | (focus (apply Ext.cell; rotate_left; assumption; (exact extA); done)))) | (apply WL.index tOk; exact rfl; exact rfl; exact rfl; exact rfl; exact rfl; exact rfl; exact rfl; exact rfl; assumption; (exact extA); exact rfl; omega; assumption; intro b off h; have hcc := h; first | (obtain ⟨h1, h2, h3, h4, h5, h6, _⟩ := h) | (obtain ⟨h1, h2, h3, _⟩ := h) | (obtain ⟨h1, h2, _⟩ := h) | (obtain ⟨h1, _⟩ := h)) | (apply WL.add; exact rfl; exact rfl; exact rfl; exact rfl; omega) | (apply WL.sub; exact rfl; exact rfl; exact rfl; exact rfl; omega) | (apply WL.mul; exact rfl; exact rfl; exact rfl; exact rfl; omega) | (apply WL.quo; exact rfl; exact rfl; exact rfl; exact rfl; omega) | (apply WL.rem; exact rfl; exact rfl; exact rfl; exact rfl; omega) | (apply WL.loadA tOk; exact rfl; exact rfl; exact rfl; exact rfl; exact rfl; (first | assumption | (focus (apply Cells.ext; rotate_left; assumption; (exact extA); done))); exact rfl) | (apply WL.guardF; exact rfl; exact rfl) | (apply WL.gD; exact rfl; exact rfl; all_goals intro _) | (apply WL.gN; exact rfl; exact rfl; all_goals intro _) | (apply WL.gB; exact rfl; exact rfl; all_goals intro _))
    | (show Z _ _ _ _ _; first | apply Z.tail | apply Z.then_normal | apply Z.block_normal | apply Z.then_exit | apply Z.block_exit | apply Z.then_ret | apply Z.block_ret | (apply Z.block_other; exact rfl))
    | (show W _ _ _ _ _ _; first | apply W.seq | apply W.region | apply W.block | apply W.skip | apply W.ret | apply W.exit | (apply W.condT; exact rfl) | (apply W.condF; exact rfl) | (apply W.condD; exact rfl; all_goals intro _) | (apply W.condN; exact rfl; all_goals intro _) | (apply W.condB; exact rfl; all_goals intro _)))
  refine W.loop (fun s : Nat × List (RowV Int) × Option Addr × Nat × World => s.1 ≤ 3 * n.length ∧ s.2.1.length ≤ s.1 ∧ Ext w s.2.2.2.2 ∧ RJ w0 s.2.2.2.2 w.heap.size s.2.2.1 s.2.2.2.1 s.2.1 ∧ (∀ j, j < s.1 → hasC n s.2.1 j) ∧ ∀ q ∈ s.2.1, GC n q.2.2) (fun s => [(0, .slice ra n.length ca), (1, .slice rm more.length cm), (5, .slice s.2.2.1 s.2.1.length s.2.2.2.1), (6, .int .i64 ((s.1 : Int) + 3))]) (fun s => s.2.2.2.2) (fun s => 3 * n.length - s.1) (0, [], some ⟨gb, 0, none⟩, 0, w') ⟨Nat.zero_le _, Nat.le_refl _, hx, ⟨hO0, (fun q h => by cases h)⟩, (fun j h => absurd h (Nat.not_lt_zero _)), (fun q h => by cases h)⟩ ⟨rfl, rfl, rfl, rfl, trivial⟩ rfl ?_
  rintro ⟨k, rs, ao, co, w9⟩ ⟨hk, hrl, hX9, hI, hC, hG⟩
  dsimp only at hk hrl hX9 hI hC hG
  by_cases hlt : k < 3 * n.length
  · obtain ⟨x, hxn⟩ := getI n (show k / 3 < n.length by omega)
    have ev : ((k : Int) + 3) / 3 = ((k / 3 : Nat) : Int) + 1 := by omega
    have hO1 := hI.outer
    have hsz := hX9.size
    by_cases hnil : clL (((k : Int) + 3) / 3) (k % 3) x = []
    · repeat' (first
        | ((show WL _ _ _ (⟨_, .call ⟨.value (.func 51), _, _⟩, _, _, _, _⟩ :: _) _ _ _); apply WL.call; exact rfl; exact rfl; exact rfl; exact rfl; exact ref22_Clause _ _ n (k / 3) (k % 3) _ x _ (R.ext (by (exact extA))) hg hn hxn (by omega) (by omega); rintro v' w' ⟨hx, a', cap', rfl, hO⟩)
        | (apply WL.gT; exact rfl; exact rfl; (focus (first | exact dec_true (by omega) | exact dec_false (by rw [hnil]; decide); done)))
        | (apply WL.gF; exact rfl; exact rfl; (focus (first | exact dec_true (by omega) | exact dec_false (by rw [hnil]; decide); done)))
        | (apply W.condKT; exact rfl; (focus (first | exact dec_true (by omega) | exact dec_false (by rw [hnil]; decide); done)))
        | (apply W.condKF; exact rfl; (focus (first | exact dec_true (by omega) | exact dec_false (by rw [hnil]; decide); done)))
        | (show WL _ _ _ _ _ _ _; first | apply WL.nil | (apply WL.pev tOk; exact rfl; exact rfl; exact rfl) | (apply WL.load tOk; exact rfl; exact rfl; exact rfl; exact rfl; exact rfl; (first | assumption | (focus (apply Ext.cell; rotate_left; assumption; (exact extA); done)))) | (apply WL.index tOk; exact rfl; exact rfl; exact rfl; exact rfl; exact rfl; exact rfl; exact rfl; exact rfl; assumption; (exact extA); exact rfl; omega; assumption; intro b off h; have hcc := h; first | (obtain ⟨h1, h2, h3, h4, h5, h6, _⟩ := h) | (obtain ⟨h1, h2, h3, _⟩ := h) | (obtain ⟨h1, h2, _⟩ := h) | (obtain ⟨h1, _⟩ := h)) | (apply WL.add; exact rfl; exact rfl; exact rfl; exact rfl; omega) | (apply WL.sub; exact rfl; exact rfl; exact rfl; exact rfl; omega) | (apply WL.mul; exact rfl; exact rfl; exact rfl; exact rfl; omega) | (apply WL.quo; exact rfl; exact rfl; exact rfl; exact rfl; omega) | (apply WL.rem; exact rfl; exact rfl; exact rfl; exact rfl; omega) | (apply WL.loadA tOk; exact rfl; exact rfl; exact rfl; exact rfl; exact rfl; (first | assumption | (focus (apply Cells.ext; rotate_left; assumption; (exact extA); done))); exact rfl) | (apply WL.guardF; exact rfl; exact rfl) | (apply WL.gD; exact rfl; exact rfl; all_goals intro _) | (apply WL.gN; exact rfl; exact rfl; all_goals intro _) | (apply WL.gB; exact rfl; exact rfl; all_goals intro _))
        | (show Z _ _ _ _ _; first | apply Z.tail | apply Z.then_normal | apply Z.block_normal | apply Z.then_exit | apply Z.block_exit | apply Z.then_ret | apply Z.block_ret | (apply Z.block_other; exact rfl))
        | (show W _ _ _ _ _ _; first | apply W.seq | apply W.region | apply W.block | apply W.skip | apply W.ret | apply W.exit | (apply W.condT; exact rfl) | (apply W.condF; exact rfl) | (apply W.condD; exact rfl; all_goals intro _) | (apply W.condN; exact rfl; all_goals intro _) | (apply W.condB; exact rfl; all_goals intro _)))
      refine Z.again (k + 1, rs, ao, co, w') ⟨by show k + 1 ≤ _; omega, by show rs.length ≤ k + 1; omega, (by (exact extA)), hI.ext hx, fun j hj => ?_, hG⟩ (by show 3 * n.length - (k + 1) < 3 * n.length - k; omega) ⟨rfl, rfl, rfl, rfl, trivial⟩ rfl
      by_cases he : j = k
      · subst he
        intro y hy
        rw [hxn] at hy; cases hy
        exact .inl (by rw [← ev]; exact hnil)
      · exact hC j (by have : j < k + 1 := hj; omega)
    · have hpos : (0 : Int) < ((clL (((k : Int) + 3) / 3) (k % 3) x).length : Int) := by
        have := List.length_pos_iff.2 hnil; omega
      repeat' (first
        | ((show WL _ _ _ (⟨_, .call ⟨.value (.func 51), _, _⟩, _, _, _, _⟩ :: _) _ _ _); apply WL.call; exact rfl; exact rfl; exact rfl; exact rfl; exact ref22_Clause _ _ n (k / 3) (k % 3) _ x _ (R.ext (by (exact extA))) hg hn hxn (by omega) (by omega); rintro v' w' ⟨hx, a', cap', rfl, hO⟩; (obtain ⟨hO3, rfl⟩ : ∃ x, x = hO := ⟨_, rfl⟩; obtain ⟨w3, rfl⟩ : ∃ x, x = w' := ⟨_, rfl⟩; obtain ⟨hx3, rfl⟩ : ∃ x, x = hx := ⟨_, rfl⟩; obtain ⟨a3, rfl⟩ : ∃ x, x = a' := ⟨_, rfl⟩; obtain ⟨cap3, rfl⟩ : ∃ x, x = cap' := ⟨_, rfl⟩))
        | (apply WL.gT; exact rfl; exact rfl; (focus (first | exact dec_true (by omega) | exact dec_true hpos; done)))
        | (apply WL.gF; exact rfl; exact rfl; (focus (first | exact dec_true (by omega) | exact dec_true hpos; done)))
        | (apply W.condKT; exact rfl; (focus (first | exact dec_true (by omega) | exact dec_true hpos; done)))
        | (apply W.condKF; exact rfl; (focus (first | exact dec_true (by omega) | exact dec_true hpos; done)))
        | (apply WL.lit tOk; exact rfl; exact rfl; exact rfl; exact rfl; exact rfl; exact rfl; (first | exact rfl | kernel_rfl | (simp [Instr.fill, catCells]; done)); exact rfl; intro gb w' hb hge hc hx)
        | (apply WL.append1 (z := ((a3, cap3, clL (((k : Int) + 3) / 3) (k % 3) x))) tOk encRI_ok; exact rfl; exact rfl; exact rfl; exact rfl; exact rfl; exact rfl; exact rfl; exact rfl; exact rfl; exact rfl; assumption; (exact extA); (first | exact rfl | (simp; done) | (simp [*]; done) | omega | (simp only [List.length_set]; omega)); assumption; exact rfl; exact rfl; (exact extA); (first | omega | (simp; omega) | (simp at *; omega)); intro a' cap' w' hO hX' hU hF)
        | (show WL _ _ _ _ _ _ _; first | apply WL.nil | (apply WL.pev tOk; exact rfl; exact rfl; exact rfl) | (apply WL.load tOk; exact rfl; exact rfl; exact rfl; exact rfl; exact rfl; (first | assumption | (focus (apply Ext.cell; rotate_left; assumption; (exact extA); done)))) | (apply WL.index tOk; exact rfl; exact rfl; exact rfl; exact rfl; exact rfl; exact rfl; exact rfl; exact rfl; assumption; (exact extA); exact rfl; omega; assumption; intro b off h; have hcc := h; first | (obtain ⟨h1, h2, h3, h4, h5, h6, _⟩ := h) | (obtain ⟨h1, h2, h3, _⟩ := h) | (obtain ⟨h1, h2, _⟩ := h) | (obtain ⟨h1, _⟩ := h)) | (apply WL.add; exact rfl; exact rfl; exact rfl; exact rfl; omega) | (apply WL.sub; exact rfl; exact rfl; exact rfl; exact rfl; omega) | (apply WL.mul; exact rfl; exact rfl; exact rfl; exact rfl; omega) | (apply WL.quo; exact rfl; exact rfl; exact rfl; exact rfl; omega) | (apply WL.rem; exact rfl; exact rfl; exact rfl; exact rfl; omega) | (apply WL.loadA tOk; exact rfl; exact rfl; exact rfl; exact rfl; exact rfl; (first | assumption | (focus (apply Cells.ext; rotate_left; assumption; (exact extA); done))); exact rfl) | (apply WL.guardF; exact rfl; exact rfl) | (apply WL.gD; exact rfl; exact rfl; all_goals intro _) | (apply WL.gN; exact rfl; exact rfl; all_goals intro _) | (apply WL.gB; exact rfl; exact rfl; all_goals intro _))
        | (show Z _ _ _ _ _; first | apply Z.tail | apply Z.then_normal | apply Z.block_normal | apply Z.then_exit | apply Z.block_exit | apply Z.then_ret | apply Z.block_ret | (apply Z.block_other; exact rfl))
        | (show W _ _ _ _ _ _; first | apply W.seq | apply W.region | apply W.block | apply W.skip | apply W.ret | apply W.exit | (apply W.condT; exact rfl) | (apply W.condF; exact rfl) | (apply W.condD; exact rfl; all_goals intro _) | (apply W.condN; exact rfl; all_goals intro _) | (apply W.condB; exact rfl; all_goals intro _)))
      refine Z.again (k + 1, rs ++ [(a3, cap3, clL (((k : Int) + 3) / 3) (k % 3) x)], a', cap', w') ⟨by show k + 1 ≤ _; omega, by show (rs ++ [_]).length ≤ k + 1; rw [List.length_append]; exact Nat.succ_le_succ hrl, hX', hI.push hx3 hO3 hsz hx hU hF hO, fun j hj => ?_, fun q hq => ?_⟩ (by show 3 * n.length - (k + 1) < 3 * n.length - k; omega) ⟨rfl, rfl, rfl, rfl, trivial⟩ rfl
      · by_cases he : j = k
        · subst he
          intro y hy
          rw [hxn] at hy; cases hy
          exact .inr ⟨_, List.mem_append_right _ (List.mem_singleton.2 rfl), by show clL _ _ _ = _; rw [ev]⟩
        · intro y hy
          rcases hC j (by have : j < k + 1 := hj; omega) y hy with h5 | ⟨q, h5, h6⟩
          · exact .inl h5
          · exact .inr ⟨q, List.mem_append_left _ h5, h6⟩
      · rcases List.mem_append.1 hq with h5 | h5
        · exact hG q h5
        · obtain rfl := List.mem_singleton.1 h5
          exact clL_gc hxn (by omega) ev hnil
  · repeat' (first
      | (apply WL.gT; exact rfl; exact rfl; (focus (exact dec_false (by omega); done)))
      | (apply WL.gF; exact rfl; exact rfl; (focus (exact dec_false (by omega); done)))
      | (apply W.condKT; exact rfl; (focus (exact dec_false (by omega); done)))
      | (apply W.condKF; exact rfl; (focus (exact dec_false (by omega); done)))
      | (show WL _ _ _ _ _ _ _; first | apply WL.nil | (apply WL.pev tOk; exact rfl; exact rfl; exact rfl) | (apply WL.load tOk; exact rfl; exact rfl; exact rfl; exact rfl; exact rfl; (first | assumption | (focus (apply Ext.cell; rotate_left; assumption; (exact extA); done)))) | (apply WL.index tOk; exact rfl; exact rfl; exact rfl; exact rfl; exact rfl; exact rfl; exact rfl; exact rfl; assumption; (exact extA); exact rfl; omega; assumption; intro b off h; have hcc := h; first | (obtain ⟨h1, h2, h3, h4, h5, h6, _⟩ := h) | (obtain ⟨h1, h2, h3, _⟩ := h) | (obtain ⟨h1, h2, _⟩ := h) | (obtain ⟨h1, _⟩ := h)) | (apply WL.add; exact rfl; exact rfl; exact rfl; exact rfl; omega) | (apply WL.sub; exact rfl; exact rfl; exact rfl; exact rfl; omega) | (apply WL.mul; exact rfl; exact rfl; exact rfl; exact rfl; omega) | (apply WL.quo; exact rfl; exact rfl; exact rfl; exact rfl; omega) | (apply WL.rem; exact rfl; exact rfl; exact rfl; exact rfl; omega) | (apply WL.loadA tOk; exact rfl; exact rfl; exact rfl; exact rfl; exact rfl; (first | assumption | (focus (apply Cells.ext; rotate_left; assumption; (exact extA); done))); exact rfl) | (apply WL.guardF; exact rfl; exact rfl) | (apply WL.gD; exact rfl; exact rfl; all_goals intro _) | (apply WL.gN; exact rfl; exact rfl; all_goals intro _) | (apply WL.gB; exact rfl; exact rfl; all_goals intro _))
      | (show Z _ _ _ _ _; first | apply Z.tail | apply Z.then_normal | apply Z.block_normal | apply Z.then_exit | apply Z.block_exit | apply Z.then_ret | apply Z.block_ret | (apply Z.block_other; exact rfl))
      | (show W _ _ _ _ _ _; first | apply W.seq | apply W.region | apply W.block | apply W.skip | apply W.ret | apply W.exit | (apply W.condT; exact rfl) | (apply W.condF; exact rfl) | (apply W.condD; exact rfl; all_goals intro _) | (apply W.condN; exact rfl; all_goals intro _) | (apply W.condB; exact rfl; all_goals intro _)))
    obtain rfl : k = 3 * n.length := by omega
    have hsz9 := hX9.size
    refine W.loop (fun s : Nat × List (RowV Int) × Option Addr × Nat × World => s.1 ≤ more.length ∧ s.2.1.length ≤ 3 * n.length + s.1 ∧ Ext w s.2.2.2.2 ∧ RJ w0 s.2.2.2.2 w.heap.size s.2.2.1 s.2.2.2.1 s.2.1 ∧ (∀ q ∈ rs, q ∈ s.2.1) ∧ (∀ j q, j < s.1 → more[j]? = some q → KnownP n q.2.2 → rowsC s.2.1 q.2.2) ∧ ∀ q ∈ s.2.1, GC n q.2.2 ∨ (q.2.2 ∈ more.map (·.2.2) ∧ KnownP n q.2.2)) (fun s => [(0, .slice ra n.length ca), (1, .slice rm more.length cm), (5, .slice s.2.2.1 s.2.1.length s.2.2.2.1), (8, .int .i64 s.1)]) (fun s => s.2.2.2.2) (fun s => more.length - s.1) (0, rs, ao, co, w9) ⟨Nat.zero_le _, hrl, hX9, hI, (fun q h => h), (fun j q h => absurd h (Nat.not_lt_zero _)), fun q h => .inl (hG q h)⟩ ⟨rfl, rfl, rfl, rfl, trivial⟩ rfl ?_
    rintro ⟨k, rs2, a2, c2, w2⟩ ⟨hk2, hrl2, hX2, hI2, hS2, hC2, hG2⟩
    dsimp only at hk2 hrl2 hX2 hI2 hS2 hC2 hG2
    have hO2 := hI2.outer
    by_cases hlt2 : k < more.length
    · obtain ⟨q, hq⟩ := getI more hlt2
      have Rq := (hm q (List.mem_of_getElem? hq)).ext (hw.trans hX2)
      have Rm2 := Rm.ext hX2
      by_cases hkn : KnownP n q.2.2
      · repeat' (first
          | (apply WL.gT; exact rfl; exact rfl; (focus (first | exact dec_true (by show ((k : Nat) : Int) < _; omega) | exact dec_true hkn; done)))
          | (apply WL.gF; exact rfl; exact rfl; (focus (first | exact dec_true (by show ((k : Nat) : Int) < _; omega) | exact dec_true hkn; done)))
          | (apply W.condKT; exact rfl; (focus (first | exact dec_true (by show ((k : Nat) : Int) < _; omega) | exact dec_true hkn; done)))
          | (apply W.condKF; exact rfl; (focus (first | exact dec_true (by show ((k : Nat) : Int) < _; omega) | exact dec_true hkn; done)))
          | ((show WL _ _ _ (⟨_, .call ⟨.value (.func 45), _, _⟩, _, _, _, _⟩ :: _) _ _ _); apply WL.callS; exact rfl; exact rfl; exact rfl; exact rfl; exact ref22_Known _ _ _ _ n q.2.2 _ Rq (by omega))
          | (apply WL.lit tOk; exact rfl; exact rfl; exact rfl; exact rfl; exact rfl; exact rfl; (first | exact rfl | kernel_rfl | (simp [Instr.fill, catCells]; done)); exact rfl; intro gb w' hb hge hc hx)
          | (apply WL.append1 (z := (q)) tOk encRI_ok; exact rfl; exact rfl; exact rfl; exact rfl; exact rfl; exact rfl; exact rfl; exact rfl; exact rfl; exact rfl; assumption; (exact extA); (first | exact rfl | (simp; done) | (simp [*]; done) | omega | (simp only [List.length_set]; omega)); assumption; exact rfl; exact rfl; (exact extA); (first | omega | (simp; omega) | (simp at *; omega)); intro a' cap' w' hO hX' hU hF)
          | (show WL _ _ _ _ _ _ _; first | apply WL.nil | (apply WL.pev tOk; exact rfl; exact rfl; exact rfl) | (apply WL.load tOk; exact rfl; exact rfl; exact rfl; exact rfl; exact rfl; (first | assumption | (focus (apply Ext.cell; rotate_left; assumption; (exact extA); done)))) | (apply WL.index tOk; exact rfl; exact rfl; exact rfl; exact rfl; exact rfl; exact rfl; exact rfl; exact rfl; assumption; (exact extA); exact rfl; omega; assumption; intro b off h; have hcc := h; first | (obtain ⟨h1, h2, h3, h4, h5, h6, _⟩ := h) | (obtain ⟨h1, h2, h3, _⟩ := h) | (obtain ⟨h1, h2, _⟩ := h) | (obtain ⟨h1, _⟩ := h)) | (apply WL.add; exact rfl; exact rfl; exact rfl; exact rfl; omega) | (apply WL.sub; exact rfl; exact rfl; exact rfl; exact rfl; omega) | (apply WL.mul; exact rfl; exact rfl; exact rfl; exact rfl; omega) | (apply WL.quo; exact rfl; exact rfl; exact rfl; exact rfl; omega) | (apply WL.rem; exact rfl; exact rfl; exact rfl; exact rfl; omega) | (apply WL.loadA tOk; exact rfl; exact rfl; exact rfl; exact rfl; exact rfl; (first | assumption | (focus (apply Cells.ext; rotate_left; assumption; (exact extA); done))); exact rfl) | (apply WL.guardF; exact rfl; exact rfl) | (apply WL.gD; exact rfl; exact rfl; all_goals intro _) | (apply WL.gN; exact rfl; exact rfl; all_goals intro _) | (apply WL.gB; exact rfl; exact rfl; all_goals intro _))
          | (show Z _ _ _ _ _; first | apply Z.tail | apply Z.then_normal | apply Z.block_normal | apply Z.then_exit | apply Z.block_exit | apply Z.then_ret | apply Z.block_ret | (apply Z.block_other; exact rfl))
          | (show W _ _ _ _ _ _; first | apply W.seq | apply W.region | apply W.block | apply W.skip | apply W.ret | apply W.exit | (apply W.condT; exact rfl) | (apply W.condF; exact rfl) | (apply W.condD; exact rfl; all_goals intro _) | (apply W.condN; exact rfl; all_goals intro _) | (apply W.condB; exact rfl; all_goals intro _)))
        refine Z.again (k + 1, rs2 ++ [q], a', cap', w') ⟨by show k + 1 ≤ _; omega, by show (rs2 ++ [_]).length ≤ _; rw [List.length_append]; show rs2.length + 1 ≤ 3 * n.length + (k + 1); omega, hX', (hI2.ext (by (exact extA))).grow (.inl (hm q (List.mem_of_getElem? hq))) hU hF hO, (fun p hp => List.mem_append_left _ (hS2 p hp)), fun j p hj hp hpk => ?_, fun p hp => ?_⟩ (by show more.length - (k + 1) < more.length - k; omega) ⟨rfl, rfl, rfl, rfl, trivial⟩ rfl
        · by_cases he : j = k
          · subst he
            rw [hq] at hp; cases hp
            exact ⟨q, List.mem_append_right _ (List.mem_singleton.2 rfl), rfl⟩
          · obtain ⟨p2, h5, h6⟩ := hC2 j p (by have : j < k + 1 := hj; omega) hp hpk
            exact ⟨p2, List.mem_append_left _ h5, h6⟩
        · rcases List.mem_append.1 hp with h5 | h5
          · exact hG2 p h5
          · obtain rfl := List.mem_singleton.1 h5
            exact .inr ⟨List.mem_map.2 ⟨p, List.mem_of_getElem? hq, rfl⟩, hkn⟩
      · repeat' (first
          | (apply WL.gT; exact rfl; exact rfl; (focus (first | exact dec_true (by show ((k : Nat) : Int) < _; omega) | exact dec_false hkn; done)))
          | (apply WL.gF; exact rfl; exact rfl; (focus (first | exact dec_true (by show ((k : Nat) : Int) < _; omega) | exact dec_false hkn; done)))
          | (apply W.condKT; exact rfl; (focus (first | exact dec_true (by show ((k : Nat) : Int) < _; omega) | exact dec_false hkn; done)))
          | (apply W.condKF; exact rfl; (focus (first | exact dec_true (by show ((k : Nat) : Int) < _; omega) | exact dec_false hkn; done)))
          | ((show WL _ _ _ (⟨_, .call ⟨.value (.func 45), _, _⟩, _, _, _, _⟩ :: _) _ _ _); apply WL.callS; exact rfl; exact rfl; exact rfl; exact rfl; exact ref22_Known _ _ _ _ n q.2.2 _ Rq (by omega))
          | (show WL _ _ _ _ _ _ _; first | apply WL.nil | (apply WL.pev tOk; exact rfl; exact rfl; exact rfl) | (apply WL.load tOk; exact rfl; exact rfl; exact rfl; exact rfl; exact rfl; (first | assumption | (focus (apply Ext.cell; rotate_left; assumption; (exact extA); done)))) | (apply WL.index tOk; exact rfl; exact rfl; exact rfl; exact rfl; exact rfl; exact rfl; exact rfl; exact rfl; assumption; (exact extA); exact rfl; omega; assumption; intro b off h; have hcc := h; first | (obtain ⟨h1, h2, h3, h4, h5, h6, _⟩ := h) | (obtain ⟨h1, h2, h3, _⟩ := h) | (obtain ⟨h1, h2, _⟩ := h) | (obtain ⟨h1, _⟩ := h)) | (apply WL.add; exact rfl; exact rfl; exact rfl; exact rfl; omega) | (apply WL.sub; exact rfl; exact rfl; exact rfl; exact rfl; omega) | (apply WL.mul; exact rfl; exact rfl; exact rfl; exact rfl; omega) | (apply WL.quo; exact rfl; exact rfl; exact rfl; exact rfl; omega) | (apply WL.rem; exact rfl; exact rfl; exact rfl; exact rfl; omega) | (apply WL.loadA tOk; exact rfl; exact rfl; exact rfl; exact rfl; exact rfl; (first | assumption | (focus (apply Cells.ext; rotate_left; assumption; (exact extA); done))); exact rfl) | (apply WL.guardF; exact rfl; exact rfl) | (apply WL.gD; exact rfl; exact rfl; all_goals intro _) | (apply WL.gN; exact rfl; exact rfl; all_goals intro _) | (apply WL.gB; exact rfl; exact rfl; all_goals intro _))
          | (show Z _ _ _ _ _; first | apply Z.tail | apply Z.then_normal | apply Z.block_normal | apply Z.then_exit | apply Z.block_exit | apply Z.then_ret | apply Z.block_ret | (apply Z.block_other; exact rfl))
          | (show W _ _ _ _ _ _; first | apply W.seq | apply W.region | apply W.block | apply W.skip | apply W.ret | apply W.exit | (apply W.condT; exact rfl) | (apply W.condF; exact rfl) | (apply W.condD; exact rfl; all_goals intro _) | (apply W.condN; exact rfl; all_goals intro _) | (apply W.condB; exact rfl; all_goals intro _)))
        refine Z.again (k + 1, rs2, a2, c2, w2) ⟨by show k + 1 ≤ _; omega, by show rs2.length ≤ 3 * n.length + (k + 1); omega, hX2, hI2, hS2, fun j p hj hp hpk => ?_, hG2⟩ (by show more.length - (k + 1) < more.length - k; omega) ⟨rfl, rfl, rfl, rfl, trivial⟩ rfl
        by_cases he : j = k
        · subst he
          rw [hq] at hp; cases hp
          exact absurd hpk hkn
        · exact hC2 j p (by have : j < k + 1 := hj; omega) hp hpk
    · repeat' (first
        | (apply WL.gT; exact rfl; exact rfl; (focus (exact dec_false (by omega); done)))
        | (apply WL.gF; exact rfl; exact rfl; (focus (exact dec_false (by omega); done)))
        | (apply W.condKT; exact rfl; (focus (exact dec_false (by omega); done)))
        | (apply W.condKF; exact rfl; (focus (exact dec_false (by omega); done)))
        | (show WL _ _ _ _ _ _ _; first | apply WL.nil | (apply WL.pev tOk; exact rfl; exact rfl; exact rfl) | (apply WL.load tOk; exact rfl; exact rfl; exact rfl; exact rfl; exact rfl; (first | assumption | (focus (apply Ext.cell; rotate_left; assumption; (exact extA); done)))) | (apply WL.index tOk; exact rfl; exact rfl; exact rfl; exact rfl; exact rfl; exact rfl; exact rfl; exact rfl; assumption; (exact extA); exact rfl; omega; assumption; intro b off h; have hcc := h; first | (obtain ⟨h1, h2, h3, h4, h5, h6, _⟩ := h) | (obtain ⟨h1, h2, h3, _⟩ := h) | (obtain ⟨h1, h2, _⟩ := h) | (obtain ⟨h1, _⟩ := h)) | (apply WL.add; exact rfl; exact rfl; exact rfl; exact rfl; omega) | (apply WL.sub; exact rfl; exact rfl; exact rfl; exact rfl; omega) | (apply WL.mul; exact rfl; exact rfl; exact rfl; exact rfl; omega) | (apply WL.quo; exact rfl; exact rfl; exact rfl; exact rfl; omega) | (apply WL.rem; exact rfl; exact rfl; exact rfl; exact rfl; omega) | (apply WL.loadA tOk; exact rfl; exact rfl; exact rfl; exact rfl; exact rfl; (first | assumption | (focus (apply Cells.ext; rotate_left; assumption; (exact extA); done))); exact rfl) | (apply WL.guardF; exact rfl; exact rfl) | (apply WL.gD; exact rfl; exact rfl; all_goals intro _) | (apply WL.gN; exact rfl; exact rfl; all_goals intro _) | (apply WL.gB; exact rfl; exact rfl; all_goals intro _))
        | (show Z _ _ _ _ _; first | apply Z.tail | apply Z.then_normal | apply Z.block_normal | apply Z.then_exit | apply Z.block_exit | apply Z.then_ret | apply Z.block_ret | (apply Z.block_other; exact rfl))
        | (show W _ _ _ _ _ _; first | apply W.seq | apply W.region | apply W.block | apply W.skip | apply W.ret | apply W.exit | (apply W.condT; exact rfl) | (apply W.condF; exact rfl) | (apply W.condD; exact rfl; all_goals intro _) | (apply W.condN; exact rfl; all_goals intro _) | (apply W.condB; exact rfl; all_goals intro _)))
      obtain rfl : k = more.length := by omega
      refine Z.body1 Try.results99 rfl fun m => ⟨hX2.at m, a2, c2, rs2, rfl, hI2.ext ((Ext.refl _).at m), hrl2, fun c => ⟨fun ⟨q, h1, h2⟩ => by rw [← h2]; exact hG2 q h1, fun h => ?_⟩⟩
      rcases h with h | ⟨h, h'⟩
      · obtain ⟨q, h1, h2⟩ := gc_has hC (Nat.le_refl _) h
        exact ⟨q, hS2 q h1, h2⟩
      · obtain ⟨q, h1, rfl⟩ := List.mem_map.1 h
        obtain ⟨j, hj, he⟩ := List.getElem_of_mem h1
        exact hC2 j q hj (by rw [List.getElem?_eq_getElem hj, he]) h'

set_option maxHeartbeats 8000000 in
theorem ref22_Units2 (ra rc : Option Addr) (ca cc : Nat) (vals : List Int) (cs : List (RowV Int)) (w : World) (R : Row 1 encI w ra vals) (Rc : Row 1 encRow w rc cs) (hin : ∀ c ∈ cs, Row 1 encI w c.1 c.2.2 ∧ ∀ x ∈ c.2.2, 0 ≤ x ∧ (x / 2).toNat < vals.length ∧ x ≤ 33554433) (hna : ra = none → ca = 0) (hvl : vals.length ≤ 1048577) (hok : OkV vals.length vals) :
    Lt.Spec Try.prog 98 [.slice ra vals.length ca, .slice rc cs.length cc] w (fun v w' => Ext w w' ∧ ((v = .tuple #[.slice none 0 0, .bool false] ∧ Out (rowsC cs) vals none) ∨ ∃ a c out, v = .tuple #[.slice a out.length c, .bool true] ∧ Own 1 encI 3 w.heap.size w' a c out ∧ Out (rowsC cs) vals (some out))) := by
  have hcl := Rc.len
  have hlit : LitC vals.length (rowsC cs) := fun c ⟨q, h1, h2⟩ => by rw [← h2]; exact (hin q h1).2
  refine Spec.of _ Try.func98 rfl Try.ntmps98 (by kernel_rfl) rfl ?_
  repeat' (first
    | (apply WL.lit (len := 0) tOk; exact rfl; exact rfl; exact rfl; exact rfl; exact rfl; exact rfl; (first | exact rfl | kernel_rfl | (simp [Instr.fill, catCells]; done)); exact rfl; intro gb w' hb hge hc hx; have hO0 := Own.of_block0 (enc := encI) (s := 1) hb hge)
    | (apply WL.appendS tOk encI_ok; exact rfl; exact rfl; exact rfl; exact rfl; exact rfl; exact rfl; exact rfl; exact rfl; exact rfl; exact rfl; assumption; (exact extA); (first | exact rfl | (simp; done) | (simp [*]; done) | omega | (simp only [List.length_set]; omega)); assumption; (exact extA); (first | exact rfl | (simp; done) | (simp [*]; done) | omega | (simp only [List.length_set]; omega)); (first | assumption | (intro h; cases h) | exact Own.noneCap (by assumption)); exact rfl; (exact extA); (first | omega | (simp; omega) | (simp at *; omega)); intro a' cap' w' hO hX' hU hF)
    | (show WL _ _ _ _ _ _ _; first | apply WL.nil | (apply WL.pev tOk; exact rfl; exact rfl; exact rfl) | (apply WL.load tOk; exact rfl; exact rfl; exact rfl; exact rfl; exact rfl; (first | assumption | (focus (apply Ext.cell; rotate_left; assumption; (exact extA); done)))) | (apply WL.index tOk; exact rfl; exact rfl; exact rfl; exact rfl; exact rfl; exact rfl; exact rfl; exact rfl; assumption; (exact extA); exact rfl; omega; assumption; intro b off h; have hcc := h; first | (obtain ⟨h1, h2, h3, h4, h5, h6, _⟩ := h) | (obtain ⟨h1, h2, h3, _⟩ := h) | (obtain ⟨h1, h2, _⟩ := h) | (obtain ⟨h1, _⟩ := h)) | (apply WL.add; exact rfl; exact rfl; exact rfl; exact rfl; omega) | (apply WL.sub; exact rfl; exact rfl; exact rfl; exact rfl; omega) | (apply WL.mul; exact rfl; exact rfl; exact rfl; exact rfl; omega) | (apply WL.quo; exact rfl; exact rfl; exact rfl; exact rfl; omega) | (apply WL.rem; exact rfl; exact rfl; exact rfl; exact rfl; omega) | (apply WL.loadA tOk; exact rfl; exact rfl; exact rfl; exact rfl; exact rfl; (first | assumption | (focus (apply Cells.ext; rotate_left; assumption; (exact extA); done))); exact rfl) | (apply WL.guardF; exact rfl; exact rfl) | (apply WL.gD; exact rfl; exact rfl; all_goals intro _) | (apply WL.gN; exact rfl; exact rfl; all_goals intro _) | (apply WL.gB; exact rfl; exact rfl; all_goals intro _))
    | (show Z _ _ _ _ _; first | apply Z.tail | apply Z.then_normal | apply Z.block_normal | apply Z.then_exit | apply Z.block_exit | apply Z.then_ret | apply Z.block_ret | (apply Z.block_other; exact rfl))
    | (show W _ _ _ _ _ _; first | apply W.seq | apply W.region | apply W.block | apply W.skip | apply W.ret | apply W.exit | (apply W.condT; exact rfl) | (apply W.condF; exact rfl) | (apply W.condD; exact rfl; all_goals intro _) | (apply W.condN; exact rfl; all_goals intro _) | (apply W.condB; exact rfl; all_goals intro _)))
  rw [List.nil_append] at hO
  refine W.loop (fun s : List Int × Option Addr × Nat × World => Rch (rowsC cs) vals s.1 ∧ Ext w s.2.2.2 ∧ Own 1 encI 3 w.heap.size s.2.2.2 s.2.1 s.2.2.1 s.1) (fun s => [(1, .slice rc cs.length cc), (6, .slice s.2.1 s.1.length s.2.2.1)]) (fun s => s.2.2.2) (fun s => cnt2 s.1) (vals, a', cap', w') ⟨.base, hX', hO⟩ ⟨rfl, rfl, trivial⟩ rfl ?_
  rintro ⟨out0, ao, co, w0⟩ ⟨hr0, hX0, hO0⟩
  dsimp only at hr0 hX0 hO0
  repeat' (first
    | (show WL _ _ _ _ _ _ _; first | apply WL.nil | (apply WL.pev tOk; exact rfl; exact rfl; exact rfl) | (apply WL.load tOk; exact rfl; exact rfl; exact rfl; exact rfl; exact rfl; (first | assumption | (focus (apply Ext.cell; rotate_left; assumption; (exact extA); done)))) | (apply WL.index tOk; exact rfl; exact rfl; exact rfl; exact rfl; exact rfl; exact rfl; exact rfl; exact rfl; assumption; (exact extA); exact rfl; omega; assumption; intro b off h; have hcc := h; first | (obtain ⟨h1, h2, h3, h4, h5, h6, _⟩ := h) | (obtain ⟨h1, h2, h3, _⟩ := h) | (obtain ⟨h1, h2, _⟩ := h) | (obtain ⟨h1, _⟩ := h)) | (apply WL.add; exact rfl; exact rfl; exact rfl; exact rfl; omega) | (apply WL.sub; exact rfl; exact rfl; exact rfl; exact rfl; omega) | (apply WL.mul; exact rfl; exact rfl; exact rfl; exact rfl; omega) | (apply WL.quo; exact rfl; exact rfl; exact rfl; exact rfl; omega) | (apply WL.rem; exact rfl; exact rfl; exact rfl; exact rfl; omega) | (apply WL.loadA tOk; exact rfl; exact rfl; exact rfl; exact rfl; exact rfl; (first | assumption | (focus (apply Cells.ext; rotate_left; assumption; (exact extA); done))); exact rfl) | (apply WL.guardF; exact rfl; exact rfl) | (apply WL.gD; exact rfl; exact rfl; all_goals intro _) | (apply WL.gN; exact rfl; exact rfl; all_goals intro _) | (apply WL.gB; exact rfl; exact rfl; all_goals intro _))
    | (show Z _ _ _ _ _; first | apply Z.tail | apply Z.then_normal | apply Z.block_normal | apply Z.then_exit | apply Z.block_exit | apply Z.then_ret | apply Z.block_ret | (apply Z.block_other; exact rfl))
    | (show W _ _ _ _ _ _; first | apply W.seq | apply W.region | apply W.block | apply W.skip | apply W.ret | apply W.exit | (apply W.condT; exact rfl) | (apply W.condF; exact rfl) | (apply W.condD; exact rfl; all_goals intro _) | (apply W.condN; exact rfl; all_goals intro _) | (apply W.condB; exact rfl; all_goals intro _)))
  refine W.loop (fun s : Nat × Bool × List Int × World => s.1 ≤ cs.length ∧ Rch (rowsC cs) vals s.2.2.1 ∧ Ext w s.2.2.2 ∧ Own 1 encI 3 w.heap.size s.2.2.2 ao co s.2.2.1 ∧ (s.2.1 = true → cnt2 s.2.2.1 < cnt2 out0) ∧ (s.2.1 = false → s.2.2.1 = out0 ∧ ∀ q ∈ cs.take s.1, goodC out0 q.2.2)) (fun s => [(1, .slice rc cs.length cc), (6, .slice ao s.2.2.1.length co), (7, .bool s.2.1), (8, .int .i64 s.1)]) (fun s => s.2.2.2) (fun s => cs.length - s.1) (0, false, out0, w0) ⟨Nat.zero_le _, hr0, hX0, hO0, (fun h => by cases h), fun _ => ⟨rfl, fun q h => by simp at h⟩⟩ ⟨rfl, rfl, rfl, rfl, trivial⟩ rfl ?_
  rintro ⟨k, more, out, w9⟩ ⟨hk, hr9, hX9, hO9, hm1, hm2⟩
  dsimp only at hk hr9 hX9 hO9 hm1 hm2
  have hkv := (hr9.ok hlit hok).1
  have hol := hkv.len
  by_cases hlt : k < cs.length
  · obtain ⟨c, hc⟩ := getI cs hlt
    obtain ⟨Rq, hq⟩ := hin c (List.mem_of_getElem? hc)
    have hmem : rowsC cs c.2.2 := ⟨c, List.mem_of_getElem? hc, rfl⟩
    have Rq9 := Rq.ext hX9
    have Rc9 := Rc.ext hX9
    have Ro := Own.row encI_ok hO9
    by_cases z1 : vC out 0 c.2.2 = 0
    · repeat' (first
        | ((show WL _ _ _ (⟨_, .call ⟨.value (.func 46), _, _⟩, _, _, _, _⟩ :: _) _ _ _); apply WL.callS; exact rfl; exact rfl; exact rfl; exact rfl; exact ref20_Value _ _ _ _ out c.2.2 _ Ro Rq9)
        | (apply WL.gT; exact rfl; exact rfl; (focus (first | exact dec_true (by show ((k : Nat) : Int) < _; omega) | exact dec_true z1; done)))
        | (apply WL.gF; exact rfl; exact rfl; (focus (first | exact dec_true (by show ((k : Nat) : Int) < _; omega) | exact dec_true z1; done)))
        | (apply W.condKT; exact rfl; (focus (first | exact dec_true (by show ((k : Nat) : Int) < _; omega) | exact dec_true z1; done)))
        | (apply W.condKF; exact rfl; (focus (first | exact dec_true (by show ((k : Nat) : Int) < _; omega) | exact dec_true z1; done)))
        | (show WL _ _ _ _ _ _ _; first | apply WL.nil | (apply WL.pev tOk; exact rfl; exact rfl; exact rfl) | (apply WL.load tOk; exact rfl; exact rfl; exact rfl; exact rfl; exact rfl; (first | assumption | (focus (apply Ext.cell; rotate_left; assumption; (exact extA); done)))) | (apply WL.index tOk; exact rfl; exact rfl; exact rfl; exact rfl; exact rfl; exact rfl; exact rfl; exact rfl; assumption; (exact extA); exact rfl; omega; assumption; intro b off h; have hcc := h; first | (obtain ⟨h1, h2, h3, h4, h5, h6, _⟩ := h) | (obtain ⟨h1, h2, h3, _⟩ := h) | (obtain ⟨h1, h2, _⟩ := h) | (obtain ⟨h1, _⟩ := h)) | (apply WL.add; exact rfl; exact rfl; exact rfl; exact rfl; omega) | (apply WL.sub; exact rfl; exact rfl; exact rfl; exact rfl; omega) | (apply WL.mul; exact rfl; exact rfl; exact rfl; exact rfl; omega) | (apply WL.quo; exact rfl; exact rfl; exact rfl; exact rfl; omega) | (apply WL.rem; exact rfl; exact rfl; exact rfl; exact rfl; omega) | (apply WL.loadA tOk; exact rfl; exact rfl; exact rfl; exact rfl; exact rfl; (first | assumption | (focus (apply Cells.ext; rotate_left; assumption; (exact extA); done))); exact rfl) | (apply WL.guardF; exact rfl; exact rfl) | (apply WL.gD; exact rfl; exact rfl; all_goals intro _) | (apply WL.gN; exact rfl; exact rfl; all_goals intro _) | (apply WL.gB; exact rfl; exact rfl; all_goals intro _))
        | (show Z _ _ _ _ _; first | apply Z.tail | apply Z.then_normal | apply Z.block_normal | apply Z.then_exit | apply Z.block_exit | apply Z.then_ret | apply Z.block_ret | (apply Z.block_other; exact rfl))
        | (show W _ _ _ _ _ _; first | apply W.seq | apply W.region | apply W.block | apply W.skip | apply W.ret | apply W.exit | (apply W.condT; exact rfl) | (apply W.condF; exact rfl) | (apply W.condD; exact rfl; all_goals intro _) | (apply W.condN; exact rfl; all_goals intro _) | (apply W.condB; exact rfl; all_goals intro _)))
      exact Z.body2 Try.results98 rfl rfl fun m => ⟨hX9.at m, .inl ⟨rfl, out, c.2.2, hr9, hmem, z1⟩⟩
    · by_cases z2 : 1 < uC out (-1) c.2.2
      · have hu := (uC_unit z2).2
        have hu2 := hq _ hu.1
        have h2 := hkv.two (by omega) hu2.2.1 hu2.2.2 hu.2
        have hcs := cnt2_set out _ (if uC out (-1) c.2.2 % 2 = 1 then 0 else 1) h2 (by split <;> decide)
        have hle : cnt2 out ≤ cnt2 out0 := by
          cases more
          · rw [(hm2 rfl).1]; exact Nat.le_refl _
          · exact Nat.le_of_lt (hm1 rfl)
        repeat' (first
          | ((show WL _ _ _ (⟨_, .call ⟨.value (.func 46), _, _⟩, _, _, _, _⟩ :: _) _ _ _); apply WL.callS; exact rfl; exact rfl; exact rfl; exact rfl; exact ref20_Value _ _ _ _ out c.2.2 _ Ro Rq9)
          | ((show WL _ _ _ (⟨_, .call ⟨.value (.func 124), _, _⟩, _, _, _, _⟩ :: _) _ _ _); apply WL.callS; exact rfl; exact rfl; exact rfl; exact rfl; exact ref20_Unit _ _ _ _ out c.2.2 _ Ro Rq9)
          | (apply WL.gT; exact rfl; exact rfl; (focus (first | exact dec_true (by show ((k : Nat) : Int) < _; omega) | exact dec_false z1 | exact dec_true z2; done)))
          | (apply WL.gF; exact rfl; exact rfl; (focus (first | exact dec_true (by show ((k : Nat) : Int) < _; omega) | exact dec_false z1 | exact dec_true z2; done)))
          | (apply W.condKT; exact rfl; (focus (first | exact dec_true (by show ((k : Nat) : Int) < _; omega) | exact dec_false z1 | exact dec_true z2; done)))
          | (apply W.condKF; exact rfl; (focus (first | exact dec_true (by show ((k : Nat) : Int) < _; omega) | exact dec_false z1 | exact dec_true z2; done)))
          | (((show WL _ _ _ (⟨_, .call ⟨.value (.func 125), _, _⟩, _, _, _, _⟩ :: _) _ _ _); apply WL.call; exact rfl; exact rfl; exact rfl; exact rfl; exact ref22_set _ _ out (uC out (-1) c.2.2) _ w hX9 hO9 ⟨by omega, by omega, by omega⟩; rintro v' w8 ⟨rfl, hX8, hO8⟩))
          | (show WL _ _ _ _ _ _ _; first | apply WL.nil | (apply WL.pev tOk; exact rfl; exact rfl; exact rfl) | (apply WL.load tOk; exact rfl; exact rfl; exact rfl; exact rfl; exact rfl; (first | assumption | (focus (apply Ext.cell; rotate_left; assumption; (exact extA); done)))) | (apply WL.index tOk; exact rfl; exact rfl; exact rfl; exact rfl; exact rfl; exact rfl; exact rfl; exact rfl; assumption; (exact extA); exact rfl; omega; assumption; intro b off h; have hcc := h; first | (obtain ⟨h1, h2, h3, h4, h5, h6, _⟩ := h) | (obtain ⟨h1, h2, h3, _⟩ := h) | (obtain ⟨h1, h2, _⟩ := h) | (obtain ⟨h1, _⟩ := h)) | (apply WL.add; exact rfl; exact rfl; exact rfl; exact rfl; omega) | (apply WL.sub; exact rfl; exact rfl; exact rfl; exact rfl; omega) | (apply WL.mul; exact rfl; exact rfl; exact rfl; exact rfl; omega) | (apply WL.quo; exact rfl; exact rfl; exact rfl; exact rfl; omega) | (apply WL.rem; exact rfl; exact rfl; exact rfl; exact rfl; omega) | (apply WL.loadA tOk; exact rfl; exact rfl; exact rfl; exact rfl; exact rfl; (first | assumption | (focus (apply Cells.ext; rotate_left; assumption; (exact extA); done))); exact rfl) | (apply WL.guardF; exact rfl; exact rfl) | (apply WL.gD; exact rfl; exact rfl; all_goals intro _) | (apply WL.gN; exact rfl; exact rfl; all_goals intro _) | (apply WL.gB; exact rfl; exact rfl; all_goals intro _))
          | (show Z _ _ _ _ _; first | apply Z.tail | apply Z.then_normal | apply Z.block_normal | apply Z.then_exit | apply Z.block_exit | apply Z.then_ret | apply Z.block_ret | (apply Z.block_other; exact rfl))
          | (show W _ _ _ _ _ _; first | apply W.seq | apply W.region | apply W.block | apply W.skip | apply W.ret | apply W.exit | (apply W.condT; exact rfl) | (apply W.condF; exact rfl) | (apply W.condD; exact rfl; all_goals intro _) | (apply W.condN; exact rfl; all_goals intro _) | (apply W.condB; exact rfl; all_goals intro _)))
        exact Z.again (k + 1, true, setV out (uC out (-1) c.2.2), w8) ⟨by show k + 1 ≤ _; omega, .step hr9 hmem z2, hX8, hO8, fun _ => by show cnt2 (setV _ _) < _; unfold setV; omega, (fun h => by cases h)⟩ (by show cs.length - (k + 1) < cs.length - k; omega) ⟨rfl, by rw [setV_len]; exact rfl, rfl, rfl, trivial⟩ rfl
      · repeat' (first
          | ((show WL _ _ _ (⟨_, .call ⟨.value (.func 46), _, _⟩, _, _, _, _⟩ :: _) _ _ _); apply WL.callS; exact rfl; exact rfl; exact rfl; exact rfl; exact ref20_Value _ _ _ _ out c.2.2 _ Ro Rq9)
          | ((show WL _ _ _ (⟨_, .call ⟨.value (.func 124), _, _⟩, _, _, _, _⟩ :: _) _ _ _); apply WL.callS; exact rfl; exact rfl; exact rfl; exact rfl; exact ref20_Unit _ _ _ _ out c.2.2 _ Ro Rq9)
          | (apply WL.gT; exact rfl; exact rfl; (focus (first | exact dec_true (by show ((k : Nat) : Int) < _; omega) | exact dec_false z1 | exact dec_false z2; done)))
          | (apply WL.gF; exact rfl; exact rfl; (focus (first | exact dec_true (by show ((k : Nat) : Int) < _; omega) | exact dec_false z1 | exact dec_false z2; done)))
          | (apply W.condKT; exact rfl; (focus (first | exact dec_true (by show ((k : Nat) : Int) < _; omega) | exact dec_false z1 | exact dec_false z2; done)))
          | (apply W.condKF; exact rfl; (focus (first | exact dec_true (by show ((k : Nat) : Int) < _; omega) | exact dec_false z1 | exact dec_false z2; done)))
          | (show WL _ _ _ _ _ _ _; first | apply WL.nil | (apply WL.pev tOk; exact rfl; exact rfl; exact rfl) | (apply WL.load tOk; exact rfl; exact rfl; exact rfl; exact rfl; exact rfl; (first | assumption | (focus (apply Ext.cell; rotate_left; assumption; (exact extA); done)))) | (apply WL.index tOk; exact rfl; exact rfl; exact rfl; exact rfl; exact rfl; exact rfl; exact rfl; exact rfl; assumption; (exact extA); exact rfl; omega; assumption; intro b off h; have hcc := h; first | (obtain ⟨h1, h2, h3, h4, h5, h6, _⟩ := h) | (obtain ⟨h1, h2, h3, _⟩ := h) | (obtain ⟨h1, h2, _⟩ := h) | (obtain ⟨h1, _⟩ := h)) | (apply WL.add; exact rfl; exact rfl; exact rfl; exact rfl; omega) | (apply WL.sub; exact rfl; exact rfl; exact rfl; exact rfl; omega) | (apply WL.mul; exact rfl; exact rfl; exact rfl; exact rfl; omega) | (apply WL.quo; exact rfl; exact rfl; exact rfl; exact rfl; omega) | (apply WL.rem; exact rfl; exact rfl; exact rfl; exact rfl; omega) | (apply WL.loadA tOk; exact rfl; exact rfl; exact rfl; exact rfl; exact rfl; (first | assumption | (focus (apply Cells.ext; rotate_left; assumption; (exact extA); done))); exact rfl) | (apply WL.guardF; exact rfl; exact rfl) | (apply WL.gD; exact rfl; exact rfl; all_goals intro _) | (apply WL.gN; exact rfl; exact rfl; all_goals intro _) | (apply WL.gB; exact rfl; exact rfl; all_goals intro _))
          | (show Z _ _ _ _ _; first | apply Z.tail | apply Z.then_normal | apply Z.block_normal | apply Z.then_exit | apply Z.block_exit | apply Z.then_ret | apply Z.block_ret | (apply Z.block_other; exact rfl))
          | (show W _ _ _ _ _ _; first | apply W.seq | apply W.region | apply W.block | apply W.skip | apply W.ret | apply W.exit | (apply W.condT; exact rfl) | (apply W.condF; exact rfl) | (apply W.condD; exact rfl; all_goals intro _) | (apply W.condN; exact rfl; all_goals intro _) | (apply W.condB; exact rfl; all_goals intro _)))
        exact Z.again (k + 1, more, out, w9) ⟨by show k + 1 ≤ _; omega, hr9, hX9, hO9, hm1, fun h => ⟨(hm2 h).1, fun q hqm => by
          obtain ⟨e1, e2⟩ := hm2 h
          rw [take_succ' hc] at hqm
          rcases List.mem_append.1 hqm with h3 | h3
          · exact e2 q h3
          · obtain rfl := List.mem_singleton.1 h3; rw [← e1]; exact ⟨z1, z2⟩⟩⟩ (by show cs.length - (k + 1) < cs.length - k; omega) ⟨rfl, rfl, rfl, rfl, trivial⟩ rfl
  · obtain rfl : k = cs.length := by omega
    cases more
    · obtain ⟨e1, e2⟩ := hm2 rfl
      rw [List.take_length] at e2
      repeat' (first
        | (apply WL.gT; exact rfl; exact rfl; (focus (exact dec_false (by show ¬ ((cs.length : Nat) : Int) < _; omega); done)))
        | (apply WL.gF; exact rfl; exact rfl; (focus (exact dec_false (by show ¬ ((cs.length : Nat) : Int) < _; omega); done)))
        | (apply W.condKT; exact rfl; (focus (exact dec_false (by show ¬ ((cs.length : Nat) : Int) < _; omega); done)))
        | (apply W.condKF; exact rfl; (focus (exact dec_false (by show ¬ ((cs.length : Nat) : Int) < _; omega); done)))
        | (show WL _ _ _ _ _ _ _; first | apply WL.nil | (apply WL.pev tOk; exact rfl; exact rfl; exact rfl) | (apply WL.load tOk; exact rfl; exact rfl; exact rfl; exact rfl; exact rfl; (first | assumption | (focus (apply Ext.cell; rotate_left; assumption; (exact extA); done)))) | (apply WL.index tOk; exact rfl; exact rfl; exact rfl; exact rfl; exact rfl; exact rfl; exact rfl; exact rfl; assumption; (exact extA); exact rfl; omega; assumption; intro b off h; have hcc := h; first | (obtain ⟨h1, h2, h3, h4, h5, h6, _⟩ := h) | (obtain ⟨h1, h2, h3, _⟩ := h) | (obtain ⟨h1, h2, _⟩ := h) | (obtain ⟨h1, _⟩ := h)) | (apply WL.add; exact rfl; exact rfl; exact rfl; exact rfl; omega) | (apply WL.sub; exact rfl; exact rfl; exact rfl; exact rfl; omega) | (apply WL.mul; exact rfl; exact rfl; exact rfl; exact rfl; omega) | (apply WL.quo; exact rfl; exact rfl; exact rfl; exact rfl; omega) | (apply WL.rem; exact rfl; exact rfl; exact rfl; exact rfl; omega) | (apply WL.loadA tOk; exact rfl; exact rfl; exact rfl; exact rfl; exact rfl; (first | assumption | (focus (apply Cells.ext; rotate_left; assumption; (exact extA); done))); exact rfl) | (apply WL.guardF; exact rfl; exact rfl) | (apply WL.gD; exact rfl; exact rfl; all_goals intro _) | (apply WL.gN; exact rfl; exact rfl; all_goals intro _) | (apply WL.gB; exact rfl; exact rfl; all_goals intro _))
        | (show Z _ _ _ _ _; first | apply Z.tail | apply Z.then_normal | apply Z.block_normal | apply Z.then_exit | apply Z.block_exit | apply Z.then_ret | apply Z.block_ret | (apply Z.block_other; exact rfl))
        | (show W _ _ _ _ _ _; first | apply W.seq | apply W.region | apply W.block | apply W.skip | apply W.ret | apply W.exit | (apply W.condT; exact rfl) | (apply W.condF; exact rfl) | (apply W.condD; exact rfl; all_goals intro _) | (apply W.condN; exact rfl; all_goals intro _) | (apply W.condB; exact rfl; all_goals intro _)))
      exact Z.body2 Try.results98 rfl rfl fun m => ⟨hX9.at m, .inr ⟨ao, co, out, rfl, hO9.ext ((Ext.refl _).at m), hr9, fun c ⟨q, h5, h6⟩ => by rw [← h6, e1]; exact e2 q h5⟩⟩
    · repeat' (first
        | (apply WL.gT; exact rfl; exact rfl; (focus (exact dec_false (by show ¬ ((cs.length : Nat) : Int) < _; omega); done)))
        | (apply WL.gF; exact rfl; exact rfl; (focus (exact dec_false (by show ¬ ((cs.length : Nat) : Int) < _; omega); done)))
        | (apply W.condKT; exact rfl; (focus (exact dec_false (by show ¬ ((cs.length : Nat) : Int) < _; omega); done)))
        | (apply W.condKF; exact rfl; (focus (exact dec_false (by show ¬ ((cs.length : Nat) : Int) < _; omega); done)))
        | (show WL _ _ _ _ _ _ _; first | apply WL.nil | (apply WL.pev tOk; exact rfl; exact rfl; exact rfl) | (apply WL.load tOk; exact rfl; exact rfl; exact rfl; exact rfl; exact rfl; (first | assumption | (focus (apply Ext.cell; rotate_left; assumption; (exact extA); done)))) | (apply WL.index tOk; exact rfl; exact rfl; exact rfl; exact rfl; exact rfl; exact rfl; exact rfl; exact rfl; assumption; (exact extA); exact rfl; omega; assumption; intro b off h; have hcc := h; first | (obtain ⟨h1, h2, h3, h4, h5, h6, _⟩ := h) | (obtain ⟨h1, h2, h3, _⟩ := h) | (obtain ⟨h1, h2, _⟩ := h) | (obtain ⟨h1, _⟩ := h)) | (apply WL.add; exact rfl; exact rfl; exact rfl; exact rfl; omega) | (apply WL.sub; exact rfl; exact rfl; exact rfl; exact rfl; omega) | (apply WL.mul; exact rfl; exact rfl; exact rfl; exact rfl; omega) | (apply WL.quo; exact rfl; exact rfl; exact rfl; exact rfl; omega) | (apply WL.rem; exact rfl; exact rfl; exact rfl; exact rfl; omega) | (apply WL.loadA tOk; exact rfl; exact rfl; exact rfl; exact rfl; exact rfl; (first | assumption | (focus (apply Cells.ext; rotate_left; assumption; (exact extA); done))); exact rfl) | (apply WL.guardF; exact rfl; exact rfl) | (apply WL.gD; exact rfl; exact rfl; all_goals intro _) | (apply WL.gN; exact rfl; exact rfl; all_goals intro _) | (apply WL.gB; exact rfl; exact rfl; all_goals intro _))
        | (show Z _ _ _ _ _; first | apply Z.tail | apply Z.then_normal | apply Z.block_normal | apply Z.then_exit | apply Z.block_exit | apply Z.then_ret | apply Z.block_ret | (apply Z.block_other; exact rfl))
        | (show W _ _ _ _ _ _; first | apply W.seq | apply W.region | apply W.block | apply W.skip | apply W.ret | apply W.exit | (apply W.condT; exact rfl) | (apply W.condF; exact rfl) | (apply W.condD; exact rfl; all_goals intro _) | (apply W.condN; exact rfl; all_goals intro _) | (apply W.condB; exact rfl; all_goals intro _)))
      exact Z.again (out, ao, co, w9) ⟨hr9, hX9, hO9⟩ (hm1 rfl) ⟨rfl, rfl, trivial⟩ rfl

theorem out_congr {C D : List Int → Prop} (h : ∀ c, C c ↔ D c) {V : List Int} {o : Option (List Int)} (k : Out C V o) : Out D V o := by
  rw [← funext fun c => propext (h c)]; exact k
set_option maxHeartbeats 8000000 in
theorem ref22_Close2 (ra rl rm : Option Addr) (ca cl cm : Nat) (n : List (Int × Int)) (l : List Int) (more : List (RowV Int)) (w : World) (R : Row 2 encN w ra n) (Rl : Row 1 encI w rl l) (Rm : Row 1 encRow w rm more) (hm : ∀ q ∈ more, Row 1 encI w q.1 q.2.2) (hg : GoodNet n) (hn : n.length ≤ 1048575) (hll : l.length ≤ 1048576) (hcl : l.length ≤ cl) (hml : more.length ≤ 1048576) :
    Lt.Spec Try.prog 44 [.slice ra n.length ca, .slice rl l.length cl, .slice rm more.length cm] w (fun v w' => Ext w w' ∧ ((v = .tuple #[.slice none 0 0, .bool false] ∧ (KnownP n l → Out (CL n l (more.map (·.2.2))) (free0 n.length) none)) ∨ ∃ a c out, v = .tuple #[.slice a out.length c, .bool true] ∧ Row 1 encI w' a out ∧ KnownP n l ∧ Out (CL n l (more.map (·.2.2))) (free0 n.length) (some out))) := by
  refine Spec.of _ Try.func44 rfl Try.ntmps44 (by kernel_rfl) rfl ?_
  repeat' (first
    | (apply WL.lit tOk; exact rfl; exact rfl; exact rfl; exact rfl; exact rfl; exact rfl; (first | exact rfl | kernel_rfl | (simp [Instr.fill, catCells]; done)); exact rfl; intro gb w' hb hge hc hx; have hO := Own.of_block ([(0 : Int)]) encI_ok hb hge rfl)
    | (show WL _ _ _ _ _ _ _; first | apply WL.nil | (apply WL.pev tOk; exact rfl; exact rfl; exact rfl) | (apply WL.load tOk; exact rfl; exact rfl; exact rfl; exact rfl; exact rfl; (first | assumption | (focus (apply Ext.cell; rotate_left; assumption; (exact extA); done)))) | (apply WL.index tOk; exact rfl; exact rfl; exact rfl; exact rfl; exact rfl; exact rfl; exact rfl; exact rfl; assumption; (exact extA); exact rfl; omega; assumption; intro b off h; have hcc := h; first | (obtain ⟨h1, h2, h3, h4, h5, h6, _⟩ := h) | (obtain ⟨h1, h2, h3, _⟩ := h) | (obtain ⟨h1, h2, _⟩ := h) | (obtain ⟨h1, _⟩ := h)) | (apply WL.add; exact rfl; exact rfl; exact rfl; exact rfl; omega) | (apply WL.sub; exact rfl; exact rfl; exact rfl; exact rfl; omega) | (apply WL.mul; exact rfl; exact rfl; exact rfl; exact rfl; omega) | (apply WL.quo; exact rfl; exact rfl; exact rfl; exact rfl; omega) | (apply WL.rem; exact rfl; exact rfl; exact rfl; exact rfl; omega) | (apply WL.loadA tOk; exact rfl; exact rfl; exact rfl; exact rfl; exact rfl; (first | assumption | (focus (apply Cells.ext; rotate_left; assumption; (exact extA); done))); exact rfl) | (apply WL.guardF; exact rfl; exact rfl) | (apply WL.gD; exact rfl; exact rfl; all_goals intro _) | (apply WL.gN; exact rfl; exact rfl; all_goals intro _) | (apply WL.gB; exact rfl; exact rfl; all_goals intro _))
    | (show Z _ _ _ _ _; first | apply Z.tail | apply Z.then_normal | apply Z.block_normal | apply Z.then_exit | apply Z.block_exit | apply Z.then_ret | apply Z.block_ret | (apply Z.block_other; exact rfl))
    | (show W _ _ _ _ _ _; first | apply W.seq | apply W.region | apply W.block | apply W.skip | apply W.ret | apply W.exit | (apply W.condT; exact rfl) | (apply W.condF; exact rfl) | (apply W.condD; exact rfl; all_goals intro _) | (apply W.condN; exact rfl; all_goals intro _) | (apply W.condB; exact rfl; all_goals intro _)))
  refine W.loopO n.length (fun k c cp w' => k ≤ n.length ∧ Ext w w' ∧ Own 1 encI 3 w.heap.size w' c cp (free0 k)) (fun k c cp => [(0, .slice ra n.length ca), (1, .slice rl l.length cl), (2, .slice rm more.length cm), (8, .slice c (free0 k).length cp), (9, .int .i64 ((k : Int) + 1))]) (some ⟨gb, 0, none⟩) 1 ⟨by omega, hx, hO⟩ (fun k c cp w' h => h.1) ⟨rfl, rfl, rfl, rfl, rfl, trivial⟩ ?_
  rintro k av cv w1 ⟨hk, hX1, hO1⟩
  have hfl : (free0 k).length = k + 1 := by simp
  by_cases hlt : k < n.length
  · repeat' (first
      | (apply WL.gT; exact rfl; exact rfl; (focus (exact dec_true (by omega); done)))
      | (apply WL.gF; exact rfl; exact rfl; (focus (exact dec_true (by omega); done)))
      | (apply W.condKT; exact rfl; (focus (exact dec_true (by omega); done)))
      | (apply W.condKF; exact rfl; (focus (exact dec_true (by omega); done)))
      | (apply WL.lit tOk; exact rfl; exact rfl; exact rfl; exact rfl; exact rfl; exact rfl; (first | exact rfl | kernel_rfl | (simp [Instr.fill, catCells]; done)); exact rfl; intro gb w' hb hge hc hx)
      | (apply WL.append1 (z := (2)) tOk encI_ok; exact rfl; exact rfl; exact rfl; exact rfl; exact rfl; exact rfl; exact rfl; exact rfl; exact rfl; exact rfl; assumption; (exact extA); (first | exact rfl | (simp; done) | (simp [*]; done) | omega | (simp only [List.length_set]; omega)); assumption; exact rfl; exact rfl; (exact extA); (first | omega | (simp; omega) | (simp at *; omega)); intro a' cap' w' hO hX' hU hF)
      | (show WL _ _ _ _ _ _ _; first | apply WL.nil | (apply WL.pev tOk; exact rfl; exact rfl; exact rfl) | (apply WL.load tOk; exact rfl; exact rfl; exact rfl; exact rfl; exact rfl; (first | assumption | (focus (apply Ext.cell; rotate_left; assumption; (exact extA); done)))) | (apply WL.index tOk; exact rfl; exact rfl; exact rfl; exact rfl; exact rfl; exact rfl; exact rfl; exact rfl; assumption; (exact extA); exact rfl; omega; assumption; intro b off h; have hcc := h; first | (obtain ⟨h1, h2, h3, h4, h5, h6, _⟩ := h) | (obtain ⟨h1, h2, h3, _⟩ := h) | (obtain ⟨h1, h2, _⟩ := h) | (obtain ⟨h1, _⟩ := h)) | (apply WL.add; exact rfl; exact rfl; exact rfl; exact rfl; omega) | (apply WL.sub; exact rfl; exact rfl; exact rfl; exact rfl; omega) | (apply WL.mul; exact rfl; exact rfl; exact rfl; exact rfl; omega) | (apply WL.quo; exact rfl; exact rfl; exact rfl; exact rfl; omega) | (apply WL.rem; exact rfl; exact rfl; exact rfl; exact rfl; omega) | (apply WL.loadA tOk; exact rfl; exact rfl; exact rfl; exact rfl; exact rfl; (first | assumption | (focus (apply Cells.ext; rotate_left; assumption; (exact extA); done))); exact rfl) | (apply WL.guardF; exact rfl; exact rfl) | (apply WL.gD; exact rfl; exact rfl; all_goals intro _) | (apply WL.gN; exact rfl; exact rfl; all_goals intro _) | (apply WL.gB; exact rfl; exact rfl; all_goals intro _))
      | (show Z _ _ _ _ _; first | apply Z.tail | apply Z.then_normal | apply Z.block_normal | apply Z.then_exit | apply Z.block_exit | apply Z.then_ret | apply Z.block_ret | (apply Z.block_other; exact rfl))
      | (show W _ _ _ _ _ _; first | apply W.seq | apply W.region | apply W.block | apply W.skip | apply W.ret | apply W.exit | (apply W.condT; exact rfl) | (apply W.condF; exact rfl) | (apply W.condD; exact rfl; all_goals intro _) | (apply W.condN; exact rfl; all_goals intro _) | (apply W.condB; exact rfl; all_goals intro _)))
    exact Z.againO a' cap' ⟨by omega, hX', by rw [← free0_succ]; exact hO⟩ ⟨rfl, rfl, rfl, by rw [free0_succ]; exact rfl, rfl, trivial⟩
  obtain rfl : k = n.length := by omega
  have Rv := Own.row encI_ok hO1
  have hvn := Own.noneCap hO1
  by_cases hkn : KnownP n l
  · repeat' (first
      | (apply WL.gT; exact rfl; exact rfl; (focus (first | exact dec_false (by omega) | (rw [dec_true hkn]; rfl); done)))
      | (apply WL.gF; exact rfl; exact rfl; (focus (first | exact dec_false (by omega) | (rw [dec_true hkn]; rfl); done)))
      | (apply W.condKT; exact rfl; (focus (first | exact dec_false (by omega) | (rw [dec_true hkn]; rfl); done)))
      | (apply W.condKF; exact rfl; (focus (first | exact dec_false (by omega) | (rw [dec_true hkn]; rfl); done)))
      | ((show WL _ _ _ (⟨_, .call ⟨.value (.func 45), _, _⟩, _, _, _, _⟩ :: _) _ _ _); apply WL.callS; exact rfl; exact rfl; exact rfl; exact rfl; exact ref22_Known _ _ _ _ n l _ (Rl.ext (by (exact extA))) (by omega))
      | (apply WL.lit (len := 0) tOk; exact rfl; exact rfl; exact rfl; exact rfl; exact rfl; exact rfl; (first | exact rfl | kernel_rfl | (simp [Instr.fill, catCells]; done)); exact rfl; intro gb w' hb hge hc hx; have hO0 := Own.of_block0 (enc := encRI) (s := 1) hb hge)
      | (show WL _ _ _ _ _ _ _; first | apply WL.nil | (apply WL.pev tOk; exact rfl; exact rfl; exact rfl) | (apply WL.load tOk; exact rfl; exact rfl; exact rfl; exact rfl; exact rfl; (first | assumption | (focus (apply Ext.cell; rotate_left; assumption; (exact extA); done)))) | (apply WL.index tOk; exact rfl; exact rfl; exact rfl; exact rfl; exact rfl; exact rfl; exact rfl; exact rfl; assumption; (exact extA); exact rfl; omega; assumption; intro b off h; have hcc := h; first | (obtain ⟨h1, h2, h3, h4, h5, h6, _⟩ := h) | (obtain ⟨h1, h2, h3, _⟩ := h) | (obtain ⟨h1, h2, _⟩ := h) | (obtain ⟨h1, _⟩ := h)) | (apply WL.add; exact rfl; exact rfl; exact rfl; exact rfl; omega) | (apply WL.sub; exact rfl; exact rfl; exact rfl; exact rfl; omega) | (apply WL.mul; exact rfl; exact rfl; exact rfl; exact rfl; omega) | (apply WL.quo; exact rfl; exact rfl; exact rfl; exact rfl; omega) | (apply WL.rem; exact rfl; exact rfl; exact rfl; exact rfl; omega) | (apply WL.loadA tOk; exact rfl; exact rfl; exact rfl; exact rfl; exact rfl; (first | assumption | (focus (apply Cells.ext; rotate_left; assumption; (exact extA); done))); exact rfl) | (apply WL.guardF; exact rfl; exact rfl) | (apply WL.gD; exact rfl; exact rfl; all_goals intro _) | (apply WL.gN; exact rfl; exact rfl; all_goals intro _) | (apply WL.gB; exact rfl; exact rfl; all_goals intro _))
      | (show Z _ _ _ _ _; first | apply Z.tail | apply Z.then_normal | apply Z.block_normal | apply Z.then_exit | apply Z.block_exit | apply Z.then_ret | apply Z.block_ret | (apply Z.block_other; exact rfl))
      | (show W _ _ _ _ _ _; first | apply W.seq | apply W.region | apply W.block | apply W.skip | apply W.ret | apply W.exit | (apply W.condT; exact rfl) | (apply W.condF; exact rfl) | (apply W.condD; exact rfl; all_goals intro _) | (apply W.condN; exact rfl; all_goals intro _) | (apply W.condB; exact rfl; all_goals intro _)))
    have hs1 := hX1.size
    refine W.loop (fun s : Nat × List (RowV Int) × Option Addr × Nat × World => s.1 ≤ l.length ∧ s.2.1.length = s.1 ∧ Ext w1 s.2.2.2.2 ∧ Own 1 encRI 23 w1.heap.size s.2.2.2.2 s.2.2.1 s.2.2.2.1 s.2.1 ∧ (∀ q ∈ s.2.1, Row 1 encI w q.1 q.2.2 ∧ ∃ x ∈ l, q.2.2 = [x]) ∧ ∀ (i : Nat) (x : Int), i < s.1 → l[i]? = some x → rowsC s.2.1 [x]) (fun s => [(0, .slice ra n.length ca), (1, .slice rl l.length cl), (2, .slice rm more.length cm), (8, .slice av (free0 n.length).length cv), (10, .slice s.2.2.1 s.2.1.length s.2.2.2.1), (11, .int .i64 s.1)]) (fun s => s.2.2.2.2) (fun s => l.length - s.1) (0, [], some ⟨gb, 0, none⟩, 0, w') ⟨Nat.zero_le _, rfl, hx, hO0, (fun q h => by cases h), fun i x h => absurd h (Nat.not_lt_zero _)⟩ ⟨rfl, rfl, rfl, rfl, rfl, rfl, trivial⟩ rfl ?_
    rintro ⟨k, rs, ao, co, w5⟩ ⟨hk5, hr5, hX5, hO5, hq5, hm5⟩
    dsimp only at hk5 hr5 hX5 hO5 hq5 hm5
    have hX15 : Ext w w5 := hX1.trans hX5
    by_cases hlt2 : k < l.length
    · obtain ⟨x, hxl⟩ := getI l hlt2
      repeat' (first
        | (apply WL.gT; exact rfl; exact rfl; (focus (first | exact dec_true (by omega); done)))
        | (apply WL.gF; exact rfl; exact rfl; (focus (first | exact dec_true (by omega); done)))
        | (apply W.condKT; exact rfl; (focus (first | exact dec_true (by omega); done)))
        | (apply W.condKF; exact rfl; (focus (first | exact dec_true (by omega); done)))
        | ((apply WL.slice1 tOk; exact rfl; exact rfl; exact rfl; exact rfl; exact rfl; exact rfl; exact rfl; exact rfl; exact rfl; exact Rl; exact rfl; exact hcl; exact hxl; exact rfl; exact rfl; intro a6 c6 R6))
        | (apply WL.lit tOk; exact rfl; exact rfl; exact rfl; exact rfl; exact rfl; exact rfl; (first | exact rfl | kernel_rfl | (simp [Instr.fill, catCells]; done)); exact rfl; intro gb w' hb hge hc hx)
        | (apply WL.append1 (z := ((a6, c6, [x]))) tOk encRI_ok; exact rfl; exact rfl; exact rfl; exact rfl; exact rfl; exact rfl; exact rfl; exact rfl; exact rfl; exact rfl; assumption; (exact extA); (first | exact rfl | (simp; done) | (simp [*]; done) | omega | (simp only [List.length_set]; omega)); assumption; exact rfl; exact rfl; (exact extA); (first | omega | (simp; omega) | (simp at *; omega)); intro a' cap' w' hO hX' hU hF)
        | (show WL _ _ _ _ _ _ _; first | apply WL.nil | (apply WL.pev tOk; exact rfl; exact rfl; exact rfl) | (apply WL.load tOk; exact rfl; exact rfl; exact rfl; exact rfl; exact rfl; (first | assumption | (focus (apply Ext.cell; rotate_left; assumption; (exact extA); done)))) | (apply WL.index tOk; exact rfl; exact rfl; exact rfl; exact rfl; exact rfl; exact rfl; exact rfl; exact rfl; assumption; (exact extA); exact rfl; omega; assumption; intro b off h; have hcc := h; first | (obtain ⟨h1, h2, h3, h4, h5, h6, _⟩ := h) | (obtain ⟨h1, h2, h3, _⟩ := h) | (obtain ⟨h1, h2, _⟩ := h) | (obtain ⟨h1, _⟩ := h)) | (apply WL.add; exact rfl; exact rfl; exact rfl; exact rfl; omega) | (apply WL.sub; exact rfl; exact rfl; exact rfl; exact rfl; omega) | (apply WL.mul; exact rfl; exact rfl; exact rfl; exact rfl; omega) | (apply WL.quo; exact rfl; exact rfl; exact rfl; exact rfl; omega) | (apply WL.rem; exact rfl; exact rfl; exact rfl; exact rfl; omega) | (apply WL.loadA tOk; exact rfl; exact rfl; exact rfl; exact rfl; exact rfl; (first | assumption | (focus (apply Cells.ext; rotate_left; assumption; (exact extA); done))); exact rfl) | (apply WL.guardF; exact rfl; exact rfl) | (apply WL.gD; exact rfl; exact rfl; all_goals intro _) | (apply WL.gN; exact rfl; exact rfl; all_goals intro _) | (apply WL.gB; exact rfl; exact rfl; all_goals intro _))
        | (show Z _ _ _ _ _; first | apply Z.tail | apply Z.then_normal | apply Z.block_normal | apply Z.then_exit | apply Z.block_exit | apply Z.then_ret | apply Z.block_ret | (apply Z.block_other; exact rfl))
        | (show W _ _ _ _ _ _; first | apply W.seq | apply W.region | apply W.block | apply W.skip | apply W.ret | apply W.exit | (apply W.condT; exact rfl) | (apply W.condF; exact rfl) | (apply W.condD; exact rfl; all_goals intro _) | (apply W.condN; exact rfl; all_goals intro _) | (apply W.condB; exact rfl; all_goals intro _)))
      refine Z.again (k + 1, rs ++ [(a6, c6, [x])], a', cap', w') ⟨by show k + 1 ≤ _; omega, by show (rs ++ [_]).length = _; rw [List.length_append, hr5]; rfl, hX', hO, fun q hq => ?_, fun i y hi hy => ?_⟩ (by show l.length - (k + 1) < l.length - k; omega) ⟨rfl, rfl, rfl, rfl, rfl, rfl, trivial⟩ rfl
      · rcases List.mem_append.1 hq with h5 | h5
        · exact hq5 q h5
        · obtain rfl := List.mem_singleton.1 h5
          exact ⟨R6, x, List.mem_of_getElem? hxl, rfl⟩
      · by_cases he : i = k
        · subst he
          rw [hxl] at hy; cases hy
          exact ⟨_, List.mem_append_right _ (List.mem_singleton.2 rfl), rfl⟩
        · obtain ⟨q, h5, h6⟩ := hm5 i y (by have : i < k + 1 := hi; omega) hy
          exact ⟨q, List.mem_append_left _ h5, h6⟩
    obtain rfl : k = l.length := by omega
    have Rv5 := Rv.ext hX5
    repeat' (first
      | (apply WL.gT; exact rfl; exact rfl; (focus (first | exact dec_false (by omega); done)))
      | (apply WL.gF; exact rfl; exact rfl; (focus (first | exact dec_false (by omega); done)))
      | (apply W.condKT; exact rfl; (focus (first | exact dec_false (by omega); done)))
      | (apply W.condKF; exact rfl; (focus (first | exact dec_false (by omega); done)))
      | (((show WL _ _ _ (⟨_, .call ⟨.value (.func 99), _, _⟩, _, _, _, _⟩ :: _) _ _ _); apply WL.call; exact rfl; exact rfl; exact rfl; exact rfl; exact ref22_All2 ra rm ca cm n more _ w (by (exact extA)) (R.ext (by (exact extA))) (Rm.ext (by (exact extA))) hm hg (by omega) hml; rintro v' w8 ⟨hX8, a8, c8, r8, rfl, hI8, hl8, hC8⟩; have Ra8 := Own.row encRI_ok hI8.outer; have hn8 := Own.noneCap hI8.outer))
      | ((apply WL.appendS (B := w1.heap.size) (w0 := w1) tOk encRI_ok; exact rfl; exact rfl; exact rfl; exact rfl; exact rfl; exact rfl; exact rfl; exact rfl; exact rfl; exact rfl; exact hO5; exact (by (exact extA)); exact rfl; exact Ra8; exact Ext.refl _; exact rfl; exact hn8; exact rfl; exact (by (exact extA)); omega; intro a' cap' w' hO hX' hU hF))
      | (show WL _ _ _ _ _ _ _; first | apply WL.nil | (apply WL.pev tOk; exact rfl; exact rfl; exact rfl) | (apply WL.load tOk; exact rfl; exact rfl; exact rfl; exact rfl; exact rfl; (first | assumption | (focus (apply Ext.cell; rotate_left; assumption; (exact extA); done)))) | (apply WL.index tOk; exact rfl; exact rfl; exact rfl; exact rfl; exact rfl; exact rfl; exact rfl; exact rfl; assumption; (exact extA); exact rfl; omega; assumption; intro b off h; have hcc := h; first | (obtain ⟨h1, h2, h3, h4, h5, h6, _⟩ := h) | (obtain ⟨h1, h2, h3, _⟩ := h) | (obtain ⟨h1, h2, _⟩ := h) | (obtain ⟨h1, _⟩ := h)) | (apply WL.add; exact rfl; exact rfl; exact rfl; exact rfl; omega) | (apply WL.sub; exact rfl; exact rfl; exact rfl; exact rfl; omega) | (apply WL.mul; exact rfl; exact rfl; exact rfl; exact rfl; omega) | (apply WL.quo; exact rfl; exact rfl; exact rfl; exact rfl; omega) | (apply WL.rem; exact rfl; exact rfl; exact rfl; exact rfl; omega) | (apply WL.loadA tOk; exact rfl; exact rfl; exact rfl; exact rfl; exact rfl; (first | assumption | (focus (apply Cells.ext; rotate_left; assumption; (exact extA); done))); exact rfl) | (apply WL.guardF; exact rfl; exact rfl) | (apply WL.gD; exact rfl; exact rfl; all_goals intro _) | (apply WL.gN; exact rfl; exact rfl; all_goals intro _) | (apply WL.gB; exact rfl; exact rfl; all_goals intro _))
      | (show Z _ _ _ _ _; first | apply Z.tail | apply Z.then_normal | apply Z.block_normal | apply Z.then_exit | apply Z.block_exit | apply Z.then_ret | apply Z.block_ret | (apply Z.block_other; exact rfl))
      | (show W _ _ _ _ _ _; first | apply W.seq | apply W.region | apply W.block | apply W.skip | apply W.ret | apply W.exit | (apply W.condT; exact rfl) | (apply W.condF; exact rfl) | (apply W.condD; exact rfl; all_goals intro _) | (apply W.condN; exact rfl; all_goals intro _) | (apply W.condB; exact rfl; all_goals intro _)))
    have hX1' : Ext w w' := hX1.trans hX'
    have hfl2 : (free0 n.length).length = n.length + 1 := by simp
    have hCC : ∀ c, rowsC (rs ++ r8) c ↔ CL n l (more.map (·.2.2)) c := fun c => by
      refine ⟨fun ⟨q, h1, h2⟩ => ?_, fun h => ?_⟩
      · rcases List.mem_append.1 h1 with h1 | h1
        · obtain ⟨x, hx, h3⟩ := (hq5 q h1).2
          exact .inl ⟨x, hx, by rw [← h2, h3]⟩
        · exact .inr ((hC8 c).1 ⟨q, h1, h2⟩)
      · rcases h with ⟨x, hx, rfl⟩ | h
        · obtain ⟨j, hj, he⟩ := List.getElem_of_mem hx
          obtain ⟨q, h1, h2⟩ := hm5 j x hj (by rw [List.getElem?_eq_getElem hj, he])
          exact ⟨q, List.mem_append_left _ h1, h2⟩
        · obtain ⟨q, h1, h2⟩ := (hC8 c).2 h
          exact ⟨q, List.mem_append_right _ h1, h2⟩
    have hlit := CL.lits hg (show n.length ≤ 1048576 by omega) hkn (cs := more.map (·.2.2))
    have hin : ∀ c ∈ rs ++ r8, Row 1 encI w' c.1 c.2.2 ∧ ∀ x ∈ c.2.2, 0 ≤ x ∧ (x / 2).toNat < (free0 n.length).length ∧ x ≤ 33554433 := fun c hc => by
      refine ⟨?_, by rw [hfl2]; exact hlit _ ((hCC c.2.2).1 ⟨c, hc, rfl⟩)⟩
      rcases List.mem_append.1 hc with h5 | h5
      · exact (hq5 c h5).1.ext hX1'
      · rcases hI8.inner c h5 with h6 | ⟨⟨B', e1, e2⟩, _⟩
        · exact h6.ext hX1'
        · refine Own.row encI_ok (hU.own e2 ?_)
          cases hb : blk c.1 with
          | none => exact .inl rfl
          | some k =>
            refine .inr fun he => ?_
            have e3 := (e2.blk_lt k hb).1
            have e4 := (hO5.blk_lt k he.symm).2
            have e5 : w5.heap.size ≤ B' := e1
            omega
    repeat' (first
      | (((show WL _ _ _ (⟨_, .call ⟨.value (.func 98), _, _⟩, _, _, _, _⟩ :: _) _ _ _); apply WL.call; exact rfl; exact rfl; exact rfl; exact rfl; exact ref22_Units2 av a' cv cap' (free0 n.length) (rs ++ r8) _ (Rv.ext (by (exact extA))) (Own.row encRI_ok hO) hin hvn (by omega) (free0_ok n.length); rintro v' w9 ⟨hX9, ⟨rfl, hOut⟩ | ⟨a9, c9, out, rfl, hO9, hOut⟩⟩))
      | (show WL _ _ _ _ _ _ _; first | apply WL.nil | (apply WL.pev tOk; exact rfl; exact rfl; exact rfl) | (apply WL.load tOk; exact rfl; exact rfl; exact rfl; exact rfl; exact rfl; (first | assumption | (focus (apply Ext.cell; rotate_left; assumption; (exact extA); done)))) | (apply WL.index tOk; exact rfl; exact rfl; exact rfl; exact rfl; exact rfl; exact rfl; exact rfl; exact rfl; assumption; (exact extA); exact rfl; omega; assumption; intro b off h; have hcc := h; first | (obtain ⟨h1, h2, h3, h4, h5, h6, _⟩ := h) | (obtain ⟨h1, h2, h3, _⟩ := h) | (obtain ⟨h1, h2, _⟩ := h) | (obtain ⟨h1, _⟩ := h)) | (apply WL.add; exact rfl; exact rfl; exact rfl; exact rfl; omega) | (apply WL.sub; exact rfl; exact rfl; exact rfl; exact rfl; omega) | (apply WL.mul; exact rfl; exact rfl; exact rfl; exact rfl; omega) | (apply WL.quo; exact rfl; exact rfl; exact rfl; exact rfl; omega) | (apply WL.rem; exact rfl; exact rfl; exact rfl; exact rfl; omega) | (apply WL.loadA tOk; exact rfl; exact rfl; exact rfl; exact rfl; exact rfl; (first | assumption | (focus (apply Cells.ext; rotate_left; assumption; (exact extA); done))); exact rfl) | (apply WL.guardF; exact rfl; exact rfl) | (apply WL.gD; exact rfl; exact rfl; all_goals intro _) | (apply WL.gN; exact rfl; exact rfl; all_goals intro _) | (apply WL.gB; exact rfl; exact rfl; all_goals intro _))
      | (show Z _ _ _ _ _; first | apply Z.tail | apply Z.then_normal | apply Z.block_normal | apply Z.then_exit | apply Z.block_exit | apply Z.then_ret | apply Z.block_ret | (apply Z.block_other; exact rfl))
      | (show W _ _ _ _ _ _; first | apply W.seq | apply W.region | apply W.block | apply W.skip | apply W.ret | apply W.exit | (apply W.condT; exact rfl) | (apply W.condF; exact rfl) | (apply W.condD; exact rfl; all_goals intro _) | (apply W.condN; exact rfl; all_goals intro _) | (apply W.condB; exact rfl; all_goals intro _)))
    · exact Z.body2 Try.results44 rfl rfl fun m => ⟨(hX1'.trans hX9).at m, .inl ⟨rfl, fun _ => out_congr hCC hOut⟩⟩
    · exact Z.body2 Try.results44 rfl rfl fun m => ⟨(hX1'.trans hX9).at m, .inr ⟨a9, c9, out, rfl, (Own.row encI_ok hO9).ext ((Ext.refl _).at m), hkn, out_congr hCC hOut⟩⟩
  · repeat' (first
      | (apply WL.gT; exact rfl; exact rfl; (focus (first | exact dec_false (by omega) | (rw [dec_false hkn]; rfl); done)))
      | (apply WL.gF; exact rfl; exact rfl; (focus (first | exact dec_false (by omega) | (rw [dec_false hkn]; rfl); done)))
      | (apply W.condKT; exact rfl; (focus (first | exact dec_false (by omega) | (rw [dec_false hkn]; rfl); done)))
      | (apply W.condKF; exact rfl; (focus (first | exact dec_false (by omega) | (rw [dec_false hkn]; rfl); done)))
      | ((show WL _ _ _ (⟨_, .call ⟨.value (.func 45), _, _⟩, _, _, _, _⟩ :: _) _ _ _); apply WL.callS; exact rfl; exact rfl; exact rfl; exact rfl; exact ref22_Known _ _ _ _ n l _ (Rl.ext (by (exact extA))) (by omega))
      | (show WL _ _ _ _ _ _ _; first | apply WL.nil | (apply WL.pev tOk; exact rfl; exact rfl; exact rfl) | (apply WL.load tOk; exact rfl; exact rfl; exact rfl; exact rfl; exact rfl; (first | assumption | (focus (apply Ext.cell; rotate_left; assumption; (exact extA); done)))) | (apply WL.index tOk; exact rfl; exact rfl; exact rfl; exact rfl; exact rfl; exact rfl; exact rfl; exact rfl; assumption; (exact extA); exact rfl; omega; assumption; intro b off h; have hcc := h; first | (obtain ⟨h1, h2, h3, h4, h5, h6, _⟩ := h) | (obtain ⟨h1, h2, h3, _⟩ := h) | (obtain ⟨h1, h2, _⟩ := h) | (obtain ⟨h1, _⟩ := h)) | (apply WL.add; exact rfl; exact rfl; exact rfl; exact rfl; omega) | (apply WL.sub; exact rfl; exact rfl; exact rfl; exact rfl; omega) | (apply WL.mul; exact rfl; exact rfl; exact rfl; exact rfl; omega) | (apply WL.quo; exact rfl; exact rfl; exact rfl; exact rfl; omega) | (apply WL.rem; exact rfl; exact rfl; exact rfl; exact rfl; omega) | (apply WL.loadA tOk; exact rfl; exact rfl; exact rfl; exact rfl; exact rfl; (first | assumption | (focus (apply Cells.ext; rotate_left; assumption; (exact extA); done))); exact rfl) | (apply WL.guardF; exact rfl; exact rfl) | (apply WL.gD; exact rfl; exact rfl; all_goals intro _) | (apply WL.gN; exact rfl; exact rfl; all_goals intro _) | (apply WL.gB; exact rfl; exact rfl; all_goals intro _))
      | (show Z _ _ _ _ _; first | apply Z.tail | apply Z.then_normal | apply Z.block_normal | apply Z.then_exit | apply Z.block_exit | apply Z.then_ret | apply Z.block_ret | (apply Z.block_other; exact rfl))
      | (show W _ _ _ _ _ _; first | apply W.seq | apply W.region | apply W.block | apply W.skip | apply W.ret | apply W.exit | (apply W.condT; exact rfl) | (apply W.condF; exact rfl) | (apply W.condD; exact rfl; all_goals intro _) | (apply W.condN; exact rfl; all_goals intro _) | (apply W.condB; exact rfl; all_goals intro _)))
    exact Z.body2 Try.results44 rfl rfl fun m => ⟨hX1.at m, .inl ⟨rfl, fun h => absurd h hkn⟩⟩
end Go.Proofs.Ytmaekaflpbenmaa
namespace Go.Proofs.Ytmaekaflpbenmaa
open Go Go.Lt Go.RowKit
set_option linter.unusedVariables false
set_option linter.unusedSimpArgs false

/-- Where the gates of a net are, by what they are. -/
def gm (N : List (Int × Int)) : Nat → List ((Int × Int) × Int)
  | 0 => []
  | k + 1 => match N[k]? with | some x => if 0 ≤ x.1 then gm N k ++ [(x, 2 * ((k : Int) + 1))] else gm N k | none => gm N k
end Go.Proofs.Ytmaekaflpbenmaa
namespace Go.Proofs.Ytmaekaflpbenmaa
open Go Go.Lt Go.RowKit
set_option linter.unusedVariables false
set_option linter.unusedSimpArgs false

theorem slices_ContainsFunc (a : Option Addr) (cap : Nat) (l : List Int) (f : Nat) (us : List Value) (p : Int → Bool) (w w0 : World) (R : Row 1 encI w0 a l) (E : Ext w0 w)
    (hf : ∀ x ∈ l, Still Try.prog f ([.int .i64 x] ++ us) w (.bool (p x))) :
    Still Try.prog 120 [.slice a l.length cap, fnv f us] w (.bool (dec (∃ x ∈ l, p x = true))) := by
  refine Spec.of _ Try.func120 rfl Try.ntmps120 (by kernel_rfl) rfl ?_
  repeat' (first
    | ((show WL _ _ _ (⟨_, .call ⟨.value (.func 140), _, _⟩, _, _, _, _⟩ :: _) _ _ _); apply WL.callS; exact rfl; exact rfl; exact rfl; exact rfl; exact slices_IndexFunc _ _ l f us p _ w0 R E hf)
    | (show WL _ _ _ _ _ _ _; first | apply WL.nil | (apply WL.pev tOk; exact rfl; exact rfl; exact rfl) | (apply WL.load tOk; exact rfl; exact rfl; exact rfl; exact rfl; exact rfl; (first | assumption | (focus (apply Ext.cell; rotate_left; assumption; (exact extA); done)))) | (apply WL.index tOk; exact rfl; exact rfl; exact rfl; exact rfl; exact rfl; exact rfl; exact rfl; exact rfl; assumption; (exact extA); exact rfl; omega; assumption; intro b off h; have hcc := h; first | (obtain ⟨h1, h2, h3, h4, h5, h6, _⟩ := h) | (obtain ⟨h1, h2, h3, _⟩ := h) | (obtain ⟨h1, h2, _⟩ := h) | (obtain ⟨h1, _⟩ := h)) | (apply WL.add; exact rfl; exact rfl; exact rfl; exact rfl; omega) | (apply WL.sub; exact rfl; exact rfl; exact rfl; exact rfl; omega) | (apply WL.mul; exact rfl; exact rfl; exact rfl; exact rfl; omega) | (apply WL.quo; exact rfl; exact rfl; exact rfl; exact rfl; omega) | (apply WL.rem; exact rfl; exact rfl; exact rfl; exact rfl; omega) | (apply WL.loadA tOk; exact rfl; exact rfl; exact rfl; exact rfl; exact rfl; (first | assumption | (focus (apply Cells.ext; rotate_left; assumption; (exact extA); done))); exact rfl) | (apply WL.guardF; exact rfl; exact rfl) | (apply WL.gD; exact rfl; exact rfl; all_goals intro _) | (apply WL.gN; exact rfl; exact rfl; all_goals intro _) | (apply WL.gB; exact rfl; exact rfl; all_goals intro _))
    | (show Z _ _ _ _ _; first | apply Z.tail | apply Z.then_normal | apply Z.block_normal | apply Z.then_exit | apply Z.block_exit | apply Z.then_ret | apply Z.block_ret | (apply Z.block_other; exact rfl))
    | (show W _ _ _ _ _ _; first | apply W.seq | apply W.region | apply W.block | apply W.skip | apply W.ret | apply W.exit | (apply W.condT; exact rfl) | (apply W.condF; exact rfl) | (apply W.condD; exact rfl; all_goals intro _) | (apply W.condN; exact rfl; all_goals intro _) | (apply W.condB; exact rfl; all_goals intro _)))
  refine Z.body1 Try.results120 rfl fun m => ⟨congrArg Value.bool (dec_congr ?_), m, rfl⟩
  by_cases h : l.findIdx p < l.length
  · rw [if_pos h]
    exact ⟨fun _ => ⟨l[l.findIdx p], List.getElem_mem h, List.findIdx_getElem⟩, fun _ => by omega⟩
  · rw [if_neg h]
    exact ⟨fun hh => by omega, fun hh => absurd (List.findIdx_lt_length_of_exists hh) h⟩
end Go.Proofs.Ytmaekaflpbenmaa
namespace Go.Proofs.Ytmaekaflpbenmaa
open Go Go.Lt Go.RowKit
set_option linter.unusedVariables false
set_option linter.unusedSimpArgs false

theorem lit3_thr (l : List Int) (x : Int) : lit3 l x = 0 ∨ lit3 l x = 1 ∨ lit3 l x = 2 := by
  have h : lit3v l x = 0 ∨ lit3v l x = 1 ∨ lit3v l x = 2 := by
    unfold lit3v
    split
    · exact .inl rfl
    · split
      · exact val3_three _
      · exact .inr (.inr rfl)
  unfold lit3
  split
  · rcases h with h | h | h <;> rw [h] <;> simp [not3]
  · exact h
theorem clause_Value (ra rl : Option Addr) (ca cl : Nat) (vals l : List Int) (w : World) (R : Row 1 encI w ra vals) (Rl : Row 1 encI w rl l) :
    Still Try.prog 96 [.slice ra vals.length ca, .slice rl l.length cl] w (.int .i64 (vC vals 0 l)) := by
  have hlen := Rl.len
  refine Spec.of _ Try.func96 rfl Try.ntmps96 (by kernel_rfl) rfl ?_
  repeat' (first
    | (show WL _ _ _ _ _ _ _; first | apply WL.nil | (apply WL.pev tOk; exact rfl; exact rfl; exact rfl) | (apply WL.load tOk; exact rfl; exact rfl; exact rfl; exact rfl; exact rfl; (first | assumption | (focus (apply Ext.cell; rotate_left; assumption; (exact extA); done)))) | (apply WL.index tOk; exact rfl; exact rfl; exact rfl; exact rfl; exact rfl; exact rfl; exact rfl; exact rfl; assumption; (exact extA); exact rfl; omega; assumption; intro b off h; have hcc := h; first | (obtain ⟨h1, h2, h3, h4, h5, h6, _⟩ := h) | (obtain ⟨h1, h2, h3, _⟩ := h) | (obtain ⟨h1, h2, _⟩ := h) | (obtain ⟨h1, _⟩ := h)) | (apply WL.add; exact rfl; exact rfl; exact rfl; exact rfl; omega) | (apply WL.sub; exact rfl; exact rfl; exact rfl; exact rfl; omega) | (apply WL.mul; exact rfl; exact rfl; exact rfl; exact rfl; omega) | (apply WL.quo; exact rfl; exact rfl; exact rfl; exact rfl; omega) | (apply WL.rem; exact rfl; exact rfl; exact rfl; exact rfl; omega) | (apply WL.loadA tOk; exact rfl; exact rfl; exact rfl; exact rfl; exact rfl; (first | assumption | (focus (apply Cells.ext; rotate_left; assumption; (exact extA); done))); exact rfl) | (apply WL.guardF; exact rfl; exact rfl) | (apply WL.gD; exact rfl; exact rfl; all_goals intro _) | (apply WL.gN; exact rfl; exact rfl; all_goals intro _) | (apply WL.gB; exact rfl; exact rfl; all_goals intro _))
    | (show Z _ _ _ _ _; first | apply Z.tail | apply Z.then_normal | apply Z.block_normal | apply Z.then_exit | apply Z.block_exit | apply Z.then_ret | apply Z.block_ret | (apply Z.block_other; exact rfl))
    | (show W _ _ _ _ _ _; first | apply W.seq | apply W.region | apply W.block | apply W.skip | apply W.ret | apply W.exit | (apply W.condT; exact rfl) | (apply W.condF; exact rfl) | (apply W.condD; exact rfl; all_goals intro _) | (apply W.condN; exact rfl; all_goals intro _) | (apply W.condB; exact rfl; all_goals intro _)))
  refine W.loop (fun s : Nat × Int => s.1 ≤ l.length ∧ vC vals s.2 (l.drop s.1) = vC vals 0 l) (fun s => [(0, .slice ra vals.length ca), (8, .slice rl l.length cl), (9, .int .i64 l.length), (5, .int .i64 s.2), (10, .int .i64 s.1)]) (fun _ => w) (fun s => l.length - s.1) (0, 0) ⟨Nat.zero_le _, rfl⟩ ⟨rfl, rfl, rfl, rfl, rfl, trivial⟩ rfl ?_
  rintro ⟨k, out⟩ ⟨hk, he⟩
  dsimp only at hk he
  by_cases hlt : k < l.length
  · obtain ⟨x, hx⟩ := getI l hlt
    rw [drop_cons hx, vC] at he
    by_cases q1 : lit3 vals x = 1
    · rw [if_pos q1] at he
      rw [← he]
      repeat' (first
        | ((show WL _ _ _ (⟨_, .call ⟨.value (.func 107), _, _⟩, _, _, _, _⟩ :: _) _ _ _); apply WL.callS; exact rfl; exact rfl; exact rfl; exact rfl; exact tri_Lit _ _ vals x _ R)
        | (apply WL.gT; exact rfl; exact rfl; (focus (first | exact dec_true (by omega) | exact dec_true q1; done)))
        | (apply WL.gF; exact rfl; exact rfl; (focus (first | exact dec_true (by omega) | exact dec_true q1; done)))
        | (apply W.condKT; exact rfl; (focus (first | exact dec_true (by omega) | exact dec_true q1; done)))
        | (apply W.condKF; exact rfl; (focus (first | exact dec_true (by omega) | exact dec_true q1; done)))
        | (show WL _ _ _ _ _ _ _; first | apply WL.nil | (apply WL.pev tOk; exact rfl; exact rfl; exact rfl) | (apply WL.load tOk; exact rfl; exact rfl; exact rfl; exact rfl; exact rfl; (first | assumption | (focus (apply Ext.cell; rotate_left; assumption; (exact extA); done)))) | (apply WL.index tOk; exact rfl; exact rfl; exact rfl; exact rfl; exact rfl; exact rfl; exact rfl; exact rfl; assumption; (exact extA); exact rfl; omega; assumption; intro b off h; have hcc := h; first | (obtain ⟨h1, h2, h3, h4, h5, h6, _⟩ := h) | (obtain ⟨h1, h2, h3, _⟩ := h) | (obtain ⟨h1, h2, _⟩ := h) | (obtain ⟨h1, _⟩ := h)) | (apply WL.add; exact rfl; exact rfl; exact rfl; exact rfl; omega) | (apply WL.sub; exact rfl; exact rfl; exact rfl; exact rfl; omega) | (apply WL.mul; exact rfl; exact rfl; exact rfl; exact rfl; omega) | (apply WL.quo; exact rfl; exact rfl; exact rfl; exact rfl; omega) | (apply WL.rem; exact rfl; exact rfl; exact rfl; exact rfl; omega) | (apply WL.loadA tOk; exact rfl; exact rfl; exact rfl; exact rfl; exact rfl; (first | assumption | (focus (apply Cells.ext; rotate_left; assumption; (exact extA); done))); exact rfl) | (apply WL.guardF; exact rfl; exact rfl) | (apply WL.gD; exact rfl; exact rfl; all_goals intro _) | (apply WL.gN; exact rfl; exact rfl; all_goals intro _) | (apply WL.gB; exact rfl; exact rfl; all_goals intro _))
        | (show Z _ _ _ _ _; first | apply Z.tail | apply Z.then_normal | apply Z.block_normal | apply Z.then_exit | apply Z.block_exit | apply Z.then_ret | apply Z.block_ret | (apply Z.block_other; exact rfl))
        | (show W _ _ _ _ _ _; first | apply W.seq | apply W.region | apply W.block | apply W.skip | apply W.ret | apply W.exit | (apply W.condT; exact rfl) | (apply W.condF; exact rfl) | (apply W.condD; exact rfl; all_goals intro _) | (apply W.condN; exact rfl; all_goals intro _) | (apply W.condB; exact rfl; all_goals intro _)))
      exact Z.body1 Try.results96 rfl fun m => ⟨rfl, m, rfl⟩
    · rw [if_neg q1] at he
      by_cases q2 : lit3 vals x = 2
      · rw [if_pos q2] at he
        repeat' (first
          | ((show WL _ _ _ (⟨_, .call ⟨.value (.func 107), _, _⟩, _, _, _, _⟩ :: _) _ _ _); apply WL.callS; exact rfl; exact rfl; exact rfl; exact rfl; exact tri_Lit _ _ vals x _ R)
          | (apply WL.gT; exact rfl; exact rfl; (focus (first | exact dec_true (by omega) | exact dec_true q2 | exact dec_false q1; done)))
          | (apply WL.gF; exact rfl; exact rfl; (focus (first | exact dec_true (by omega) | exact dec_true q2 | exact dec_false q1; done)))
          | (apply W.condKT; exact rfl; (focus (first | exact dec_true (by omega) | exact dec_true q2 | exact dec_false q1; done)))
          | (apply W.condKF; exact rfl; (focus (first | exact dec_true (by omega) | exact dec_true q2 | exact dec_false q1; done)))
          | (show WL _ _ _ _ _ _ _; first | apply WL.nil | (apply WL.pev tOk; exact rfl; exact rfl; exact rfl) | (apply WL.load tOk; exact rfl; exact rfl; exact rfl; exact rfl; exact rfl; (first | assumption | (focus (apply Ext.cell; rotate_left; assumption; (exact extA); done)))) | (apply WL.index tOk; exact rfl; exact rfl; exact rfl; exact rfl; exact rfl; exact rfl; exact rfl; exact rfl; assumption; (exact extA); exact rfl; omega; assumption; intro b off h; have hcc := h; first | (obtain ⟨h1, h2, h3, h4, h5, h6, _⟩ := h) | (obtain ⟨h1, h2, h3, _⟩ := h) | (obtain ⟨h1, h2, _⟩ := h) | (obtain ⟨h1, _⟩ := h)) | (apply WL.add; exact rfl; exact rfl; exact rfl; exact rfl; omega) | (apply WL.sub; exact rfl; exact rfl; exact rfl; exact rfl; omega) | (apply WL.mul; exact rfl; exact rfl; exact rfl; exact rfl; omega) | (apply WL.quo; exact rfl; exact rfl; exact rfl; exact rfl; omega) | (apply WL.rem; exact rfl; exact rfl; exact rfl; exact rfl; omega) | (apply WL.loadA tOk; exact rfl; exact rfl; exact rfl; exact rfl; exact rfl; (first | assumption | (focus (apply Cells.ext; rotate_left; assumption; (exact extA); done))); exact rfl) | (apply WL.guardF; exact rfl; exact rfl) | (apply WL.gD; exact rfl; exact rfl; all_goals intro _) | (apply WL.gN; exact rfl; exact rfl; all_goals intro _) | (apply WL.gB; exact rfl; exact rfl; all_goals intro _))
          | (show Z _ _ _ _ _; first | apply Z.tail | apply Z.then_normal | apply Z.block_normal | apply Z.then_exit | apply Z.block_exit | apply Z.then_ret | apply Z.block_ret | (apply Z.block_other; exact rfl))
          | (show W _ _ _ _ _ _; first | apply W.seq | apply W.region | apply W.block | apply W.skip | apply W.ret | apply W.exit | (apply W.condT; exact rfl) | (apply W.condF; exact rfl) | (apply W.condD; exact rfl; all_goals intro _) | (apply W.condN; exact rfl; all_goals intro _) | (apply W.condB; exact rfl; all_goals intro _)))
        exact Z.again (k + 1, 2) ⟨by show k + 1 ≤ _; omega, he⟩ (by show l.length - (k + 1) < l.length - k; omega) ⟨rfl, rfl, rfl, rfl, rfl, trivial⟩ rfl
      · rw [if_neg q2] at he
        repeat' (first
          | ((show WL _ _ _ (⟨_, .call ⟨.value (.func 107), _, _⟩, _, _, _, _⟩ :: _) _ _ _); apply WL.callS; exact rfl; exact rfl; exact rfl; exact rfl; exact tri_Lit _ _ vals x _ R)
          | (apply WL.gT; exact rfl; exact rfl; (focus (first | exact dec_true (by omega) | exact dec_false q2 | exact dec_false q1; done)))
          | (apply WL.gF; exact rfl; exact rfl; (focus (first | exact dec_true (by omega) | exact dec_false q2 | exact dec_false q1; done)))
          | (apply W.condKT; exact rfl; (focus (first | exact dec_true (by omega) | exact dec_false q2 | exact dec_false q1; done)))
          | (apply W.condKF; exact rfl; (focus (first | exact dec_true (by omega) | exact dec_false q2 | exact dec_false q1; done)))
          | (show WL _ _ _ _ _ _ _; first | apply WL.nil | (apply WL.pev tOk; exact rfl; exact rfl; exact rfl) | (apply WL.load tOk; exact rfl; exact rfl; exact rfl; exact rfl; exact rfl; (first | assumption | (focus (apply Ext.cell; rotate_left; assumption; (exact extA); done)))) | (apply WL.index tOk; exact rfl; exact rfl; exact rfl; exact rfl; exact rfl; exact rfl; exact rfl; exact rfl; assumption; (exact extA); exact rfl; omega; assumption; intro b off h; have hcc := h; first | (obtain ⟨h1, h2, h3, h4, h5, h6, _⟩ := h) | (obtain ⟨h1, h2, h3, _⟩ := h) | (obtain ⟨h1, h2, _⟩ := h) | (obtain ⟨h1, _⟩ := h)) | (apply WL.add; exact rfl; exact rfl; exact rfl; exact rfl; omega) | (apply WL.sub; exact rfl; exact rfl; exact rfl; exact rfl; omega) | (apply WL.mul; exact rfl; exact rfl; exact rfl; exact rfl; omega) | (apply WL.quo; exact rfl; exact rfl; exact rfl; exact rfl; omega) | (apply WL.rem; exact rfl; exact rfl; exact rfl; exact rfl; omega) | (apply WL.loadA tOk; exact rfl; exact rfl; exact rfl; exact rfl; exact rfl; (first | assumption | (focus (apply Cells.ext; rotate_left; assumption; (exact extA); done))); exact rfl) | (apply WL.guardF; exact rfl; exact rfl) | (apply WL.gD; exact rfl; exact rfl; all_goals intro _) | (apply WL.gN; exact rfl; exact rfl; all_goals intro _) | (apply WL.gB; exact rfl; exact rfl; all_goals intro _))
          | (show Z _ _ _ _ _; first | apply Z.tail | apply Z.then_normal | apply Z.block_normal | apply Z.then_exit | apply Z.block_exit | apply Z.then_ret | apply Z.block_ret | (apply Z.block_other; exact rfl))
          | (show W _ _ _ _ _ _; first | apply W.seq | apply W.region | apply W.block | apply W.skip | apply W.ret | apply W.exit | (apply W.condT; exact rfl) | (apply W.condF; exact rfl) | (apply W.condD; exact rfl; all_goals intro _) | (apply W.condN; exact rfl; all_goals intro _) | (apply W.condB; exact rfl; all_goals intro _)))
        exact Z.again (k + 1, out) ⟨by show k + 1 ≤ _; omega, he⟩ (by show l.length - (k + 1) < l.length - k; omega) ⟨rfl, rfl, rfl, rfl, rfl, trivial⟩ rfl
  · obtain rfl : k = l.length := by omega
    rw [List.drop_length, vC] at he
    rw [← he]
    repeat' (first
      | (apply WL.gT; exact rfl; exact rfl; (focus (exact dec_false (by omega); done)))
      | (apply WL.gF; exact rfl; exact rfl; (focus (exact dec_false (by omega); done)))
      | (apply W.condKT; exact rfl; (focus (exact dec_false (by omega); done)))
      | (apply W.condKF; exact rfl; (focus (exact dec_false (by omega); done)))
      | (show WL _ _ _ _ _ _ _; first | apply WL.nil | (apply WL.pev tOk; exact rfl; exact rfl; exact rfl) | (apply WL.load tOk; exact rfl; exact rfl; exact rfl; exact rfl; exact rfl; (first | assumption | (focus (apply Ext.cell; rotate_left; assumption; (exact extA); done)))) | (apply WL.index tOk; exact rfl; exact rfl; exact rfl; exact rfl; exact rfl; exact rfl; exact rfl; exact rfl; assumption; (exact extA); exact rfl; omega; assumption; intro b off h; have hcc := h; first | (obtain ⟨h1, h2, h3, h4, h5, h6, _⟩ := h) | (obtain ⟨h1, h2, h3, _⟩ := h) | (obtain ⟨h1, h2, _⟩ := h) | (obtain ⟨h1, _⟩ := h)) | (apply WL.add; exact rfl; exact rfl; exact rfl; exact rfl; omega) | (apply WL.sub; exact rfl; exact rfl; exact rfl; exact rfl; omega) | (apply WL.mul; exact rfl; exact rfl; exact rfl; exact rfl; omega) | (apply WL.quo; exact rfl; exact rfl; exact rfl; exact rfl; omega) | (apply WL.rem; exact rfl; exact rfl; exact rfl; exact rfl; omega) | (apply WL.loadA tOk; exact rfl; exact rfl; exact rfl; exact rfl; exact rfl; (first | assumption | (focus (apply Cells.ext; rotate_left; assumption; (exact extA); done))); exact rfl) | (apply WL.guardF; exact rfl; exact rfl) | (apply WL.gD; exact rfl; exact rfl; all_goals intro _) | (apply WL.gN; exact rfl; exact rfl; all_goals intro _) | (apply WL.gB; exact rfl; exact rfl; all_goals intro _))
      | (show Z _ _ _ _ _; first | apply Z.tail | apply Z.then_normal | apply Z.block_normal | apply Z.then_exit | apply Z.block_exit | apply Z.then_ret | apply Z.block_ret | (apply Z.block_other; exact rfl))
      | (show W _ _ _ _ _ _; first | apply W.seq | apply W.region | apply W.block | apply W.skip | apply W.ret | apply W.exit | (apply W.condT; exact rfl) | (apply W.condF; exact rfl) | (apply W.condD; exact rfl; all_goals intro _) | (apply W.condN; exact rfl; all_goals intro _) | (apply W.condB; exact rfl; all_goals intro _)))
    exact Z.body1 Try.results96 rfl fun m => ⟨rfl, m, rfl⟩
set_option maxHeartbeats 4000000 in
theorem clause_Unit (ra rl : Option Addr) (ca cl : Nat) (vals l : List Int) (w : World) (R : Row 1 encI w ra vals) (Rl : Row 1 encI w rl l) :
    Still Try.prog 97 [.slice ra vals.length ca, .slice rl l.length cl] w (.tuple #[.int .i64 (max (uC vals (-1) l) 0), .bool (dec (0 ≤ uC vals (-1) l))]) := by
  have hlen := Rl.len
  have efail : ∀ m : Nat, uC vals (-1) l = -1 → (Value.tuple #[.int .i64 0, .bool false]) = .tuple #[.int .i64 (max (uC vals (-1) l) 0), .bool (dec (0 ≤ uC vals (-1) l))] := fun m h => by
    rw [h, dec_false (by decide)]; rfl
  refine Spec.of _ Try.func97 rfl Try.ntmps97 (by kernel_rfl) rfl ?_
  repeat' (first
    | (show WL _ _ _ _ _ _ _; first | apply WL.nil | (apply WL.pev tOk; exact rfl; exact rfl; exact rfl) | (apply WL.load tOk; exact rfl; exact rfl; exact rfl; exact rfl; exact rfl; (first | assumption | (focus (apply Ext.cell; rotate_left; assumption; (exact extA); done)))) | (apply WL.index tOk; exact rfl; exact rfl; exact rfl; exact rfl; exact rfl; exact rfl; exact rfl; exact rfl; assumption; (exact extA); exact rfl; omega; assumption; intro b off h; have hcc := h; first | (obtain ⟨h1, h2, h3, h4, h5, h6, _⟩ := h) | (obtain ⟨h1, h2, h3, _⟩ := h) | (obtain ⟨h1, h2, _⟩ := h) | (obtain ⟨h1, _⟩ := h)) | (apply WL.add; exact rfl; exact rfl; exact rfl; exact rfl; omega) | (apply WL.sub; exact rfl; exact rfl; exact rfl; exact rfl; omega) | (apply WL.mul; exact rfl; exact rfl; exact rfl; exact rfl; omega) | (apply WL.quo; exact rfl; exact rfl; exact rfl; exact rfl; omega) | (apply WL.rem; exact rfl; exact rfl; exact rfl; exact rfl; omega) | (apply WL.loadA tOk; exact rfl; exact rfl; exact rfl; exact rfl; exact rfl; (first | assumption | (focus (apply Cells.ext; rotate_left; assumption; (exact extA); done))); exact rfl) | (apply WL.guardF; exact rfl; exact rfl) | (apply WL.gD; exact rfl; exact rfl; all_goals intro _) | (apply WL.gN; exact rfl; exact rfl; all_goals intro _) | (apply WL.gB; exact rfl; exact rfl; all_goals intro _))
    | (show Z _ _ _ _ _; first | apply Z.tail | apply Z.then_normal | apply Z.block_normal | apply Z.then_exit | apply Z.block_exit | apply Z.then_ret | apply Z.block_ret | (apply Z.block_other; exact rfl))
    | (show W _ _ _ _ _ _; first | apply W.seq | apply W.region | apply W.block | apply W.skip | apply W.ret | apply W.exit | (apply W.condT; exact rfl) | (apply W.condF; exact rfl) | (apply W.condD; exact rfl; all_goals intro _) | (apply W.condN; exact rfl; all_goals intro _) | (apply W.condB; exact rfl; all_goals intro _)))
  refine W.loop (fun s : Nat × Int => s.1 ≤ l.length ∧ uC vals s.2 (l.drop s.1) = uC vals (-1) l) (fun s => [(0, .slice ra vals.length ca), (10, .slice rl l.length cl), (11, .int .i64 l.length), (6, .int .i64 s.2), (12, .int .i64 s.1)]) (fun _ => w) (fun s => l.length - s.1) (0, -1) ⟨Nat.zero_le _, rfl⟩ ⟨rfl, rfl, rfl, rfl, rfl, trivial⟩ rfl ?_
  rintro ⟨k, left⟩ ⟨hk, he⟩
  dsimp only at hk he
  by_cases hlt : k < l.length
  · obtain ⟨x, hx⟩ := getI l hlt
    rw [drop_cons hx, uC] at he
    have h3 := lit3_thr vals x
    by_cases q1 : lit3 vals x = 1
    · rw [if_pos (.inl q1)] at he
      repeat' (first
        | ((show WL _ _ _ (⟨_, .call ⟨.value (.func 107), _, _⟩, _, _, _, _⟩ :: _) _ _ _); apply WL.callS; exact rfl; exact rfl; exact rfl; exact rfl; exact tri_Lit _ _ vals x _ R)
        | ((show WL _ _ _ (⟨_, .call ⟨.value (.func 123), _, _⟩, _, _, _, _⟩ :: _) _ _ _); apply WL.callS; exact rfl; exact rfl; exact rfl; exact rfl; exact lit_Good x _)
        | (apply WL.gT; exact rfl; exact rfl; (focus (first | exact dec_true (by omega) | exact dec_true q1 | exact dec_false (by rw [q1]; decide); done)))
        | (apply WL.gF; exact rfl; exact rfl; (focus (first | exact dec_true (by omega) | exact dec_true q1 | exact dec_false (by rw [q1]; decide); done)))
        | (apply W.condKT; exact rfl; (focus (first | exact dec_true (by omega) | exact dec_true q1 | exact dec_false (by rw [q1]; decide); done)))
        | (apply W.condKF; exact rfl; (focus (first | exact dec_true (by omega) | exact dec_true q1 | exact dec_false (by rw [q1]; decide); done)))
        | (show WL _ _ _ _ _ _ _; first | apply WL.nil | (apply WL.pev tOk; exact rfl; exact rfl; exact rfl) | (apply WL.load tOk; exact rfl; exact rfl; exact rfl; exact rfl; exact rfl; (first | assumption | (focus (apply Ext.cell; rotate_left; assumption; (exact extA); done)))) | (apply WL.index tOk; exact rfl; exact rfl; exact rfl; exact rfl; exact rfl; exact rfl; exact rfl; exact rfl; assumption; (exact extA); exact rfl; omega; assumption; intro b off h; have hcc := h; first | (obtain ⟨h1, h2, h3, h4, h5, h6, _⟩ := h) | (obtain ⟨h1, h2, h3, _⟩ := h) | (obtain ⟨h1, h2, _⟩ := h) | (obtain ⟨h1, _⟩ := h)) | (apply WL.add; exact rfl; exact rfl; exact rfl; exact rfl; omega) | (apply WL.sub; exact rfl; exact rfl; exact rfl; exact rfl; omega) | (apply WL.mul; exact rfl; exact rfl; exact rfl; exact rfl; omega) | (apply WL.quo; exact rfl; exact rfl; exact rfl; exact rfl; omega) | (apply WL.rem; exact rfl; exact rfl; exact rfl; exact rfl; omega) | (apply WL.loadA tOk; exact rfl; exact rfl; exact rfl; exact rfl; exact rfl; (first | assumption | (focus (apply Cells.ext; rotate_left; assumption; (exact extA); done))); exact rfl) | (apply WL.guardF; exact rfl; exact rfl) | (apply WL.gD; exact rfl; exact rfl; all_goals intro _) | (apply WL.gN; exact rfl; exact rfl; all_goals intro _) | (apply WL.gB; exact rfl; exact rfl; all_goals intro _))
        | (show Z _ _ _ _ _; first | apply Z.tail | apply Z.then_normal | apply Z.block_normal | apply Z.then_exit | apply Z.block_exit | apply Z.then_ret | apply Z.block_ret | (apply Z.block_other; exact rfl))
        | (show W _ _ _ _ _ _; first | apply W.seq | apply W.region | apply W.block | apply W.skip | apply W.ret | apply W.exit | (apply W.condT; exact rfl) | (apply W.condF; exact rfl) | (apply W.condD; exact rfl; all_goals intro _) | (apply W.condN; exact rfl; all_goals intro _) | (apply W.condB; exact rfl; all_goals intro _)))
      exact Z.body2 Try.results97 rfl rfl fun m => ⟨efail m he.symm, m, rfl⟩
    · by_cases q2 : lit3 vals x = 2
      · by_cases q3 : goodL x
        · by_cases q4 : 0 ≤ left ∧ left ≠ x
          · rw [if_pos (.inr ⟨q2, .inr q4⟩)] at he
            repeat' (first
              | ((show WL _ _ _ (⟨_, .call ⟨.value (.func 107), _, _⟩, _, _, _, _⟩ :: _) _ _ _); apply WL.callS; exact rfl; exact rfl; exact rfl; exact rfl; exact tri_Lit _ _ vals x _ R)
              | ((show WL _ _ _ (⟨_, .call ⟨.value (.func 123), _, _⟩, _, _, _, _⟩ :: _) _ _ _); apply WL.callS; exact rfl; exact rfl; exact rfl; exact rfl; exact lit_Good x _)
              | (apply WL.gT; exact rfl; exact rfl; (focus (first | exact dec_true (by omega) | exact dec_false q1 | exact dec_false (by rw [q2]; decide) | (rw [dec_true q3]; rfl) | exact dec_true q4.2; done)))
              | (apply WL.gF; exact rfl; exact rfl; (focus (first | exact dec_true (by omega) | exact dec_false q1 | exact dec_false (by rw [q2]; decide) | (rw [dec_true q3]; rfl) | exact dec_true q4.2; done)))
              | (apply W.condKT; exact rfl; (focus (first | exact dec_true (by omega) | exact dec_false q1 | exact dec_false (by rw [q2]; decide) | (rw [dec_true q3]; rfl) | exact dec_true q4.2; done)))
              | (apply W.condKF; exact rfl; (focus (first | exact dec_true (by omega) | exact dec_false q1 | exact dec_false (by rw [q2]; decide) | (rw [dec_true q3]; rfl) | exact dec_true q4.2; done)))
              | (show WL _ _ _ _ _ _ _; first | apply WL.nil | (apply WL.pev tOk; exact rfl; exact rfl; exact rfl) | (apply WL.load tOk; exact rfl; exact rfl; exact rfl; exact rfl; exact rfl; (first | assumption | (focus (apply Ext.cell; rotate_left; assumption; (exact extA); done)))) | (apply WL.index tOk; exact rfl; exact rfl; exact rfl; exact rfl; exact rfl; exact rfl; exact rfl; exact rfl; assumption; (exact extA); exact rfl; omega; assumption; intro b off h; have hcc := h; first | (obtain ⟨h1, h2, h3, h4, h5, h6, _⟩ := h) | (obtain ⟨h1, h2, h3, _⟩ := h) | (obtain ⟨h1, h2, _⟩ := h) | (obtain ⟨h1, _⟩ := h)) | (apply WL.add; exact rfl; exact rfl; exact rfl; exact rfl; omega) | (apply WL.sub; exact rfl; exact rfl; exact rfl; exact rfl; omega) | (apply WL.mul; exact rfl; exact rfl; exact rfl; exact rfl; omega) | (apply WL.quo; exact rfl; exact rfl; exact rfl; exact rfl; omega) | (apply WL.rem; exact rfl; exact rfl; exact rfl; exact rfl; omega) | (apply WL.loadA tOk; exact rfl; exact rfl; exact rfl; exact rfl; exact rfl; (first | assumption | (focus (apply Cells.ext; rotate_left; assumption; (exact extA); done))); exact rfl) | (apply WL.guardF; exact rfl; exact rfl) | (apply WL.gD; exact rfl; exact rfl; all_goals intro _) | (apply WL.gN; exact rfl; exact rfl; all_goals intro _) | (apply WL.gB; exact rfl; exact rfl; all_goals intro _))
              | (show Z _ _ _ _ _; first | apply Z.tail | apply Z.then_normal | apply Z.block_normal | apply Z.then_exit | apply Z.block_exit | apply Z.then_ret | apply Z.block_ret | (apply Z.block_other; exact rfl))
              | (show W _ _ _ _ _ _; first | apply W.seq | apply W.region | apply W.block | apply W.skip | apply W.ret | apply W.exit | (apply W.condT; exact rfl) | (apply W.condF; exact rfl) | (apply W.condD; exact rfl; all_goals intro _) | (apply W.condN; exact rfl; all_goals intro _) | (apply W.condB; exact rfl; all_goals intro _)))
            all_goals exact Z.body2 Try.results97 rfl rfl fun m => ⟨efail m he.symm, m, rfl⟩
          · rw [if_neg (fun h => h.elim q1 (fun h => h.2.elim (fun h => h q3) q4)), if_pos q2] at he
            by_cases q5 : 0 ≤ left
            · repeat' (first
                | ((show WL _ _ _ (⟨_, .call ⟨.value (.func 107), _, _⟩, _, _, _, _⟩ :: _) _ _ _); apply WL.callS; exact rfl; exact rfl; exact rfl; exact rfl; exact tri_Lit _ _ vals x _ R)
                | ((show WL _ _ _ (⟨_, .call ⟨.value (.func 123), _, _⟩, _, _, _, _⟩ :: _) _ _ _); apply WL.callS; exact rfl; exact rfl; exact rfl; exact rfl; exact lit_Good x _)
                | (apply WL.gT; exact rfl; exact rfl; (focus (first | exact dec_true (by omega) | exact dec_false q1 | exact dec_false (by rw [q2]; decide) | (rw [dec_true q3]; rfl) | exact dec_false (by omega); done)))
                | (apply WL.gF; exact rfl; exact rfl; (focus (first | exact dec_true (by omega) | exact dec_false q1 | exact dec_false (by rw [q2]; decide) | (rw [dec_true q3]; rfl) | exact dec_false (by omega); done)))
                | (apply W.condKT; exact rfl; (focus (first | exact dec_true (by omega) | exact dec_false q1 | exact dec_false (by rw [q2]; decide) | (rw [dec_true q3]; rfl) | exact dec_false (by omega); done)))
                | (apply W.condKF; exact rfl; (focus (first | exact dec_true (by omega) | exact dec_false q1 | exact dec_false (by rw [q2]; decide) | (rw [dec_true q3]; rfl) | exact dec_false (by omega); done)))
                | (show WL _ _ _ _ _ _ _; first | apply WL.nil | (apply WL.pev tOk; exact rfl; exact rfl; exact rfl) | (apply WL.load tOk; exact rfl; exact rfl; exact rfl; exact rfl; exact rfl; (first | assumption | (focus (apply Ext.cell; rotate_left; assumption; (exact extA); done)))) | (apply WL.index tOk; exact rfl; exact rfl; exact rfl; exact rfl; exact rfl; exact rfl; exact rfl; exact rfl; assumption; (exact extA); exact rfl; omega; assumption; intro b off h; have hcc := h; first | (obtain ⟨h1, h2, h3, h4, h5, h6, _⟩ := h) | (obtain ⟨h1, h2, h3, _⟩ := h) | (obtain ⟨h1, h2, _⟩ := h) | (obtain ⟨h1, _⟩ := h)) | (apply WL.add; exact rfl; exact rfl; exact rfl; exact rfl; omega) | (apply WL.sub; exact rfl; exact rfl; exact rfl; exact rfl; omega) | (apply WL.mul; exact rfl; exact rfl; exact rfl; exact rfl; omega) | (apply WL.quo; exact rfl; exact rfl; exact rfl; exact rfl; omega) | (apply WL.rem; exact rfl; exact rfl; exact rfl; exact rfl; omega) | (apply WL.loadA tOk; exact rfl; exact rfl; exact rfl; exact rfl; exact rfl; (first | assumption | (focus (apply Cells.ext; rotate_left; assumption; (exact extA); done))); exact rfl) | (apply WL.guardF; exact rfl; exact rfl) | (apply WL.gD; exact rfl; exact rfl; all_goals intro _) | (apply WL.gN; exact rfl; exact rfl; all_goals intro _) | (apply WL.gB; exact rfl; exact rfl; all_goals intro _))
                | (show Z _ _ _ _ _; first | apply Z.tail | apply Z.then_normal | apply Z.block_normal | apply Z.then_exit | apply Z.block_exit | apply Z.then_ret | apply Z.block_ret | (apply Z.block_other; exact rfl))
                | (show W _ _ _ _ _ _; first | apply W.seq | apply W.region | apply W.block | apply W.skip | apply W.ret | apply W.exit | (apply W.condT; exact rfl) | (apply W.condF; exact rfl) | (apply W.condD; exact rfl; all_goals intro _) | (apply W.condN; exact rfl; all_goals intro _) | (apply W.condB; exact rfl; all_goals intro _)))
              exact Z.again (k + 1, x) ⟨by show k + 1 ≤ _; omega, he⟩ (by show l.length - (k + 1) < l.length - k; omega) ⟨rfl, rfl, rfl, rfl, rfl, trivial⟩ rfl
            · repeat' (first
                | ((show WL _ _ _ (⟨_, .call ⟨.value (.func 107), _, _⟩, _, _, _, _⟩ :: _) _ _ _); apply WL.callS; exact rfl; exact rfl; exact rfl; exact rfl; exact tri_Lit _ _ vals x _ R)
                | ((show WL _ _ _ (⟨_, .call ⟨.value (.func 123), _, _⟩, _, _, _, _⟩ :: _) _ _ _); apply WL.callS; exact rfl; exact rfl; exact rfl; exact rfl; exact lit_Good x _)
                | (apply WL.gT; exact rfl; exact rfl; (focus (first | exact dec_true (by omega) | exact dec_false q1 | exact dec_false (by rw [q2]; decide) | (rw [dec_true q3]; rfl) | exact dec_false (by omega); done)))
                | (apply WL.gF; exact rfl; exact rfl; (focus (first | exact dec_true (by omega) | exact dec_false q1 | exact dec_false (by rw [q2]; decide) | (rw [dec_true q3]; rfl) | exact dec_false (by omega); done)))
                | (apply W.condKT; exact rfl; (focus (first | exact dec_true (by omega) | exact dec_false q1 | exact dec_false (by rw [q2]; decide) | (rw [dec_true q3]; rfl) | exact dec_false (by omega); done)))
                | (apply W.condKF; exact rfl; (focus (first | exact dec_true (by omega) | exact dec_false q1 | exact dec_false (by rw [q2]; decide) | (rw [dec_true q3]; rfl) | exact dec_false (by omega); done)))
                | (show WL _ _ _ _ _ _ _; first | apply WL.nil | (apply WL.pev tOk; exact rfl; exact rfl; exact rfl) | (apply WL.load tOk; exact rfl; exact rfl; exact rfl; exact rfl; exact rfl; (first | assumption | (focus (apply Ext.cell; rotate_left; assumption; (exact extA); done)))) | (apply WL.index tOk; exact rfl; exact rfl; exact rfl; exact rfl; exact rfl; exact rfl; exact rfl; exact rfl; assumption; (exact extA); exact rfl; omega; assumption; intro b off h; have hcc := h; first | (obtain ⟨h1, h2, h3, h4, h5, h6, _⟩ := h) | (obtain ⟨h1, h2, h3, _⟩ := h) | (obtain ⟨h1, h2, _⟩ := h) | (obtain ⟨h1, _⟩ := h)) | (apply WL.add; exact rfl; exact rfl; exact rfl; exact rfl; omega) | (apply WL.sub; exact rfl; exact rfl; exact rfl; exact rfl; omega) | (apply WL.mul; exact rfl; exact rfl; exact rfl; exact rfl; omega) | (apply WL.quo; exact rfl; exact rfl; exact rfl; exact rfl; omega) | (apply WL.rem; exact rfl; exact rfl; exact rfl; exact rfl; omega) | (apply WL.loadA tOk; exact rfl; exact rfl; exact rfl; exact rfl; exact rfl; (first | assumption | (focus (apply Cells.ext; rotate_left; assumption; (exact extA); done))); exact rfl) | (apply WL.guardF; exact rfl; exact rfl) | (apply WL.gD; exact rfl; exact rfl; all_goals intro _) | (apply WL.gN; exact rfl; exact rfl; all_goals intro _) | (apply WL.gB; exact rfl; exact rfl; all_goals intro _))
                | (show Z _ _ _ _ _; first | apply Z.tail | apply Z.then_normal | apply Z.block_normal | apply Z.then_exit | apply Z.block_exit | apply Z.then_ret | apply Z.block_ret | (apply Z.block_other; exact rfl))
                | (show W _ _ _ _ _ _; first | apply W.seq | apply W.region | apply W.block | apply W.skip | apply W.ret | apply W.exit | (apply W.condT; exact rfl) | (apply W.condF; exact rfl) | (apply W.condD; exact rfl; all_goals intro _) | (apply W.condN; exact rfl; all_goals intro _) | (apply W.condB; exact rfl; all_goals intro _)))
              exact Z.again (k + 1, x) ⟨by show k + 1 ≤ _; omega, he⟩ (by show l.length - (k + 1) < l.length - k; omega) ⟨rfl, rfl, rfl, rfl, rfl, trivial⟩ rfl
        · rw [if_pos (.inr ⟨q2, .inl q3⟩)] at he
          repeat' (first
            | ((show WL _ _ _ (⟨_, .call ⟨.value (.func 107), _, _⟩, _, _, _, _⟩ :: _) _ _ _); apply WL.callS; exact rfl; exact rfl; exact rfl; exact rfl; exact tri_Lit _ _ vals x _ R)
            | ((show WL _ _ _ (⟨_, .call ⟨.value (.func 123), _, _⟩, _, _, _, _⟩ :: _) _ _ _); apply WL.callS; exact rfl; exact rfl; exact rfl; exact rfl; exact lit_Good x _)
            | (apply WL.gT; exact rfl; exact rfl; (focus (first | exact dec_true (by omega) | exact dec_false q1 | exact dec_false (by rw [q2]; decide) | (rw [dec_false q3]; rfl); done)))
            | (apply WL.gF; exact rfl; exact rfl; (focus (first | exact dec_true (by omega) | exact dec_false q1 | exact dec_false (by rw [q2]; decide) | (rw [dec_false q3]; rfl); done)))
            | (apply W.condKT; exact rfl; (focus (first | exact dec_true (by omega) | exact dec_false q1 | exact dec_false (by rw [q2]; decide) | (rw [dec_false q3]; rfl); done)))
            | (apply W.condKF; exact rfl; (focus (first | exact dec_true (by omega) | exact dec_false q1 | exact dec_false (by rw [q2]; decide) | (rw [dec_false q3]; rfl); done)))
            | (show WL _ _ _ _ _ _ _; first | apply WL.nil | (apply WL.pev tOk; exact rfl; exact rfl; exact rfl) | (apply WL.load tOk; exact rfl; exact rfl; exact rfl; exact rfl; exact rfl; (first | assumption | (focus (apply Ext.cell; rotate_left; assumption; (exact extA); done)))) | (apply WL.index tOk; exact rfl; exact rfl; exact rfl; exact rfl; exact rfl; exact rfl; exact rfl; exact rfl; assumption; (exact extA); exact rfl; omega; assumption; intro b off h; have hcc := h; first | (obtain ⟨h1, h2, h3, h4, h5, h6, _⟩ := h) | (obtain ⟨h1, h2, h3, _⟩ := h) | (obtain ⟨h1, h2, _⟩ := h) | (obtain ⟨h1, _⟩ := h)) | (apply WL.add; exact rfl; exact rfl; exact rfl; exact rfl; omega) | (apply WL.sub; exact rfl; exact rfl; exact rfl; exact rfl; omega) | (apply WL.mul; exact rfl; exact rfl; exact rfl; exact rfl; omega) | (apply WL.quo; exact rfl; exact rfl; exact rfl; exact rfl; omega) | (apply WL.rem; exact rfl; exact rfl; exact rfl; exact rfl; omega) | (apply WL.loadA tOk; exact rfl; exact rfl; exact rfl; exact rfl; exact rfl; (first | assumption | (focus (apply Cells.ext; rotate_left; assumption; (exact extA); done))); exact rfl) | (apply WL.guardF; exact rfl; exact rfl) | (apply WL.gD; exact rfl; exact rfl; all_goals intro _) | (apply WL.gN; exact rfl; exact rfl; all_goals intro _) | (apply WL.gB; exact rfl; exact rfl; all_goals intro _))
            | (show Z _ _ _ _ _; first | apply Z.tail | apply Z.then_normal | apply Z.block_normal | apply Z.then_exit | apply Z.block_exit | apply Z.then_ret | apply Z.block_ret | (apply Z.block_other; exact rfl))
            | (show W _ _ _ _ _ _; first | apply W.seq | apply W.region | apply W.block | apply W.skip | apply W.ret | apply W.exit | (apply W.condT; exact rfl) | (apply W.condF; exact rfl) | (apply W.condD; exact rfl; all_goals intro _) | (apply W.condN; exact rfl; all_goals intro _) | (apply W.condB; exact rfl; all_goals intro _)))
          all_goals exact Z.body2 Try.results97 rfl rfl fun m => ⟨efail m he.symm, m, rfl⟩
      · rw [if_neg (fun h => h.elim q1 (fun h => q2 h.1)), if_neg q2] at he
        repeat' (first
          | ((show WL _ _ _ (⟨_, .call ⟨.value (.func 107), _, _⟩, _, _, _, _⟩ :: _) _ _ _); apply WL.callS; exact rfl; exact rfl; exact rfl; exact rfl; exact tri_Lit _ _ vals x _ R)
          | ((show WL _ _ _ (⟨_, .call ⟨.value (.func 123), _, _⟩, _, _, _, _⟩ :: _) _ _ _); apply WL.callS; exact rfl; exact rfl; exact rfl; exact rfl; exact lit_Good x _)
          | (apply WL.gT; exact rfl; exact rfl; (focus (first | exact dec_true (by omega); done)))
          | (apply WL.gF; exact rfl; exact rfl; (focus (first | exact dec_true (by omega); done)))
          | (apply W.condKT; exact rfl; (focus (first | exact dec_true (by omega); done)))
          | (apply W.condKF; exact rfl; (focus (first | exact dec_true (by omega); done)))
          | (show WL _ _ _ _ _ _ _; first | apply WL.nil | (apply WL.pev tOk; exact rfl; exact rfl; exact rfl) | (apply WL.load tOk; exact rfl; exact rfl; exact rfl; exact rfl; exact rfl; (first | assumption | (focus (apply Ext.cell; rotate_left; assumption; (exact extA); done)))) | (apply WL.index tOk; exact rfl; exact rfl; exact rfl; exact rfl; exact rfl; exact rfl; exact rfl; exact rfl; assumption; (exact extA); exact rfl; omega; assumption; intro b off h; have hcc := h; first | (obtain ⟨h1, h2, h3, h4, h5, h6, _⟩ := h) | (obtain ⟨h1, h2, h3, _⟩ := h) | (obtain ⟨h1, h2, _⟩ := h) | (obtain ⟨h1, _⟩ := h)) | (apply WL.add; exact rfl; exact rfl; exact rfl; exact rfl; omega) | (apply WL.sub; exact rfl; exact rfl; exact rfl; exact rfl; omega) | (apply WL.mul; exact rfl; exact rfl; exact rfl; exact rfl; omega) | (apply WL.quo; exact rfl; exact rfl; exact rfl; exact rfl; omega) | (apply WL.rem; exact rfl; exact rfl; exact rfl; exact rfl; omega) | (apply WL.loadA tOk; exact rfl; exact rfl; exact rfl; exact rfl; exact rfl; (first | assumption | (focus (apply Cells.ext; rotate_left; assumption; (exact extA); done))); exact rfl) | (apply WL.guardF; exact rfl; exact rfl) | (apply WL.gD; exact rfl; exact rfl; all_goals intro _) | (apply WL.gN; exact rfl; exact rfl; all_goals intro _) | (apply WL.gB; exact rfl; exact rfl; all_goals intro _))
          | (show Z _ _ _ _ _; first | apply Z.tail | apply Z.then_normal | apply Z.block_normal | apply Z.then_exit | apply Z.block_exit | apply Z.then_ret | apply Z.block_ret | (apply Z.block_other; exact rfl))
          | (show W _ _ _ _ _ _; first | apply W.seq | apply W.region | apply W.block | apply W.skip | apply W.ret | apply W.exit | (apply W.condT; exact rfl) | (apply W.condF; exact rfl) | (apply W.condD; exact rfl; all_goals intro _) | (apply W.condN; exact rfl; all_goals intro _) | (apply W.condB; exact rfl; all_goals intro _)))
        exact Z.again (k + 1, left) ⟨by show k + 1 ≤ _; omega, he⟩ (by show l.length - (k + 1) < l.length - k; omega) ⟨rfl, rfl, rfl, rfl, rfl, trivial⟩ rfl
  · obtain rfl : k = l.length := by omega
    rw [List.drop_length, uC] at he
    rw [← he]
    repeat' (first
      | (apply WL.gT; exact rfl; exact rfl; (focus (exact dec_false (by omega); done)))
      | (apply WL.gF; exact rfl; exact rfl; (focus (exact dec_false (by omega); done)))
      | (apply W.condKT; exact rfl; (focus (exact dec_false (by omega); done)))
      | (apply W.condKF; exact rfl; (focus (exact dec_false (by omega); done)))
      | (apply WL.min; exact rfl; exact rfl; exact rfl; exact rfl)
      | (apply WL.max; exact rfl; exact rfl; exact rfl; exact rfl)
      | (show WL _ _ _ _ _ _ _; first | apply WL.nil | (apply WL.pev tOk; exact rfl; exact rfl; exact rfl) | (apply WL.load tOk; exact rfl; exact rfl; exact rfl; exact rfl; exact rfl; (first | assumption | (focus (apply Ext.cell; rotate_left; assumption; (exact extA); done)))) | (apply WL.index tOk; exact rfl; exact rfl; exact rfl; exact rfl; exact rfl; exact rfl; exact rfl; exact rfl; assumption; (exact extA); exact rfl; omega; assumption; intro b off h; have hcc := h; first | (obtain ⟨h1, h2, h3, h4, h5, h6, _⟩ := h) | (obtain ⟨h1, h2, h3, _⟩ := h) | (obtain ⟨h1, h2, _⟩ := h) | (obtain ⟨h1, _⟩ := h)) | (apply WL.add; exact rfl; exact rfl; exact rfl; exact rfl; omega) | (apply WL.sub; exact rfl; exact rfl; exact rfl; exact rfl; omega) | (apply WL.mul; exact rfl; exact rfl; exact rfl; exact rfl; omega) | (apply WL.quo; exact rfl; exact rfl; exact rfl; exact rfl; omega) | (apply WL.rem; exact rfl; exact rfl; exact rfl; exact rfl; omega) | (apply WL.loadA tOk; exact rfl; exact rfl; exact rfl; exact rfl; exact rfl; (first | assumption | (focus (apply Cells.ext; rotate_left; assumption; (exact extA); done))); exact rfl) | (apply WL.guardF; exact rfl; exact rfl) | (apply WL.gD; exact rfl; exact rfl; all_goals intro _) | (apply WL.gN; exact rfl; exact rfl; all_goals intro _) | (apply WL.gB; exact rfl; exact rfl; all_goals intro _))
      | (show Z _ _ _ _ _; first | apply Z.tail | apply Z.then_normal | apply Z.block_normal | apply Z.then_exit | apply Z.block_exit | apply Z.then_ret | apply Z.block_ret | (apply Z.block_other; exact rfl))
      | (show W _ _ _ _ _ _; first | apply W.seq | apply W.region | apply W.block | apply W.skip | apply W.ret | apply W.exit | (apply W.condT; exact rfl) | (apply W.condF; exact rfl) | (apply W.condD; exact rfl; all_goals intro _) | (apply W.condN; exact rfl; all_goals intro _) | (apply W.condB; exact rfl; all_goals intro _)))
    exact Z.body2 Try.results97 rfl rfl fun m => ⟨rfl, m, rfl⟩
theorem imply_known1 (g c : Nat) (n : List (Int × Int)) (a : Option Addr) (x : Int) (w : World) (h : w.cell? ⟨g, 0, none⟩ = some (.slice a n.length c)) (hx : x ≤ 9223372036854775807) : Still Try.prog 121 [.int .i64 x, .pointer (some ⟨g, 0, none⟩)] w (.bool (dec (x < 0 ∨ (n.length : Int) < x / 2))) := by
  refine Spec.of _ Try.func121 rfl Try.ntmps121 (by kernel_rfl) rfl ?_
  repeat' (first
    | (show WL _ _ _ _ _ _ _; first | apply WL.nil | (apply WL.pev tOk; exact rfl; exact rfl; exact rfl) | (apply WL.load tOk; exact rfl; exact rfl; exact rfl; exact rfl; exact rfl; (first | assumption | (focus (apply Ext.cell; rotate_left; assumption; (exact extA); done)))) | (apply WL.index tOk; exact rfl; exact rfl; exact rfl; exact rfl; exact rfl; exact rfl; exact rfl; exact rfl; assumption; (exact extA); exact rfl; omega; assumption; intro b off h; have hcc := h; first | (obtain ⟨h1, h2, h3, h4, h5, h6, _⟩ := h) | (obtain ⟨h1, h2, h3, _⟩ := h) | (obtain ⟨h1, h2, _⟩ := h) | (obtain ⟨h1, _⟩ := h)) | (apply WL.add; exact rfl; exact rfl; exact rfl; exact rfl; omega) | (apply WL.sub; exact rfl; exact rfl; exact rfl; exact rfl; omega) | (apply WL.mul; exact rfl; exact rfl; exact rfl; exact rfl; omega) | (apply WL.quo; exact rfl; exact rfl; exact rfl; exact rfl; omega) | (apply WL.rem; exact rfl; exact rfl; exact rfl; exact rfl; omega) | (apply WL.loadA tOk; exact rfl; exact rfl; exact rfl; exact rfl; exact rfl; (first | assumption | (focus (apply Cells.ext; rotate_left; assumption; (exact extA); done))); exact rfl) | (apply WL.guardF; exact rfl; exact rfl) | (apply WL.gD; exact rfl; exact rfl; all_goals intro _) | (apply WL.gN; exact rfl; exact rfl; all_goals intro _) | (apply WL.gB; exact rfl; exact rfl; all_goals intro _))
    | (show Z _ _ _ _ _; first | apply Z.tail | apply Z.then_normal | apply Z.block_normal | apply Z.then_exit | apply Z.block_exit | apply Z.then_ret | apply Z.block_ret | (apply Z.block_other; exact rfl))
    | (show W _ _ _ _ _ _; first | apply W.seq | apply W.region | apply W.block | apply W.skip | apply W.ret | apply W.exit | (apply W.condT; exact rfl) | (apply W.condF; exact rfl) | (apply W.condD; exact rfl; all_goals intro _) | (apply W.condN; exact rfl; all_goals intro _) | (apply W.condB; exact rfl; all_goals intro _)))
  all_goals (refine Z.body1 Try.results121 rfl fun m => ⟨?_, m, rfl⟩; (first | exact congrArg Value.bool (dec_true (by omega)).symm | exact congrArg Value.bool (dec_false (by omega)).symm | exact congrArg Value.bool (dec_true (by omega)) | exact congrArg Value.bool (dec_false (by omega)) | exact congrArg Value.bool (dec_congr (by omega))))
theorem imply_known (a al : Option Addr) (cap cl : Nat) (n : List (Int × Int)) (l : List Int) (w : World) (Rl : Row 1 encI w al l) (hl : ∀ x ∈ l, x ≤ 9223372036854775807) : Pure Try.prog 94 [.slice a n.length cap, .slice al l.length cl] w (.bool (dec (KnownP n l))) := by
  refine Spec.of _ Try.func94 rfl Try.ntmps94 (by kernel_rfl) rfl ?_
  repeat' (first
    | (apply WL.box; exact rfl; exact rfl; exact rfl; intro gb w' hb hge hc hx; have hcc := hc; (first | (obtain ⟨h1, h2, h3, _⟩ := hc) | (obtain ⟨h1, h2, _⟩ := hc)))
    | ((show WL _ _ _ (⟨_, .call ⟨.value (.func 120), _, _⟩, _, _, _, _⟩ :: _) _ _ _); apply WL.callS; exact rfl; exact rfl; exact rfl; exact rfl; exact slices_ContainsFunc _ _ l 121 [.pointer (some ⟨_, 0, none⟩)] (fun x => dec (x < 0 ∨ (n.length : Int) < x / 2)) _ w Rl (by (exact extA)) (fun x hx => imply_known1 _ _ n _ x _ (by assumption) (hl x hx)))
    | (show WL _ _ _ _ _ _ _; first | apply WL.nil | (apply WL.pev tOk; exact rfl; exact rfl; exact rfl) | (apply WL.load tOk; exact rfl; exact rfl; exact rfl; exact rfl; exact rfl; (first | assumption | (focus (apply Ext.cell; rotate_left; assumption; (exact extA); done)))) | (apply WL.index tOk; exact rfl; exact rfl; exact rfl; exact rfl; exact rfl; exact rfl; exact rfl; exact rfl; assumption; (exact extA); exact rfl; omega; assumption; intro b off h; have hcc := h; first | (obtain ⟨h1, h2, h3, h4, h5, h6, _⟩ := h) | (obtain ⟨h1, h2, h3, _⟩ := h) | (obtain ⟨h1, h2, _⟩ := h) | (obtain ⟨h1, _⟩ := h)) | (apply WL.add; exact rfl; exact rfl; exact rfl; exact rfl; omega) | (apply WL.sub; exact rfl; exact rfl; exact rfl; exact rfl; omega) | (apply WL.mul; exact rfl; exact rfl; exact rfl; exact rfl; omega) | (apply WL.quo; exact rfl; exact rfl; exact rfl; exact rfl; omega) | (apply WL.rem; exact rfl; exact rfl; exact rfl; exact rfl; omega) | (apply WL.loadA tOk; exact rfl; exact rfl; exact rfl; exact rfl; exact rfl; (first | assumption | (focus (apply Cells.ext; rotate_left; assumption; (exact extA); done))); exact rfl) | (apply WL.guardF; exact rfl; exact rfl) | (apply WL.gD; exact rfl; exact rfl; all_goals intro _) | (apply WL.gN; exact rfl; exact rfl; all_goals intro _) | (apply WL.gB; exact rfl; exact rfl; all_goals intro _))
    | (show Z _ _ _ _ _; first | apply Z.tail | apply Z.then_normal | apply Z.block_normal | apply Z.then_exit | apply Z.block_exit | apply Z.then_ret | apply Z.block_ret | (apply Z.block_other; exact rfl))
    | (show W _ _ _ _ _ _; first | apply W.seq | apply W.region | apply W.block | apply W.skip | apply W.ret | apply W.exit | (apply W.condT; exact rfl) | (apply W.condF; exact rfl) | (apply W.condD; exact rfl; all_goals intro _) | (apply W.condN; exact rfl; all_goals intro _) | (apply W.condB; exact rfl; all_goals intro _)))
  refine Z.body1 Try.results94 rfl fun m => ⟨?_, Ext.at (by assumption) m⟩
  by_cases h : KnownP n l
  · rw [dec_true h, dec_false]; rfl
    rintro ⟨x, hx, h2⟩
    have := h x hx; have := of_dec h2; omega
  · rw [dec_false h, dec_true]; rfl
    refine Classical.byContradiction fun hh => h fun x hx => ?_
    have : ¬ (x < 0 ∨ (n.length : Int) < x / 2) := fun h3 => hh ⟨x, hx, dec_true h3⟩
    omega
set_option maxHeartbeats 4000000 in
theorem imply_New (a : Option Addr) (cap : Nat) (n : List (Int × Int)) (w : World) (R : Row 2 encN w a n) (hna : a = none → cap = 0) (hg : GoodNet n) (hn : n.length ≤ 1048575) :
    Lt.Spec Try.prog 49 [.slice a n.length cap] w (fun v w' => Ext w w' ∧ ∃ gr an cn ao co rs, v = .pointer (some ⟨gr, 0, none⟩) ∧ RulesD w.heap.size w' gr n an cn ao co rs) := by
  refine Spec.of _ Try.func49 rfl Try.ntmps49 (by kernel_rfl) rfl ?_
  repeat' (first
    | ((show WL _ _ _ (⟨_, .call ⟨.value (.func 101), _, _⟩, _, _, _, _⟩ :: _) _ _ _); apply WL.call; exact rfl; exact rfl; exact rfl; exact rfl; exact slices_CloneN _ _ n _ R hna (by omega); rintro v' w' ⟨hx, a', cap', rfl, hO⟩; (obtain ⟨hO1, rfl⟩ : ∃ x, x = hO := ⟨_, rfl⟩; obtain ⟨w1, rfl⟩ : ∃ x, x = w' := ⟨_, rfl⟩; obtain ⟨hx1, rfl⟩ : ∃ x, x = hx := ⟨_, rfl⟩; obtain ⟨a1, rfl⟩ : ∃ x, x = a' := ⟨_, rfl⟩; obtain ⟨c1, rfl⟩ : ∃ x, x = cap' := ⟨_, rfl⟩))
    | (((show WL _ _ _ (⟨_, .call ⟨.value (.func 102), _, _⟩, _, _, _, _⟩ :: _) _ _ _); apply WL.call; exact rfl; exact rfl; exact rfl; exact rfl; exact cone_Fanouts _ _ n _ (R.ext (by (exact extA))) hg (by omega); rintro v' w2 ⟨hx2, a2, c2, rs, rfl, hO2, e2⟩))
    | (apply WL.build tOk; exact rfl; exact rfl; exact rfl; exact rfl; exact rfl; exact rfl; exact rfl; kernel_rfl)
    | (apply WL.box; exact rfl; exact rfl; exact rfl; intro gb w' hb hge hc hx; have hcc := hc; (first | (obtain ⟨h1, h2, h3, _⟩ := hc) | (obtain ⟨h1, h2, _⟩ := hc)))
    | (show WL _ _ _ _ _ _ _; first | apply WL.nil | (apply WL.pev tOk; exact rfl; exact rfl; exact rfl) | (apply WL.load tOk; exact rfl; exact rfl; exact rfl; exact rfl; exact rfl; (first | assumption | (focus (apply Ext.cell; rotate_left; assumption; (exact extA); done)))) | (apply WL.index tOk; exact rfl; exact rfl; exact rfl; exact rfl; exact rfl; exact rfl; exact rfl; exact rfl; assumption; (exact extA); exact rfl; omega; assumption; intro b off h; have hcc := h; first | (obtain ⟨h1, h2, h3, h4, h5, h6, _⟩ := h) | (obtain ⟨h1, h2, h3, _⟩ := h) | (obtain ⟨h1, h2, _⟩ := h) | (obtain ⟨h1, _⟩ := h)) | (apply WL.add; exact rfl; exact rfl; exact rfl; exact rfl; omega) | (apply WL.sub; exact rfl; exact rfl; exact rfl; exact rfl; omega) | (apply WL.mul; exact rfl; exact rfl; exact rfl; exact rfl; omega) | (apply WL.quo; exact rfl; exact rfl; exact rfl; exact rfl; omega) | (apply WL.rem; exact rfl; exact rfl; exact rfl; exact rfl; omega) | (apply WL.loadA tOk; exact rfl; exact rfl; exact rfl; exact rfl; exact rfl; (first | assumption | (focus (apply Cells.ext; rotate_left; assumption; (exact extA); done))); exact rfl) | (apply WL.guardF; exact rfl; exact rfl) | (apply WL.gD; exact rfl; exact rfl; all_goals intro _) | (apply WL.gN; exact rfl; exact rfl; all_goals intro _) | (apply WL.gB; exact rfl; exact rfl; all_goals intro _))
    | (show Z _ _ _ _ _; first | apply Z.tail | apply Z.then_normal | apply Z.block_normal | apply Z.then_exit | apply Z.block_exit | apply Z.then_ret | apply Z.block_ret | (apply Z.block_other; exact rfl))
    | (show W _ _ _ _ _ _; first | apply W.seq | apply W.region | apply W.block | apply W.skip | apply W.ret | apply W.exit | (apply W.condT; exact rfl) | (apply W.condF; exact rfl) | (apply W.condD; exact rfl; all_goals intro _) | (apply W.condN; exact rfl; all_goals intro _) | (apply W.condB; exact rfl; all_goals intro _)))
  have hs := hx1.size
  exact Z.body1 Try.results49 rfl fun m => ⟨Ext.at (by (exact extA)) m, gb, a1, c1, a2, c2, rs, rfl, by have := hx2.size; omega, (Ext.refl _).at m |>.heap hb, hO1.ext (Ext.at (by (exact extA)) m), ⟨(hO2.outer.base hs).ext (Ext.at (by (exact extA)) m), fun i r hr => ((hO2.inner i r hr).base hs).ext (Ext.at (by (exact extA)) m), hO2.apartO, hO2.apart⟩, e2⟩
end Go.Proofs.Ytmaekaflpbenmaa
namespace Go.Proofs.Ytmaekaflpbenmaa
open Go Go.Lt Go.RowKit
set_option linter.unusedVariables false
set_option linter.unusedSimpArgs false

theorem vOf_nil (n : Nat) : vOf n [] = free0 n := by
  apply List.ext_getElem?
  intro i
  by_cases hi : i < n + 1
  · rw [vOf, tab_get _ hi]
    cases i with
    | zero => rfl
    | succ i =>
      rw [if_neg (by omega), valT_free (by omega) rfl]
      show _ = (List.replicate n (2 : Int))[i]?
      rw [List.getElem?_replicate, if_pos (by omega)]
  · rw [List.getElem?_eq_none (by rw [vOf_len]; omega), List.getElem?_eq_none (by simp; omega)]
theorem valT_keep {n : Nat} {L D : List T3} {z : Int} (hT : TOk n (L ++ D)) (h : valT n L z ≠ 2) : valT n (L ++ D) z = valT n L z := by
  have hT0 := hT.sub (List.sublist_append_left L D)
  by_cases h1 : z = 0 ∨ z = 1
  · unfold valT; rw [if_pos h1, if_pos h1]
  · by_cases h2 : 1 < z ∧ z / 2 ≤ (n : Int)
    · cases hp : plc (z / 2) L with
      | none => exact absurd (valT_free h2.1 hp) h
      | some i =>
        obtain ⟨x, hx, hv⟩ := plc_some hp
        rw [valT_set hT0 h2 hx hv, valT_set hT h2 (by rw [List.getElem?_append_left (lt_of_get hx)]; exact hx) hv]
    · exact absurd (valT_out (by omega)) h
theorem unit_later {m : Nat} {V W : List Int} {c : List Int} (h : LeV V W) (hV : OkV m V) (hW : OkV m W) (hc : ∀ x ∈ c, litM m x) (hu : 1 < uC V (-1) c) : (lit3 W (uC V (-1) c) = 0 → vC W 0 c = 0) ∧ (lit3 W (uC V (-1) c) = 2 → uC W (-1) c = uC V (-1) c) := by
  obtain ⟨h1, h2, h3⟩ := uC_unit hu
  have hl := hc _ h2
  have key : ∀ x ∈ c, x ≠ uC V (-1) c → lit3 W x = 0 := fun x hx hne => by
    obtain ⟨k1, k2⟩ := h1 x hx
    have k3 := hV.three_lit (hc x hx)
    have k4 := h.lit hV hW (hc x hx)
    have k5 : lit3 V x ≠ 2 := fun h' => hne (k2 h')
    omega
  refine ⟨fun h4 => (vC_zero c).2 fun x hx => ?_, fun h4 => ?_⟩
  · by_cases hne : x = uC V (-1) c
    · rw [hne, h4]; decide
    · rw [key x hx hne]; decide
  · exact uC_has (V := W) (l := uC V (-1) c) ⟨hl.1, hl.2.2⟩ c (-1) (fun x hx => by
      by_cases hne : x = uC V (-1) c
      · exact ⟨by rw [hne, h4]; decide, fun _ => hne⟩
      · have := key x hx hne
        exact ⟨by omega, fun h' => by omega⟩) (.inl rfl) (.inr ⟨h2, h4⟩)
theorem set_ways {n : Nat} {L : List T3} (hT : TOk n L) (l lev y : Int) :
    (setE n L l = 0 ∧ setT n L l lev y = L ++ [(l, lev, y)] ∧ TOk n (L ++ [(l, lev, y)]) ∧ 1 < l ∧ l / 2 ≤ n ∧ valT n L l = 2 ∧ vOf n (L ++ [(l, lev, y)]) = setV (vOf n L) l ∧ valT n (L ++ [(l, lev, y)]) l = 1) ∨ (setE n L l ≠ 0 ∧ setT n L l lev y = L) := by
  by_cases h : setE n L l = 0
  · left
    have hp := setE_pos h
    have hpl := plc_of_free hT ⟨hp.1, hp.2.1⟩ hp.2.2
    have ht := tok_push (lev := lev) (y := y) hT ⟨hp.1, hp.2.1⟩ hpl
    refine ⟨h, by unfold setT; rw [if_pos h], ht, hp.1, hp.2.1, hp.2.2, (vOf_setV hT ⟨hp.1, hp.2.1⟩ hpl).symm, ?_⟩
    rw [valT_set ht ⟨hp.1, hp.2.1⟩ (x := (l, lev, y)) (i := L.length) (by simp) rfl, if_pos rfl]
  · exact .inr ⟨h, by unfold setT; rw [if_neg h]⟩
theorem setE_known {n : Nat} {L : List T3} {l : Int} (h : 0 ≤ l ∧ l ≤ 2 * (n : Int) + 1) : (setE n L l = 7 ∧ valT n L l = 1) ∨ (setE n L l = 11 ∧ valT n L l = 0) ∨ (setE n L l = 0 ∧ valT n L l = 2) := by
  unfold setE
  rw [if_neg (by omega)]
  by_cases h1 : valT n L l = 1
  · rw [if_pos h1]; exact .inl ⟨rfl, h1⟩
  · rw [if_neg h1]
    by_cases h0 : valT n L l = 0
    · rw [if_pos h0]; exact .inr (.inl ⟨rfl, h0⟩)
    · rw [if_neg h0]
      have := valT_range n L l
      exact .inr (.inr ⟨rfl, by omega⟩)
/-- The clauses of literals that are so are good. -/
theorem one_unit {n : Nat} {L : List T3} (hT : TOk n L) (hn : n ≤ 1048576) {x : Int} (h0 : 0 ≤ x ∧ x ≤ 2 * (n : Int) + 1) (h : valT n L x = 2) : uC (vOf n L) (-1) [x] = x :=
  uC_has (V := vOf n L) (l := x) ⟨h0.1, by omega⟩ [x] (-1) (fun y hy => by
    obtain rfl := List.mem_singleton.1 hy
    rw [lit3_vOf hT hn, h]; exact ⟨by decide, fun _ => rfl⟩) (.inl rfl) (.inr ⟨by simp, by rw [lit3_vOf hT hn]; exact h⟩)
theorem rch_gc {n : List (Int × Int)} {l : List Int} {cs : List (List Int)} {U V : List Int} (h : Rch (GC n) U V) : Rch (CL n l cs) U V := h.mono fun c hc => .inr (.inl hc)

set_option maxHeartbeats 32000000 in
theorem imply_Close (ra rl rm : Option Addr) (ca cl cm : Nat) (n : List (Int × Int)) (l : List Int) (more : List (RowV Int)) (w : World) (R : Row 2 encN w ra n) (hna : ra = none → ca = 0) (Rl : Row 1 encI w rl l) (Rm : Row 1 encRow w rm more) (hm : ∀ q ∈ more, Row 1 encI w q.1 q.2.2) (hg : GoodNet n) (hn : n.length ≤ 1000)
    (hl64 : ∀ x ∈ l, x ≤ 9223372036854775807) (hm64 : ∀ q ∈ more, ∀ x ∈ q.2.2, x ≤ 9223372036854775807) :
    Lt.Spec Try.prog 43 [.slice ra n.length ca, .slice rl l.length cl, .slice rm more.length cm] w (fun v w' => Ext w w' ∧ ((v = .tuple #[.slice none 0 0, .bool false] ∧ (KnownP n l → Out (CL n l (more.map (·.2.2))) (free0 n.length) none)) ∨ ∃ a c out, v = .tuple #[.slice a out.length c, .bool true] ∧ Row 1 encI w' a out ∧ KnownP n l ∧ Out (CL n l (more.map (·.2.2))) (free0 n.length) (some out))) := by
  have hll := Rl.len
  have hml := Rm.len
  have hn' : n.length ≤ 1048576 := by omega
  refine Spec.of _ Try.func43 rfl Try.ntmps43 (by kernel_rfl) rfl ?_
  repeat' (first
    | (((show WL _ _ _ (⟨_, .call ⟨.value (.func 48), _, _⟩, _, _, _, _⟩ :: _) _ _ _); apply WL.call; exact rfl; exact rfl; exact rfl; exact rfl; exact trail_New n.length hn w w (Ext.refl _); rintro v' w1 ⟨hX1, gt, rfl, hA1⟩))
    | (((show WL _ _ _ (⟨_, .call ⟨.value (.func 49), _, _⟩, _, _, _, _⟩ :: _) _ _ _); apply WL.call; exact rfl; exact rfl; exact rfl; exact rfl; exact imply_New _ _ n _ (R.ext (by (exact extA))) hna hg (by omega); rintro v' w2 ⟨hX2, gr, an, cn, ao, co, rs, rfl, hD2⟩))
    | ((show WL _ _ _ (⟨_, .call ⟨.value (.func 94), _, _⟩, _, _, _, _⟩ :: _) _ _ _); apply WL.callP; exact rfl; exact rfl; exact rfl; exact rfl; exact imply_known _ _ _ _ n l _ (Rl.ext (by (exact extA))) hl64; intro w' hx)
    | (show WL _ _ _ _ _ _ _; first | apply WL.nil | (apply WL.pev tOk; exact rfl; exact rfl; exact rfl) | (apply WL.load tOk; exact rfl; exact rfl; exact rfl; exact rfl; exact rfl; (first | assumption | (focus (apply Ext.cell; rotate_left; assumption; (exact extA); done)))) | (apply WL.index tOk; exact rfl; exact rfl; exact rfl; exact rfl; exact rfl; exact rfl; exact rfl; exact rfl; assumption; (exact extA); exact rfl; omega; assumption; intro b off h; have hcc := h; first | (obtain ⟨h1, h2, h3, h4, h5, h6, _⟩ := h) | (obtain ⟨h1, h2, h3, _⟩ := h) | (obtain ⟨h1, h2, _⟩ := h) | (obtain ⟨h1, _⟩ := h)) | (apply WL.add; exact rfl; exact rfl; exact rfl; exact rfl; omega) | (apply WL.sub; exact rfl; exact rfl; exact rfl; exact rfl; omega) | (apply WL.mul; exact rfl; exact rfl; exact rfl; exact rfl; omega) | (apply WL.quo; exact rfl; exact rfl; exact rfl; exact rfl; omega) | (apply WL.rem; exact rfl; exact rfl; exact rfl; exact rfl; omega) | (apply WL.loadA tOk; exact rfl; exact rfl; exact rfl; exact rfl; exact rfl; (first | assumption | (focus (apply Cells.ext; rotate_left; assumption; (exact extA); done))); exact rfl) | (apply WL.guardF; exact rfl; exact rfl) | (apply WL.gD; exact rfl; exact rfl; all_goals intro _) | (apply WL.gN; exact rfl; exact rfl; all_goals intro _) | (apply WL.gB; exact rfl; exact rfl; all_goals intro _))
    | (show Z _ _ _ _ _; first | apply Z.tail | apply Z.then_normal | apply Z.block_normal | apply Z.then_exit | apply Z.block_exit | apply Z.then_ret | apply Z.block_ret | (apply Z.block_other; exact rfl))
    | (show W _ _ _ _ _ _; first | apply W.seq | apply W.region | apply W.block | apply W.skip | apply W.ret | apply W.exit))
  by_cases hkn : KnownP n l
  rotate_left
  · refine W.condKT rfl (by rw [dec_false hkn]; rfl) ?_
    repeat' (first
      | (show WL _ _ _ _ _ _ _; first | apply WL.nil | (apply WL.pev tOk; exact rfl; exact rfl; exact rfl) | (apply WL.load tOk; exact rfl; exact rfl; exact rfl; exact rfl; exact rfl; (first | assumption | (focus (apply Ext.cell; rotate_left; assumption; (exact extA); done)))) | (apply WL.index tOk; exact rfl; exact rfl; exact rfl; exact rfl; exact rfl; exact rfl; exact rfl; exact rfl; assumption; (exact extA); exact rfl; omega; assumption; intro b off h; have hcc := h; first | (obtain ⟨h1, h2, h3, h4, h5, h6, _⟩ := h) | (obtain ⟨h1, h2, h3, _⟩ := h) | (obtain ⟨h1, h2, _⟩ := h) | (obtain ⟨h1, _⟩ := h)) | (apply WL.add; exact rfl; exact rfl; exact rfl; exact rfl; omega) | (apply WL.sub; exact rfl; exact rfl; exact rfl; exact rfl; omega) | (apply WL.mul; exact rfl; exact rfl; exact rfl; exact rfl; omega) | (apply WL.quo; exact rfl; exact rfl; exact rfl; exact rfl; omega) | (apply WL.rem; exact rfl; exact rfl; exact rfl; exact rfl; omega) | (apply WL.loadA tOk; exact rfl; exact rfl; exact rfl; exact rfl; exact rfl; (first | assumption | (focus (apply Cells.ext; rotate_left; assumption; (exact extA); done))); exact rfl) | (apply WL.guardF; exact rfl; exact rfl) | (apply WL.gD; exact rfl; exact rfl; all_goals intro _) | (apply WL.gN; exact rfl; exact rfl; all_goals intro _) | (apply WL.gB; exact rfl; exact rfl; all_goals intro _))
      | (show Z _ _ _ _ _; first | apply Z.tail | apply Z.then_normal | apply Z.block_normal | apply Z.then_exit | apply Z.block_exit | apply Z.then_ret | apply Z.block_ret | (apply Z.block_other; exact rfl))
      | (show W _ _ _ _ _ _; first | apply W.seq | apply W.region | apply W.block | apply W.skip | apply W.ret | apply W.exit | (apply W.condT; exact rfl) | (apply W.condF; exact rfl) | (apply W.condD; exact rfl; all_goals intro _) | (apply W.condN; exact rfl; all_goals intro _) | (apply W.condB; exact rfl; all_goals intro _)))
    exact Z.body2 Try.results43 rfl rfl fun m => ⟨Ext.at (by (exact extA)) m, .inl ⟨rfl, fun h => absurd h hkn⟩⟩
  refine W.condKF rfl (by rw [dec_true hkn]; rfl) ?_
  have hlit := CL.lits hg hn' hkn (cs := more.map (·.2.2))
  have hf0 : OkV (n.length + 1) (free0 n.length) := by have := free0_ok n.length; rwa [show (free0 n.length).length = n.length + 1 by simp] at this
  -- the rules stay as they are
  have hA2 : TrAt w.heap.size w2 gt n.length [] [] ([] ++ frz w1.heap.size w2) := hA1.freeze hX2 hX1.size
  rw [List.nil_append] at hA2
  generalize hrest : frz w1.heap.size w2 = rest at hA2
  have HD : KeepsT w gt n [] rest (fun w' => RulesD w1.heap.size w' gr n an cn ao co rs) := fun w3 L3 h1 h2 => hD2.keep fun k k1 k2 => by
    subst hrest
    obtain ⟨av, cv, am, cm', M, al, cl', ae, ce, _, hS⟩ := h2
    exact hS.frozen k1 k2
  have HR : KeepsT w gt n [] rest (fun w' => RulesAt w1.heap.size w' gr n) := fun w' Lr' h1 h2 => ⟨_, _, _, _, _, HD w' Lr' h1 h2⟩
  have hset : ∀ (w3 : World) (L : List T3) (rst : List Piece) (x : Int), Ext w w3 → TrAt w.heap.size w3 gt n.length L [] rst → TOk n.length L → x ≤ 9223372036854775807 → Lt.Spec Try.prog 52 [.pointer (some ⟨gt, 0, none⟩), .int .i64 x, .int .i64 (-1)] w3 (fun v w' => Ext w w' ∧ v = .int .i64 (setE n.length L x) ∧ TrAt w.heap.size w' gt n.length (setT n.length L x 0 (-1)) [] rst) := fun w3 L rst x h1 h2 h3 h4 => by
    obtain ⟨av, cv, am, cm', M, al, cl', ae, ce, hM, hS⟩ := h2
    exact trail_Set h1 hS h3 hM (by omega) (by have := h3.len_le; omega) x (-1) h4
  have hvals : ∀ (w3 : World) (L : List T3) (rst : List Piece), TrAt w.heap.size w3 gt n.length L [] rst → Lt.Spec Try.prog 54 [.pointer (some ⟨gt, 0, none⟩)] w3 (IsFresh 1 encI 3 w3 (vOf n.length L)) := fun w3 L rst h => by
    obtain ⟨av, cv, am, cm', M, al, cl', ae, ce, hM, hS⟩ := h
    exact trail_Values hS (vOf_len _ _) (by omega)
  have hX02 : Ext w w2 := hX1.trans hX2
  repeat' (first
    | (show WL _ _ _ _ _ _ _; first | apply WL.nil | (apply WL.pev tOk; exact rfl; exact rfl; exact rfl) | (apply WL.load tOk; exact rfl; exact rfl; exact rfl; exact rfl; exact rfl; (first | assumption | (focus (apply Ext.cell; rotate_left; assumption; (exact extA); done)))) | (apply WL.index tOk; exact rfl; exact rfl; exact rfl; exact rfl; exact rfl; exact rfl; exact rfl; exact rfl; assumption; (exact extA); exact rfl; omega; assumption; intro b off h; have hcc := h; first | (obtain ⟨h1, h2, h3, h4, h5, h6, _⟩ := h) | (obtain ⟨h1, h2, h3, _⟩ := h) | (obtain ⟨h1, h2, _⟩ := h) | (obtain ⟨h1, _⟩ := h)) | (apply WL.add; exact rfl; exact rfl; exact rfl; exact rfl; omega) | (apply WL.sub; exact rfl; exact rfl; exact rfl; exact rfl; omega) | (apply WL.mul; exact rfl; exact rfl; exact rfl; exact rfl; omega) | (apply WL.quo; exact rfl; exact rfl; exact rfl; exact rfl; omega) | (apply WL.rem; exact rfl; exact rfl; exact rfl; exact rfl; omega) | (apply WL.loadA tOk; exact rfl; exact rfl; exact rfl; exact rfl; exact rfl; (first | assumption | (focus (apply Cells.ext; rotate_left; assumption; (exact extA); done))); exact rfl) | (apply WL.guardF; exact rfl; exact rfl) | (apply WL.gD; exact rfl; exact rfl; all_goals intro _) | (apply WL.gN; exact rfl; exact rfl; all_goals intro _) | (apply WL.gB; exact rfl; exact rfl; all_goals intro _))
    | (show Z _ _ _ _ _; first | apply Z.tail | apply Z.then_normal | apply Z.block_normal | apply Z.then_exit | apply Z.block_exit | apply Z.then_ret | apply Z.block_ret | (apply Z.block_other; exact rfl))
    | (show W _ _ _ _ _ _; first | apply W.seq | apply W.region | apply W.block | apply W.skip | apply W.ret | apply W.exit | (apply W.condT; exact rfl) | (apply W.condF; exact rfl) | (apply W.condD; exact rfl; all_goals intro _) | (apply W.condN; exact rfl; all_goals intro _) | (apply W.condB; exact rfl; all_goals intro _)))
  refine W.loop (fun s : Nat × List T3 × World => s.1 ≤ l.length ∧ Ext w s.2.2 ∧ TrAt w.heap.size s.2.2 gt n.length s.2.1 [] rest ∧ TOk n.length s.2.1 ∧ Rch (CL n l (more.map (·.2.2))) (free0 n.length) (vOf n.length s.2.1) ∧ ∀ x ∈ l.take s.1, valT n.length s.2.1 x = 1) (fun s => [(0, .slice ra n.length ca), (1, .slice rl l.length cl), (2, .slice rm more.length cm), (8, .pointer (some ⟨gt, 0, none⟩)), (9, .pointer (some ⟨gr, 0, none⟩)), (10, .int .i64 0), (30, .slice rl l.length cl), (31, .int .i64 l.length), (32, .int .i64 s.1)]) (fun s => s.2.2) (fun s => l.length - s.1) (0, [], w') ⟨Nat.zero_le _, hX02.trans hx, hA2.ext hx, TOk.nil _, by rw [vOf_nil]; exact .base, fun x h => by simp at h⟩ ⟨rfl, rfl, rfl, rfl, rfl, rfl, rfl, rfl, rfl, trivial⟩ rfl ?_
  rintro ⟨i, L, w3⟩ ⟨hi, hX3, hA3, hT3, hR3, hS3⟩
  dsimp only at hi hX3 hA3 hT3 hR3 hS3
  by_cases hlt : i < l.length
  · obtain ⟨x, hxl⟩ := getI l hlt
    have hxm := List.mem_of_getElem? hxl
    have hxk := hkn x hxm
    have hsx := hset w3 L rest x hX3 hA3 hT3 (hl64 x hxm)
    have Rl3 := Rl.ext hX3
    rcases setE_known (L := L) hxk with ⟨e1, e2⟩ | ⟨e1, e2⟩ | ⟨e1, e2⟩
    · rw [e1] at hsx
      repeat' (first
        | (apply WL.gT; exact rfl; exact rfl; (focus (first | exact dec_true (by omega) | exact dec_false (by decide); done)))
        | (apply WL.gF; exact rfl; exact rfl; (focus (first | exact dec_true (by omega) | exact dec_false (by decide); done)))
        | (apply W.condKT; exact rfl; (focus (first | exact dec_true (by omega) | exact dec_false (by decide); done)))
        | (apply W.condKF; exact rfl; (focus (first | exact dec_true (by omega) | exact dec_false (by decide); done)))
        | (((show WL _ _ _ (⟨_, .call ⟨.value (.func 52), _, _⟩, _, _, _, _⟩ :: _) _ _ _); apply WL.call; exact rfl; exact rfl; exact rfl; exact rfl; exact hsx; rintro v' w4 ⟨hX4, rfl, hA4⟩))
        | (show WL _ _ _ _ _ _ _; first | apply WL.nil | (apply WL.pev tOk; exact rfl; exact rfl; exact rfl) | (apply WL.load tOk; exact rfl; exact rfl; exact rfl; exact rfl; exact rfl; (first | assumption | (focus (apply Ext.cell; rotate_left; assumption; (exact extA); done)))) | (apply WL.index tOk; exact rfl; exact rfl; exact rfl; exact rfl; exact rfl; exact rfl; exact rfl; exact rfl; assumption; (exact extA); exact rfl; omega; assumption; intro b off h; have hcc := h; first | (obtain ⟨h1, h2, h3, h4, h5, h6, _⟩ := h) | (obtain ⟨h1, h2, h3, _⟩ := h) | (obtain ⟨h1, h2, _⟩ := h) | (obtain ⟨h1, _⟩ := h)) | (apply WL.add; exact rfl; exact rfl; exact rfl; exact rfl; omega) | (apply WL.sub; exact rfl; exact rfl; exact rfl; exact rfl; omega) | (apply WL.mul; exact rfl; exact rfl; exact rfl; exact rfl; omega) | (apply WL.quo; exact rfl; exact rfl; exact rfl; exact rfl; omega) | (apply WL.rem; exact rfl; exact rfl; exact rfl; exact rfl; omega) | (apply WL.loadA tOk; exact rfl; exact rfl; exact rfl; exact rfl; exact rfl; (first | assumption | (focus (apply Cells.ext; rotate_left; assumption; (exact extA); done))); exact rfl) | (apply WL.guardF; exact rfl; exact rfl) | (apply WL.gD; exact rfl; exact rfl; all_goals intro _) | (apply WL.gN; exact rfl; exact rfl; all_goals intro _) | (apply WL.gB; exact rfl; exact rfl; all_goals intro _))
        | (show Z _ _ _ _ _; first | apply Z.tail | apply Z.then_normal | apply Z.block_normal | apply Z.then_exit | apply Z.block_exit | apply Z.then_ret | apply Z.block_ret | (apply Z.block_other; exact rfl))
        | (show W _ _ _ _ _ _; first | apply W.seq | apply W.region | apply W.block | apply W.skip | apply W.ret | apply W.exit | (apply W.condT; exact rfl) | (apply W.condF; exact rfl) | (apply W.condD; exact rfl; all_goals intro _) | (apply W.condN; exact rfl; all_goals intro _) | (apply W.condB; exact rfl; all_goals intro _)))
      rcases set_ways hT3 x 0 (-1) with h | ⟨_, h⟩
      · rw [e1] at h; exact absurd h.1 (by decide)
      rw [h] at hA4
      exact Z.again (i + 1, L, w4) ⟨by show i + 1 ≤ _; omega, hX4, hA4, hT3, hR3, fun z hz => by
        rw [take_succ' hxl] at hz
        rcases List.mem_append.1 hz with hz | hz
        · exact hS3 z hz
        · rw [List.mem_singleton.1 hz]; exact e2⟩ (by show l.length - (i + 1) < l.length - i; omega) ⟨rfl, rfl, rfl, rfl, rfl, rfl, rfl, rfl, rfl, trivial⟩ rfl
    · rw [e1] at hsx
      repeat' (first
        | (apply WL.gT; exact rfl; exact rfl; (focus (first | exact dec_true (by omega) | exact dec_true rfl; done)))
        | (apply WL.gF; exact rfl; exact rfl; (focus (first | exact dec_true (by omega) | exact dec_true rfl; done)))
        | (apply W.condKT; exact rfl; (focus (first | exact dec_true (by omega) | exact dec_true rfl; done)))
        | (apply W.condKF; exact rfl; (focus (first | exact dec_true (by omega) | exact dec_true rfl; done)))
        | (((show WL _ _ _ (⟨_, .call ⟨.value (.func 52), _, _⟩, _, _, _, _⟩ :: _) _ _ _); apply WL.call; exact rfl; exact rfl; exact rfl; exact rfl; exact hsx; rintro v' w4 ⟨hX4, rfl, hA4⟩))
        | (show WL _ _ _ _ _ _ _; first | apply WL.nil | (apply WL.pev tOk; exact rfl; exact rfl; exact rfl) | (apply WL.load tOk; exact rfl; exact rfl; exact rfl; exact rfl; exact rfl; (first | assumption | (focus (apply Ext.cell; rotate_left; assumption; (exact extA); done)))) | (apply WL.index tOk; exact rfl; exact rfl; exact rfl; exact rfl; exact rfl; exact rfl; exact rfl; exact rfl; assumption; (exact extA); exact rfl; omega; assumption; intro b off h; have hcc := h; first | (obtain ⟨h1, h2, h3, h4, h5, h6, _⟩ := h) | (obtain ⟨h1, h2, h3, _⟩ := h) | (obtain ⟨h1, h2, _⟩ := h) | (obtain ⟨h1, _⟩ := h)) | (apply WL.add; exact rfl; exact rfl; exact rfl; exact rfl; omega) | (apply WL.sub; exact rfl; exact rfl; exact rfl; exact rfl; omega) | (apply WL.mul; exact rfl; exact rfl; exact rfl; exact rfl; omega) | (apply WL.quo; exact rfl; exact rfl; exact rfl; exact rfl; omega) | (apply WL.rem; exact rfl; exact rfl; exact rfl; exact rfl; omega) | (apply WL.loadA tOk; exact rfl; exact rfl; exact rfl; exact rfl; exact rfl; (first | assumption | (focus (apply Cells.ext; rotate_left; assumption; (exact extA); done))); exact rfl) | (apply WL.guardF; exact rfl; exact rfl) | (apply WL.gD; exact rfl; exact rfl; all_goals intro _) | (apply WL.gN; exact rfl; exact rfl; all_goals intro _) | (apply WL.gB; exact rfl; exact rfl; all_goals intro _))
        | (show Z _ _ _ _ _; first | apply Z.tail | apply Z.then_normal | apply Z.block_normal | apply Z.then_exit | apply Z.block_exit | apply Z.then_ret | apply Z.block_ret | (apply Z.block_other; exact rfl))
        | (show W _ _ _ _ _ _; first | apply W.seq | apply W.region | apply W.block | apply W.skip | apply W.ret | apply W.exit | (apply W.condT; exact rfl) | (apply W.condF; exact rfl) | (apply W.condD; exact rfl; all_goals intro _) | (apply W.condN; exact rfl; all_goals intro _) | (apply W.condB; exact rfl; all_goals intro _)))
      exact Z.body2 Try.results43 rfl rfl fun m => ⟨hX4.at m, .inl ⟨rfl, fun _ => ⟨vOf n.length L, [x], hR3, .inl ⟨x, hxm, rfl⟩, (vC_zero [x]).2 fun y hy => by
        rw [List.mem_singleton.1 hy, lit3_vOf hT3 hn', e2]; decide⟩⟩⟩
    · rw [e1] at hsx
      repeat' (first
        | (apply WL.gT; exact rfl; exact rfl; (focus (first | exact dec_true (by omega) | exact dec_false (by decide); done)))
        | (apply WL.gF; exact rfl; exact rfl; (focus (first | exact dec_true (by omega) | exact dec_false (by decide); done)))
        | (apply W.condKT; exact rfl; (focus (first | exact dec_true (by omega) | exact dec_false (by decide); done)))
        | (apply W.condKF; exact rfl; (focus (first | exact dec_true (by omega) | exact dec_false (by decide); done)))
        | (((show WL _ _ _ (⟨_, .call ⟨.value (.func 52), _, _⟩, _, _, _, _⟩ :: _) _ _ _); apply WL.call; exact rfl; exact rfl; exact rfl; exact rfl; exact hsx; rintro v' w4 ⟨hX4, rfl, hA4⟩))
        | (show WL _ _ _ _ _ _ _; first | apply WL.nil | (apply WL.pev tOk; exact rfl; exact rfl; exact rfl) | (apply WL.load tOk; exact rfl; exact rfl; exact rfl; exact rfl; exact rfl; (first | assumption | (focus (apply Ext.cell; rotate_left; assumption; (exact extA); done)))) | (apply WL.index tOk; exact rfl; exact rfl; exact rfl; exact rfl; exact rfl; exact rfl; exact rfl; exact rfl; assumption; (exact extA); exact rfl; omega; assumption; intro b off h; have hcc := h; first | (obtain ⟨h1, h2, h3, h4, h5, h6, _⟩ := h) | (obtain ⟨h1, h2, h3, _⟩ := h) | (obtain ⟨h1, h2, _⟩ := h) | (obtain ⟨h1, _⟩ := h)) | (apply WL.add; exact rfl; exact rfl; exact rfl; exact rfl; omega) | (apply WL.sub; exact rfl; exact rfl; exact rfl; exact rfl; omega) | (apply WL.mul; exact rfl; exact rfl; exact rfl; exact rfl; omega) | (apply WL.quo; exact rfl; exact rfl; exact rfl; exact rfl; omega) | (apply WL.rem; exact rfl; exact rfl; exact rfl; exact rfl; omega) | (apply WL.loadA tOk; exact rfl; exact rfl; exact rfl; exact rfl; exact rfl; (first | assumption | (focus (apply Cells.ext; rotate_left; assumption; (exact extA); done))); exact rfl) | (apply WL.guardF; exact rfl; exact rfl) | (apply WL.gD; exact rfl; exact rfl; all_goals intro _) | (apply WL.gN; exact rfl; exact rfl; all_goals intro _) | (apply WL.gB; exact rfl; exact rfl; all_goals intro _))
        | (show Z _ _ _ _ _; first | apply Z.tail | apply Z.then_normal | apply Z.block_normal | apply Z.then_exit | apply Z.block_exit | apply Z.then_ret | apply Z.block_ret | (apply Z.block_other; exact rfl))
        | (show W _ _ _ _ _ _; first | apply W.seq | apply W.region | apply W.block | apply W.skip | apply W.ret | apply W.exit | (apply W.condT; exact rfl) | (apply W.condF; exact rfl) | (apply W.condD; exact rfl; all_goals intro _) | (apply W.condN; exact rfl; all_goals intro _) | (apply W.condB; exact rfl; all_goals intro _)))
      rcases set_ways hT3 x 0 (-1) with ⟨_, h1, h2, h3, h4, h5, h6, h7⟩ | ⟨h, _⟩
      rotate_left
      · exact absurd e1 h
      rw [h1] at hA4
      refine Z.again (i + 1, L ++ [(x, 0, -1)], w4) ⟨by show i + 1 ≤ _; omega, hX4, hA4, h2, ?_, fun z hz => ?_⟩ (by show l.length - (i + 1) < l.length - i; omega) ⟨rfl, rfl, rfl, rfl, rfl, rfl, rfl, rfl, rfl, trivial⟩ rfl
      · have hu := one_unit hT3 hn' hxk e2
        have := Rch.step hR3 (c := [x]) (.inl ⟨x, hxm, rfl⟩) (by rw [hu]; exact h3)
        rw [hu, ← h6] at this
        exact this
      · rw [take_succ' hxl] at hz
        rcases List.mem_append.1 hz with hz | hz
        · rw [valT_keep h2 (by rw [hS3 z hz]; decide)]; exact hS3 z hz
        · rw [List.mem_singleton.1 hz]; exact h7
  obtain rfl : i = l.length := by omega
  rw [List.take_length] at hS3
  repeat' (first
    | (apply WL.gT; exact rfl; exact rfl; (focus (exact dec_false (by show ¬ ((l.length : Nat) : Int) < _; omega); done)))
    | (apply WL.gF; exact rfl; exact rfl; (focus (exact dec_false (by show ¬ ((l.length : Nat) : Int) < _; omega); done)))
    | (apply W.condKT; exact rfl; (focus (exact dec_false (by show ¬ ((l.length : Nat) : Int) < _; omega); done)))
    | (apply W.condKF; exact rfl; (focus (exact dec_false (by show ¬ ((l.length : Nat) : Int) < _; omega); done)))
    | (show WL _ _ _ _ _ _ _; first | apply WL.nil | (apply WL.pev tOk; exact rfl; exact rfl; exact rfl) | (apply WL.load tOk; exact rfl; exact rfl; exact rfl; exact rfl; exact rfl; (first | assumption | (focus (apply Ext.cell; rotate_left; assumption; (exact extA); done)))) | (apply WL.index tOk; exact rfl; exact rfl; exact rfl; exact rfl; exact rfl; exact rfl; exact rfl; exact rfl; assumption; (exact extA); exact rfl; omega; assumption; intro b off h; have hcc := h; first | (obtain ⟨h1, h2, h3, h4, h5, h6, _⟩ := h) | (obtain ⟨h1, h2, h3, _⟩ := h) | (obtain ⟨h1, h2, _⟩ := h) | (obtain ⟨h1, _⟩ := h)) | (apply WL.add; exact rfl; exact rfl; exact rfl; exact rfl; omega) | (apply WL.sub; exact rfl; exact rfl; exact rfl; exact rfl; omega) | (apply WL.mul; exact rfl; exact rfl; exact rfl; exact rfl; omega) | (apply WL.quo; exact rfl; exact rfl; exact rfl; exact rfl; omega) | (apply WL.rem; exact rfl; exact rfl; exact rfl; exact rfl; omega) | (apply WL.loadA tOk; exact rfl; exact rfl; exact rfl; exact rfl; exact rfl; (first | assumption | (focus (apply Cells.ext; rotate_left; assumption; (exact extA); done))); exact rfl) | (apply WL.guardF; exact rfl; exact rfl) | (apply WL.gD; exact rfl; exact rfl; all_goals intro _) | (apply WL.gN; exact rfl; exact rfl; all_goals intro _) | (apply WL.gB; exact rfl; exact rfl; all_goals intro _))
    | (show Z _ _ _ _ _; first | apply Z.tail | apply Z.then_normal | apply Z.block_normal | apply Z.then_exit | apply Z.block_exit | apply Z.then_ret | apply Z.block_ret | (apply Z.block_other; exact rfl))
    | (show W _ _ _ _ _ _; first | apply W.seq | apply W.region | apply W.block | apply W.skip | apply W.ret | apply W.exit | (apply W.condT; exact rfl) | (apply W.condF; exact rfl) | (apply W.condD; exact rfl; all_goals intro _) | (apply W.condN; exact rfl; all_goals intro _) | (apply W.condB; exact rfl; all_goals intro _)))
  refine W.loop (fun s : Nat × List T3 × World => s.1 ≤ n.length ∧ Ext w s.2.2 ∧ TrAt w.heap.size s.2.2 gt n.length s.2.1 [] rest ∧ TOk n.length s.2.1 ∧ Rch (CL n l (more.map (·.2.2))) (free0 n.length) (vOf n.length s.2.1) ∧ (∀ x ∈ l, valT n.length s.2.1 x = 1) ∧ ∀ k, k < s.1 → GIf n 0 s.2.1 k) (fun s => [(0, .slice ra n.length ca), (2, .slice rm more.length cm), (8, .pointer (some ⟨gt, 0, none⟩)), (9, .pointer (some ⟨gr, 0, none⟩)), (10, .int .i64 0), (42, .int .i64 n.length), (43, .int .i64 s.1)]) (fun s => s.2.2) (fun s => n.length - s.1) (0, L, w3) ⟨Nat.zero_le _, hX3, hA3, hT3, hR3, hS3, fun k h => absurd h (Nat.not_lt_zero _)⟩ ⟨rfl, rfl, rfl, rfl, rfl, rfl, rfl, trivial⟩ rfl ?_
  clear hS3 hR3 hT3 hA3 hX3 hi
  clear hx
  rintro ⟨v, L, w4⟩ ⟨hv, hX4, hA4, hT4, hR4, hS4, hG4⟩
  dsimp only at hv hX4 hA4 hT4 hR4 hS4 hG4
  by_cases hlt : v < n.length
  · obtain ⟨x, hxn⟩ := getI n hlt
    by_cases h0 : 0 ≤ x.1
    · have hgt := imply_gate w1.heap.size gr gt n L [] rest w4 w hX4 hA4 hT4 HR hg hn' v x hxn h0
      have hL4 := hT4.len_le
      repeat' (first
        | (show WL _ _ _ _ _ _ _; first | apply WL.nil | (apply WL.pev tOk; exact rfl; exact rfl; exact rfl) | (apply WL.load tOk; exact rfl; exact rfl; exact rfl; exact rfl; exact rfl; (first | assumption | (focus (apply Ext.cell; rotate_left; assumption; (exact extA); done)))) | (apply WL.index tOk; exact rfl; exact rfl; exact rfl; exact rfl; exact rfl; exact rfl; exact rfl; exact rfl; assumption; (exact extA); exact rfl; omega; assumption; intro b off h; have hcc := h; first | (obtain ⟨h1, h2, h3, h4, h5, h6, _⟩ := h) | (obtain ⟨h1, h2, h3, _⟩ := h) | (obtain ⟨h1, h2, _⟩ := h) | (obtain ⟨h1, _⟩ := h)) | (apply WL.add; exact rfl; exact rfl; exact rfl; exact rfl; omega) | (apply WL.sub; exact rfl; exact rfl; exact rfl; exact rfl; omega) | (apply WL.mul; exact rfl; exact rfl; exact rfl; exact rfl; omega) | (apply WL.quo; exact rfl; exact rfl; exact rfl; exact rfl; omega) | (apply WL.rem; exact rfl; exact rfl; exact rfl; exact rfl; omega) | (apply WL.loadA tOk; exact rfl; exact rfl; exact rfl; exact rfl; exact rfl; (first | assumption | (focus (apply Cells.ext; rotate_left; assumption; (exact extA); done))); exact rfl) | (apply WL.guardF; exact rfl; exact rfl) | (apply WL.gD; exact rfl; exact rfl; all_goals intro _) | (apply WL.gN; exact rfl; exact rfl; all_goals intro _) | (apply WL.gB; exact rfl; exact rfl; all_goals intro _))
        | (show Z _ _ _ _ _; first | apply Z.tail | apply Z.then_normal | apply Z.block_normal | apply Z.then_exit | apply Z.block_exit | apply Z.then_ret | apply Z.block_ret | (apply Z.block_other; exact rfl))
        | (show W _ _ _ _ _ _; first | apply W.seq | apply W.region | apply W.block | apply W.skip | apply W.ret | apply W.exit))
      refine W.condKT rfl (dec_true (by show ((v : Nat) : Int) < _; omega)) ?_
      repeat' (first
        | (apply WL.gT; exact rfl; exact rfl; (focus (exact dec_true h0; done)))
        | (apply WL.gF; exact rfl; exact rfl; (focus (exact dec_true h0; done)))
        | (((show WL _ _ _ (⟨_, .call ⟨.value (.func 95), _, _⟩, _, _, _, _⟩ :: _) _ _ _); apply WL.call; exact rfl; exact rfl; exact rfl; exact rfl; exact hgt; rintro v' w5 ⟨hX5, D5, r5, rfl, hA5, hG5, hr5⟩))
        | (show WL _ _ _ _ _ _ _; first | apply WL.nil | (apply WL.pev tOk; exact rfl; exact rfl; exact rfl) | (apply WL.load tOk; exact rfl; exact rfl; exact rfl; exact rfl; exact rfl; (first | assumption | (focus (apply Ext.cell; rotate_left; assumption; (exact extA); done)))) | (apply WL.index tOk; exact rfl; exact rfl; exact rfl; exact rfl; exact rfl; exact rfl; exact rfl; exact rfl; assumption; (exact extA); exact rfl; omega; assumption; intro b off h; have hcc := h; first | (obtain ⟨h1, h2, h3, h4, h5, h6, _⟩ := h) | (obtain ⟨h1, h2, h3, _⟩ := h) | (obtain ⟨h1, h2, _⟩ := h) | (obtain ⟨h1, _⟩ := h)) | (apply WL.add; exact rfl; exact rfl; exact rfl; exact rfl; omega) | (apply WL.sub; exact rfl; exact rfl; exact rfl; exact rfl; omega) | (apply WL.mul; exact rfl; exact rfl; exact rfl; exact rfl; omega) | (apply WL.quo; exact rfl; exact rfl; exact rfl; exact rfl; omega) | (apply WL.rem; exact rfl; exact rfl; exact rfl; exact rfl; omega) | (apply WL.loadA tOk; exact rfl; exact rfl; exact rfl; exact rfl; exact rfl; (first | assumption | (focus (apply Cells.ext; rotate_left; assumption; (exact extA); done))); exact rfl) | (apply WL.guardF; exact rfl; exact rfl) | (apply WL.gD; exact rfl; exact rfl; all_goals intro _) | (apply WL.gN; exact rfl; exact rfl; all_goals intro _) | (apply WL.gB; exact rfl; exact rfl; all_goals intro _))
        | (show Z _ _ _ _ _; first | apply Z.tail | apply Z.then_normal | apply Z.block_normal | apply Z.then_exit | apply Z.block_exit | apply Z.then_ret | apply Z.block_ret | (apply Z.block_other; exact rfl))
        | (show W _ _ _ _ _ _; first | apply W.seq | apply W.region | apply W.block | apply W.skip | apply W.ret | apply W.exit))
      have hR5 := hR4.trans (rch_gc (l := l) (cs := more.map (·.2.2)) hG5.rch)
      rcases hr5 with ⟨rfl, hgood⟩ | ⟨j, hj, rfl, hz5⟩
      · repeat' (first
          | (apply WL.gT; exact rfl; exact rfl; (focus (exact dec_false (by omega); done)))
          | (apply WL.gF; exact rfl; exact rfl; (focus (exact dec_false (by omega); done)))
          | (apply W.condKT; exact rfl; (focus (exact dec_false (by omega); done)))
          | (apply W.condKF; exact rfl; (focus (exact dec_false (by omega); done)))
          | (show WL _ _ _ _ _ _ _; first | apply WL.nil | (apply WL.pev tOk; exact rfl; exact rfl; exact rfl) | (apply WL.load tOk; exact rfl; exact rfl; exact rfl; exact rfl; exact rfl; (first | assumption | (focus (apply Ext.cell; rotate_left; assumption; (exact extA); done)))) | (apply WL.index tOk; exact rfl; exact rfl; exact rfl; exact rfl; exact rfl; exact rfl; exact rfl; exact rfl; assumption; (exact extA); exact rfl; omega; assumption; intro b off h; have hcc := h; first | (obtain ⟨h1, h2, h3, h4, h5, h6, _⟩ := h) | (obtain ⟨h1, h2, h3, _⟩ := h) | (obtain ⟨h1, h2, _⟩ := h) | (obtain ⟨h1, _⟩ := h)) | (apply WL.add; exact rfl; exact rfl; exact rfl; exact rfl; omega) | (apply WL.sub; exact rfl; exact rfl; exact rfl; exact rfl; omega) | (apply WL.mul; exact rfl; exact rfl; exact rfl; exact rfl; omega) | (apply WL.quo; exact rfl; exact rfl; exact rfl; exact rfl; omega) | (apply WL.rem; exact rfl; exact rfl; exact rfl; exact rfl; omega) | (apply WL.loadA tOk; exact rfl; exact rfl; exact rfl; exact rfl; exact rfl; (first | assumption | (focus (apply Cells.ext; rotate_left; assumption; (exact extA); done))); exact rfl) | (apply WL.guardF; exact rfl; exact rfl) | (apply WL.gD; exact rfl; exact rfl; all_goals intro _) | (apply WL.gN; exact rfl; exact rfl; all_goals intro _) | (apply WL.gB; exact rfl; exact rfl; all_goals intro _))
          | (show Z _ _ _ _ _; first | apply Z.tail | apply Z.then_normal | apply Z.block_normal | apply Z.then_exit | apply Z.block_exit | apply Z.then_ret | apply Z.block_ret | (apply Z.block_other; exact rfl))
          | (show W _ _ _ _ _ _; first | apply W.seq | apply W.region | apply W.block | apply W.skip | apply W.ret | apply W.exit | (apply W.condT; exact rfl) | (apply W.condF; exact rfl) | (apply W.condD; exact rfl; all_goals intro _) | (apply W.condN; exact rfl; all_goals intro _) | (apply W.condB; exact rfl; all_goals intro _)))
        refine Z.again (v + 1, L ++ D5, w5) ⟨by show v + 1 ≤ _; omega, hX5, hA5, hG5.tok, hR5, fun z hz => by rw [valT_keep hG5.tok (by rw [hS4 z hz]; decide)]; exact hS4 z hz, fun k hk => ?_⟩ (by show n.length - (v + 1) < n.length - v; omega) ⟨rfl, rfl, rfl, rfl, rfl, rfl, rfl, trivial⟩ rfl
        by_cases he : k = v
        · subst he
          refine GIf.called (Nat.zero_le _) (fun x' hx' y' hy' => ?_) (fun hD x' hx' r hr => ?_)
          · rw [hxn] at hx'; cases hx'; exact hG5.vars y' hy'
          · rw [hxn] at hx'; cases hx'; exact hgood hD r hr
        · exact GIf.push hg hn' hG5.tok (Nat.zero_le _) (hG4 k (by have : k < v + 1 := hk; omega))
      · repeat' (first
          | (apply WL.gT; exact rfl; exact rfl; (focus (exact dec_true (by omega); done)))
          | (apply WL.gF; exact rfl; exact rfl; (focus (exact dec_true (by omega); done)))
          | (apply W.condKT; exact rfl; (focus (exact dec_true (by omega); done)))
          | (apply W.condKF; exact rfl; (focus (exact dec_true (by omega); done)))
          | (show WL _ _ _ _ _ _ _; first | apply WL.nil | (apply WL.pev tOk; exact rfl; exact rfl; exact rfl) | (apply WL.load tOk; exact rfl; exact rfl; exact rfl; exact rfl; exact rfl; (first | assumption | (focus (apply Ext.cell; rotate_left; assumption; (exact extA); done)))) | (apply WL.index tOk; exact rfl; exact rfl; exact rfl; exact rfl; exact rfl; exact rfl; exact rfl; exact rfl; assumption; (exact extA); exact rfl; omega; assumption; intro b off h; have hcc := h; first | (obtain ⟨h1, h2, h3, h4, h5, h6, _⟩ := h) | (obtain ⟨h1, h2, h3, _⟩ := h) | (obtain ⟨h1, h2, _⟩ := h) | (obtain ⟨h1, _⟩ := h)) | (apply WL.add; exact rfl; exact rfl; exact rfl; exact rfl; omega) | (apply WL.sub; exact rfl; exact rfl; exact rfl; exact rfl; omega) | (apply WL.mul; exact rfl; exact rfl; exact rfl; exact rfl; omega) | (apply WL.quo; exact rfl; exact rfl; exact rfl; exact rfl; omega) | (apply WL.rem; exact rfl; exact rfl; exact rfl; exact rfl; omega) | (apply WL.loadA tOk; exact rfl; exact rfl; exact rfl; exact rfl; exact rfl; (first | assumption | (focus (apply Cells.ext; rotate_left; assumption; (exact extA); done))); exact rfl) | (apply WL.guardF; exact rfl; exact rfl) | (apply WL.gD; exact rfl; exact rfl; all_goals intro _) | (apply WL.gN; exact rfl; exact rfl; all_goals intro _) | (apply WL.gB; exact rfl; exact rfl; all_goals intro _))
          | (show Z _ _ _ _ _; first | apply Z.tail | apply Z.then_normal | apply Z.block_normal | apply Z.then_exit | apply Z.block_exit | apply Z.then_ret | apply Z.block_ret | (apply Z.block_other; exact rfl))
          | (show W _ _ _ _ _ _; first | apply W.seq | apply W.region | apply W.block | apply W.skip | apply W.ret | apply W.exit | (apply W.condT; exact rfl) | (apply W.condF; exact rfl) | (apply W.condD; exact rfl; all_goals intro _) | (apply W.condN; exact rfl; all_goals intro _) | (apply W.condB; exact rfl; all_goals intro _)))
        exact Z.body2 Try.results43 rfl rfl fun m => ⟨hX5.at m, .inl ⟨rfl, fun _ => ⟨_, _, hR5, .inr (.inl ⟨v, j, x, hxn, hj, h0, rfl⟩), hz5⟩⟩⟩
    · repeat' (first
        | (apply WL.gT; exact rfl; exact rfl; (focus (first | exact dec_true (by show ((v : Nat) : Int) < _; omega) | exact dec_false h0; done)))
        | (apply WL.gF; exact rfl; exact rfl; (focus (first | exact dec_true (by show ((v : Nat) : Int) < _; omega) | exact dec_false h0; done)))
        | (apply W.condKT; exact rfl; (focus (first | exact dec_true (by show ((v : Nat) : Int) < _; omega) | exact dec_false h0; done)))
        | (apply W.condKF; exact rfl; (focus (first | exact dec_true (by show ((v : Nat) : Int) < _; omega) | exact dec_false h0; done)))
        | (show WL _ _ _ _ _ _ _; first | apply WL.nil | (apply WL.pev tOk; exact rfl; exact rfl; exact rfl) | (apply WL.load tOk; exact rfl; exact rfl; exact rfl; exact rfl; exact rfl; (first | assumption | (focus (apply Ext.cell; rotate_left; assumption; (exact extA); done)))) | (apply WL.index tOk; exact rfl; exact rfl; exact rfl; exact rfl; exact rfl; exact rfl; exact rfl; exact rfl; assumption; (exact extA); exact rfl; omega; assumption; intro b off h; have hcc := h; first | (obtain ⟨h1, h2, h3, h4, h5, h6, _⟩ := h) | (obtain ⟨h1, h2, h3, _⟩ := h) | (obtain ⟨h1, h2, _⟩ := h) | (obtain ⟨h1, _⟩ := h)) | (apply WL.add; exact rfl; exact rfl; exact rfl; exact rfl; omega) | (apply WL.sub; exact rfl; exact rfl; exact rfl; exact rfl; omega) | (apply WL.mul; exact rfl; exact rfl; exact rfl; exact rfl; omega) | (apply WL.quo; exact rfl; exact rfl; exact rfl; exact rfl; omega) | (apply WL.rem; exact rfl; exact rfl; exact rfl; exact rfl; omega) | (apply WL.loadA tOk; exact rfl; exact rfl; exact rfl; exact rfl; exact rfl; (first | assumption | (focus (apply Cells.ext; rotate_left; assumption; (exact extA); done))); exact rfl) | (apply WL.guardF; exact rfl; exact rfl) | (apply WL.gD; exact rfl; exact rfl; all_goals intro _) | (apply WL.gN; exact rfl; exact rfl; all_goals intro _) | (apply WL.gB; exact rfl; exact rfl; all_goals intro _))
        | (show Z _ _ _ _ _; first | apply Z.tail | apply Z.then_normal | apply Z.block_normal | apply Z.then_exit | apply Z.block_exit | apply Z.then_ret | apply Z.block_ret | (apply Z.block_other; exact rfl))
        | (show W _ _ _ _ _ _; first | apply W.seq | apply W.region | apply W.block | apply W.skip | apply W.ret | apply W.exit | (apply W.condT; exact rfl) | (apply W.condF; exact rfl) | (apply W.condD; exact rfl; all_goals intro _) | (apply W.condN; exact rfl; all_goals intro _) | (apply W.condB; exact rfl; all_goals intro _)))
      refine Z.again (v + 1, L, w4) ⟨by show v + 1 ≤ _; omega, hX4, hA4, hT4, hR4, hS4, fun k hk => ?_⟩ (by show n.length - (v + 1) < n.length - v; omega) ⟨rfl, rfl, rfl, rfl, rfl, rfl, rfl, trivial⟩ rfl
      by_cases he : k = v
      · subst he
        intro x' hx' h0'; rw [hxn] at hx'; cases hx'; exact absurd h0' h0
      · exact hG4 k (by have : k < v + 1 := hk; omega)
  obtain rfl : v = n.length := by omega
  repeat' (first
    | (apply WL.gT; exact rfl; exact rfl; (focus (exact dec_false (by show ¬ ((n.length : Nat) : Int) < _; omega); done)))
    | (apply WL.gF; exact rfl; exact rfl; (focus (exact dec_false (by show ¬ ((n.length : Nat) : Int) < _; omega); done)))
    | (apply W.condKT; exact rfl; (focus (exact dec_false (by show ¬ ((n.length : Nat) : Int) < _; omega); done)))
    | (apply W.condKF; exact rfl; (focus (exact dec_false (by show ¬ ((n.length : Nat) : Int) < _; omega); done)))
    | (show WL _ _ _ _ _ _ _; first | apply WL.nil | (apply WL.pev tOk; exact rfl; exact rfl; exact rfl) | (apply WL.load tOk; exact rfl; exact rfl; exact rfl; exact rfl; exact rfl; (first | assumption | (focus (apply Ext.cell; rotate_left; assumption; (exact extA); done)))) | (apply WL.index tOk; exact rfl; exact rfl; exact rfl; exact rfl; exact rfl; exact rfl; exact rfl; exact rfl; assumption; (exact extA); exact rfl; omega; assumption; intro b off h; have hcc := h; first | (obtain ⟨h1, h2, h3, h4, h5, h6, _⟩ := h) | (obtain ⟨h1, h2, h3, _⟩ := h) | (obtain ⟨h1, h2, _⟩ := h) | (obtain ⟨h1, _⟩ := h)) | (apply WL.add; exact rfl; exact rfl; exact rfl; exact rfl; omega) | (apply WL.sub; exact rfl; exact rfl; exact rfl; exact rfl; omega) | (apply WL.mul; exact rfl; exact rfl; exact rfl; exact rfl; omega) | (apply WL.quo; exact rfl; exact rfl; exact rfl; exact rfl; omega) | (apply WL.rem; exact rfl; exact rfl; exact rfl; exact rfl; omega) | (apply WL.loadA tOk; exact rfl; exact rfl; exact rfl; exact rfl; exact rfl; (first | assumption | (focus (apply Cells.ext; rotate_left; assumption; (exact extA); done))); exact rfl) | (apply WL.guardF; exact rfl; exact rfl) | (apply WL.gD; exact rfl; exact rfl; all_goals intro _) | (apply WL.gN; exact rfl; exact rfl; all_goals intro _) | (apply WL.gB; exact rfl; exact rfl; all_goals intro _))
    | (show Z _ _ _ _ _; first | apply Z.tail | apply Z.then_normal | apply Z.block_normal | apply Z.then_exit | apply Z.block_exit | apply Z.then_ret | apply Z.block_ret | (apply Z.block_other; exact rfl))
    | (show W _ _ _ _ _ _; first | apply W.seq | apply W.region | apply W.block | apply W.skip | apply W.ret | apply W.exit | (apply W.condT; exact rfl) | (apply W.condF; exact rfl) | (apply W.condD; exact rfl; all_goals intro _) | (apply W.condN; exact rfl; all_goals intro _) | (apply W.condB; exact rfl; all_goals intro _)))
  have hI4 : InvR n 0 L := fun k => by
    by_cases hk : k < n.length
    · exact hG4 k hk
    · intro x hx; exact absurd (lt_of_get hx) hk
  refine W.loop (fun s : Nat × List T3 × Bool × World => s.1 ≤ s.2.1.length ∧ Ext w s.2.2.2 ∧ TrAt w.heap.size s.2.2.2 gt n.length s.2.1 [] rest ∧ TOk n.length s.2.1 ∧ Rch (CL n l (more.map (·.2.2))) (free0 n.length) (vOf n.length s.2.1) ∧ (∀ x ∈ l, valT n.length s.2.1 x = 1) ∧ InvR n s.1 s.2.1 ∧ (s.2.2.1 = true → ∀ c, CL n l (more.map (·.2.2)) c → goodC (vOf n.length s.2.1) c)) (fun s => [(0, .slice ra n.length ca), (2, .slice rm more.length cm), (8, .pointer (some ⟨gt, 0, none⟩)), (9, .pointer (some ⟨gr, 0, none⟩)), (10, .int .i64 s.1), (14, .bool s.2.2.1)]) (fun s => s.2.2.2) (fun s => if s.2.2.1 = true then 0 else 1 + (n.length - s.2.1.length)) (0, L, false, w4) ⟨Nat.zero_le _, hX4, hA4, hT4, hR4, hS4, hI4, (fun h => by cases h)⟩ ⟨rfl, rfl, rfl, rfl, rfl, rfl, trivial⟩ rfl ?_
  clear hG4 hI4 hS4 hR4 hT4 hA4 hX4
  rintro ⟨s, L, done, w4⟩ ⟨hs, hX4, hA4, hT4, hR4, hS4, hI4, hE4⟩
  dsimp only at hs hX4 hA4 hT4 hR4 hS4 hI4 hE4
  cases done
  rotate_left
  · repeat' (first
      | (apply WL.call; exact rfl; exact rfl; exact rfl; exact rfl; exact hvals w4 L rest hA4; rintro v' w' ⟨hx, a', cap', rfl, hO⟩)
      | (show WL _ _ _ _ _ _ _; first | apply WL.nil | (apply WL.pev tOk; exact rfl; exact rfl; exact rfl) | (apply WL.load tOk; exact rfl; exact rfl; exact rfl; exact rfl; exact rfl; (first | assumption | (focus (apply Ext.cell; rotate_left; assumption; (exact extA); done)))) | (apply WL.index tOk; exact rfl; exact rfl; exact rfl; exact rfl; exact rfl; exact rfl; exact rfl; exact rfl; assumption; (exact extA); exact rfl; omega; assumption; intro b off h; have hcc := h; first | (obtain ⟨h1, h2, h3, h4, h5, h6, _⟩ := h) | (obtain ⟨h1, h2, h3, _⟩ := h) | (obtain ⟨h1, h2, _⟩ := h) | (obtain ⟨h1, _⟩ := h)) | (apply WL.add; exact rfl; exact rfl; exact rfl; exact rfl; omega) | (apply WL.sub; exact rfl; exact rfl; exact rfl; exact rfl; omega) | (apply WL.mul; exact rfl; exact rfl; exact rfl; exact rfl; omega) | (apply WL.quo; exact rfl; exact rfl; exact rfl; exact rfl; omega) | (apply WL.rem; exact rfl; exact rfl; exact rfl; exact rfl; omega) | (apply WL.loadA tOk; exact rfl; exact rfl; exact rfl; exact rfl; exact rfl; (first | assumption | (focus (apply Cells.ext; rotate_left; assumption; (exact extA); done))); exact rfl) | (apply WL.guardF; exact rfl; exact rfl) | (apply WL.gD; exact rfl; exact rfl; all_goals intro _) | (apply WL.gN; exact rfl; exact rfl; all_goals intro _) | (apply WL.gB; exact rfl; exact rfl; all_goals intro _))
      | (show Z _ _ _ _ _; first | apply Z.tail | apply Z.then_normal | apply Z.block_normal | apply Z.then_exit | apply Z.block_exit | apply Z.then_ret | apply Z.block_ret | (apply Z.block_other; exact rfl))
      | (show W _ _ _ _ _ _; first | apply W.seq | apply W.region | apply W.block | apply W.skip | apply W.ret | apply W.exit | (apply W.condT; exact rfl) | (apply W.condF; exact rfl) | (apply W.condD; exact rfl; all_goals intro _) | (apply W.condN; exact rfl; all_goals intro _) | (apply W.condB; exact rfl; all_goals intro _)))
    exact Z.body2 Try.results43 rfl rfl fun m => ⟨Ext.at (by (exact extA)) m, .inr ⟨a', cap', _, rfl, (Own.row encI_ok hO).ext ((Ext.refl _).at m), hkn, hR4, hE4 rfl⟩⟩
  have hrun := imply_Run w1.heap.size gr gt n L [] rest an ao cn co rs w4 w hX4 hA4 hT4 HD hg hn' s hs hI4
  repeat' (first
    | (show WL _ _ _ _ _ _ _; first | apply WL.nil | (apply WL.pev tOk; exact rfl; exact rfl; exact rfl) | (apply WL.load tOk; exact rfl; exact rfl; exact rfl; exact rfl; exact rfl; (first | assumption | (focus (apply Ext.cell; rotate_left; assumption; (exact extA); done)))) | (apply WL.index tOk; exact rfl; exact rfl; exact rfl; exact rfl; exact rfl; exact rfl; exact rfl; exact rfl; assumption; (exact extA); exact rfl; omega; assumption; intro b off h; have hcc := h; first | (obtain ⟨h1, h2, h3, h4, h5, h6, _⟩ := h) | (obtain ⟨h1, h2, h3, _⟩ := h) | (obtain ⟨h1, h2, _⟩ := h) | (obtain ⟨h1, _⟩ := h)) | (apply WL.add; exact rfl; exact rfl; exact rfl; exact rfl; omega) | (apply WL.sub; exact rfl; exact rfl; exact rfl; exact rfl; omega) | (apply WL.mul; exact rfl; exact rfl; exact rfl; exact rfl; omega) | (apply WL.quo; exact rfl; exact rfl; exact rfl; exact rfl; omega) | (apply WL.rem; exact rfl; exact rfl; exact rfl; exact rfl; omega) | (apply WL.loadA tOk; exact rfl; exact rfl; exact rfl; exact rfl; exact rfl; (first | assumption | (focus (apply Cells.ext; rotate_left; assumption; (exact extA); done))); exact rfl) | (apply WL.guardF; exact rfl; exact rfl) | (apply WL.gD; exact rfl; exact rfl; all_goals intro _) | (apply WL.gN; exact rfl; exact rfl; all_goals intro _) | (apply WL.gB; exact rfl; exact rfl; all_goals intro _))
    | (show Z _ _ _ _ _; first | apply Z.tail | apply Z.then_normal | apply Z.block_normal | apply Z.then_exit | apply Z.block_exit | apply Z.then_ret | apply Z.block_ret | (apply Z.block_other; exact rfl))
    | (show W _ _ _ _ _ _; first | apply W.seq | apply W.region | apply W.block | apply W.skip | apply W.ret | apply W.exit))
  refine W.condT rfl ?_
  repeat' (first
    | (((show WL _ _ _ (⟨_, .call ⟨.value (.func 47), _, _⟩, _, _, _, _⟩ :: _) _ _ _); apply WL.call; exact rfl; exact rfl; exact rfl; exact rfl; exact hrun; rintro v' w5 ⟨hX5, L5, t5, c5, rfl, hA5, hR5, hr5⟩))
    | (show WL _ _ _ _ _ _ _; first | apply WL.nil | (apply WL.pev tOk; exact rfl; exact rfl; exact rfl) | (apply WL.load tOk; exact rfl; exact rfl; exact rfl; exact rfl; exact rfl; (first | assumption | (focus (apply Ext.cell; rotate_left; assumption; (exact extA); done)))) | (apply WL.index tOk; exact rfl; exact rfl; exact rfl; exact rfl; exact rfl; exact rfl; exact rfl; exact rfl; assumption; (exact extA); exact rfl; omega; assumption; intro b off h; have hcc := h; first | (obtain ⟨h1, h2, h3, h4, h5, h6, _⟩ := h) | (obtain ⟨h1, h2, h3, _⟩ := h) | (obtain ⟨h1, h2, _⟩ := h) | (obtain ⟨h1, _⟩ := h)) | (apply WL.add; exact rfl; exact rfl; exact rfl; exact rfl; omega) | (apply WL.sub; exact rfl; exact rfl; exact rfl; exact rfl; omega) | (apply WL.mul; exact rfl; exact rfl; exact rfl; exact rfl; omega) | (apply WL.quo; exact rfl; exact rfl; exact rfl; exact rfl; omega) | (apply WL.rem; exact rfl; exact rfl; exact rfl; exact rfl; omega) | (apply WL.loadA tOk; exact rfl; exact rfl; exact rfl; exact rfl; exact rfl; (first | assumption | (focus (apply Cells.ext; rotate_left; assumption; (exact extA); done))); exact rfl) | (apply WL.guardF; exact rfl; exact rfl) | (apply WL.gD; exact rfl; exact rfl; all_goals intro _) | (apply WL.gN; exact rfl; exact rfl; all_goals intro _) | (apply WL.gB; exact rfl; exact rfl; all_goals intro _))
    | (show Z _ _ _ _ _; first | apply Z.tail | apply Z.then_normal | apply Z.block_normal | apply Z.then_exit | apply Z.block_exit | apply Z.then_ret | apply Z.block_ret | (apply Z.block_other; exact rfl))
    | (show W _ _ _ _ _ _; first | apply W.seq | apply W.region | apply W.block | apply W.skip | apply W.ret | apply W.exit))
  have hR5' := hR4.trans (rch_gc (l := l) (cs := more.map (·.2.2)) hR5.rch)
  obtain ⟨D5, hD5⟩ := hR5.pre
  have hS5 : ∀ x ∈ l, valT n.length L5 x = 1 := fun x hx => by rw [hD5, valT_keep (by rw [← hD5]; exact hR5.tok) (by rw [hS4 x hx]; decide)]; exact hS4 x hx
  rcases hr5 with ⟨rfl, rfl, hI5⟩ | ⟨_, k, j, x, hxn, h0, hj, rfl, hz5⟩
  rotate_left
  · repeat' (first
      | (apply WL.gT; exact rfl; exact rfl; (focus (exact dec_true (by omega); done)))
      | (apply WL.gF; exact rfl; exact rfl; (focus (exact dec_true (by omega); done)))
      | (apply W.condKT; exact rfl; (focus (exact dec_true (by omega); done)))
      | (apply W.condKF; exact rfl; (focus (exact dec_true (by omega); done)))
      | (show WL _ _ _ _ _ _ _; first | apply WL.nil | (apply WL.pev tOk; exact rfl; exact rfl; exact rfl) | (apply WL.load tOk; exact rfl; exact rfl; exact rfl; exact rfl; exact rfl; (first | assumption | (focus (apply Ext.cell; rotate_left; assumption; (exact extA); done)))) | (apply WL.index tOk; exact rfl; exact rfl; exact rfl; exact rfl; exact rfl; exact rfl; exact rfl; exact rfl; assumption; (exact extA); exact rfl; omega; assumption; intro b off h; have hcc := h; first | (obtain ⟨h1, h2, h3, h4, h5, h6, _⟩ := h) | (obtain ⟨h1, h2, h3, _⟩ := h) | (obtain ⟨h1, h2, _⟩ := h) | (obtain ⟨h1, _⟩ := h)) | (apply WL.add; exact rfl; exact rfl; exact rfl; exact rfl; omega) | (apply WL.sub; exact rfl; exact rfl; exact rfl; exact rfl; omega) | (apply WL.mul; exact rfl; exact rfl; exact rfl; exact rfl; omega) | (apply WL.quo; exact rfl; exact rfl; exact rfl; exact rfl; omega) | (apply WL.rem; exact rfl; exact rfl; exact rfl; exact rfl; omega) | (apply WL.loadA tOk; exact rfl; exact rfl; exact rfl; exact rfl; exact rfl; (first | assumption | (focus (apply Cells.ext; rotate_left; assumption; (exact extA); done))); exact rfl) | (apply WL.guardF; exact rfl; exact rfl) | (apply WL.gD; exact rfl; exact rfl; all_goals intro _) | (apply WL.gN; exact rfl; exact rfl; all_goals intro _) | (apply WL.gB; exact rfl; exact rfl; all_goals intro _))
      | (show Z _ _ _ _ _; first | apply Z.tail | apply Z.then_normal | apply Z.block_normal | apply Z.then_exit | apply Z.block_exit | apply Z.then_ret | apply Z.block_ret | (apply Z.block_other; exact rfl))
      | (show W _ _ _ _ _ _; first | apply W.seq | apply W.region | apply W.block | apply W.skip | apply W.ret | apply W.exit | (apply W.condT; exact rfl) | (apply W.condF; exact rfl) | (apply W.condD; exact rfl; all_goals intro _) | (apply W.condN; exact rfl; all_goals intro _) | (apply W.condB; exact rfl; all_goals intro _)))
    exact Z.body2 Try.results43 rfl rfl fun m => ⟨hX5.at m, .inl ⟨rfl, fun _ => ⟨_, _, hR5', .inr (.inl ⟨k, j, x, hxn, hj, h0, rfl⟩), hz5⟩⟩⟩
  repeat' (first
    | (apply WL.gT; exact rfl; exact rfl; (focus (exact dec_false (by decide); done)))
    | (apply WL.gF; exact rfl; exact rfl; (focus (exact dec_false (by decide); done)))
    | (apply W.condKT; exact rfl; (focus (exact dec_false (by decide); done)))
    | (apply W.condKF; exact rfl; (focus (exact dec_false (by decide); done)))
    | (apply WL.call; exact rfl; exact rfl; exact rfl; exact rfl; exact hvals w5 L5 rest hA5; rintro v' w' ⟨hx, a', cap', rfl, hO⟩)
    | (show WL _ _ _ _ _ _ _; first | apply WL.nil | (apply WL.pev tOk; exact rfl; exact rfl; exact rfl) | (apply WL.load tOk; exact rfl; exact rfl; exact rfl; exact rfl; exact rfl; (first | assumption | (focus (apply Ext.cell; rotate_left; assumption; (exact extA); done)))) | (apply WL.index tOk; exact rfl; exact rfl; exact rfl; exact rfl; exact rfl; exact rfl; exact rfl; exact rfl; assumption; (exact extA); exact rfl; omega; assumption; intro b off h; have hcc := h; first | (obtain ⟨h1, h2, h3, h4, h5, h6, _⟩ := h) | (obtain ⟨h1, h2, h3, _⟩ := h) | (obtain ⟨h1, h2, _⟩ := h) | (obtain ⟨h1, _⟩ := h)) | (apply WL.add; exact rfl; exact rfl; exact rfl; exact rfl; omega) | (apply WL.sub; exact rfl; exact rfl; exact rfl; exact rfl; omega) | (apply WL.mul; exact rfl; exact rfl; exact rfl; exact rfl; omega) | (apply WL.quo; exact rfl; exact rfl; exact rfl; exact rfl; omega) | (apply WL.rem; exact rfl; exact rfl; exact rfl; exact rfl; omega) | (apply WL.loadA tOk; exact rfl; exact rfl; exact rfl; exact rfl; exact rfl; (first | assumption | (focus (apply Cells.ext; rotate_left; assumption; (exact extA); done))); exact rfl) | (apply WL.guardF; exact rfl; exact rfl) | (apply WL.gD; exact rfl; exact rfl; all_goals intro _) | (apply WL.gN; exact rfl; exact rfl; all_goals intro _) | (apply WL.gB; exact rfl; exact rfl; all_goals intro _))
    | (show Z _ _ _ _ _; first | apply Z.tail | apply Z.then_normal | apply Z.block_normal | apply Z.then_exit | apply Z.block_exit | apply Z.then_ret | apply Z.block_ret | (apply Z.block_other; exact rfl))
    | (show W _ _ _ _ _ _; first | apply W.seq | apply W.region | apply W.block | apply W.skip | apply W.ret | apply W.exit | (apply W.condT; exact rfl) | (apply W.condF; exact rfl) | (apply W.condD; exact rfl; all_goals intro _) | (apply W.condN; exact rfl; all_goals intro _) | (apply W.condB; exact rfl; all_goals intro _)))
  have hB5 := hX5.size
  have hA6 := hA5.freeze hx hB5
  have KV : KeepsT w gt n [] (rest ++ frz w5.heap.size w') (fun w6 => Row 1 encI w6 a' (vOf n.length L5)) := fun w6 L6 h1 h2 => (Own.row encI_ok hO).keep fun k hk => h2.frozen (hO.blk_lt k hk).1 (hO.blk_lt k hk).2
  generalize frz w5.heap.size w' = fr at hA6 KV
  have hLL5 := hR5.tok.len_le
  have hL05 : L.length ≤ L5.length := by rw [hD5, List.length_append]; omega
  have hok5 := vOf_ok hR5.tok
  obtain ⟨av, rfl⟩ : ∃ x, x = a' := ⟨_, rfl⟩; obtain ⟨cv, rfl⟩ : ∃ x, x = cap' := ⟨_, rfl⟩; obtain ⟨w6, rfl⟩ : ∃ x, x = w' := ⟨_, rfl⟩
  have hX6 : Ext w w6 := hX5.trans hx
  refine W.loop (fun s : Nat × List T3 × Bool × World => s.1 ≤ more.length ∧ Ext w s.2.2.2 ∧ TrAt w.heap.size s.2.2.2 gt n.length s.2.1 [] (rest ++ fr) ∧ TOk n.length s.2.1 ∧ Rch (CL n l (more.map (·.2.2))) (vOf n.length L5) (vOf n.length s.2.1) ∧ (∃ D, s.2.1 = L5 ++ D) ∧ (s.2.2.1 = true → s.2.1 = L5 ∧ ∀ (j : Nat) (q : RowV Int), j < s.1 → more[j]? = some q → KnownP n q.2.2 → goodC (vOf n.length L5) q.2.2) ∧ (s.2.2.1 = false → L5.length < s.2.1.length)) (fun s => [(0, .slice ra n.length ca), (2, .slice rm more.length cm), (8, .pointer (some ⟨gt, 0, none⟩)), (9, .pointer (some ⟨gr, 0, none⟩)), (10, .int .i64 L5.length), (14, .bool s.2.2.1), (16, .slice av (vOf n.length L5).length cv), (74, .slice rm more.length cm), (75, .int .i64 more.length), (76, .int .i64 s.1)]) (fun s => s.2.2.2) (fun s => more.length - s.1) (0, L5, true, w6) ⟨Nat.zero_le _, hX6, hA6, hR5.tok, .base, ⟨[], by simp⟩, fun _ => ⟨rfl, fun j q h => absurd h (Nat.not_lt_zero _)⟩, (fun h => by cases h)⟩ ⟨rfl, rfl, rfl, rfl, rfl, rfl, rfl, rfl, rfl, rfl, trivial⟩ rfl ?_
  rintro ⟨i, L7, dn, w7⟩ ⟨hi7, hX7, hA7, hT7, hR7, hP7, hdt, hdf⟩
  dsimp only at hi7 hX7 hA7 hT7 hR7 hP7 hdt hdf
  have hL7 := hT7.len_le
  by_cases hlt : i < more.length
  · obtain ⟨q, hq⟩ := getI more hlt
    have hqm := List.mem_of_getElem? hq
    have Rq := hm q hqm
    have Rv := KV w7 L7 hX7 hA7
    have Rm7 := Rm.ext hX7
    by_cases hkq : KnownP n q.2.2
    rotate_left
    · repeat' (first
        | (apply WL.gT; exact rfl; exact rfl; (focus (first | exact dec_true (by show ((i : Nat) : Int) < _; omega) | (rw [dec_false hkq]; rfl); done)))
        | (apply WL.gF; exact rfl; exact rfl; (focus (first | exact dec_true (by show ((i : Nat) : Int) < _; omega) | (rw [dec_false hkq]; rfl); done)))
        | (apply W.condKT; exact rfl; (focus (first | exact dec_true (by show ((i : Nat) : Int) < _; omega) | (rw [dec_false hkq]; rfl); done)))
        | (apply W.condKF; exact rfl; (focus (first | exact dec_true (by show ((i : Nat) : Int) < _; omega) | (rw [dec_false hkq]; rfl); done)))
        | ((show WL _ _ _ (⟨_, .call ⟨.value (.func 94), _, _⟩, _, _, _, _⟩ :: _) _ _ _); apply WL.callP; exact rfl; exact rfl; exact rfl; exact rfl; exact imply_known _ _ _ _ n q.2.2 _ (Rq.ext (by (exact extA))) (hm64 q hqm); intro w' hx)
        | (show WL _ _ _ _ _ _ _; first | apply WL.nil | (apply WL.pev tOk; exact rfl; exact rfl; exact rfl) | (apply WL.load tOk; exact rfl; exact rfl; exact rfl; exact rfl; exact rfl; (first | assumption | (focus (apply Ext.cell; rotate_left; assumption; (exact extA); done)))) | (apply WL.index tOk; exact rfl; exact rfl; exact rfl; exact rfl; exact rfl; exact rfl; exact rfl; exact rfl; assumption; (exact extA); exact rfl; omega; assumption; intro b off h; have hcc := h; first | (obtain ⟨h1, h2, h3, h4, h5, h6, _⟩ := h) | (obtain ⟨h1, h2, h3, _⟩ := h) | (obtain ⟨h1, h2, _⟩ := h) | (obtain ⟨h1, _⟩ := h)) | (apply WL.add; exact rfl; exact rfl; exact rfl; exact rfl; omega) | (apply WL.sub; exact rfl; exact rfl; exact rfl; exact rfl; omega) | (apply WL.mul; exact rfl; exact rfl; exact rfl; exact rfl; omega) | (apply WL.quo; exact rfl; exact rfl; exact rfl; exact rfl; omega) | (apply WL.rem; exact rfl; exact rfl; exact rfl; exact rfl; omega) | (apply WL.loadA tOk; exact rfl; exact rfl; exact rfl; exact rfl; exact rfl; (first | assumption | (focus (apply Cells.ext; rotate_left; assumption; (exact extA); done))); exact rfl) | (apply WL.guardF; exact rfl; exact rfl) | (apply WL.gD; exact rfl; exact rfl; all_goals intro _) | (apply WL.gN; exact rfl; exact rfl; all_goals intro _) | (apply WL.gB; exact rfl; exact rfl; all_goals intro _))
        | (show Z _ _ _ _ _; first | apply Z.tail | apply Z.then_normal | apply Z.block_normal | apply Z.then_exit | apply Z.block_exit | apply Z.then_ret | apply Z.block_ret | (apply Z.block_other; exact rfl))
        | (show W _ _ _ _ _ _; first | apply W.seq | apply W.region | apply W.block | apply W.skip | apply W.ret | apply W.exit | (apply W.condT; exact rfl) | (apply W.condF; exact rfl) | (apply W.condD; exact rfl; all_goals intro _) | (apply W.condN; exact rfl; all_goals intro _) | (apply W.condB; exact rfl; all_goals intro _)))
      exact Z.again (i + 1, L7, dn, w') ⟨by show i + 1 ≤ _; omega, hX7.trans hx, hA7.ext hx, hT7, hR7, hP7, fun h => ⟨(hdt h).1, fun j p hj hp hpk => by
        by_cases he : j = i
        · subst he; rw [hq] at hp; cases hp; exact absurd hpk hkq
        · exact (hdt h).2 j p (by have : j < i + 1 := hj; omega) hp hpk⟩, hdf⟩ (by show more.length - (i + 1) < more.length - i; omega) ⟨rfl, rfl, rfl, rfl, rfl, rfl, rfl, rfl, rfl, rfl, trivial⟩ rfl
    have hcl : CL n l (more.map (·.2.2)) q.2.2 := .inr (.inr ⟨List.mem_map.2 ⟨q, hqm, rfl⟩, hkq⟩)
    by_cases z1 : vC (vOf n.length L5) 0 q.2.2 = 0
    · repeat' (first
        | (apply WL.gT; exact rfl; exact rfl; (focus (first | exact dec_true (by show ((i : Nat) : Int) < _; omega) | (rw [dec_true hkq]; rfl) | exact dec_true z1; done)))
        | (apply WL.gF; exact rfl; exact rfl; (focus (first | exact dec_true (by show ((i : Nat) : Int) < _; omega) | (rw [dec_true hkq]; rfl) | exact dec_true z1; done)))
        | (apply W.condKT; exact rfl; (focus (first | exact dec_true (by show ((i : Nat) : Int) < _; omega) | (rw [dec_true hkq]; rfl) | exact dec_true z1; done)))
        | (apply W.condKF; exact rfl; (focus (first | exact dec_true (by show ((i : Nat) : Int) < _; omega) | (rw [dec_true hkq]; rfl) | exact dec_true z1; done)))
        | ((show WL _ _ _ (⟨_, .call ⟨.value (.func 94), _, _⟩, _, _, _, _⟩ :: _) _ _ _); apply WL.callP; exact rfl; exact rfl; exact rfl; exact rfl; exact imply_known _ _ _ _ n q.2.2 _ (Rq.ext (by (exact extA))) (hm64 q hqm); intro w' hx)
        | ((show WL _ _ _ (⟨_, .call ⟨.value (.func 96), _, _⟩, _, _, _, _⟩ :: _) _ _ _); apply WL.callS; exact rfl; exact rfl; exact rfl; exact rfl; exact clause_Value _ _ _ _ (vOf n.length L5) q.2.2 _ (Rv.ext (by (exact extA))) (Rq.ext (by (exact extA))))
        | (show WL _ _ _ _ _ _ _; first | apply WL.nil | (apply WL.pev tOk; exact rfl; exact rfl; exact rfl) | (apply WL.load tOk; exact rfl; exact rfl; exact rfl; exact rfl; exact rfl; (first | assumption | (focus (apply Ext.cell; rotate_left; assumption; (exact extA); done)))) | (apply WL.index tOk; exact rfl; exact rfl; exact rfl; exact rfl; exact rfl; exact rfl; exact rfl; exact rfl; assumption; (exact extA); exact rfl; omega; assumption; intro b off h; have hcc := h; first | (obtain ⟨h1, h2, h3, h4, h5, h6, _⟩ := h) | (obtain ⟨h1, h2, h3, _⟩ := h) | (obtain ⟨h1, h2, _⟩ := h) | (obtain ⟨h1, _⟩ := h)) | (apply WL.add; exact rfl; exact rfl; exact rfl; exact rfl; omega) | (apply WL.sub; exact rfl; exact rfl; exact rfl; exact rfl; omega) | (apply WL.mul; exact rfl; exact rfl; exact rfl; exact rfl; omega) | (apply WL.quo; exact rfl; exact rfl; exact rfl; exact rfl; omega) | (apply WL.rem; exact rfl; exact rfl; exact rfl; exact rfl; omega) | (apply WL.loadA tOk; exact rfl; exact rfl; exact rfl; exact rfl; exact rfl; (first | assumption | (focus (apply Cells.ext; rotate_left; assumption; (exact extA); done))); exact rfl) | (apply WL.guardF; exact rfl; exact rfl) | (apply WL.gD; exact rfl; exact rfl; all_goals intro _) | (apply WL.gN; exact rfl; exact rfl; all_goals intro _) | (apply WL.gB; exact rfl; exact rfl; all_goals intro _))
        | (show Z _ _ _ _ _; first | apply Z.tail | apply Z.then_normal | apply Z.block_normal | apply Z.then_exit | apply Z.block_exit | apply Z.then_ret | apply Z.block_ret | (apply Z.block_other; exact rfl))
        | (show W _ _ _ _ _ _; first | apply W.seq | apply W.region | apply W.block | apply W.skip | apply W.ret | apply W.exit | (apply W.condT; exact rfl) | (apply W.condF; exact rfl) | (apply W.condD; exact rfl; all_goals intro _) | (apply W.condN; exact rfl; all_goals intro _) | (apply W.condB; exact rfl; all_goals intro _)))
      exact Z.body2 Try.results43 rfl rfl fun m => ⟨Ext.at (by (exact extA)) m, .inl ⟨rfl, fun _ => ⟨_, _, hR5', hcl, z1⟩⟩⟩
    by_cases z2 : 0 ≤ uC (vOf n.length L5) (-1) q.2.2
    rotate_left
    · repeat' (first
        | (apply WL.gT; exact rfl; exact rfl; (focus (first | exact dec_true (by show ((i : Nat) : Int) < _; omega) | (rw [dec_true hkq]; rfl) | exact dec_false z1 | exact dec_false z2; done)))
        | (apply WL.gF; exact rfl; exact rfl; (focus (first | exact dec_true (by show ((i : Nat) : Int) < _; omega) | (rw [dec_true hkq]; rfl) | exact dec_false z1 | exact dec_false z2; done)))
        | (apply W.condKT; exact rfl; (focus (first | exact dec_true (by show ((i : Nat) : Int) < _; omega) | (rw [dec_true hkq]; rfl) | exact dec_false z1 | exact dec_false z2; done)))
        | (apply W.condKF; exact rfl; (focus (first | exact dec_true (by show ((i : Nat) : Int) < _; omega) | (rw [dec_true hkq]; rfl) | exact dec_false z1 | exact dec_false z2; done)))
        | ((show WL _ _ _ (⟨_, .call ⟨.value (.func 94), _, _⟩, _, _, _, _⟩ :: _) _ _ _); apply WL.callP; exact rfl; exact rfl; exact rfl; exact rfl; exact imply_known _ _ _ _ n q.2.2 _ (Rq.ext (by (exact extA))) (hm64 q hqm); intro w' hx)
        | ((show WL _ _ _ (⟨_, .call ⟨.value (.func 96), _, _⟩, _, _, _, _⟩ :: _) _ _ _); apply WL.callS; exact rfl; exact rfl; exact rfl; exact rfl; exact clause_Value _ _ _ _ (vOf n.length L5) q.2.2 _ (Rv.ext (by (exact extA))) (Rq.ext (by (exact extA))))
        | ((show WL _ _ _ (⟨_, .call ⟨.value (.func 97), _, _⟩, _, _, _, _⟩ :: _) _ _ _); apply WL.callS; exact rfl; exact rfl; exact rfl; exact rfl; exact clause_Unit _ _ _ _ (vOf n.length L5) q.2.2 _ (Rv.ext (by (exact extA))) (Rq.ext (by (exact extA))))
        | (show WL _ _ _ _ _ _ _; first | apply WL.nil | (apply WL.pev tOk; exact rfl; exact rfl; exact rfl) | (apply WL.load tOk; exact rfl; exact rfl; exact rfl; exact rfl; exact rfl; (first | assumption | (focus (apply Ext.cell; rotate_left; assumption; (exact extA); done)))) | (apply WL.index tOk; exact rfl; exact rfl; exact rfl; exact rfl; exact rfl; exact rfl; exact rfl; exact rfl; assumption; (exact extA); exact rfl; omega; assumption; intro b off h; have hcc := h; first | (obtain ⟨h1, h2, h3, h4, h5, h6, _⟩ := h) | (obtain ⟨h1, h2, h3, _⟩ := h) | (obtain ⟨h1, h2, _⟩ := h) | (obtain ⟨h1, _⟩ := h)) | (apply WL.add; exact rfl; exact rfl; exact rfl; exact rfl; omega) | (apply WL.sub; exact rfl; exact rfl; exact rfl; exact rfl; omega) | (apply WL.mul; exact rfl; exact rfl; exact rfl; exact rfl; omega) | (apply WL.quo; exact rfl; exact rfl; exact rfl; exact rfl; omega) | (apply WL.rem; exact rfl; exact rfl; exact rfl; exact rfl; omega) | (apply WL.loadA tOk; exact rfl; exact rfl; exact rfl; exact rfl; exact rfl; (first | assumption | (focus (apply Cells.ext; rotate_left; assumption; (exact extA); done))); exact rfl) | (apply WL.guardF; exact rfl; exact rfl) | (apply WL.gD; exact rfl; exact rfl; all_goals intro _) | (apply WL.gN; exact rfl; exact rfl; all_goals intro _) | (apply WL.gB; exact rfl; exact rfl; all_goals intro _))
        | (show Z _ _ _ _ _; first | apply Z.tail | apply Z.then_normal | apply Z.block_normal | apply Z.then_exit | apply Z.block_exit | apply Z.then_ret | apply Z.block_ret | (apply Z.block_other; exact rfl))
        | (show W _ _ _ _ _ _; first | apply W.seq | apply W.region | apply W.block | apply W.skip | apply W.ret | apply W.exit | (apply W.condT; exact rfl) | (apply W.condF; exact rfl) | (apply W.condD; exact rfl; all_goals intro _) | (apply W.condN; exact rfl; all_goals intro _) | (apply W.condB; exact rfl; all_goals intro _)))
      exact Z.again (i + 1, L7, dn, w') ⟨by show i + 1 ≤ _; omega, hX7.trans hx, hA7.ext hx, hT7, hR7, hP7, fun h => ⟨(hdt h).1, fun j p hj hp hpk => by
        by_cases he : j = i
        · subst he; rw [hq] at hp; cases hp; exact ⟨z1, fun hh => by omega⟩
        · exact (hdt h).2 j p (by have : j < i + 1 := hj; omega) hp hpk⟩, hdf⟩ (by show more.length - (i + 1) < more.length - i; omega) ⟨rfl, rfl, rfl, rfl, rfl, rfl, rfl, rfl, rfl, rfl, trivial⟩ rfl
    obtain ⟨hu1, hu2⟩ := unit_valT hR5.tok hn' z2
    have hmem := (uC_unit hu1).2.1
    have hur := hkq _ hmem
    have hle := (hR7.ok hlit hok5).2
    have hlater := unit_later hle hok5 (vOf_ok hT7) (known_lit hn' hkq) hu1
    rw [lit3_vOf hT7 hn'] at hlater
    have emax : max (uC (vOf n.length L5) (-1) q.2.2) 0 = uC (vOf n.length L5) (-1) q.2.2 := by omega
    have hsx := fun (w8 : World) (hx8 : Ext w7 w8) => hset w8 L7 (rest ++ fr) (max (uC (vOf n.length L5) (-1) q.2.2) 0) (hX7.trans hx8) (hA7.ext hx8) hT7 (by rw [emax]; omega)
    rw [emax] at hsx
    rcases setE_known (L := L7) hur with ⟨e1, e2⟩ | ⟨e1, e2⟩ | ⟨e1, e2⟩
    · rw [e1] at hsx
      rcases set_ways hT7 (uC (vOf n.length L5) (-1) q.2.2) 0 (-1) with h | ⟨_, h⟩
      · rw [e1] at h; exact absurd h.1 (by decide)
      rw [h] at hsx
      repeat' (first
        | (apply WL.gT; exact rfl; exact rfl; (focus (first | exact dec_true (by show ((i : Nat) : Int) < _; omega) | (rw [dec_true hkq]; rfl) | exact dec_false z1 | exact dec_true z2 | exact dec_false (by decide); done)))
        | (apply WL.gF; exact rfl; exact rfl; (focus (first | exact dec_true (by show ((i : Nat) : Int) < _; omega) | (rw [dec_true hkq]; rfl) | exact dec_false z1 | exact dec_true z2 | exact dec_false (by decide); done)))
        | (apply W.condKT; exact rfl; (focus (first | exact dec_true (by show ((i : Nat) : Int) < _; omega) | (rw [dec_true hkq]; rfl) | exact dec_false z1 | exact dec_true z2 | exact dec_false (by decide); done)))
        | (apply W.condKF; exact rfl; (focus (first | exact dec_true (by show ((i : Nat) : Int) < _; omega) | (rw [dec_true hkq]; rfl) | exact dec_false z1 | exact dec_true z2 | exact dec_false (by decide); done)))
        | ((show WL _ _ _ (⟨_, .call ⟨.value (.func 94), _, _⟩, _, _, _, _⟩ :: _) _ _ _); apply WL.callP; exact rfl; exact rfl; exact rfl; exact rfl; exact imply_known _ _ _ _ n q.2.2 _ (Rq.ext (by (exact extA))) (hm64 q hqm); intro w' hx)
        | ((show WL _ _ _ (⟨_, .call ⟨.value (.func 96), _, _⟩, _, _, _, _⟩ :: _) _ _ _); apply WL.callS; exact rfl; exact rfl; exact rfl; exact rfl; exact clause_Value _ _ _ _ (vOf n.length L5) q.2.2 _ (Rv.ext (by (exact extA))) (Rq.ext (by (exact extA))))
        | ((show WL _ _ _ (⟨_, .call ⟨.value (.func 97), _, _⟩, _, _, _, _⟩ :: _) _ _ _); apply WL.callS; exact rfl; exact rfl; exact rfl; exact rfl; exact clause_Unit _ _ _ _ (vOf n.length L5) q.2.2 _ (Rv.ext (by (exact extA))) (Rq.ext (by (exact extA))))
        | (((show WL _ _ _ (⟨_, .call ⟨.value (.func 52), _, _⟩, _, _, _, _⟩ :: _) _ _ _); apply WL.call; exact rfl; exact rfl; exact rfl; (exact congrArg (fun z => some [Value.pointer (some ⟨gt, 0, none⟩), .int .i64 z, .int .i64 (-1)]) emax); exact hsx _ (by (exact extA)); rintro v' w8 ⟨hX8, rfl, hA8⟩))
        | (show WL _ _ _ _ _ _ _; first | apply WL.nil | (apply WL.pev tOk; exact rfl; exact rfl; exact rfl) | (apply WL.load tOk; exact rfl; exact rfl; exact rfl; exact rfl; exact rfl; (first | assumption | (focus (apply Ext.cell; rotate_left; assumption; (exact extA); done)))) | (apply WL.index tOk; exact rfl; exact rfl; exact rfl; exact rfl; exact rfl; exact rfl; exact rfl; exact rfl; assumption; (exact extA); exact rfl; omega; assumption; intro b off h; have hcc := h; first | (obtain ⟨h1, h2, h3, h4, h5, h6, _⟩ := h) | (obtain ⟨h1, h2, h3, _⟩ := h) | (obtain ⟨h1, h2, _⟩ := h) | (obtain ⟨h1, _⟩ := h)) | (apply WL.add; exact rfl; exact rfl; exact rfl; exact rfl; omega) | (apply WL.sub; exact rfl; exact rfl; exact rfl; exact rfl; omega) | (apply WL.mul; exact rfl; exact rfl; exact rfl; exact rfl; omega) | (apply WL.quo; exact rfl; exact rfl; exact rfl; exact rfl; omega) | (apply WL.rem; exact rfl; exact rfl; exact rfl; exact rfl; omega) | (apply WL.loadA tOk; exact rfl; exact rfl; exact rfl; exact rfl; exact rfl; (first | assumption | (focus (apply Cells.ext; rotate_left; assumption; (exact extA); done))); exact rfl) | (apply WL.guardF; exact rfl; exact rfl) | (apply WL.gD; exact rfl; exact rfl; all_goals intro _) | (apply WL.gN; exact rfl; exact rfl; all_goals intro _) | (apply WL.gB; exact rfl; exact rfl; all_goals intro _))
        | (show Z _ _ _ _ _; first | apply Z.tail | apply Z.then_normal | apply Z.block_normal | apply Z.then_exit | apply Z.block_exit | apply Z.then_ret | apply Z.block_ret | (apply Z.block_other; exact rfl))
        | (show W _ _ _ _ _ _; first | apply W.seq | apply W.region | apply W.block | apply W.skip | apply W.ret | apply W.exit | (apply W.condT; exact rfl) | (apply W.condF; exact rfl) | (apply W.condD; exact rfl; all_goals intro _) | (apply W.condN; exact rfl; all_goals intro _) | (apply W.condB; exact rfl; all_goals intro _)))
      refine Z.again (i + 1, L7, dn, w8) ⟨by show i + 1 ≤ _; omega, hX8, hA8, hT7, hR7, hP7, fun h => ?_, hdf⟩ (by show more.length - (i + 1) < more.length - i; omega) ⟨rfl, rfl, rfl, rfl, rfl, rfl, rfl, rfl, rfl, rfl, trivial⟩ rfl
      have e3 := (hdt h).1
      rw [e3] at e2
      omega
    · rw [e1] at hsx
      repeat' (first
        | (apply WL.gT; exact rfl; exact rfl; (focus (first | exact dec_true (by show ((i : Nat) : Int) < _; omega) | (rw [dec_true hkq]; rfl) | exact dec_false z1 | exact dec_true z2 | exact dec_true rfl; done)))
        | (apply WL.gF; exact rfl; exact rfl; (focus (first | exact dec_true (by show ((i : Nat) : Int) < _; omega) | (rw [dec_true hkq]; rfl) | exact dec_false z1 | exact dec_true z2 | exact dec_true rfl; done)))
        | (apply W.condKT; exact rfl; (focus (first | exact dec_true (by show ((i : Nat) : Int) < _; omega) | (rw [dec_true hkq]; rfl) | exact dec_false z1 | exact dec_true z2 | exact dec_true rfl; done)))
        | (apply W.condKF; exact rfl; (focus (first | exact dec_true (by show ((i : Nat) : Int) < _; omega) | (rw [dec_true hkq]; rfl) | exact dec_false z1 | exact dec_true z2 | exact dec_true rfl; done)))
        | ((show WL _ _ _ (⟨_, .call ⟨.value (.func 94), _, _⟩, _, _, _, _⟩ :: _) _ _ _); apply WL.callP; exact rfl; exact rfl; exact rfl; exact rfl; exact imply_known _ _ _ _ n q.2.2 _ (Rq.ext (by (exact extA))) (hm64 q hqm); intro w' hx)
        | ((show WL _ _ _ (⟨_, .call ⟨.value (.func 96), _, _⟩, _, _, _, _⟩ :: _) _ _ _); apply WL.callS; exact rfl; exact rfl; exact rfl; exact rfl; exact clause_Value _ _ _ _ (vOf n.length L5) q.2.2 _ (Rv.ext (by (exact extA))) (Rq.ext (by (exact extA))))
        | ((show WL _ _ _ (⟨_, .call ⟨.value (.func 97), _, _⟩, _, _, _, _⟩ :: _) _ _ _); apply WL.callS; exact rfl; exact rfl; exact rfl; exact rfl; exact clause_Unit _ _ _ _ (vOf n.length L5) q.2.2 _ (Rv.ext (by (exact extA))) (Rq.ext (by (exact extA))))
        | (((show WL _ _ _ (⟨_, .call ⟨.value (.func 52), _, _⟩, _, _, _, _⟩ :: _) _ _ _); apply WL.call; exact rfl; exact rfl; exact rfl; (exact congrArg (fun z => some [Value.pointer (some ⟨gt, 0, none⟩), .int .i64 z, .int .i64 (-1)]) emax); exact hsx _ (by (exact extA)); rintro v' w8 ⟨hX8, rfl, hA8⟩))
        | (show WL _ _ _ _ _ _ _; first | apply WL.nil | (apply WL.pev tOk; exact rfl; exact rfl; exact rfl) | (apply WL.load tOk; exact rfl; exact rfl; exact rfl; exact rfl; exact rfl; (first | assumption | (focus (apply Ext.cell; rotate_left; assumption; (exact extA); done)))) | (apply WL.index tOk; exact rfl; exact rfl; exact rfl; exact rfl; exact rfl; exact rfl; exact rfl; exact rfl; assumption; (exact extA); exact rfl; omega; assumption; intro b off h; have hcc := h; first | (obtain ⟨h1, h2, h3, h4, h5, h6, _⟩ := h) | (obtain ⟨h1, h2, h3, _⟩ := h) | (obtain ⟨h1, h2, _⟩ := h) | (obtain ⟨h1, _⟩ := h)) | (apply WL.add; exact rfl; exact rfl; exact rfl; exact rfl; omega) | (apply WL.sub; exact rfl; exact rfl; exact rfl; exact rfl; omega) | (apply WL.mul; exact rfl; exact rfl; exact rfl; exact rfl; omega) | (apply WL.quo; exact rfl; exact rfl; exact rfl; exact rfl; omega) | (apply WL.rem; exact rfl; exact rfl; exact rfl; exact rfl; omega) | (apply WL.loadA tOk; exact rfl; exact rfl; exact rfl; exact rfl; exact rfl; (first | assumption | (focus (apply Cells.ext; rotate_left; assumption; (exact extA); done))); exact rfl) | (apply WL.guardF; exact rfl; exact rfl) | (apply WL.gD; exact rfl; exact rfl; all_goals intro _) | (apply WL.gN; exact rfl; exact rfl; all_goals intro _) | (apply WL.gB; exact rfl; exact rfl; all_goals intro _))
        | (show Z _ _ _ _ _; first | apply Z.tail | apply Z.then_normal | apply Z.block_normal | apply Z.then_exit | apply Z.block_exit | apply Z.then_ret | apply Z.block_ret | (apply Z.block_other; exact rfl))
        | (show W _ _ _ _ _ _; first | apply W.seq | apply W.region | apply W.block | apply W.skip | apply W.ret | apply W.exit | (apply W.condT; exact rfl) | (apply W.condF; exact rfl) | (apply W.condD; exact rfl; all_goals intro _) | (apply W.condN; exact rfl; all_goals intro _) | (apply W.condB; exact rfl; all_goals intro _)))
      exact Z.body2 Try.results43 rfl rfl fun m => ⟨hX8.at m, .inl ⟨rfl, fun _ => ⟨_, _, hR5'.trans hR7, hcl, hlater.1 e2⟩⟩⟩
    · rw [e1] at hsx
      rcases set_ways hT7 (uC (vOf n.length L5) (-1) q.2.2) 0 (-1) with ⟨_, k1, k2, k3, k4, k5, k6, k7⟩ | ⟨h, _⟩
      rotate_left
      · exact absurd e1 h
      rw [k1] at hsx
      repeat' (first
        | (apply WL.gT; exact rfl; exact rfl; (focus (first | exact dec_true (by show ((i : Nat) : Int) < _; omega) | (rw [dec_true hkq]; rfl) | exact dec_false z1 | exact dec_true z2 | exact dec_true rfl | exact dec_false (by decide); done)))
        | (apply WL.gF; exact rfl; exact rfl; (focus (first | exact dec_true (by show ((i : Nat) : Int) < _; omega) | (rw [dec_true hkq]; rfl) | exact dec_false z1 | exact dec_true z2 | exact dec_true rfl | exact dec_false (by decide); done)))
        | (apply W.condKT; exact rfl; (focus (first | exact dec_true (by show ((i : Nat) : Int) < _; omega) | (rw [dec_true hkq]; rfl) | exact dec_false z1 | exact dec_true z2 | exact dec_true rfl | exact dec_false (by decide); done)))
        | (apply W.condKF; exact rfl; (focus (first | exact dec_true (by show ((i : Nat) : Int) < _; omega) | (rw [dec_true hkq]; rfl) | exact dec_false z1 | exact dec_true z2 | exact dec_true rfl | exact dec_false (by decide); done)))
        | ((show WL _ _ _ (⟨_, .call ⟨.value (.func 94), _, _⟩, _, _, _, _⟩ :: _) _ _ _); apply WL.callP; exact rfl; exact rfl; exact rfl; exact rfl; exact imply_known _ _ _ _ n q.2.2 _ (Rq.ext (by (exact extA))) (hm64 q hqm); intro w' hx)
        | ((show WL _ _ _ (⟨_, .call ⟨.value (.func 96), _, _⟩, _, _, _, _⟩ :: _) _ _ _); apply WL.callS; exact rfl; exact rfl; exact rfl; exact rfl; exact clause_Value _ _ _ _ (vOf n.length L5) q.2.2 _ (Rv.ext (by (exact extA))) (Rq.ext (by (exact extA))))
        | ((show WL _ _ _ (⟨_, .call ⟨.value (.func 97), _, _⟩, _, _, _, _⟩ :: _) _ _ _); apply WL.callS; exact rfl; exact rfl; exact rfl; exact rfl; exact clause_Unit _ _ _ _ (vOf n.length L5) q.2.2 _ (Rv.ext (by (exact extA))) (Rq.ext (by (exact extA))))
        | (((show WL _ _ _ (⟨_, .call ⟨.value (.func 52), _, _⟩, _, _, _, _⟩ :: _) _ _ _); apply WL.call; exact rfl; exact rfl; exact rfl; (exact congrArg (fun z => some [Value.pointer (some ⟨gt, 0, none⟩), .int .i64 z, .int .i64 (-1)]) emax); exact hsx _ (by (exact extA)); rintro v' w8 ⟨hX8, rfl, hA8⟩))
        | (show WL _ _ _ _ _ _ _; first | apply WL.nil | (apply WL.pev tOk; exact rfl; exact rfl; exact rfl) | (apply WL.load tOk; exact rfl; exact rfl; exact rfl; exact rfl; exact rfl; (first | assumption | (focus (apply Ext.cell; rotate_left; assumption; (exact extA); done)))) | (apply WL.index tOk; exact rfl; exact rfl; exact rfl; exact rfl; exact rfl; exact rfl; exact rfl; exact rfl; assumption; (exact extA); exact rfl; omega; assumption; intro b off h; have hcc := h; first | (obtain ⟨h1, h2, h3, h4, h5, h6, _⟩ := h) | (obtain ⟨h1, h2, h3, _⟩ := h) | (obtain ⟨h1, h2, _⟩ := h) | (obtain ⟨h1, _⟩ := h)) | (apply WL.add; exact rfl; exact rfl; exact rfl; exact rfl; omega) | (apply WL.sub; exact rfl; exact rfl; exact rfl; exact rfl; omega) | (apply WL.mul; exact rfl; exact rfl; exact rfl; exact rfl; omega) | (apply WL.quo; exact rfl; exact rfl; exact rfl; exact rfl; omega) | (apply WL.rem; exact rfl; exact rfl; exact rfl; exact rfl; omega) | (apply WL.loadA tOk; exact rfl; exact rfl; exact rfl; exact rfl; exact rfl; (first | assumption | (focus (apply Cells.ext; rotate_left; assumption; (exact extA); done))); exact rfl) | (apply WL.guardF; exact rfl; exact rfl) | (apply WL.gD; exact rfl; exact rfl; all_goals intro _) | (apply WL.gN; exact rfl; exact rfl; all_goals intro _) | (apply WL.gB; exact rfl; exact rfl; all_goals intro _))
        | (show Z _ _ _ _ _; first | apply Z.tail | apply Z.then_normal | apply Z.block_normal | apply Z.then_exit | apply Z.block_exit | apply Z.then_ret | apply Z.block_ret | (apply Z.block_other; exact rfl))
        | (show W _ _ _ _ _ _; first | apply W.seq | apply W.region | apply W.block | apply W.skip | apply W.ret | apply W.exit | (apply W.condT; exact rfl) | (apply W.condF; exact rfl) | (apply W.condD; exact rfl; all_goals intro _) | (apply W.condN; exact rfl; all_goals intro _) | (apply W.condB; exact rfl; all_goals intro _)))
      refine Z.again (i + 1, L7 ++ [(uC (vOf n.length L5) (-1) q.2.2, 0, -1)], false, w8) ⟨by show i + 1 ≤ _; omega, hX8, hA8, k2, ?_, ?_, (fun h => by cases h), fun _ => ?_⟩ (by show more.length - (i + 1) < more.length - i; omega) ⟨rfl, rfl, rfl, rfl, rfl, rfl, rfl, rfl, rfl, rfl, trivial⟩ rfl
      · have := Rch.step hR7 hcl (by rw [hlater.2 e2]; exact hu1)
        rw [hlater.2 e2, ← k6] at this
        exact this
      · obtain ⟨D7, h7⟩ := hP7; exact ⟨D7 ++ [(uC (vOf n.length L5) (-1) q.2.2, 0, -1)], by rw [h7]; simp⟩
      · obtain ⟨D7, h7⟩ := hP7
        show L5.length < (L7 ++ [_]).length
        rw [h7]; simp
  · obtain rfl : i = more.length := by omega
    obtain ⟨D7, h7⟩ := hP7
    repeat' (first
      | (apply WL.gT; exact rfl; exact rfl; (focus (exact dec_false (by show ¬ ((more.length : Nat) : Int) < _; omega); done)))
      | (apply WL.gF; exact rfl; exact rfl; (focus (exact dec_false (by show ¬ ((more.length : Nat) : Int) < _; omega); done)))
      | (apply W.condKT; exact rfl; (focus (exact dec_false (by show ¬ ((more.length : Nat) : Int) < _; omega); done)))
      | (apply W.condKF; exact rfl; (focus (exact dec_false (by show ¬ ((more.length : Nat) : Int) < _; omega); done)))
      | (show WL _ _ _ _ _ _ _; first | apply WL.nil | (apply WL.pev tOk; exact rfl; exact rfl; exact rfl) | (apply WL.load tOk; exact rfl; exact rfl; exact rfl; exact rfl; exact rfl; (first | assumption | (focus (apply Ext.cell; rotate_left; assumption; (exact extA); done)))) | (apply WL.index tOk; exact rfl; exact rfl; exact rfl; exact rfl; exact rfl; exact rfl; exact rfl; exact rfl; assumption; (exact extA); exact rfl; omega; assumption; intro b off h; have hcc := h; first | (obtain ⟨h1, h2, h3, h4, h5, h6, _⟩ := h) | (obtain ⟨h1, h2, h3, _⟩ := h) | (obtain ⟨h1, h2, _⟩ := h) | (obtain ⟨h1, _⟩ := h)) | (apply WL.add; exact rfl; exact rfl; exact rfl; exact rfl; omega) | (apply WL.sub; exact rfl; exact rfl; exact rfl; exact rfl; omega) | (apply WL.mul; exact rfl; exact rfl; exact rfl; exact rfl; omega) | (apply WL.quo; exact rfl; exact rfl; exact rfl; exact rfl; omega) | (apply WL.rem; exact rfl; exact rfl; exact rfl; exact rfl; omega) | (apply WL.loadA tOk; exact rfl; exact rfl; exact rfl; exact rfl; exact rfl; (first | assumption | (focus (apply Cells.ext; rotate_left; assumption; (exact extA); done))); exact rfl) | (apply WL.guardF; exact rfl; exact rfl) | (apply WL.gD; exact rfl; exact rfl; all_goals intro _) | (apply WL.gN; exact rfl; exact rfl; all_goals intro _) | (apply WL.gB; exact rfl; exact rfl; all_goals intro _))
      | (show Z _ _ _ _ _; first | apply Z.tail | apply Z.then_normal | apply Z.block_normal | apply Z.then_exit | apply Z.block_exit | apply Z.then_ret | apply Z.block_ret | (apply Z.block_other; exact rfl))
      | (show W _ _ _ _ _ _; first | apply W.seq | apply W.region | apply W.block | apply W.skip | apply W.ret | apply W.exit | (apply W.condT; exact rfl) | (apply W.condF; exact rfl) | (apply W.condD; exact rfl; all_goals intro _) | (apply W.condN; exact rfl; all_goals intro _) | (apply W.condB; exact rfl; all_goals intro _)))
    have hS7 : ∀ x ∈ l, valT n.length L7 x = 1 := fun x hx => by rw [h7, valT_keep (by rw [← h7]; exact hT7) (by rw [hS5 x hx]; decide)]; exact hS5 x hx
    refine Z.again (L5.length, L7, dn, w7) ⟨by show L5.length ≤ L7.length; rw [h7, List.length_append]; omega, hX7, hA7.weak, hT7, hR5'.trans hR7, hS7, fun k => by rw [h7]; exact (hI5 k).push hg hn' (by rw [← h7]; exact hT7) (Nat.le_refl _), fun hd c hc => ?_⟩ ?_ ⟨rfl, rfl, rfl, rfl, rfl, rfl, trivial⟩ rfl
    · obtain ⟨e7, hgood⟩ := hdt hd
      rw [e7] at hS7 ⊢
      rcases hc with ⟨x, hx, rfl⟩ | ⟨k, r, x, k1, k2, k3, rfl⟩ | ⟨hc, hk⟩
      · exact goodC_sat ⟨x, by simp, by rw [lit3_vOf hR5.tok hn']; exact hS5 x hx⟩
      · exact hI5 k x k1 k3 (fun i y hi hy => absurd (lt_of_get hy) (by omega)) r k2
      · obtain ⟨q, hq, rfl⟩ := List.mem_map.1 hc
        obtain ⟨j, hj, he⟩ := List.getElem_of_mem hq
        exact hgood j q hj (by rw [List.getElem?_eq_getElem hj, he]) hk
    · cases dn
      · have := hdf rfl
        show 1 + (n.length - L7.length) < 1 + (n.length - L.length)
        omega
      · show 0 < 1 + (n.length - L.length)
        omega
end Go.Proofs.Ytmaekaflpbenmaa
namespace Go.Proofs.Ytmaekaflpbenmaa
open Go Go.Lt Go.RowKit
set_option linter.unusedVariables false
set_option linter.unusedSimpArgs false

/-- What may come of Close. -/
def OutK (n : List (Int × Int)) (l : List Int) (cs : List (List Int)) (o : Option (List Int)) : Prop := (KnownP n l → Out (CL n l cs) (free0 n.length) o) ∧ (¬ KnownP n l → o = none)
theorem free0_ok1 (k : Nat) : OkV (k + 1) (free0 k) := by have := free0_ok k; rwa [show (free0 k).length = k + 1 by simp] at this
theorem outK_unique {n : List (Int × Int)} {l : List Int} {cs : List (List Int)} (hg : GoodNet n) (hn : n.length ≤ 1048576) {o o' : Option (List Int)} (h : OutK n l cs o) (h' : OutK n l cs o') : o = o' := by
  by_cases hk : KnownP n l
  · exact out_unique (CL.lits hg hn hk) (free0_ok1 _) (h.1 hk) (h'.1 hk)
  · rw [h.2 hk, h'.2 hk]
theorem outK_congr {n : List (Int × Int)} {l : List Int} {cs ds : List (List Int)} {o : Option (List Int)} (hc : ∀ c, c ∈ cs ↔ c ∈ ds) (h : OutK n l cs o) : OutK n l ds o :=
  ⟨fun hk => out_congr (fun c => by unfold CL; rw [hc c]) (h.1 hk), h.2⟩
def OutV (w : World) (o : Option (List Int)) (v : Value) : Prop := ∃ a c, v = .tuple #[.slice a (o.getD []).length c, .bool o.isSome] ∧ Row 1 encI w a (o.getD [])
theorem imply_CloseK (ra rl rm : Option Addr) (ca cl cm : Nat) (n : List (Int × Int)) (l : List Int) (more : List (RowV Int)) (w : World) (R : Row 2 encN w ra n) (hna : ra = none → ca = 0) (Rl : Row 1 encI w rl l) (Rm : Row 1 encRow w rm more) (hm : ∀ q ∈ more, Row 1 encI w q.1 q.2.2) (hg : GoodNet n) (hn : n.length ≤ 1000)
    (hl64 : ∀ x ∈ l, x ≤ 9223372036854775807) (hm64 : ∀ q ∈ more, ∀ x ∈ q.2.2, x ≤ 9223372036854775807) :
    Lt.Spec Try.prog 43 [.slice ra n.length ca, .slice rl l.length cl, .slice rm more.length cm] w (fun v w' => Ext w w' ∧ ∃ o, OutV w' o v ∧ OutK n l (more.map (·.2.2)) o) := by
  refine Spec.mono (imply_Close ra rl rm ca cl cm n l more w R hna Rl Rm hm hg hn hl64 hm64) fun v w' ⟨h1, h2⟩ => ⟨h1, ?_⟩
  rcases h2 with ⟨rfl, h3⟩ | ⟨a, c, out, rfl, h3, h4, h5⟩
  · exact ⟨none, ⟨none, 0, rfl, Row.nil _ _ _ _⟩, h3, fun _ => rfl⟩
  · exact ⟨some out, ⟨a, c, rfl, h3⟩, fun _ => h5, fun h => absurd h4 h⟩
theorem ref22_CloseK (ra rl rm : Option Addr) (ca cl cm : Nat) (n : List (Int × Int)) (l : List Int) (more : List (RowV Int)) (w : World) (R : Row 2 encN w ra n) (Rl : Row 1 encI w rl l) (Rm : Row 1 encRow w rm more) (hm : ∀ q ∈ more, Row 1 encI w q.1 q.2.2) (hg : GoodNet n) (hn : n.length ≤ 1048575) (hll : l.length ≤ 1048576) (hcl : l.length ≤ cl) (hml : more.length ≤ 1048576) :
    Lt.Spec Try.prog 44 [.slice ra n.length ca, .slice rl l.length cl, .slice rm more.length cm] w (fun v w' => Ext w w' ∧ ∃ o, OutV w' o v ∧ OutK n l (more.map (·.2.2)) o) := by
  refine Spec.mono (ref22_Close2 ra rl rm ca cl cm n l more w R Rl Rm hm hg hn hll hcl hml) fun v w' ⟨h1, h2⟩ => ⟨h1, ?_⟩
  rcases h2 with ⟨rfl, h3⟩ | ⟨a, c, out, rfl, h3, h4, h5⟩
  · exact ⟨none, ⟨none, 0, rfl, Row.nil _ _ _ _⟩, h3, fun _ => rfl⟩
  · exact ⟨some out, ⟨a, c, rfl, h3⟩, fun _ => h5, fun h => absurd h4 h⟩
def vCt (vals : List Int) : Int → List Int → Int
  | out, [] => out
  | out, x :: r => if tl vals x = 1 then 1 else vCt vals (if tl vals x = 2 then 2 else out) r
def uCt (vals : List Int) : Int → List Int → Int
  | left, [] => left
  | left, x :: r => if tl vals x = 1 ∨ (tl vals x = 2 ∧ (¬ (0 ≤ x ∧ x ≤ 33554433) ∨ (0 ≤ left ∧ left ≠ x))) then -1 else uCt vals (if tl vals x = 2 then x else left) r
theorem vC_t {vals : List Int} (h0 : vals.getD 0 0 = 0) : ∀ (c : List Int) (o : Int), (∀ x ∈ c, litM vals.length x) → vC vals o c = vCt vals o c
  | [], o, _ => rfl
  | x :: r, o, h => by
    have hx := h x (by simp)
    rw [vC, vCt, lit3_tl h0 hx.1 hx.2.1 hx.2.2, vC_t h0 r _ (fun y hy => h y (by simp [hy]))]
theorem uC_t {vals : List Int} (h0 : vals.getD 0 0 = 0) : ∀ (c : List Int) (o : Int), (∀ x ∈ c, litM vals.length x) → uC vals o c = uCt vals o c
  | [], o, _ => rfl
  | x :: r, o, h => by
    have hx := h x (by simp)
    rw [uC, uCt, lit3_tl h0 hx.1 hx.2.1 hx.2.2, uC_t h0 r _ (fun y hy => h y (by simp [hy]))]
abbrev live22 : List (Int × Int) := [(-1, 0), (-1, 0), (2, 4)]
theorem good22 : GoodNet live22 := by
  intro i x hx
  match i, hx with
  | 0, hx => cases hx; unfold badNode; decide
  | 1, hx => cases hx; unfold badNode; decide
  | 2, hx => cases hx; unfold badNode; decide
  | i + 3, hx => simp at hx
theorem gc22 {c : List Int} (h : GC live22 c) : c = [7, 2] ∨ c = [7, 4] ∨ c = [6, 3, 5] := by
  obtain ⟨k, r, x, h1, h2, h3, rfl⟩ := h
  match k, h1 with
  | 0, h1 => cases h1; exact absurd h3 (by decide)
  | 1, h1 => cases h1; exact absurd h3 (by decide)
  | 2, h1 =>
    cases h1
    match r, h2 with
    | 0, _ => exact .inl rfl
    | 1, _ => exact .inr (.inl rfl)
    | 2, _ => exact .inr (.inr rfl)
  | k + 3, h1 => simp at h1
theorem rch22 {C : List Int → Prop} {V0 V c : List Int} {u : Int} (h : Rch C V0 V) (hc : C c) (h0 : V.getD 0 0 = 0) (hl : ∀ x ∈ c, litM V.length x) (hu : uCt V (-1) c = u) (h1 : 1 < u) : Rch C V0 (setV V u) := by
  have e := uC_t h0 c (-1) hl
  have := Rch.step h hc (by rw [e, hu]; exact h1)
  rwa [e, hu] at this
theorem good_t {V c : List Int} (h0 : V.getD 0 0 = 0) (hl : ∀ x ∈ c, litM V.length x) (h1 : vCt V 0 c ≠ 0 ∧ ¬ 1 < uCt V (-1) c) : goodC V c := by
  unfold goodC; rw [vC_t h0 c _ hl, uC_t h0 c _ hl]; exact h1
theorem gc22_mk : GC live22 [7, 2] ∧ GC live22 [7, 4] ∧ GC live22 [6, 3, 5] := ⟨⟨2, 0, (2, 4), rfl, by decide, by decide, rfl⟩, ⟨2, 1, (2, 4), rfl, by decide, by decide, rfl⟩, ⟨2, 2, (2, 4), rfl, by decide, by decide, rfl⟩⟩
theorem known22 (l : List Int) (h : ∀ x ∈ l, 0 ≤ x ∧ x ≤ 7) : KnownP live22 l := fun x hx => by have := h x hx; exact ⟨this.1, by show x ≤ 7; exact this.2⟩
theorem outA : OutK live22 [6] [] (some [0, 1, 1, 1]) := by
  have hk : KnownP live22 [6] := known22 _ (by decide)
  refine ⟨fun _ => ⟨?_, fun c hc => ?_⟩, fun h => absurd hk h⟩
  · have r1 := rch22 (C := CL live22 [6] []) (V0 := free0 3) .base (c := [6]) (.inl ⟨6, by simp, rfl⟩) rfl (by unfold litM; decide) (u := 6) (by decide) (by decide)
    have r2 := rch22 r1 (c := [7, 2]) (.inr (.inl gc22_mk.1)) rfl (by unfold litM; decide) (u := 2) (by decide) (by decide)
    exact rch22 r2 (c := [7, 4]) (.inr (.inl gc22_mk.2.1)) rfl (by unfold litM; decide) (u := 4) (by decide) (by decide)
  · rcases hc with ⟨x, hx, rfl⟩ | hc | ⟨hc, _⟩
    · obtain rfl := List.mem_singleton.1 hx; exact good_t rfl (by unfold litM; decide) (by decide)
    · rcases gc22 hc with rfl | rfl | rfl <;> exact good_t rfl (by unfold litM; decide) (by decide)
    · cases hc
theorem outB : OutK live22 [7, 2] [] (some [0, 1, 0, 0]) := by
  have hk : KnownP live22 [7, 2] := known22 _ (by decide)
  refine ⟨fun _ => ⟨?_, fun c hc => ?_⟩, fun h => absurd hk h⟩
  · have r1 := rch22 (C := CL live22 [7, 2] []) (V0 := free0 3) .base (c := [7]) (.inl ⟨7, by simp, rfl⟩) rfl (by unfold litM; decide) (u := 7) (by decide) (by decide)
    have r2 := rch22 r1 (c := [2]) (.inl ⟨2, by simp, rfl⟩) rfl (by unfold litM; decide) (u := 2) (by decide) (by decide)
    exact rch22 r2 (c := [6, 3, 5]) (.inr (.inl gc22_mk.2.2)) rfl (by unfold litM; decide) (u := 5) (by decide) (by decide)
  · rcases hc with ⟨x, hx, rfl⟩ | hc | ⟨hc, _⟩
    · simp only [List.mem_cons, List.not_mem_nil, or_false] at hx
      rcases hx with rfl | rfl <;> exact good_t rfl (by unfold litM; decide) (by decide)
    · rcases gc22 hc with rfl | rfl | rfl <;> exact good_t rfl (by unfold litM; decide) (by decide)
    · cases hc
theorem imply_CloseL (ra rl : Option Addr) (ca cl : Nat) (l out : List Int) (w : World) (R : Row 2 encN w ra live22) (hna : ra = none → ca = 0) (Rl : Row 1 encI w rl l) (hl : ∀ x ∈ l, x ≤ 9223372036854775807) (h : OutK live22 l [] (some out)) :
    Lt.Spec Try.prog 43 [.slice ra 3 ca, .slice rl l.length cl, .slice none 0 0] w (fun v w' => Ext w w' ∧ ∃ a c, v = .tuple #[.slice a out.length c, .bool true] ∧ Row 1 encI w' a out) := by
  refine Spec.mono (imply_CloseK ra rl none ca cl 0 live22 l [] w R hna Rl (Row.nil _ _ _ _) (fun q h => by cases h) good22 (by decide) hl (fun q h => by cases h)) fun v w' ⟨h1, o, ⟨a, c, h2, h3⟩, h4⟩ => ⟨h1, a, c, ?_⟩
  obtain rfl := outK_unique good22 (by decide) h4 h
  exact ⟨h2, h3⟩
set_option maxHeartbeats 8000000 in
theorem lives22 (w : World) : Pure Try.prog 42 [] w (.bool true) := by
  refine Spec.of _ Try.func42 rfl Try.ntmps42 (by kernel_rfl) rfl ?_
  repeat' (first
    | (apply WL.build tOk; exact rfl; exact rfl; exact rfl; exact rfl; exact rfl; exact rfl; exact rfl; kernel_rfl)
    | (apply WL.lit tOk; exact rfl; exact rfl; exact rfl; exact rfl; exact rfl; exact rfl; (first | exact rfl | kernel_rfl | (simp [Instr.fill, catCells]; done)); exact rfl; intro gb w' hb hge hc hx; have hO := Own.of_block (live22) encN_ok hb hge rfl; (obtain ⟨hOn, rfl⟩ : ∃ x, x = hO := ⟨_, rfl⟩; obtain ⟨hxn, rfl⟩ : ∃ x, x = hx := ⟨_, rfl⟩; obtain ⟨wn, rfl⟩ : ∃ x, x = w' := ⟨_, rfl⟩; have Rn := Own.row encN_ok hOn))
    | (apply WL.lit tOk; exact rfl; exact rfl; exact rfl; exact rfl; exact rfl; exact rfl; (first | exact rfl | kernel_rfl | (simp [Instr.fill, catCells]; done)); exact rfl; intro gb w' hb hge hc hx; have hO := Own.of_block ([(6 : Int)]) encI_ok hb hge rfl; (obtain ⟨hOa, rfl⟩ : ∃ x, x = hO := ⟨_, rfl⟩; obtain ⟨hxa, rfl⟩ : ∃ x, x = hx := ⟨_, rfl⟩; obtain ⟨wa, rfl⟩ : ∃ x, x = w' := ⟨_, rfl⟩))
    | (apply WL.lit tOk; exact rfl; exact rfl; exact rfl; exact rfl; exact rfl; exact rfl; (first | exact rfl | kernel_rfl | (simp [Instr.fill, catCells]; done)); exact rfl; intro gb w' hb hge hc hx; have hO := Own.of_block ([(7 : Int), 2]) encI_ok hb hge rfl; (obtain ⟨hOb, rfl⟩ : ∃ x, x = hO := ⟨_, rfl⟩; obtain ⟨hxb, rfl⟩ : ∃ x, x = hx := ⟨_, rfl⟩; obtain ⟨wb, rfl⟩ : ∃ x, x = w' := ⟨_, rfl⟩))
    | (apply WL.lit tOk; exact rfl; exact rfl; exact rfl; exact rfl; exact rfl; exact rfl; (first | exact rfl | kernel_rfl | (simp [Instr.fill, catCells]; done)); exact rfl; intro gb w' hb hge hc hx; have hO := Own.of_block ([(0 : Int), 1, 1, 1]) encI_ok hb hge rfl; (obtain ⟨hOc, rfl⟩ : ∃ x, x = hO := ⟨_, rfl⟩; obtain ⟨hxc, rfl⟩ : ∃ x, x = hx := ⟨_, rfl⟩; obtain ⟨wc, rfl⟩ : ∃ x, x = w' := ⟨_, rfl⟩))
    | (apply WL.lit tOk; exact rfl; exact rfl; exact rfl; exact rfl; exact rfl; exact rfl; (first | exact rfl | kernel_rfl | (simp [Instr.fill, catCells]; done)); exact rfl; intro gb w' hb hge hc hx; have hO := Own.of_block ([(0 : Int), 1, 0, 0]) encI_ok hb hge rfl; (obtain ⟨hOd, rfl⟩ : ∃ x, x = hO := ⟨_, rfl⟩; obtain ⟨hxd, rfl⟩ : ∃ x, x = hx := ⟨_, rfl⟩; obtain ⟨wd, rfl⟩ : ∃ x, x = w' := ⟨_, rfl⟩))
    | (((show WL _ _ _ (⟨_, .call ⟨.value (.func 43), _, _⟩, _, _, _, _⟩ :: _) _ _ _); apply WL.call; exact rfl; exact rfl; exact rfl; exact rfl; exact imply_CloseL _ _ _ _ [7, 2] [0, 1, 0, 0] _ (Rn.ext (by (exact extA))) (fun h => by cases h) (Own.row encI_ok hOb) (by decide) outB; rintro v' w4 ⟨hX4, a4, c4, rfl, Ra4⟩))
    | (((show WL _ _ _ (⟨_, .call ⟨.value (.func 43), _, _⟩, _, _, _, _⟩ :: _) _ _ _); apply WL.call; exact rfl; exact rfl; exact rfl; exact rfl; exact imply_CloseL _ _ _ _ [6] [0, 1, 1, 1] _ (Rn.ext (by (exact extA))) (fun h => by cases h) (Own.row encI_ok hOa) (by decide) outA; rintro v' w3 ⟨hX3, a3, c3, rfl, Ra3⟩))
    | (apply WL.gT; exact rfl; exact rfl; (focus (exact dec_true rfl; done)))
    | (apply WL.gF; exact rfl; exact rfl; (focus (exact dec_true rfl; done)))
    | (apply W.condKT; exact rfl; (focus (exact dec_true rfl; done)))
    | (apply W.condKF; exact rfl; (focus (exact dec_true rfl; done)))
    | ((show WL _ _ _ (⟨_, .call ⟨.value (.func 22), _, _⟩, _, _, _, _⟩ :: _) _ _ _); apply WL.callS; exact rfl; exact rfl; exact rfl; exact rfl; exact ref_Ints _ _ _ _ [0, 1, 1, 1] [0, 1, 1, 1] _ (Ra3.ext (by (exact extA))) (Own.row encI_ok hOc))
    | ((show WL _ _ _ (⟨_, .call ⟨.value (.func 22), _, _⟩, _, _, _, _⟩ :: _) _ _ _); apply WL.callS; exact rfl; exact rfl; exact rfl; exact rfl; exact ref_Ints _ _ _ _ [0, 1, 0, 0] [0, 1, 0, 0] _ (Ra4.ext (by (exact extA))) (Own.row encI_ok hOd))
    | (show WL _ _ _ _ _ _ _; first | apply WL.nil | (apply WL.pev tOk; exact rfl; exact rfl; exact rfl) | (apply WL.load tOk; exact rfl; exact rfl; exact rfl; exact rfl; exact rfl; (first | assumption | (focus (apply Ext.cell; rotate_left; assumption; (exact extA); done)))) | (apply WL.index tOk; exact rfl; exact rfl; exact rfl; exact rfl; exact rfl; exact rfl; exact rfl; exact rfl; assumption; (exact extA); exact rfl; omega; assumption; intro b off h; have hcc := h; first | (obtain ⟨h1, h2, h3, h4, h5, h6, _⟩ := h) | (obtain ⟨h1, h2, h3, _⟩ := h) | (obtain ⟨h1, h2, _⟩ := h) | (obtain ⟨h1, _⟩ := h)) | (apply WL.add; exact rfl; exact rfl; exact rfl; exact rfl; omega) | (apply WL.sub; exact rfl; exact rfl; exact rfl; exact rfl; omega) | (apply WL.mul; exact rfl; exact rfl; exact rfl; exact rfl; omega) | (apply WL.quo; exact rfl; exact rfl; exact rfl; exact rfl; omega) | (apply WL.rem; exact rfl; exact rfl; exact rfl; exact rfl; omega) | (apply WL.loadA tOk; exact rfl; exact rfl; exact rfl; exact rfl; exact rfl; (first | assumption | (focus (apply Cells.ext; rotate_left; assumption; (exact extA); done))); exact rfl) | (apply WL.guardF; exact rfl; exact rfl) | (apply WL.gD; exact rfl; exact rfl; all_goals intro _) | (apply WL.gN; exact rfl; exact rfl; all_goals intro _) | (apply WL.gB; exact rfl; exact rfl; all_goals intro _))
    | (show Z _ _ _ _ _; first | apply Z.tail | apply Z.then_normal | apply Z.block_normal | apply Z.then_exit | apply Z.block_exit | apply Z.then_ret | apply Z.block_ret | (apply Z.block_other; exact rfl))
    | (show W _ _ _ _ _ _; first | apply W.seq | apply W.region | apply W.block | apply W.skip | apply W.ret | apply W.exit | (apply W.condT; exact rfl) | (apply W.condF; exact rfl) | (apply W.condD; exact rfl; all_goals intro _) | (apply W.condN; exact rfl; all_goals intro _) | (apply W.condB; exact rfl; all_goals intro _)))
  exact Z.body1 Try.results42 rfl fun m => ⟨rfl, Ext.at (by (exact extA)) m⟩
end Go.Proofs.Ytmaekaflpbenmaa
namespace Go.Proofs.Ytmaekaflpbenmaa
open Go Go.Lt Go.RowKit
set_option linter.unusedVariables false
set_option linter.unusedSimpArgs false

def FewP (c : List (RowV Int)) (most : Int) : Prop := (∀ q ∈ c, q.2.2.length ≤ 20) ∧ (c.length : Int) ≤ most
theorem law22_Few (rm : Option Addr) (cm : Nat) (more : List (RowV Int)) (most : Int) (w : World) (Rm : Row 1 encRow w rm more) : Still Try.prog 41 [.slice rm more.length cm, .int .i64 most] w (.bool (dec (FewP more most))) := by
  have hml := Rm.len
  refine Spec.of _ Try.func41 rfl Try.ntmps41 (by kernel_rfl) rfl ?_
  repeat' (first
    | (show WL _ _ _ _ _ _ _; first | apply WL.nil | (apply WL.pev tOk; exact rfl; exact rfl; exact rfl) | (apply WL.load tOk; exact rfl; exact rfl; exact rfl; exact rfl; exact rfl; (first | assumption | (focus (apply Ext.cell; rotate_left; assumption; (exact extA); done)))) | (apply WL.index tOk; exact rfl; exact rfl; exact rfl; exact rfl; exact rfl; exact rfl; exact rfl; exact rfl; assumption; (exact extA); exact rfl; omega; assumption; intro b off h; have hcc := h; first | (obtain ⟨h1, h2, h3, h4, h5, h6, _⟩ := h) | (obtain ⟨h1, h2, h3, _⟩ := h) | (obtain ⟨h1, h2, _⟩ := h) | (obtain ⟨h1, _⟩ := h)) | (apply WL.add; exact rfl; exact rfl; exact rfl; exact rfl; omega) | (apply WL.sub; exact rfl; exact rfl; exact rfl; exact rfl; omega) | (apply WL.mul; exact rfl; exact rfl; exact rfl; exact rfl; omega) | (apply WL.quo; exact rfl; exact rfl; exact rfl; exact rfl; omega) | (apply WL.rem; exact rfl; exact rfl; exact rfl; exact rfl; omega) | (apply WL.loadA tOk; exact rfl; exact rfl; exact rfl; exact rfl; exact rfl; (first | assumption | (focus (apply Cells.ext; rotate_left; assumption; (exact extA); done))); exact rfl) | (apply WL.guardF; exact rfl; exact rfl) | (apply WL.gD; exact rfl; exact rfl; all_goals intro _) | (apply WL.gN; exact rfl; exact rfl; all_goals intro _) | (apply WL.gB; exact rfl; exact rfl; all_goals intro _))
    | (show Z _ _ _ _ _; first | apply Z.tail | apply Z.then_normal | apply Z.block_normal | apply Z.then_exit | apply Z.block_exit | apply Z.then_ret | apply Z.block_ret | (apply Z.block_other; exact rfl))
    | (show W _ _ _ _ _ _; first | apply W.seq | apply W.region | apply W.block | apply W.skip | apply W.ret | apply W.exit | (apply W.condT; exact rfl) | (apply W.condF; exact rfl) | (apply W.condD; exact rfl; all_goals intro _) | (apply W.condN; exact rfl; all_goals intro _) | (apply W.condB; exact rfl; all_goals intro _)))
  refine W.loop1 more.length (fun k => k ≤ more.length ∧ ∀ q ∈ more.take k, q.2.2.length ≤ 20) (fun k => [(0, .slice rm more.length cm), (1, .int .i64 most), (5, .int .i64 k)]) ⟨Nat.zero_le _, fun q h => by simp at h⟩ (fun k h => h.1) ⟨rfl, rfl, rfl, trivial⟩ ?_
  rintro k ⟨hk, hq⟩
  by_cases hlt : k < more.length
  · obtain ⟨q, hqk⟩ := getI more hlt
    by_cases h20 : q.2.2.length ≤ 20
    · repeat' (first
        | (apply WL.gT; exact rfl; exact rfl; (focus (first | exact dec_true (by omega) | exact dec_false (by omega); done)))
        | (apply WL.gF; exact rfl; exact rfl; (focus (first | exact dec_true (by omega) | exact dec_false (by omega); done)))
        | (apply W.condKT; exact rfl; (focus (first | exact dec_true (by omega) | exact dec_false (by omega); done)))
        | (apply W.condKF; exact rfl; (focus (first | exact dec_true (by omega) | exact dec_false (by omega); done)))
        | (show WL _ _ _ _ _ _ _; first | apply WL.nil | (apply WL.pev tOk; exact rfl; exact rfl; exact rfl) | (apply WL.load tOk; exact rfl; exact rfl; exact rfl; exact rfl; exact rfl; (first | assumption | (focus (apply Ext.cell; rotate_left; assumption; (exact extA); done)))) | (apply WL.index tOk; exact rfl; exact rfl; exact rfl; exact rfl; exact rfl; exact rfl; exact rfl; exact rfl; assumption; (exact extA); exact rfl; omega; assumption; intro b off h; have hcc := h; first | (obtain ⟨h1, h2, h3, h4, h5, h6, _⟩ := h) | (obtain ⟨h1, h2, h3, _⟩ := h) | (obtain ⟨h1, h2, _⟩ := h) | (obtain ⟨h1, _⟩ := h)) | (apply WL.add; exact rfl; exact rfl; exact rfl; exact rfl; omega) | (apply WL.sub; exact rfl; exact rfl; exact rfl; exact rfl; omega) | (apply WL.mul; exact rfl; exact rfl; exact rfl; exact rfl; omega) | (apply WL.quo; exact rfl; exact rfl; exact rfl; exact rfl; omega) | (apply WL.rem; exact rfl; exact rfl; exact rfl; exact rfl; omega) | (apply WL.loadA tOk; exact rfl; exact rfl; exact rfl; exact rfl; exact rfl; (first | assumption | (focus (apply Cells.ext; rotate_left; assumption; (exact extA); done))); exact rfl) | (apply WL.guardF; exact rfl; exact rfl) | (apply WL.gD; exact rfl; exact rfl; all_goals intro _) | (apply WL.gN; exact rfl; exact rfl; all_goals intro _) | (apply WL.gB; exact rfl; exact rfl; all_goals intro _))
        | (show Z _ _ _ _ _; first | apply Z.tail | apply Z.then_normal | apply Z.block_normal | apply Z.then_exit | apply Z.block_exit | apply Z.then_ret | apply Z.block_ret | (apply Z.block_other; exact rfl))
        | (show W _ _ _ _ _ _; first | apply W.seq | apply W.region | apply W.block | apply W.skip | apply W.ret | apply W.exit | (apply W.condT; exact rfl) | (apply W.condF; exact rfl) | (apply W.condD; exact rfl; all_goals intro _) | (apply W.condN; exact rfl; all_goals intro _) | (apply W.condB; exact rfl; all_goals intro _)))
      exact Z.again1 ⟨by omega, fun p hp => by
        rw [take_succ' hqk] at hp
        rcases List.mem_append.1 hp with hp | hp
        · exact hq p hp
        · rw [List.mem_singleton.1 hp]; exact h20⟩ ⟨rfl, rfl, rfl, trivial⟩
    · repeat' (first
        | (apply WL.gT; exact rfl; exact rfl; (focus (first | exact dec_true (by omega) | exact dec_false (by omega); done)))
        | (apply WL.gF; exact rfl; exact rfl; (focus (first | exact dec_true (by omega) | exact dec_false (by omega); done)))
        | (apply W.condKT; exact rfl; (focus (first | exact dec_true (by omega) | exact dec_false (by omega); done)))
        | (apply W.condKF; exact rfl; (focus (first | exact dec_true (by omega) | exact dec_false (by omega); done)))
        | (show WL _ _ _ _ _ _ _; first | apply WL.nil | (apply WL.pev tOk; exact rfl; exact rfl; exact rfl) | (apply WL.load tOk; exact rfl; exact rfl; exact rfl; exact rfl; exact rfl; (first | assumption | (focus (apply Ext.cell; rotate_left; assumption; (exact extA); done)))) | (apply WL.index tOk; exact rfl; exact rfl; exact rfl; exact rfl; exact rfl; exact rfl; exact rfl; exact rfl; assumption; (exact extA); exact rfl; omega; assumption; intro b off h; have hcc := h; first | (obtain ⟨h1, h2, h3, h4, h5, h6, _⟩ := h) | (obtain ⟨h1, h2, h3, _⟩ := h) | (obtain ⟨h1, h2, _⟩ := h) | (obtain ⟨h1, _⟩ := h)) | (apply WL.add; exact rfl; exact rfl; exact rfl; exact rfl; omega) | (apply WL.sub; exact rfl; exact rfl; exact rfl; exact rfl; omega) | (apply WL.mul; exact rfl; exact rfl; exact rfl; exact rfl; omega) | (apply WL.quo; exact rfl; exact rfl; exact rfl; exact rfl; omega) | (apply WL.rem; exact rfl; exact rfl; exact rfl; exact rfl; omega) | (apply WL.loadA tOk; exact rfl; exact rfl; exact rfl; exact rfl; exact rfl; (first | assumption | (focus (apply Cells.ext; rotate_left; assumption; (exact extA); done))); exact rfl) | (apply WL.guardF; exact rfl; exact rfl) | (apply WL.gD; exact rfl; exact rfl; all_goals intro _) | (apply WL.gN; exact rfl; exact rfl; all_goals intro _) | (apply WL.gB; exact rfl; exact rfl; all_goals intro _))
        | (show Z _ _ _ _ _; first | apply Z.tail | apply Z.then_normal | apply Z.block_normal | apply Z.then_exit | apply Z.block_exit | apply Z.then_ret | apply Z.block_ret | (apply Z.block_other; exact rfl))
        | (show W _ _ _ _ _ _; first | apply W.seq | apply W.region | apply W.block | apply W.skip | apply W.ret | apply W.exit | (apply W.condT; exact rfl) | (apply W.condF; exact rfl) | (apply W.condD; exact rfl; all_goals intro _) | (apply W.condN; exact rfl; all_goals intro _) | (apply W.condB; exact rfl; all_goals intro _)))
      exact Z.body1 Try.results41 rfl fun m => ⟨congrArg Value.bool (dec_false fun h => h20 (h.1 q (List.mem_of_getElem? hqk))).symm, m, rfl⟩
  · obtain rfl : k = more.length := by omega
    rw [List.take_length] at hq
    repeat' (first
      | (apply WL.gT; exact rfl; exact rfl; (focus (exact dec_false (by omega); done)))
      | (apply WL.gF; exact rfl; exact rfl; (focus (exact dec_false (by omega); done)))
      | (apply W.condKT; exact rfl; (focus (exact dec_false (by omega); done)))
      | (apply W.condKF; exact rfl; (focus (exact dec_false (by omega); done)))
      | (show WL _ _ _ _ _ _ _; first | apply WL.nil | (apply WL.pev tOk; exact rfl; exact rfl; exact rfl) | (apply WL.load tOk; exact rfl; exact rfl; exact rfl; exact rfl; exact rfl; (first | assumption | (focus (apply Ext.cell; rotate_left; assumption; (exact extA); done)))) | (apply WL.index tOk; exact rfl; exact rfl; exact rfl; exact rfl; exact rfl; exact rfl; exact rfl; exact rfl; assumption; (exact extA); exact rfl; omega; assumption; intro b off h; have hcc := h; first | (obtain ⟨h1, h2, h3, h4, h5, h6, _⟩ := h) | (obtain ⟨h1, h2, h3, _⟩ := h) | (obtain ⟨h1, h2, _⟩ := h) | (obtain ⟨h1, _⟩ := h)) | (apply WL.add; exact rfl; exact rfl; exact rfl; exact rfl; omega) | (apply WL.sub; exact rfl; exact rfl; exact rfl; exact rfl; omega) | (apply WL.mul; exact rfl; exact rfl; exact rfl; exact rfl; omega) | (apply WL.quo; exact rfl; exact rfl; exact rfl; exact rfl; omega) | (apply WL.rem; exact rfl; exact rfl; exact rfl; exact rfl; omega) | (apply WL.loadA tOk; exact rfl; exact rfl; exact rfl; exact rfl; exact rfl; (first | assumption | (focus (apply Cells.ext; rotate_left; assumption; (exact extA); done))); exact rfl) | (apply WL.guardF; exact rfl; exact rfl) | (apply WL.gD; exact rfl; exact rfl; all_goals intro _) | (apply WL.gN; exact rfl; exact rfl; all_goals intro _) | (apply WL.gB; exact rfl; exact rfl; all_goals intro _))
      | (show Z _ _ _ _ _; first | apply Z.tail | apply Z.then_normal | apply Z.block_normal | apply Z.then_exit | apply Z.block_exit | apply Z.then_ret | apply Z.block_ret | (apply Z.block_other; exact rfl))
      | (show W _ _ _ _ _ _; first | apply W.seq | apply W.region | apply W.block | apply W.skip | apply W.ret | apply W.exit | (apply W.condT; exact rfl) | (apply W.condF; exact rfl) | (apply W.condD; exact rfl; all_goals intro _) | (apply W.condN; exact rfl; all_goals intro _) | (apply W.condB; exact rfl; all_goals intro _)))
    exact Z.body1 Try.results41 rfl fun m => ⟨congrArg Value.bool (dec_congr ⟨fun h => ⟨hq, h⟩, fun h => h.2⟩), m, rfl⟩
set_option maxHeartbeats 16000000 in
theorem law_ImplyCloses (ra rl rm : Option Addr) (ca cl cm : Nat) (n : List (Int × Int)) (l : List Int) (more : List (RowV Int)) (w : World) (R : Row 2 encN w ra n) (hna : ra = none → ca = 0) (Rl : Row 1 encI w rl l) (hcl : l.length ≤ cl) (hnl : rl = none → cl = 0) (Rm : Row 1 encRow w rm more) (hm : ∀ q ∈ more, Row 1 encI w q.1 q.2.2 ∧ (q.1 = none → q.2.1 = 0))
    (hl64 : ∀ x ∈ l, x ≤ 9223372036854775807) (hm64 : ∀ q ∈ more, ∀ x ∈ q.2.2, x ≤ 9223372036854775807) :
    Pure Try.prog 8 [.slice ra n.length ca, .slice rl l.length cl, .slice rm more.length cm] w (.bool true) := by
  have hll := Rl.len
  have hml := Rm.len
  by_cases hsm : ((n.length ≤ 40 ∧ GoodNet n) ∧ l.length ≤ 30) ∧ FewP more 20
  rotate_left
  · refine Spec.of _ Try.func8 rfl Try.ntmps8 (by kernel_rfl) rfl ?_
    repeat' (first
      | ((show WL _ _ _ (⟨_, .call ⟨.value (.func 40), _, _⟩, _, _, _, _⟩ :: _) _ _ _); apply WL.callS; exact rfl; exact rfl; exact rfl; exact rfl; exact law07_Small _ _ _ _ _ R (by omega))
      | ((show WL _ _ _ (⟨_, .call ⟨.value (.func 41), _, _⟩, _, _, _, _⟩ :: _) _ _ _); apply WL.callS; exact rfl; exact rfl; exact rfl; exact rfl; exact law22_Few _ _ more _ _ Rm)
      | ((show WL _ _ _ (⟨_, .call ⟨.value (.func 42), _, _⟩, _, _, _, _⟩ :: _) _ _ _); apply WL.callP; exact rfl; exact rfl; exact rfl; exact rfl; exact lives22 _; intro w' hx)
      | (show WL _ _ _ _ _ _ _; first | apply WL.nil | (apply WL.pev tOk; exact rfl; exact rfl; exact rfl) | (apply WL.load tOk; exact rfl; exact rfl; exact rfl; exact rfl; exact rfl; (first | assumption | (focus (apply Ext.cell; rotate_left; assumption; (exact extA); done)))) | (apply WL.index tOk; exact rfl; exact rfl; exact rfl; exact rfl; exact rfl; exact rfl; exact rfl; exact rfl; assumption; (exact extA); exact rfl; omega; assumption; intro b off h; have hcc := h; first | (obtain ⟨h1, h2, h3, h4, h5, h6, _⟩ := h) | (obtain ⟨h1, h2, h3, _⟩ := h) | (obtain ⟨h1, h2, _⟩ := h) | (obtain ⟨h1, _⟩ := h)) | (apply WL.add; exact rfl; exact rfl; exact rfl; exact rfl; omega) | (apply WL.sub; exact rfl; exact rfl; exact rfl; exact rfl; omega) | (apply WL.mul; exact rfl; exact rfl; exact rfl; exact rfl; omega) | (apply WL.quo; exact rfl; exact rfl; exact rfl; exact rfl; omega) | (apply WL.rem; exact rfl; exact rfl; exact rfl; exact rfl; omega) | (apply WL.loadA tOk; exact rfl; exact rfl; exact rfl; exact rfl; exact rfl; (first | assumption | (focus (apply Cells.ext; rotate_left; assumption; (exact extA); done))); exact rfl) | (apply WL.guardF; exact rfl; exact rfl) | (apply WL.gD; exact rfl; exact rfl; all_goals intro _) | (apply WL.gN; exact rfl; exact rfl; all_goals intro _) | (apply WL.gB; exact rfl; exact rfl; all_goals intro _))
      | (show Z _ _ _ _ _; first | apply Z.tail | apply Z.then_normal | apply Z.block_normal | apply Z.then_exit | apply Z.block_exit | apply Z.then_ret | apply Z.block_ret | (apply Z.block_other; exact rfl))
      | (show W _ _ _ _ _ _; first | apply W.seq | apply W.region | apply W.block | apply W.skip | apply W.ret | apply W.exit | (apply W.condT; exact rfl) | (apply W.condF; exact rfl) | (apply W.condD; exact rfl; all_goals intro _) | (apply W.condN; exact rfl; all_goals intro _) | (apply W.condB; exact rfl; all_goals intro _)))
    all_goals first
      | exact Z.body1 Try.results8 rfl fun m => ⟨rfl, Ext.at (by (exact extA)) m⟩
      | skip
    all_goals (exfalso; apply hsm; refine ⟨⟨⟨?_, ?_⟩, ?_⟩, ?_⟩ <;> first | assumption | omega | exact (And.right (by assumption)))
  obtain ⟨⟨⟨hn, hg⟩, hl30⟩, hfew⟩ := hsm
  have hm20 := hfew.2
  have hn' : n.length ≤ 1048576 := by omega
  refine Spec.of _ Try.func8 rfl Try.ntmps8 (by kernel_rfl) rfl ?_
  repeat' (first
    | ((show WL _ _ _ (⟨_, .call ⟨.value (.func 40), _, _⟩, _, _, _, _⟩ :: _) _ _ _); apply WL.callS; exact rfl; exact rfl; exact rfl; exact rfl; exact law07_Small _ _ _ _ _ R (by omega))
    | ((show WL _ _ _ (⟨_, .call ⟨.value (.func 41), _, _⟩, _, _, _, _⟩ :: _) _ _ _); apply WL.callS; exact rfl; exact rfl; exact rfl; exact rfl; exact law22_Few _ _ more _ _ Rm)
    | (apply WL.gT; exact rfl; exact rfl; (focus (first | exact dec_true ⟨by omega, hg⟩ | (rw [dec_true (show ((n.length : Nat) : Int) ≤ 40 ∧ GoodNet n from ⟨by omega, hg⟩)]; rfl) | exact dec_false (by omega) | (rw [dec_true hfew]; rfl); done)))
    | (apply WL.gF; exact rfl; exact rfl; (focus (first | exact dec_true ⟨by omega, hg⟩ | (rw [dec_true (show ((n.length : Nat) : Int) ≤ 40 ∧ GoodNet n from ⟨by omega, hg⟩)]; rfl) | exact dec_false (by omega) | (rw [dec_true hfew]; rfl); done)))
    | (apply W.condKT; exact rfl; (focus (first | exact dec_true ⟨by omega, hg⟩ | (rw [dec_true (show ((n.length : Nat) : Int) ≤ 40 ∧ GoodNet n from ⟨by omega, hg⟩)]; rfl) | exact dec_false (by omega) | (rw [dec_true hfew]; rfl); done)))
    | (apply W.condKF; exact rfl; (focus (first | exact dec_true ⟨by omega, hg⟩ | (rw [dec_true (show ((n.length : Nat) : Int) ≤ 40 ∧ GoodNet n from ⟨by omega, hg⟩)]; rfl) | exact dec_false (by omega) | (rw [dec_true hfew]; rfl); done)))
    | (apply WL.lit (len := 0) tOk; exact rfl; exact rfl; exact rfl; exact rfl; exact rfl; exact rfl; (first | exact rfl | kernel_rfl | (simp [Instr.fill, catCells]; done)); exact rfl; intro gb w' hb hge hc hx; have hO0 := Own.of_block0 (enc := encRI) (s := 1) hb hge)
    | (show WL _ _ _ _ _ _ _; first | apply WL.nil | (apply WL.pev tOk; exact rfl; exact rfl; exact rfl) | (apply WL.load tOk; exact rfl; exact rfl; exact rfl; exact rfl; exact rfl; (first | assumption | (focus (apply Ext.cell; rotate_left; assumption; (exact extA); done)))) | (apply WL.index tOk; exact rfl; exact rfl; exact rfl; exact rfl; exact rfl; exact rfl; exact rfl; exact rfl; assumption; (exact extA); exact rfl; omega; assumption; intro b off h; have hcc := h; first | (obtain ⟨h1, h2, h3, h4, h5, h6, _⟩ := h) | (obtain ⟨h1, h2, h3, _⟩ := h) | (obtain ⟨h1, h2, _⟩ := h) | (obtain ⟨h1, _⟩ := h)) | (apply WL.add; exact rfl; exact rfl; exact rfl; exact rfl; omega) | (apply WL.sub; exact rfl; exact rfl; exact rfl; exact rfl; omega) | (apply WL.mul; exact rfl; exact rfl; exact rfl; exact rfl; omega) | (apply WL.quo; exact rfl; exact rfl; exact rfl; exact rfl; omega) | (apply WL.rem; exact rfl; exact rfl; exact rfl; exact rfl; omega) | (apply WL.loadA tOk; exact rfl; exact rfl; exact rfl; exact rfl; exact rfl; (first | assumption | (focus (apply Cells.ext; rotate_left; assumption; (exact extA); done))); exact rfl) | (apply WL.guardF; exact rfl; exact rfl) | (apply WL.gD; exact rfl; exact rfl; all_goals intro _) | (apply WL.gN; exact rfl; exact rfl; all_goals intro _) | (apply WL.gB; exact rfl; exact rfl; all_goals intro _))
    | (show Z _ _ _ _ _; first | apply Z.tail | apply Z.then_normal | apply Z.block_normal | apply Z.then_exit | apply Z.block_exit | apply Z.then_ret | apply Z.block_ret | (apply Z.block_other; exact rfl))
    | (show W _ _ _ _ _ _; first | apply W.seq | apply W.region | apply W.block | apply W.skip | apply W.ret | apply W.exit | (apply W.condT; exact rfl) | (apply W.condF; exact rfl) | (apply W.condD; exact rfl; all_goals intro _) | (apply W.condN; exact rfl; all_goals intro _) | (apply W.condB; exact rfl; all_goals intro _)))
  refine W.loop (fun s : Int × List (RowV Int) × Option Addr × Nat × World => -1 ≤ s.1 ∧ s.1 < (more.length : Int) ∧ (s.2.1.length : Int) + s.1 + 1 = more.length ∧ Ext w s.2.2.2.2 ∧ RJ w s.2.2.2.2 w.heap.size s.2.2.1 s.2.2.2.1 s.2.1 ∧ (∀ q ∈ s.2.1, q.2.2 ∈ more.map (·.2.2)) ∧ ∀ (j : Nat) (q : RowV Int), s.1 < j → more[j]? = some q → rowsC s.2.1 q.2.2) (fun s => [(0, .slice ra n.length ca), (1, .slice rl l.length cl), (2, .slice rm more.length cm), (7, .slice s.2.2.1 s.2.1.length s.2.2.2.1), (8, .int .i64 s.1)]) (fun s => s.2.2.2.2) (fun s => (s.1 + 1).toNat) ((more.length : Int) - 1, [], some ⟨gb, 0, none⟩, 0, w') ⟨by show -1 ≤ ((more.length : Nat) : Int) - 1; omega, by show ((more.length : Nat) : Int) - 1 < _; omega, by show (([] : List (RowV Int)).length : Int) + (((more.length : Nat) : Int) - 1) + 1 = _; simp, hx, ⟨hO0, (fun q h => by cases h)⟩, (fun q h => by cases h), fun j q h1 h2 => absurd (lt_of_get h2) (by have : ((more.length : Nat) : Int) - 1 < j := h1; omega)⟩ ⟨rfl, rfl, rfl, rfl, rfl, trivial⟩ rfl ?_
  clear hx hO0
  rintro ⟨i, rs, ao, co, w9⟩ ⟨hi0, him, hrl, hX9, hJ, hS9, hC9⟩
  dsimp only at hi0 him hrl hX9 hJ hS9 hC9
  by_cases hlt : 0 ≤ i
  · obtain ⟨q, hq⟩ := getI more (show i.toNat < more.length by omega)
    have hqm := List.mem_of_getElem? hq
    have hql := hfew.1 q hqm
    obtain ⟨Rq, hqn⟩ := hm q hqm
    have hO9 := hJ.outer
    have hsz := hX9.size
    repeat' (first
      | (apply WL.gT; exact rfl; exact rfl; (focus (exact dec_true hlt; done)))
      | (apply WL.gF; exact rfl; exact rfl; (focus (exact dec_true hlt; done)))
      | (apply W.condKT; exact rfl; (focus (exact dec_true hlt; done)))
      | (apply W.condKF; exact rfl; (focus (exact dec_true hlt; done)))
      | (apply WL.lit (len := 0) tOk; exact rfl; exact rfl; exact rfl; exact rfl; exact rfl; exact rfl; (first | exact rfl | kernel_rfl | (simp [Instr.fill, catCells]; done)); exact rfl; intro gb w' hb hge hc hx; have hO0 := Own.of_block0 (enc := encI) (s := 1) hb hge)
      | (apply WL.appendS tOk encI_ok; exact rfl; exact rfl; exact rfl; exact rfl; exact rfl; exact rfl; exact rfl; exact rfl; exact rfl; exact rfl; assumption; (exact extA); (first | exact rfl | (simp; done) | (simp [*]; done) | omega | (simp only [List.length_set]; omega)); assumption; (exact extA); (first | exact rfl | (simp; done) | (simp [*]; done) | omega | (simp only [List.length_set]; omega)); (first | assumption | (intro h; cases h) | exact Own.noneCap (by assumption)); exact rfl; (exact extA); (first | omega | (simp; omega) | (simp at *; omega)); intro a' cap' w' hO hX' hU hF; (obtain ⟨hO3, rfl⟩ : ∃ x, x = hO := ⟨_, rfl⟩; obtain ⟨w3, rfl⟩ : ∃ x, x = w' := ⟨_, rfl⟩; obtain ⟨a3, rfl⟩ : ∃ x, x = a' := ⟨_, rfl⟩; obtain ⟨c3, rfl⟩ : ∃ x, x = cap' := ⟨_, rfl⟩; obtain ⟨hX3, rfl⟩ : ∃ x, x = hX' := ⟨_, rfl⟩))
      | (apply WL.lit tOk; exact rfl; exact rfl; exact rfl; exact rfl; exact rfl; exact rfl; (first | exact rfl | kernel_rfl | (simp [Instr.fill, catCells]; done)); exact rfl; intro gb w' hb hge hc hx)
      | (apply WL.append1 (z := ((a3, c3, q.2.2))) tOk encRI_ok; exact rfl; exact rfl; exact rfl; exact rfl; exact rfl; exact rfl; exact rfl; exact rfl; exact rfl; exact rfl; assumption; (exact extA); (first | exact rfl | (simp; done) | (simp [*]; done) | omega | (simp only [List.length_set]; omega)); assumption; exact rfl; exact rfl; (exact extA); (first | omega | (simp; omega) | (simp at *; omega)); intro a' cap' w' hO hX' hU hF)
      | (show WL _ _ _ _ _ _ _; first | apply WL.nil | (apply WL.pev tOk; exact rfl; exact rfl; exact rfl) | (apply WL.load tOk; exact rfl; exact rfl; exact rfl; exact rfl; exact rfl; (first | assumption | (focus (apply Ext.cell; rotate_left; assumption; (exact extA); done)))) | (apply WL.index tOk; exact rfl; exact rfl; exact rfl; exact rfl; exact rfl; exact rfl; exact rfl; exact rfl; assumption; (exact extA); exact rfl; omega; assumption; intro b off h; have hcc := h; first | (obtain ⟨h1, h2, h3, h4, h5, h6, _⟩ := h) | (obtain ⟨h1, h2, h3, _⟩ := h) | (obtain ⟨h1, h2, _⟩ := h) | (obtain ⟨h1, _⟩ := h)) | (apply WL.add; exact rfl; exact rfl; exact rfl; exact rfl; omega) | (apply WL.sub; exact rfl; exact rfl; exact rfl; exact rfl; omega) | (apply WL.mul; exact rfl; exact rfl; exact rfl; exact rfl; omega) | (apply WL.quo; exact rfl; exact rfl; exact rfl; exact rfl; omega) | (apply WL.rem; exact rfl; exact rfl; exact rfl; exact rfl; omega) | (apply WL.loadA tOk; exact rfl; exact rfl; exact rfl; exact rfl; exact rfl; (first | assumption | (focus (apply Cells.ext; rotate_left; assumption; (exact extA); done))); exact rfl) | (apply WL.guardF; exact rfl; exact rfl) | (apply WL.gD; exact rfl; exact rfl; all_goals intro _) | (apply WL.gN; exact rfl; exact rfl; all_goals intro _) | (apply WL.gB; exact rfl; exact rfl; all_goals intro _))
      | (show Z _ _ _ _ _; first | apply Z.tail | apply Z.then_normal | apply Z.block_normal | apply Z.then_exit | apply Z.block_exit | apply Z.then_ret | apply Z.block_ret | (apply Z.block_other; exact rfl))
      | (show W _ _ _ _ _ _; first | apply W.seq | apply W.region | apply W.block | apply W.skip | apply W.ret | apply W.exit | (apply W.condT; exact rfl) | (apply W.condF; exact rfl) | (apply W.condD; exact rfl; all_goals intro _) | (apply W.condN; exact rfl; all_goals intro _) | (apply W.condB; exact rfl; all_goals intro _)))
    have hX93 : Ext w9 w3 := (by (exact extA))
    refine Z.again (i - 1, rs ++ [(a3, c3, q.2.2)], a', cap', w') ⟨by show -1 ≤ i - 1; omega, by show i - 1 < _; omega, by show (((rs ++ [(a3, c3, q.2.2)]).length : Nat) : Int) + (i - 1) + 1 = _; rw [List.length_append]; show ((rs.length + 1 : Nat) : Int) + (i - 1) + 1 = _; omega, (by (exact extA)), hJ.push hX93 (q := (a3, c3, q.2.2)) (hO3.base ?_) hsz hx hU hF hO, fun p hp => ?_, fun j p hj hp => ?_⟩ (by show (i - 1 + 1).toNat < (i + 1).toNat; omega) ⟨rfl, rfl, rfl, rfl, rfl, trivial⟩ rfl
    · exact Nat.le_refl _
    · rcases List.mem_append.1 hp with h5 | h5
      · exact hS9 p h5
      · rw [List.mem_singleton.1 h5]; exact List.mem_map.2 ⟨q, hqm, rfl⟩
    · by_cases he : (j : Int) = i
      · obtain rfl : j = i.toNat := by omega
        rw [hq] at hp; cases hp
        exact ⟨_, List.mem_append_right _ (List.mem_singleton.2 rfl), rfl⟩
      · obtain ⟨p2, h5, h6⟩ := hC9 j p (by have : i - 1 < j := hj; omega) hp
        exact ⟨p2, List.mem_append_left _ h5, h6⟩
  obtain rfl : i = -1 := by omega
  have hrl2 : rs.length = more.length := by omega
  have R9 := Own.row encRI_ok hJ.outer
  have hsame : ∀ c, c ∈ rs.map (·.2.2) ↔ c ∈ more.map (·.2.2) := fun c => ⟨fun h => by
    obtain ⟨p, hp, rfl⟩ := List.mem_map.1 h
    exact hS9 p hp, fun h => by
    obtain ⟨p, hp, rfl⟩ := List.mem_map.1 h
    obtain ⟨j, hj, he⟩ := List.getElem_of_mem hp
    obtain ⟨p2, h5, h6⟩ := hC9 j p (by omega) (by rw [List.getElem?_eq_getElem hj, he])
    exact List.mem_map.2 ⟨p2, h5, h6⟩⟩
  have hin : ∀ q ∈ rs, Row 1 encI w9 q.1 q.2.2 := fun q hq => by
    rcases hJ.inner q hq with h | ⟨⟨B', _, h⟩, _⟩
    · exact h.ext hX9
    · exact Own.row encI_ok h
  have hr64 : ∀ q ∈ rs, ∀ x ∈ q.2.2, x ≤ 9223372036854775807 := fun q hq x hx => by
    obtain ⟨p, hp, he⟩ := List.mem_map.1 (hS9 q hq)
    exact hm64 p hp x (by rw [he]; exact hx)
  repeat' (first
    | (apply WL.gT; exact rfl; exact rfl; (focus (exact dec_false (by show ¬ (0 : Int) ≤ -1; decide); done)))
    | (apply WL.gF; exact rfl; exact rfl; (focus (exact dec_false (by show ¬ (0 : Int) ≤ -1; decide); done)))
    | (apply W.condKT; exact rfl; (focus (exact dec_false (by show ¬ (0 : Int) ≤ -1; decide); done)))
    | (apply W.condKF; exact rfl; (focus (exact dec_false (by show ¬ (0 : Int) ≤ -1; decide); done)))
    | (apply WL.lit (len := 0) tOk; exact rfl; exact rfl; exact rfl; exact rfl; exact rfl; exact rfl; (first | exact rfl | kernel_rfl | (simp [Instr.fill, catCells]; done)); exact rfl; intro gb w' hb hge hc hx; have hO0 := Own.of_block0 (enc := encI) (s := 1) hb hge)
    | (apply WL.appendS tOk encI_ok; exact rfl; exact rfl; exact rfl; exact rfl; exact rfl; exact rfl; exact rfl; exact rfl; exact rfl; exact rfl; assumption; (exact extA); (first | exact rfl | (simp; done) | (simp [*]; done) | omega | (simp only [List.length_set]; omega)); assumption; (exact extA); (first | exact rfl | (simp; done) | (simp [*]; done) | omega | (simp only [List.length_set]; omega)); (first | assumption | (intro h; cases h) | exact Own.noneCap (by assumption)); exact rfl; (exact extA); (first | omega | (simp; omega) | (simp at *; omega)); intro a' cap' w' hO hX' hU hF; (obtain ⟨hO3, rfl⟩ : ∃ x, x = hO := ⟨_, rfl⟩; obtain ⟨w3, rfl⟩ : ∃ x, x = w' := ⟨_, rfl⟩; obtain ⟨a3, rfl⟩ : ∃ x, x = a' := ⟨_, rfl⟩; obtain ⟨c3, rfl⟩ : ∃ x, x = cap' := ⟨_, rfl⟩; obtain ⟨hX3, rfl⟩ : ∃ x, x = hX' := ⟨_, rfl⟩))
    | (((show WL _ _ _ (⟨_, .call ⟨.value (.func 43), _, _⟩, _, _, _, _⟩ :: _) _ _ _); apply WL.call; exact rfl; exact rfl; exact rfl; exact rfl; exact imply_CloseK ra a3 rm ca c3 cm n l more _ (R.ext (by (exact extA))) hna (Own.row encI_ok hO3) (Rm.ext (by (exact extA))) (fun q hq => (hm q hq).1.ext (by (exact extA))) hg (by omega) hl64 hm64; rintro v' w4 ⟨hX4, o1, ⟨a4, c4, rfl, R4⟩, hK1⟩))
    | (((show WL _ _ _ (⟨_, .call ⟨.value (.func 43), _, _⟩, _, _, _, _⟩ :: _) _ _ _); apply WL.call; exact rfl; exact rfl; exact rfl; exact rfl; exact imply_CloseK ra a3 _ ca c3 _ n l rs _ (R.ext (by (exact extA))) hna (Own.row encI_ok hO3) (R9.ext (by (exact extA))) (fun q hq => (hin q hq).ext (by (exact extA))) hg (by omega) hl64 hr64; rintro v' w5 ⟨hX5, o2, ⟨a5, c5, rfl, R5⟩, hK2⟩; obtain rfl := outK_unique hg hn' (outK_congr hsame hK2) hK1))
    | (((show WL _ _ _ (⟨_, .call ⟨.value (.func 44), _, _⟩, _, _, _, _⟩ :: _) _ _ _); apply WL.call; exact rfl; exact rfl; exact rfl; exact rfl; exact ref22_CloseK ra rl rm ca cl cm n l more _ (R.ext (by (exact extA))) (Rl.ext (by (exact extA))) (Rm.ext (by (exact extA))) (fun q hq => (hm q hq).1.ext (by (exact extA))) hg (by omega) (by omega) hcl (by omega); rintro v' w6 ⟨hX6, o3, ⟨a6, c6, rfl, R6⟩, hK3⟩; obtain rfl := outK_unique hg hn' hK3 hK1))
    | (show WL _ _ _ _ _ _ _; first | apply WL.nil | (apply WL.pev tOk; exact rfl; exact rfl; exact rfl) | (apply WL.load tOk; exact rfl; exact rfl; exact rfl; exact rfl; exact rfl; (first | assumption | (focus (apply Ext.cell; rotate_left; assumption; (exact extA); done)))) | (apply WL.index tOk; exact rfl; exact rfl; exact rfl; exact rfl; exact rfl; exact rfl; exact rfl; exact rfl; assumption; (exact extA); exact rfl; omega; assumption; intro b off h; have hcc := h; first | (obtain ⟨h1, h2, h3, h4, h5, h6, _⟩ := h) | (obtain ⟨h1, h2, h3, _⟩ := h) | (obtain ⟨h1, h2, _⟩ := h) | (obtain ⟨h1, _⟩ := h)) | (apply WL.add; exact rfl; exact rfl; exact rfl; exact rfl; omega) | (apply WL.sub; exact rfl; exact rfl; exact rfl; exact rfl; omega) | (apply WL.mul; exact rfl; exact rfl; exact rfl; exact rfl; omega) | (apply WL.quo; exact rfl; exact rfl; exact rfl; exact rfl; omega) | (apply WL.rem; exact rfl; exact rfl; exact rfl; exact rfl; omega) | (apply WL.loadA tOk; exact rfl; exact rfl; exact rfl; exact rfl; exact rfl; (first | assumption | (focus (apply Cells.ext; rotate_left; assumption; (exact extA); done))); exact rfl) | (apply WL.guardF; exact rfl; exact rfl) | (apply WL.gD; exact rfl; exact rfl; all_goals intro _) | (apply WL.gN; exact rfl; exact rfl; all_goals intro _) | (apply WL.gB; exact rfl; exact rfl; all_goals intro _))
    | (show Z _ _ _ _ _; first | apply Z.tail | apply Z.then_normal | apply Z.block_normal | apply Z.then_exit | apply Z.block_exit | apply Z.then_ret | apply Z.block_ret | (apply Z.block_other; exact rfl))
    | (show W _ _ _ _ _ _; first | apply W.seq | apply W.region | apply W.block | apply W.skip | apply W.ret | apply W.exit | (apply W.condT; exact rfl) | (apply W.condF; exact rfl) | (apply W.condD; exact rfl; all_goals intro _) | (apply W.condN; exact rfl; all_goals intro _) | (apply W.condB; exact rfl; all_goals intro _)))
  repeat' (first
    | ((show WL _ _ _ (⟨_, .call ⟨.value (.func 22), _, _⟩, _, _, _, _⟩ :: _) _ _ _); apply WL.callS; exact rfl; exact rfl; exact rfl; exact rfl; exact ref_Ints _ _ _ _ (o3.getD []) (o3.getD []) _ (R4.ext (by (exact extA))) (R6.ext (by (exact extA))))
    | ((show WL _ _ _ (⟨_, .call ⟨.value (.func 22), _, _⟩, _, _, _, _⟩ :: _) _ _ _); apply WL.callS; exact rfl; exact rfl; exact rfl; exact rfl; exact ref_Ints _ _ _ _ (o3.getD []) (o3.getD []) _ (R5.ext (by (exact extA))) (R6.ext (by (exact extA))))
    | (apply WL.gT; exact rfl; exact rfl; (focus (exact dec_true rfl; done)))
    | (apply WL.gF; exact rfl; exact rfl; (focus (exact dec_true rfl; done)))
    | (apply W.condKT; exact rfl; (focus (exact dec_true rfl; done)))
    | (apply W.condKF; exact rfl; (focus (exact dec_true rfl; done)))
    | ((show WL _ _ _ (⟨_, .call ⟨.value (.func 42), _, _⟩, _, _, _, _⟩ :: _) _ _ _); apply WL.callP; exact rfl; exact rfl; exact rfl; exact rfl; exact lives22 _; intro w' hx)
    | (show WL _ _ _ _ _ _ _; first | apply WL.nil | (apply WL.pev tOk; exact rfl; exact rfl; exact rfl) | (apply WL.load tOk; exact rfl; exact rfl; exact rfl; exact rfl; exact rfl; (first | assumption | (focus (apply Ext.cell; rotate_left; assumption; (exact extA); done)))) | (apply WL.index tOk; exact rfl; exact rfl; exact rfl; exact rfl; exact rfl; exact rfl; exact rfl; exact rfl; assumption; (exact extA); exact rfl; omega; assumption; intro b off h; have hcc := h; first | (obtain ⟨h1, h2, h3, h4, h5, h6, _⟩ := h) | (obtain ⟨h1, h2, h3, _⟩ := h) | (obtain ⟨h1, h2, _⟩ := h) | (obtain ⟨h1, _⟩ := h)) | (apply WL.add; exact rfl; exact rfl; exact rfl; exact rfl; omega) | (apply WL.sub; exact rfl; exact rfl; exact rfl; exact rfl; omega) | (apply WL.mul; exact rfl; exact rfl; exact rfl; exact rfl; omega) | (apply WL.quo; exact rfl; exact rfl; exact rfl; exact rfl; omega) | (apply WL.rem; exact rfl; exact rfl; exact rfl; exact rfl; omega) | (apply WL.loadA tOk; exact rfl; exact rfl; exact rfl; exact rfl; exact rfl; (first | assumption | (focus (apply Cells.ext; rotate_left; assumption; (exact extA); done))); exact rfl) | (apply WL.guardF; exact rfl; exact rfl) | (apply WL.gD; exact rfl; exact rfl; all_goals intro _) | (apply WL.gN; exact rfl; exact rfl; all_goals intro _) | (apply WL.gB; exact rfl; exact rfl; all_goals intro _))
    | (show Z _ _ _ _ _; first | apply Z.tail | apply Z.then_normal | apply Z.block_normal | apply Z.then_exit | apply Z.block_exit | apply Z.then_ret | apply Z.block_ret | (apply Z.block_other; exact rfl))
    | (show W _ _ _ _ _ _; first | apply W.seq | apply W.region | apply W.block | apply W.skip | apply W.ret | apply W.exit | (apply W.condT; exact rfl) | (apply W.condF; exact rfl) | (apply W.condD; exact rfl; all_goals intro _) | (apply W.condN; exact rfl; all_goals intro _) | (apply W.condB; exact rfl; all_goals intro _)))
  exact Z.body1 Try.results8 rfl fun m => ⟨rfl, Ext.at (by (exact extA)) m⟩
end Go.Proofs.Ytmaekaflpbenmaa
