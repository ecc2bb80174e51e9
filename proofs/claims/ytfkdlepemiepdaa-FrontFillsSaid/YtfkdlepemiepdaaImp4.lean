/- The reference's clauses of a net: All of them. No conditions. -/
import Derived.Test.YtfkdlepemiepdaaImp3
namespace Go.Proofs.Ytfkdlepemiepdaa
open Go Go.Lt Go.RowKit
set_option linter.unusedVariables false
set_option linter.unusedSimpArgs false

abbrev encRI : RowV Int → List Value := encRow
theorem encRI_ok : Enc 1 encRI := encRow_ok
structure RI (B m : Nat) (w : World) (a : Option Addr) (cap : Nat) (rs : List (RowV Int)) : Prop where
  outer : Own 1 encRI 23 B w a cap rs
  inner : ∀ q ∈ rs, (∃ B', B ≤ B' ∧ Own 1 encI 3 B' w q.1 q.2.1 q.2.2) ∧ (blk q.1 = none ∨ blk q.1 ≠ blk a)
  lits : ∀ q ∈ rs, ∀ x ∈ q.2.2, 0 ≤ x ∧ x ≤ 2 * (m : Int) + 1
theorem RI.ext {B m : Nat} {w w1 : World} {a : Option Addr} {cap : Nat} {rs : List (RowV Int)} (h : RI B m w a cap rs) (hx : Ext w w1) : RI B m w1 a cap rs :=
  ⟨h.outer.ext hx, fun q hq => ⟨let ⟨B', h1, h2⟩ := (h.inner q hq).1; ⟨B', h1, h2.ext hx⟩, (h.inner q hq).2⟩, h.lits⟩
theorem RI.push {B m : Nat} {w w1 w2 w3 : World} {a a' : Option Addr} {cap cap' : Nat} {rs : List (RowV Int)} {q : RowV Int} (h : RI B m w a cap rs) (hx : Ext w w1) (hq : Own 1 encI 3 w.heap.size w1 q.1 q.2.1 q.2.2)
    (hl : ∀ x ∈ q.2.2, 0 ≤ x ∧ x ≤ 2 * (m : Int) + 1) (hB : B ≤ w.heap.size) (hx2 : Ext w1 w2) (hU : Upd B a w2 w3) (hF : blk a' = blk a ∨ ∃ k, blk a' = some k ∧ w2.heap.size ≤ k) (hO : Own 1 encRI 23 B w3 a' cap' (rs ++ [q])) : RI B m w3 a' cap' (rs ++ [q]) := by
  have h2 := h.ext (hx.trans hx2)
  have hq2 := hq.ext hx2
  have hqa : blk q.1 = none ∨ blk q.1 ≠ blk a := by
    cases hb : blk q.1 with
    | none => exact .inl rfl
    | some k =>
      refine .inr fun he => ?_
      have e1 := (hq.blk_lt k hb).1
      have e2 := (h.outer.blk_lt k he.symm).2
      omega
  have key : ∀ (B' : Nat) (p : RowV Int), Own 1 encI 3 B' w2 p.1 p.2.1 p.2.2 → (blk p.1 = none ∨ blk p.1 ≠ blk a) → Own 1 encI 3 B' w3 p.1 p.2.1 p.2.2 ∧ (blk p.1 = none ∨ blk p.1 ≠ blk a') := fun B' p ho hn => by
    refine ⟨hU.own ho hn, ?_⟩
    rcases hF with hF | ⟨k, hk, hle⟩
    · rw [hF]; exact hn
    · cases hb : blk p.1 with
      | none => exact .inl rfl
      | some b =>
        refine .inr fun he => ?_
        rw [hk] at he
        have h1 := (ho.blk_lt b hb).2
        have h2 := Option.some.inj he
        omega
  refine ⟨hO, fun p hp => ?_, fun p hp => ?_⟩
  · rcases List.mem_append.1 hp with hp | hp
    · obtain ⟨⟨B', e1, e2⟩, e3⟩ := h2.inner p hp
      obtain ⟨k1, k2⟩ := key B' p e2 e3
      exact ⟨⟨B', e1, k1⟩, k2⟩
    · obtain rfl := List.mem_singleton.1 hp
      obtain ⟨k1, k2⟩ := key _ p hq2 hqa
      exact ⟨⟨_, hB, k1⟩, k2⟩
  · rcases List.mem_append.1 hp with hp | hp
    · exact h.lits p hp
    · obtain rfl := List.mem_singleton.1 hp
      exact hl

theorem clL_lits {n : List (Int × Int)} (hg : GoodNet n) {k r : Nat} {v : Int} {x : Int × Int} (hx : n[k]? = some x) (hv : v = (k : Int) + 1) : ∀ y ∈ clL v r x, 0 ≤ y ∧ y ≤ 2 * (n.length : Int) + 1 := by
  have hk := lt_of_get hx
  intro y hy
  unfold clL at hy
  split at hy
  · cases hy
  · have hgx := hg.gate hx (by omega)
    have xl : ∀ z : Int, 0 ≤ z → z ≤ 2 * (k : Int) + 1 → 0 ≤ Lt.xor1 z ∧ Lt.xor1 z ≤ 2 * (k : Int) + 1 := fun z h0 h1 => by unfold Lt.xor1; split <;> omega
    have x1 := xl x.1 (by omega) hgx.1
    have x2 := xl x.2 hgx.2.1 hgx.2.2
    split at hy
    · simp only [List.mem_cons, List.not_mem_nil, or_false] at hy; rcases hy with rfl | rfl <;> omega
    · split at hy
      · simp only [List.mem_cons, List.not_mem_nil, or_false] at hy; rcases hy with rfl | rfl <;> omega
      · simp only [List.mem_cons, List.not_mem_nil, or_false] at hy; rcases hy with rfl | rfl | rfl <;> omega

abbrev hasC (n : List (Int × Int)) (rs : List (RowV Int)) (j : Nat) : Prop := ∀ x, n[j / 3]? = some x → clL ((j / 3 : Nat) + 1) (j % 3) x = [] ∨ ∃ q ∈ rs, q.2.2 = clL ((j / 3 : Nat) + 1) (j % 3) x
set_option maxHeartbeats 8000000 in
theorem ref22_All (ra : Option Addr) (ca : Nat) (n : List (Int × Int)) (w : World) (R : Row 2 encN w ra n) (hg : GoodNet n) (hn : n.length ≤ 1048576) :
    Lt.Spec Try.prog 91 [.slice ra n.length ca, .slice none 0 0] w (fun v w' => Ext w w' ∧ ∃ a cap rs, v = .slice a rs.length cap ∧ RI w.heap.size n.length w' a cap rs ∧ rs.length ≤ 3 * n.length ∧ ∀ j, j < 3 * n.length → hasC n rs j) := by
  refine Spec.of _ Try.func91 rfl Try.ntmps91 (by kernel_rfl) rfl ?_
  repeat' (first
    | (apply WL.lit (len := 0) tOk; exact rfl; exact rfl; exact rfl; exact rfl; exact rfl; exact rfl; (first | exact rfl | kernel_rfl | (simp [Instr.fill, catCells]; done)); exact rfl; intro gb w' hb hge hc hx; have hO0 := Own.of_block0 (enc := encRI) (s := 1) hb hge)
    | (show WL _ _ _ _ _ _ _; first | apply WL.nil | (apply WL.pev tOk; exact rfl; exact rfl; exact rfl) | (apply WL.load tOk; exact rfl; exact rfl; exact rfl; exact rfl; exact rfl; (first | assumption | (focus (apply Ext.cell; rotate_left; assumption; (exact extA); done)))) | (apply WL.index tOk; exact rfl; exact rfl; exact rfl; exact rfl; exact rfl; exact rfl; exact rfl; exact rfl; assumption; (exact extA); exact rfl; omega; assumption; intro b off h; have hcc := h; first | (obtain ⟨h1, h2, h3, h4, h5, h6, _⟩ := h) | (obtain ⟨h1, h2, h3, _⟩ := h) | (obtain ⟨h1, h2, _⟩ := h) | (obtain ⟨h1, _⟩ := h)) | (apply WL.add; exact rfl; exact rfl; exact rfl; exact rfl; omega) | (apply WL.sub; exact rfl; exact rfl; exact rfl; exact rfl; omega) | (apply WL.mul; exact rfl; exact rfl; exact rfl; exact rfl; omega) | (apply WL.quo; exact rfl; exact rfl; exact rfl; exact rfl; omega) | (apply WL.rem; exact rfl; exact rfl; exact rfl; exact rfl; omega) | (apply WL.loadA tOk; exact rfl; exact rfl; exact rfl; exact rfl; exact rfl; (first | assumption | (focus (apply Cells.ext; rotate_left; assumption; (exact extA); done))); exact rfl) | (apply WL.guardF; exact rfl; exact rfl) | (apply WL.gD; exact rfl; exact rfl; all_goals intro _) | (apply WL.gN; exact rfl; exact rfl; all_goals intro _) | (apply WL.gB; exact rfl; exact rfl; all_goals intro _))
    | (show Z _ _ _ _ _; first | apply Z.tail | apply Z.then_normal | apply Z.block_normal | apply Z.then_exit | apply Z.block_exit | apply Z.then_ret | apply Z.block_ret | (apply Z.block_other; exact rfl))
    | (show W _ _ _ _ _ _; first | apply W.seq | apply W.region | apply W.block | apply W.skip | apply W.ret | apply W.exit | (apply W.condT; exact rfl) | (apply W.condF; exact rfl) | (apply W.condD; exact rfl; all_goals intro _) | (apply W.condN; exact rfl; all_goals intro _) | (apply W.condB; exact rfl; all_goals intro _)))
  refine W.loop (fun s : Nat × List (RowV Int) × Option Addr × Nat × World => s.1 ≤ 3 * n.length ∧ s.2.1.length ≤ s.1 ∧ Ext w s.2.2.2.2 ∧ RI w.heap.size n.length s.2.2.2.2 s.2.2.1 s.2.2.2.1 s.2.1 ∧ ∀ j, j < s.1 → hasC n s.2.1 j) (fun s => [(0, .slice ra n.length ca), (1, .slice none 0 0), (5, .slice s.2.2.1 s.2.1.length s.2.2.2.1), (6, .int .i64 ((s.1 : Int) + 3))]) (fun s => s.2.2.2.2) (fun s => 3 * n.length - s.1) (0, [], some ⟨gb, 0, none⟩, 0, w') ⟨Nat.zero_le _, Nat.le_refl _, hx, ⟨hO0, (fun q h => by cases h), (fun q h => by cases h)⟩, fun j h => absurd h (Nat.not_lt_zero _)⟩ ⟨rfl, rfl, rfl, rfl, trivial⟩ rfl ?_
  rintro ⟨k, rs, ao, co, w9⟩ ⟨hk, hrl, hX9, hI, hC⟩
  dsimp only at hk hrl hX9 hI hC
  by_cases hlt : k < 3 * n.length
  · obtain ⟨x, hxn⟩ := getI n (show k / 3 < n.length by omega)
    have ev : ((k : Int) + 3) / 3 = ((k / 3 : Nat) : Int) + 1 := by omega
    have hO1 := hI.outer
    have hsz := hX9.size
    by_cases hnil : clL (((k : Int) + 3) / 3) (k % 3) x = []
    · repeat' (first
        | ((show WL _ _ _ (⟨_, .call ⟨.value (.func 148), _, _⟩, _, _, _, _⟩ :: _) _ _ _); apply WL.call; exact rfl; exact rfl; exact rfl; exact rfl; exact ref22_Clause _ _ n (k / 3) (k % 3) _ x _ (R.ext (by (exact extA))) hg hn hxn (by omega) (by omega); rintro v' w' ⟨hx, a', cap', rfl, hO⟩)
        | (apply WL.gT; exact rfl; exact rfl; (focus (first | exact dec_true (by omega) | exact dec_false (by rw [hnil]; decide); done)))
        | (apply WL.gF; exact rfl; exact rfl; (focus (first | exact dec_true (by omega) | exact dec_false (by rw [hnil]; decide); done)))
        | (apply W.condKT; exact rfl; (focus (first | exact dec_true (by omega) | exact dec_false (by rw [hnil]; decide); done)))
        | (apply W.condKF; exact rfl; (focus (first | exact dec_true (by omega) | exact dec_false (by rw [hnil]; decide); done)))
        | (show WL _ _ _ _ _ _ _; first | apply WL.nil | (apply WL.pev tOk; exact rfl; exact rfl; exact rfl) | (apply WL.load tOk; exact rfl; exact rfl; exact rfl; exact rfl; exact rfl; (first | assumption | (focus (apply Ext.cell; rotate_left; assumption; (exact extA); done)))) | (apply WL.index tOk; exact rfl; exact rfl; exact rfl; exact rfl; exact rfl; exact rfl; exact rfl; exact rfl; assumption; (exact extA); exact rfl; omega; assumption; intro b off h; have hcc := h; first | (obtain ⟨h1, h2, h3, h4, h5, h6, _⟩ := h) | (obtain ⟨h1, h2, h3, _⟩ := h) | (obtain ⟨h1, h2, _⟩ := h) | (obtain ⟨h1, _⟩ := h)) | (apply WL.add; exact rfl; exact rfl; exact rfl; exact rfl; omega) | (apply WL.sub; exact rfl; exact rfl; exact rfl; exact rfl; omega) | (apply WL.mul; exact rfl; exact rfl; exact rfl; exact rfl; omega) | (apply WL.quo; exact rfl; exact rfl; exact rfl; exact rfl; omega) | (apply WL.rem; exact rfl; exact rfl; exact rfl; exact rfl; omega) | (apply WL.loadA tOk; exact rfl; exact rfl; exact rfl; exact rfl; exact rfl; (first | assumption | (focus (apply Cells.ext; rotate_left; assumption; (exact extA); done))); exact rfl) | (apply WL.guardF; exact rfl; exact rfl) | (apply WL.gD; exact rfl; exact rfl; all_goals intro _) | (apply WL.gN; exact rfl; exact rfl; all_goals intro _) | (apply WL.gB; exact rfl; exact rfl; all_goals intro _))
        | (show Z _ _ _ _ _; first | apply Z.tail | apply Z.then_normal | apply Z.block_normal | apply Z.then_exit | apply Z.block_exit | apply Z.then_ret | apply Z.block_ret | (apply Z.block_other; exact rfl))
        | (show W _ _ _ _ _ _; first | apply W.seq | apply W.region | apply W.block | apply W.skip | apply W.ret | apply W.exit | (apply W.condT; exact rfl) | (apply W.condF; exact rfl) | (apply W.condD; exact rfl; all_goals intro _) | (apply W.condN; exact rfl; all_goals intro _) | (apply W.condB; exact rfl; all_goals intro _)))
      refine Z.again (k + 1, rs, ao, co, w') ⟨by show k + 1 ≤ _; omega, by show rs.length ≤ k + 1; omega, (by (exact extA)), hI.ext hx, fun j hj => ?_⟩ (by show 3 * n.length - (k + 1) < 3 * n.length - k; omega) ⟨rfl, rfl, rfl, rfl, trivial⟩ rfl
      by_cases he : j = k
      · subst he
        intro y hy
        rw [hxn] at hy; cases hy
        exact .inl (by rw [← ev]; exact hnil)
      · exact hC j (by have : j < k + 1 := hj; omega)
    · have hpos : (0 : Int) < ((clL (((k : Int) + 3) / 3) (k % 3) x).length : Int) := by
        have := List.length_pos_iff.2 hnil; omega
      repeat' (first
        | ((show WL _ _ _ (⟨_, .call ⟨.value (.func 148), _, _⟩, _, _, _, _⟩ :: _) _ _ _); apply WL.call; exact rfl; exact rfl; exact rfl; exact rfl; exact ref22_Clause _ _ n (k / 3) (k % 3) _ x _ (R.ext (by (exact extA))) hg hn hxn (by omega) (by omega); rintro v' w' ⟨hx, a', cap', rfl, hO⟩; (obtain ⟨hO3, rfl⟩ : ∃ x, x = hO := ⟨_, rfl⟩; obtain ⟨w3, rfl⟩ : ∃ x, x = w' := ⟨_, rfl⟩; obtain ⟨hx3, rfl⟩ : ∃ x, x = hx := ⟨_, rfl⟩; obtain ⟨a3, rfl⟩ : ∃ x, x = a' := ⟨_, rfl⟩; obtain ⟨cap3, rfl⟩ : ∃ x, x = cap' := ⟨_, rfl⟩))
        | (apply WL.gT; exact rfl; exact rfl; (focus (first | exact dec_true (by omega) | exact dec_true hpos; done)))
        | (apply WL.gF; exact rfl; exact rfl; (focus (first | exact dec_true (by omega) | exact dec_true hpos; done)))
        | (apply W.condKT; exact rfl; (focus (first | exact dec_true (by omega) | exact dec_true hpos; done)))
        | (apply W.condKF; exact rfl; (focus (first | exact dec_true (by omega) | exact dec_true hpos; done)))
        | (apply WL.lit tOk; exact rfl; exact rfl; exact rfl; exact rfl; exact rfl; exact rfl; (first | exact rfl | kernel_rfl | (simp [Instr.fill, catCells]; done)); exact rfl; intro gb w' hb hge hc hx)
        | (apply WL.append1 (z := ((a3, cap3, clL (((k : Int) + 3) / 3) (k % 3) x))) tOk encRI_ok; exact rfl; exact rfl; exact rfl; exact rfl; exact rfl; exact rfl; exact rfl; exact rfl; exact rfl; exact rfl; assumption; (exact extA); (first | exact rfl | (simp; done) | (simp [*]; done) | omega | (simp only [List.length_set]; omega)); assumption; exact rfl; exact rfl; (exact extA); (first | omega | (simp; omega) | (simp at *; omega)); intro a' cap' w' hO hX' hU hF)
        | (show WL _ _ _ _ _ _ _; first | apply WL.nil | (apply WL.pev tOk; exact rfl; exact rfl; exact rfl) | (apply WL.load tOk; exact rfl; exact rfl; exact rfl; exact rfl; exact rfl; (first | assumption | (focus (apply Ext.cell; rotate_left; assumption; (exact extA); done)))) | (apply WL.index tOk; exact rfl; exact rfl; exact rfl; exact rfl; exact rfl; exact rfl; exact rfl; exact rfl; assumption; (exact extA); exact rfl; omega; assumption; intro b off h; have hcc := h; first | (obtain ⟨h1, h2, h3, h4, h5, h6, _⟩ := h) | (obtain ⟨h1, h2, h3, _⟩ := h) | (obtain ⟨h1, h2, _⟩ := h) | (obtain ⟨h1, _⟩ := h)) | (apply WL.add; exact rfl; exact rfl; exact rfl; exact rfl; omega) | (apply WL.sub; exact rfl; exact rfl; exact rfl; exact rfl; omega) | (apply WL.mul; exact rfl; exact rfl; exact rfl; exact rfl; omega) | (apply WL.quo; exact rfl; exact rfl; exact rfl; exact rfl; omega) | (apply WL.rem; exact rfl; exact rfl; exact rfl; exact rfl; omega) | (apply WL.loadA tOk; exact rfl; exact rfl; exact rfl; exact rfl; exact rfl; (first | assumption | (focus (apply Cells.ext; rotate_left; assumption; (exact extA); done))); exact rfl) | (apply WL.guardF; exact rfl; exact rfl) | (apply WL.gD; exact rfl; exact rfl; all_goals intro _) | (apply WL.gN; exact rfl; exact rfl; all_goals intro _) | (apply WL.gB; exact rfl; exact rfl; all_goals intro _))
        | (show Z _ _ _ _ _; first | apply Z.tail | apply Z.then_normal | apply Z.block_normal | apply Z.then_exit | apply Z.block_exit | apply Z.then_ret | apply Z.block_ret | (apply Z.block_other; exact rfl))
        | (show W _ _ _ _ _ _; first | apply W.seq | apply W.region | apply W.block | apply W.skip | apply W.ret | apply W.exit | (apply W.condT; exact rfl) | (apply W.condF; exact rfl) | (apply W.condD; exact rfl; all_goals intro _) | (apply W.condN; exact rfl; all_goals intro _) | (apply W.condB; exact rfl; all_goals intro _)))
      have ecl : (((rs ++ [(a3, cap3, clL (((k : Int) + 3) / 3) (k % 3) x)]).length : Nat) : Int) = ((rs.length + 1 : Nat) : Int) := by rw [List.length_append]; rfl
      refine Z.again (k + 1, rs ++ [(a3, cap3, clL (((k : Int) + 3) / 3) (k % 3) x)], a', cap', w') ⟨by show k + 1 ≤ _; omega, by show (rs ++ [_]).length ≤ k + 1; rw [List.length_append]; exact Nat.succ_le_succ hrl, hX', hI.push hx3 hO3 (clL_lits hg hxn ev) hsz hx hU hF hO, fun j hj => ?_⟩ (by show 3 * n.length - (k + 1) < 3 * n.length - k; omega) ⟨rfl, rfl, rfl, rfl, trivial⟩ rfl
      by_cases he : j = k
      · subst he
        intro y hy
        rw [hxn] at hy; cases hy
        exact .inr ⟨_, List.mem_append_right _ (List.mem_singleton.2 rfl), by show clL _ _ _ = _; rw [ev]⟩
      · intro y hy
        rcases hC j (by have : j < k + 1 := hj; omega) y hy with h5 | ⟨q, h5, h6⟩
        · exact .inl h5
        · exact .inr ⟨q, List.mem_append_left _ h5, h6⟩
  · repeat' (first
      | (apply WL.gT; exact rfl; exact rfl; (focus (exact dec_false (by omega); done)))
      | (apply WL.gF; exact rfl; exact rfl; (focus (exact dec_false (by omega); done)))
      | (apply W.condKT; exact rfl; (focus (exact dec_false (by omega); done)))
      | (apply W.condKF; exact rfl; (focus (exact dec_false (by omega); done)))
      | (show WL _ _ _ _ _ _ _; first | apply WL.nil | (apply WL.pev tOk; exact rfl; exact rfl; exact rfl) | (apply WL.load tOk; exact rfl; exact rfl; exact rfl; exact rfl; exact rfl; (first | assumption | (focus (apply Ext.cell; rotate_left; assumption; (exact extA); done)))) | (apply WL.index tOk; exact rfl; exact rfl; exact rfl; exact rfl; exact rfl; exact rfl; exact rfl; exact rfl; assumption; (exact extA); exact rfl; omega; assumption; intro b off h; have hcc := h; first | (obtain ⟨h1, h2, h3, h4, h5, h6, _⟩ := h) | (obtain ⟨h1, h2, h3, _⟩ := h) | (obtain ⟨h1, h2, _⟩ := h) | (obtain ⟨h1, _⟩ := h)) | (apply WL.add; exact rfl; exact rfl; exact rfl; exact rfl; omega) | (apply WL.sub; exact rfl; exact rfl; exact rfl; exact rfl; omega) | (apply WL.mul; exact rfl; exact rfl; exact rfl; exact rfl; omega) | (apply WL.quo; exact rfl; exact rfl; exact rfl; exact rfl; omega) | (apply WL.rem; exact rfl; exact rfl; exact rfl; exact rfl; omega) | (apply WL.loadA tOk; exact rfl; exact rfl; exact rfl; exact rfl; exact rfl; (first | assumption | (focus (apply Cells.ext; rotate_left; assumption; (exact extA); done))); exact rfl) | (apply WL.guardF; exact rfl; exact rfl) | (apply WL.gD; exact rfl; exact rfl; all_goals intro _) | (apply WL.gN; exact rfl; exact rfl; all_goals intro _) | (apply WL.gB; exact rfl; exact rfl; all_goals intro _))
      | (show Z _ _ _ _ _; first | apply Z.tail | apply Z.then_normal | apply Z.block_normal | apply Z.then_exit | apply Z.block_exit | apply Z.then_ret | apply Z.block_ret | (apply Z.block_other; exact rfl))
      | (show W _ _ _ _ _ _; first | apply W.seq | apply W.region | apply W.block | apply W.skip | apply W.ret | apply W.exit | (apply W.condT; exact rfl) | (apply W.condF; exact rfl) | (apply W.condD; exact rfl; all_goals intro _) | (apply W.condN; exact rfl; all_goals intro _) | (apply W.condB; exact rfl; all_goals intro _)))
    obtain rfl : k = 3 * n.length := by omega
    refine W.loop1 0 (fun k => k = 0) (fun _ => [(0, .slice ra n.length ca), (1, .slice none 0 0), (5, .slice ao rs.length co), (8, .int .i64 0)]) rfl (fun k h => Nat.le_of_eq h) ⟨rfl, rfl, rfl, rfl, trivial⟩ ?_
    rintro _ rfl
    repeat' (first
      | (apply WL.gT; exact rfl; exact rfl; (focus (exact dec_false (by decide); done)))
      | (apply WL.gF; exact rfl; exact rfl; (focus (exact dec_false (by decide); done)))
      | (apply W.condKT; exact rfl; (focus (exact dec_false (by decide); done)))
      | (apply W.condKF; exact rfl; (focus (exact dec_false (by decide); done)))
      | (show WL _ _ _ _ _ _ _; first | apply WL.nil | (apply WL.pev tOk; exact rfl; exact rfl; exact rfl) | (apply WL.load tOk; exact rfl; exact rfl; exact rfl; exact rfl; exact rfl; (first | assumption | (focus (apply Ext.cell; rotate_left; assumption; (exact extA); done)))) | (apply WL.index tOk; exact rfl; exact rfl; exact rfl; exact rfl; exact rfl; exact rfl; exact rfl; exact rfl; assumption; (exact extA); exact rfl; omega; assumption; intro b off h; have hcc := h; first | (obtain ⟨h1, h2, h3, h4, h5, h6, _⟩ := h) | (obtain ⟨h1, h2, h3, _⟩ := h) | (obtain ⟨h1, h2, _⟩ := h) | (obtain ⟨h1, _⟩ := h)) | (apply WL.add; exact rfl; exact rfl; exact rfl; exact rfl; omega) | (apply WL.sub; exact rfl; exact rfl; exact rfl; exact rfl; omega) | (apply WL.mul; exact rfl; exact rfl; exact rfl; exact rfl; omega) | (apply WL.quo; exact rfl; exact rfl; exact rfl; exact rfl; omega) | (apply WL.rem; exact rfl; exact rfl; exact rfl; exact rfl; omega) | (apply WL.loadA tOk; exact rfl; exact rfl; exact rfl; exact rfl; exact rfl; (first | assumption | (focus (apply Cells.ext; rotate_left; assumption; (exact extA); done))); exact rfl) | (apply WL.guardF; exact rfl; exact rfl) | (apply WL.gD; exact rfl; exact rfl; all_goals intro _) | (apply WL.gN; exact rfl; exact rfl; all_goals intro _) | (apply WL.gB; exact rfl; exact rfl; all_goals intro _))
      | (show Z _ _ _ _ _; first | apply Z.tail | apply Z.then_normal | apply Z.block_normal | apply Z.then_exit | apply Z.block_exit | apply Z.then_ret | apply Z.block_ret | (apply Z.block_other; exact rfl))
      | (show W _ _ _ _ _ _; first | apply W.seq | apply W.region | apply W.block | apply W.skip | apply W.ret | apply W.exit | (apply W.condT; exact rfl) | (apply W.condF; exact rfl) | (apply W.condD; exact rfl; all_goals intro _) | (apply W.condN; exact rfl; all_goals intro _) | (apply W.condB; exact rfl; all_goals intro _)))
    exact Z.body1 Try.results91 rfl fun m => ⟨hX9.at m, ao, co, rs, rfl, hI.ext ((Ext.refl _).at m), hrl, hC⟩
end Go.Proofs.Ytfkdlepemiepdaa
