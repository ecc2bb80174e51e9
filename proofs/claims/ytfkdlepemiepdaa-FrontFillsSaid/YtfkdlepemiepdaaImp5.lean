/- All that is said: the reference's Close of a net and some literals, with no more clauses. No conditions. -/
import Derived.Test.YtfkdlepemiepdaaImp4
import Derived.Test.YtfkdlepemiepdaaLtSlice
namespace Go.Proofs.Ytfkdlepemiepdaa
open Go Go.Lt Go.RowKit
set_option linter.unusedVariables false
set_option linter.unusedSimpArgs false

abbrev free0 (k : Nat) : List Int := 0 :: List.replicate k 2
theorem free0_succ (k : Nat) : free0 k ++ [2] = free0 (k + 1) := by
  show (0 : Int) :: (List.replicate k (2 : Int) ++ [2]) = 0 :: List.replicate (k + 1) 2
  rw [List.replicate_succ']
theorem free0_ok (k : Nat) : OkV (free0 k).length (free0 k) := by
  refine ⟨rfl, rfl, fun i z hz => ?_⟩
  cases i with
  | zero => simp at hz; exact .inl hz.symm
  | succ i =>
    have hz' : (List.replicate k (2 : Int))[i]? = some z := hz
    rw [List.getElem?_replicate] at hz'
    split at hz'
    · exact .inr (.inr (Option.some.inj hz').symm)
    · cases hz'
abbrev saidC (n : List (Int × Int)) (out : List Int) : Prop := ∀ j, j < 3 * n.length → ∀ x, n[j / 3]? = some x → clL ((j / 3 : Nat) + 1) (j % 3) x = [] ∨ goodC out (clL ((j / 3 : Nat) + 1) (j % 3) x)
set_option maxHeartbeats 8000000 in
theorem ref22_Close0 (ra rl : Option Addr) (ca cl : Nat) (n : List (Int × Int)) (l : List Int) (w : World) (R : Row 2 encN w ra n) (Rl : Row 1 encI w rl l) (hg : GoodNet n) (hn : n.length ≤ 1048575) (hll : l.length ≤ 1048576) (hcl : l.length ≤ cl) :
    Lt.Spec Try.prog 28 [.slice ra n.length ca, .slice rl l.length cl, .slice none 0 0] w (fun v w' => Ext w w' ∧ (v = .tuple #[.slice none 0 0, .bool false] ∨ ∃ a c out, v = .tuple #[.slice a out.length c, .bool true] ∧ Row 1 encI w' a out ∧ OkV (n.length + 1) out ∧ KnownP n l ∧ (∀ (i : Nat) (x : Int), l[i]? = some x → goodC out [x]) ∧ saidC n out)) := by
  refine Spec.of _ Try.func28 rfl Try.ntmps28 (by kernel_rfl) rfl ?_
  repeat' (first
    | (apply WL.lit tOk; exact rfl; exact rfl; exact rfl; exact rfl; exact rfl; exact rfl; (first | exact rfl | kernel_rfl | (simp [Instr.fill, catCells]; done)); exact rfl; intro gb w' hb hge hc hx; have hO := Own.of_block ([(0 : Int)]) encI_ok hb hge rfl)
    | (show WL _ _ _ _ _ _ _; first | apply WL.nil | (apply WL.pev tOk; exact rfl; exact rfl; exact rfl) | (apply WL.load tOk; exact rfl; exact rfl; exact rfl; exact rfl; exact rfl; (first | assumption | (focus (apply Ext.cell; rotate_left; assumption; (exact extA); done)))) | (apply WL.index tOk; exact rfl; exact rfl; exact rfl; exact rfl; exact rfl; exact rfl; exact rfl; exact rfl; assumption; (exact extA); exact rfl; omega; assumption; intro b off h; have hcc := h; first | (obtain ⟨h1, h2, h3, h4, h5, h6, _⟩ := h) | (obtain ⟨h1, h2, h3, _⟩ := h) | (obtain ⟨h1, h2, _⟩ := h) | (obtain ⟨h1, _⟩ := h)) | (apply WL.add; exact rfl; exact rfl; exact rfl; exact rfl; omega) | (apply WL.sub; exact rfl; exact rfl; exact rfl; exact rfl; omega) | (apply WL.mul; exact rfl; exact rfl; exact rfl; exact rfl; omega) | (apply WL.quo; exact rfl; exact rfl; exact rfl; exact rfl; omega) | (apply WL.rem; exact rfl; exact rfl; exact rfl; exact rfl; omega) | (apply WL.loadA tOk; exact rfl; exact rfl; exact rfl; exact rfl; exact rfl; (first | assumption | (focus (apply Cells.ext; rotate_left; assumption; (exact extA); done))); exact rfl) | (apply WL.guardF; exact rfl; exact rfl) | (apply WL.gD; exact rfl; exact rfl; all_goals intro _) | (apply WL.gN; exact rfl; exact rfl; all_goals intro _) | (apply WL.gB; exact rfl; exact rfl; all_goals intro _))
    | (show Z _ _ _ _ _; first | apply Z.tail | apply Z.then_normal | apply Z.block_normal | apply Z.then_exit | apply Z.block_exit | apply Z.then_ret | apply Z.block_ret | (apply Z.block_other; exact rfl))
    | (show W _ _ _ _ _ _; first | apply W.seq | apply W.region | apply W.block | apply W.skip | apply W.ret | apply W.exit | (apply W.condT; exact rfl) | (apply W.condF; exact rfl) | (apply W.condD; exact rfl; all_goals intro _) | (apply W.condN; exact rfl; all_goals intro _) | (apply W.condB; exact rfl; all_goals intro _)))
  refine W.loopO n.length (fun k c cp w' => k ≤ n.length ∧ Ext w w' ∧ Own 1 encI 3 w.heap.size w' c cp (free0 k)) (fun k c cp => [(0, .slice ra n.length ca), (1, .slice rl l.length cl), (2, .slice none 0 0), (8, .slice c (free0 k).length cp), (9, .int .i64 ((k : Int) + 1))]) (some ⟨gb, 0, none⟩) 1 ⟨by omega, hx, hO⟩ (fun k c cp w' h => h.1) ⟨rfl, rfl, rfl, rfl, rfl, trivial⟩ ?_
  rintro k av cv w1 ⟨hk, hX1, hO1⟩
  have hfl : (free0 k).length = k + 1 := by simp
  by_cases hlt : k < n.length
  · repeat' (first
      | (apply WL.gT; exact rfl; exact rfl; (focus (exact dec_true (by omega); done)))
      | (apply WL.gF; exact rfl; exact rfl; (focus (exact dec_true (by omega); done)))
      | (apply W.condKT; exact rfl; (focus (exact dec_true (by omega); done)))
      | (apply W.condKF; exact rfl; (focus (exact dec_true (by omega); done)))
      | (apply WL.lit tOk; exact rfl; exact rfl; exact rfl; exact rfl; exact rfl; exact rfl; (first | exact rfl | kernel_rfl | (simp [Instr.fill, catCells]; done)); exact rfl; intro gb w' hb hge hc hx)
      | (apply WL.append1 (z := (2)) tOk encI_ok; exact rfl; exact rfl; exact rfl; exact rfl; exact rfl; exact rfl; exact rfl; exact rfl; exact rfl; exact rfl; assumption; (exact extA); (first | exact rfl | (simp; done) | (simp [*]; done) | omega | (simp only [List.length_set]; omega)); assumption; exact rfl; exact rfl; (exact extA); (first | omega | (simp; omega) | (simp at *; omega)); intro a' cap' w' hO hX' hU hF)
      | (show WL _ _ _ _ _ _ _; first | apply WL.nil | (apply WL.pev tOk; exact rfl; exact rfl; exact rfl) | (apply WL.load tOk; exact rfl; exact rfl; exact rfl; exact rfl; exact rfl; (first | assumption | (focus (apply Ext.cell; rotate_left; assumption; (exact extA); done)))) | (apply WL.index tOk; exact rfl; exact rfl; exact rfl; exact rfl; exact rfl; exact rfl; exact rfl; exact rfl; assumption; (exact extA); exact rfl; omega; assumption; intro b off h; have hcc := h; first | (obtain ⟨h1, h2, h3, h4, h5, h6, _⟩ := h) | (obtain ⟨h1, h2, h3, _⟩ := h) | (obtain ⟨h1, h2, _⟩ := h) | (obtain ⟨h1, _⟩ := h)) | (apply WL.add; exact rfl; exact rfl; exact rfl; exact rfl; omega) | (apply WL.sub; exact rfl; exact rfl; exact rfl; exact rfl; omega) | (apply WL.mul; exact rfl; exact rfl; exact rfl; exact rfl; omega) | (apply WL.quo; exact rfl; exact rfl; exact rfl; exact rfl; omega) | (apply WL.rem; exact rfl; exact rfl; exact rfl; exact rfl; omega) | (apply WL.loadA tOk; exact rfl; exact rfl; exact rfl; exact rfl; exact rfl; (first | assumption | (focus (apply Cells.ext; rotate_left; assumption; (exact extA); done))); exact rfl) | (apply WL.guardF; exact rfl; exact rfl) | (apply WL.gD; exact rfl; exact rfl; all_goals intro _) | (apply WL.gN; exact rfl; exact rfl; all_goals intro _) | (apply WL.gB; exact rfl; exact rfl; all_goals intro _))
      | (show Z _ _ _ _ _; first | apply Z.tail | apply Z.then_normal | apply Z.block_normal | apply Z.then_exit | apply Z.block_exit | apply Z.then_ret | apply Z.block_ret | (apply Z.block_other; exact rfl))
      | (show W _ _ _ _ _ _; first | apply W.seq | apply W.region | apply W.block | apply W.skip | apply W.ret | apply W.exit | (apply W.condT; exact rfl) | (apply W.condF; exact rfl) | (apply W.condD; exact rfl; all_goals intro _) | (apply W.condN; exact rfl; all_goals intro _) | (apply W.condB; exact rfl; all_goals intro _)))
    exact Z.againO a' cap' ⟨by omega, hX', by rw [← free0_succ]; exact hO⟩ ⟨rfl, rfl, rfl, by rw [free0_succ]; exact rfl, rfl, trivial⟩
  obtain rfl : k = n.length := by omega
  have Rv := Own.row encI_ok hO1
  have hvn := Own.noneCap hO1
  by_cases hkn : KnownP n l
  · repeat' (first
      | (apply WL.gT; exact rfl; exact rfl; (focus (first | exact dec_false (by omega) | (rw [dec_true hkn]; rfl); done)))
      | (apply WL.gF; exact rfl; exact rfl; (focus (first | exact dec_false (by omega) | (rw [dec_true hkn]; rfl); done)))
      | (apply W.condKT; exact rfl; (focus (first | exact dec_false (by omega) | (rw [dec_true hkn]; rfl); done)))
      | (apply W.condKF; exact rfl; (focus (first | exact dec_false (by omega) | (rw [dec_true hkn]; rfl); done)))
      | ((show WL _ _ _ (⟨_, .call ⟨.value (.func 89), _, _⟩, _, _, _, _⟩ :: _) _ _ _); apply WL.callS; exact rfl; exact rfl; exact rfl; exact rfl; exact ref22_Known _ _ _ _ n l _ (Rl.ext (by (exact extA))) (by omega))
      | (apply WL.lit (len := 0) tOk; exact rfl; exact rfl; exact rfl; exact rfl; exact rfl; exact rfl; (first | exact rfl | kernel_rfl | (simp [Instr.fill, catCells]; done)); exact rfl; intro gb w' hb hge hc hx; have hO0 := Own.of_block0 (enc := encRI) (s := 1) hb hge)
      | (show WL _ _ _ _ _ _ _; first | apply WL.nil | (apply WL.pev tOk; exact rfl; exact rfl; exact rfl) | (apply WL.load tOk; exact rfl; exact rfl; exact rfl; exact rfl; exact rfl; (first | assumption | (focus (apply Ext.cell; rotate_left; assumption; (exact extA); done)))) | (apply WL.index tOk; exact rfl; exact rfl; exact rfl; exact rfl; exact rfl; exact rfl; exact rfl; exact rfl; assumption; (exact extA); exact rfl; omega; assumption; intro b off h; have hcc := h; first | (obtain ⟨h1, h2, h3, h4, h5, h6, _⟩ := h) | (obtain ⟨h1, h2, h3, _⟩ := h) | (obtain ⟨h1, h2, _⟩ := h) | (obtain ⟨h1, _⟩ := h)) | (apply WL.add; exact rfl; exact rfl; exact rfl; exact rfl; omega) | (apply WL.sub; exact rfl; exact rfl; exact rfl; exact rfl; omega) | (apply WL.mul; exact rfl; exact rfl; exact rfl; exact rfl; omega) | (apply WL.quo; exact rfl; exact rfl; exact rfl; exact rfl; omega) | (apply WL.rem; exact rfl; exact rfl; exact rfl; exact rfl; omega) | (apply WL.loadA tOk; exact rfl; exact rfl; exact rfl; exact rfl; exact rfl; (first | assumption | (focus (apply Cells.ext; rotate_left; assumption; (exact extA); done))); exact rfl) | (apply WL.guardF; exact rfl; exact rfl) | (apply WL.gD; exact rfl; exact rfl; all_goals intro _) | (apply WL.gN; exact rfl; exact rfl; all_goals intro _) | (apply WL.gB; exact rfl; exact rfl; all_goals intro _))
      | (show Z _ _ _ _ _; first | apply Z.tail | apply Z.then_normal | apply Z.block_normal | apply Z.then_exit | apply Z.block_exit | apply Z.then_ret | apply Z.block_ret | (apply Z.block_other; exact rfl))
      | (show W _ _ _ _ _ _; first | apply W.seq | apply W.region | apply W.block | apply W.skip | apply W.ret | apply W.exit | (apply W.condT; exact rfl) | (apply W.condF; exact rfl) | (apply W.condD; exact rfl; all_goals intro _) | (apply W.condN; exact rfl; all_goals intro _) | (apply W.condB; exact rfl; all_goals intro _)))
    have hs1 := hX1.size
    refine W.loop (fun s : Nat × List (RowV Int) × Option Addr × Nat × World => s.1 ≤ l.length ∧ s.2.1.length = s.1 ∧ Ext w1 s.2.2.2.2 ∧ Own 1 encRI 23 w1.heap.size s.2.2.2.2 s.2.2.1 s.2.2.2.1 s.2.1 ∧ (∀ q ∈ s.2.1, Row 1 encI w q.1 q.2.2 ∧ ∀ x ∈ q.2.2, 0 ≤ x ∧ x ≤ 2 * (n.length : Int) + 1) ∧ ∀ (i : Nat) (x : Int), i < s.1 → l[i]? = some x → ∃ q ∈ s.2.1, q.2.2 = [x]) (fun s => [(0, .slice ra n.length ca), (1, .slice rl l.length cl), (2, .slice none 0 0), (8, .slice av (free0 n.length).length cv), (10, .slice s.2.2.1 s.2.1.length s.2.2.2.1), (11, .int .i64 s.1)]) (fun s => s.2.2.2.2) (fun s => l.length - s.1) (0, [], some ⟨gb, 0, none⟩, 0, w') ⟨Nat.zero_le _, rfl, hx, hO0, (fun q h => by cases h), fun i x h => absurd h (Nat.not_lt_zero _)⟩ ⟨rfl, rfl, rfl, rfl, rfl, rfl, trivial⟩ rfl ?_
    rintro ⟨k, rs, ao, co, w5⟩ ⟨hk5, hr5, hX5, hO5, hq5, hm5⟩
    dsimp only at hk5 hr5 hX5 hO5 hq5 hm5
    have hX15 : Ext w w5 := hX1.trans hX5
    by_cases hlt2 : k < l.length
    · obtain ⟨x, hxl⟩ := getI l hlt2
      repeat' (first
        | (apply WL.gT; exact rfl; exact rfl; (focus (first | exact dec_true (by omega); done)))
        | (apply WL.gF; exact rfl; exact rfl; (focus (first | exact dec_true (by omega); done)))
        | (apply W.condKT; exact rfl; (focus (first | exact dec_true (by omega); done)))
        | (apply W.condKF; exact rfl; (focus (first | exact dec_true (by omega); done)))
        | ((apply WL.slice1 tOk; exact rfl; exact rfl; exact rfl; exact rfl; exact rfl; exact rfl; exact rfl; exact rfl; exact rfl; exact Rl; exact rfl; exact hcl; exact hxl; exact rfl; exact rfl; intro a6 c6 R6))
        | (apply WL.lit tOk; exact rfl; exact rfl; exact rfl; exact rfl; exact rfl; exact rfl; (first | exact rfl | kernel_rfl | (simp [Instr.fill, catCells]; done)); exact rfl; intro gb w' hb hge hc hx)
        | (apply WL.append1 (z := ((a6, c6, [x]))) tOk encRI_ok; exact rfl; exact rfl; exact rfl; exact rfl; exact rfl; exact rfl; exact rfl; exact rfl; exact rfl; exact rfl; assumption; (exact extA); (first | exact rfl | (simp; done) | (simp [*]; done) | omega | (simp only [List.length_set]; omega)); assumption; exact rfl; exact rfl; (exact extA); (first | omega | (simp; omega) | (simp at *; omega)); intro a' cap' w' hO hX' hU hF)
        | (show WL _ _ _ _ _ _ _; first | apply WL.nil | (apply WL.pev tOk; exact rfl; exact rfl; exact rfl) | (apply WL.load tOk; exact rfl; exact rfl; exact rfl; exact rfl; exact rfl; (first | assumption | (focus (apply Ext.cell; rotate_left; assumption; (exact extA); done)))) | (apply WL.index tOk; exact rfl; exact rfl; exact rfl; exact rfl; exact rfl; exact rfl; exact rfl; exact rfl; assumption; (exact extA); exact rfl; omega; assumption; intro b off h; have hcc := h; first | (obtain ⟨h1, h2, h3, h4, h5, h6, _⟩ := h) | (obtain ⟨h1, h2, h3, _⟩ := h) | (obtain ⟨h1, h2, _⟩ := h) | (obtain ⟨h1, _⟩ := h)) | (apply WL.add; exact rfl; exact rfl; exact rfl; exact rfl; omega) | (apply WL.sub; exact rfl; exact rfl; exact rfl; exact rfl; omega) | (apply WL.mul; exact rfl; exact rfl; exact rfl; exact rfl; omega) | (apply WL.quo; exact rfl; exact rfl; exact rfl; exact rfl; omega) | (apply WL.rem; exact rfl; exact rfl; exact rfl; exact rfl; omega) | (apply WL.loadA tOk; exact rfl; exact rfl; exact rfl; exact rfl; exact rfl; (first | assumption | (focus (apply Cells.ext; rotate_left; assumption; (exact extA); done))); exact rfl) | (apply WL.guardF; exact rfl; exact rfl) | (apply WL.gD; exact rfl; exact rfl; all_goals intro _) | (apply WL.gN; exact rfl; exact rfl; all_goals intro _) | (apply WL.gB; exact rfl; exact rfl; all_goals intro _))
        | (show Z _ _ _ _ _; first | apply Z.tail | apply Z.then_normal | apply Z.block_normal | apply Z.then_exit | apply Z.block_exit | apply Z.then_ret | apply Z.block_ret | (apply Z.block_other; exact rfl))
        | (show W _ _ _ _ _ _; first | apply W.seq | apply W.region | apply W.block | apply W.skip | apply W.ret | apply W.exit | (apply W.condT; exact rfl) | (apply W.condF; exact rfl) | (apply W.condD; exact rfl; all_goals intro _) | (apply W.condN; exact rfl; all_goals intro _) | (apply W.condB; exact rfl; all_goals intro _)))
      refine Z.again (k + 1, rs ++ [(a6, c6, [x])], a', cap', w') ⟨by show k + 1 ≤ _; omega, by show (rs ++ [_]).length = _; rw [List.length_append, hr5]; rfl, hX', hO, fun q hq => ?_, fun i y hi hy => ?_⟩ (by show l.length - (k + 1) < l.length - k; omega) ⟨rfl, rfl, rfl, rfl, rfl, rfl, trivial⟩ rfl
      · rcases List.mem_append.1 hq with h5 | h5
        · exact hq5 q h5
        · obtain rfl := List.mem_singleton.1 h5
          exact ⟨R6, fun y hy => by obtain rfl := List.mem_singleton.1 hy; exact hkn _ (List.mem_of_getElem? hxl)⟩
      · by_cases he : i = k
        · subst he
          rw [hxl] at hy; cases hy
          exact ⟨_, List.mem_append_right _ (List.mem_singleton.2 rfl), rfl⟩
        · obtain ⟨q, h5, h6⟩ := hm5 i y (by have : i < k + 1 := hi; omega) hy
          exact ⟨q, List.mem_append_left _ h5, h6⟩
    obtain rfl : k = l.length := by omega
    have Rv5 := Rv.ext hX5
    repeat' (first
      | (apply WL.gT; exact rfl; exact rfl; (focus (first | exact dec_false (by omega); done)))
      | (apply WL.gF; exact rfl; exact rfl; (focus (first | exact dec_false (by omega); done)))
      | (apply W.condKT; exact rfl; (focus (first | exact dec_false (by omega); done)))
      | (apply W.condKF; exact rfl; (focus (first | exact dec_false (by omega); done)))
      | (((show WL _ _ _ (⟨_, .call ⟨.value (.func 91), _, _⟩, _, _, _, _⟩ :: _) _ _ _); apply WL.call; exact rfl; exact rfl; exact rfl; exact rfl; exact ref22_All ra ca n _ (R.ext (by (exact extA))) hg (by omega); rintro v' w8 ⟨hX8, a8, c8, r8, rfl, hI8, hl8, hC8⟩; have Ra8 := Own.row encRI_ok hI8.outer; have hn8 := Own.noneCap hI8.outer))
      | ((apply WL.appendS (B := w1.heap.size) (w0 := w1) tOk encRI_ok; exact rfl; exact rfl; exact rfl; exact rfl; exact rfl; exact rfl; exact rfl; exact rfl; exact rfl; exact rfl; exact hO5; exact (by (exact extA)); exact rfl; exact Ra8; exact Ext.refl _; exact rfl; exact hn8; exact rfl; exact (by (exact extA)); omega; intro a' cap' w' hO hX' hU hF))
      | (show WL _ _ _ _ _ _ _; first | apply WL.nil | (apply WL.pev tOk; exact rfl; exact rfl; exact rfl) | (apply WL.load tOk; exact rfl; exact rfl; exact rfl; exact rfl; exact rfl; (first | assumption | (focus (apply Ext.cell; rotate_left; assumption; (exact extA); done)))) | (apply WL.index tOk; exact rfl; exact rfl; exact rfl; exact rfl; exact rfl; exact rfl; exact rfl; exact rfl; assumption; (exact extA); exact rfl; omega; assumption; intro b off h; have hcc := h; first | (obtain ⟨h1, h2, h3, h4, h5, h6, _⟩ := h) | (obtain ⟨h1, h2, h3, _⟩ := h) | (obtain ⟨h1, h2, _⟩ := h) | (obtain ⟨h1, _⟩ := h)) | (apply WL.add; exact rfl; exact rfl; exact rfl; exact rfl; omega) | (apply WL.sub; exact rfl; exact rfl; exact rfl; exact rfl; omega) | (apply WL.mul; exact rfl; exact rfl; exact rfl; exact rfl; omega) | (apply WL.quo; exact rfl; exact rfl; exact rfl; exact rfl; omega) | (apply WL.rem; exact rfl; exact rfl; exact rfl; exact rfl; omega) | (apply WL.loadA tOk; exact rfl; exact rfl; exact rfl; exact rfl; exact rfl; (first | assumption | (focus (apply Cells.ext; rotate_left; assumption; (exact extA); done))); exact rfl) | (apply WL.guardF; exact rfl; exact rfl) | (apply WL.gD; exact rfl; exact rfl; all_goals intro _) | (apply WL.gN; exact rfl; exact rfl; all_goals intro _) | (apply WL.gB; exact rfl; exact rfl; all_goals intro _))
      | (show Z _ _ _ _ _; first | apply Z.tail | apply Z.then_normal | apply Z.block_normal | apply Z.then_exit | apply Z.block_exit | apply Z.then_ret | apply Z.block_ret | (apply Z.block_other; exact rfl))
      | (show W _ _ _ _ _ _; first | apply W.seq | apply W.region | apply W.block | apply W.skip | apply W.ret | apply W.exit | (apply W.condT; exact rfl) | (apply W.condF; exact rfl) | (apply W.condD; exact rfl; all_goals intro _) | (apply W.condN; exact rfl; all_goals intro _) | (apply W.condB; exact rfl; all_goals intro _)))
    have hX1' : Ext w w' := hX1.trans hX'
    have hfl2 : (free0 n.length).length = n.length + 1 := by simp
    have lit : ∀ x : Int, 0 ≤ x ∧ x ≤ 2 * (n.length : Int) + 1 → 0 ≤ x ∧ (x / 2).toNat < (free0 n.length).length ∧ x ≤ 33554433 := fun x hx => by rw [hfl2]; omega
    have hin : ∀ c ∈ rs ++ r8, Row 1 encI w' c.1 c.2.2 ∧ ∀ x ∈ c.2.2, 0 ≤ x ∧ (x / 2).toNat < (free0 n.length).length ∧ x ≤ 33554433 := fun c hc => by
      rcases List.mem_append.1 hc with h5 | h5
      · exact ⟨(hq5 c h5).1.ext hX1', fun x hx => lit x ((hq5 c h5).2 x hx)⟩
      · obtain ⟨⟨B', e1, e2⟩, _⟩ := hI8.inner c h5
        refine ⟨Own.row encI_ok (hU.own e2 ?_), fun x hx => lit x (hI8.lits c h5 x hx)⟩
        cases hb : blk c.1 with
        | none => exact .inl rfl
        | some k =>
          refine .inr fun he => ?_
          have e3 := (e2.blk_lt k hb).1
          have e4 := (hO5.blk_lt k he.symm).2
          have e5 : w5.heap.size ≤ B' := e1
          omega
    repeat' (first
      | (((show WL _ _ _ (⟨_, .call ⟨.value (.func 90), _, _⟩, _, _, _, _⟩ :: _) _ _ _); apply WL.call; exact rfl; exact rfl; exact rfl; exact rfl; exact ref22_Units av a' cv cap' (free0 n.length) (rs ++ r8) _ (Rv.ext (by (exact extA))) (Own.row encRI_ok hO) hin hvn (by omega) (free0_ok n.length); rintro v' w9 ⟨hX9, rfl | ⟨a9, c9, out, rfl, hO9, hk9, hg9⟩⟩))
      | (show WL _ _ _ _ _ _ _; first | apply WL.nil | (apply WL.pev tOk; exact rfl; exact rfl; exact rfl) | (apply WL.load tOk; exact rfl; exact rfl; exact rfl; exact rfl; exact rfl; (first | assumption | (focus (apply Ext.cell; rotate_left; assumption; (exact extA); done)))) | (apply WL.index tOk; exact rfl; exact rfl; exact rfl; exact rfl; exact rfl; exact rfl; exact rfl; exact rfl; assumption; (exact extA); exact rfl; omega; assumption; intro b off h; have hcc := h; first | (obtain ⟨h1, h2, h3, h4, h5, h6, _⟩ := h) | (obtain ⟨h1, h2, h3, _⟩ := h) | (obtain ⟨h1, h2, _⟩ := h) | (obtain ⟨h1, _⟩ := h)) | (apply WL.add; exact rfl; exact rfl; exact rfl; exact rfl; omega) | (apply WL.sub; exact rfl; exact rfl; exact rfl; exact rfl; omega) | (apply WL.mul; exact rfl; exact rfl; exact rfl; exact rfl; omega) | (apply WL.quo; exact rfl; exact rfl; exact rfl; exact rfl; omega) | (apply WL.rem; exact rfl; exact rfl; exact rfl; exact rfl; omega) | (apply WL.loadA tOk; exact rfl; exact rfl; exact rfl; exact rfl; exact rfl; (first | assumption | (focus (apply Cells.ext; rotate_left; assumption; (exact extA); done))); exact rfl) | (apply WL.guardF; exact rfl; exact rfl) | (apply WL.gD; exact rfl; exact rfl; all_goals intro _) | (apply WL.gN; exact rfl; exact rfl; all_goals intro _) | (apply WL.gB; exact rfl; exact rfl; all_goals intro _))
      | (show Z _ _ _ _ _; first | apply Z.tail | apply Z.then_normal | apply Z.block_normal | apply Z.then_exit | apply Z.block_exit | apply Z.then_ret | apply Z.block_ret | (apply Z.block_other; exact rfl))
      | (show W _ _ _ _ _ _; first | apply W.seq | apply W.region | apply W.block | apply W.skip | apply W.ret | apply W.exit | (apply W.condT; exact rfl) | (apply W.condF; exact rfl) | (apply W.condD; exact rfl; all_goals intro _) | (apply W.condN; exact rfl; all_goals intro _) | (apply W.condB; exact rfl; all_goals intro _)))
    · exact Z.body2 Try.results28 rfl rfl fun m => ⟨(hX1'.trans hX9).at m, .inl rfl⟩
    · exact Z.body2 Try.results28 rfl rfl fun m => ⟨(hX1'.trans hX9).at m, .inr ⟨a9, c9, out, rfl, (Own.row encI_ok hO9).ext ((Ext.refl _).at m), hfl2 ▸ hk9, hkn, fun i x hx => by
        obtain ⟨q, h5, h6⟩ := hm5 i x (lt_of_get hx) hx
        rw [← h6]; exact hg9 q (List.mem_append_left _ h5), fun j hj x hx => by
        rcases hC8 j hj x hx with h5 | ⟨q, h5, h6⟩
        · exact .inl h5
        · exact .inr (by rw [← h6]; exact hg9 q (List.mem_append_right _ h5))⟩⟩
  · repeat' (first
      | (apply WL.gT; exact rfl; exact rfl; (focus (first | exact dec_false (by omega) | (rw [dec_false hkn]; rfl); done)))
      | (apply WL.gF; exact rfl; exact rfl; (focus (first | exact dec_false (by omega) | (rw [dec_false hkn]; rfl); done)))
      | (apply W.condKT; exact rfl; (focus (first | exact dec_false (by omega) | (rw [dec_false hkn]; rfl); done)))
      | (apply W.condKF; exact rfl; (focus (first | exact dec_false (by omega) | (rw [dec_false hkn]; rfl); done)))
      | ((show WL _ _ _ (⟨_, .call ⟨.value (.func 89), _, _⟩, _, _, _, _⟩ :: _) _ _ _); apply WL.callS; exact rfl; exact rfl; exact rfl; exact rfl; exact ref22_Known _ _ _ _ n l _ (Rl.ext (by (exact extA))) (by omega))
      | (show WL _ _ _ _ _ _ _; first | apply WL.nil | (apply WL.pev tOk; exact rfl; exact rfl; exact rfl) | (apply WL.load tOk; exact rfl; exact rfl; exact rfl; exact rfl; exact rfl; (first | assumption | (focus (apply Ext.cell; rotate_left; assumption; (exact extA); done)))) | (apply WL.index tOk; exact rfl; exact rfl; exact rfl; exact rfl; exact rfl; exact rfl; exact rfl; exact rfl; assumption; (exact extA); exact rfl; omega; assumption; intro b off h; have hcc := h; first | (obtain ⟨h1, h2, h3, h4, h5, h6, _⟩ := h) | (obtain ⟨h1, h2, h3, _⟩ := h) | (obtain ⟨h1, h2, _⟩ := h) | (obtain ⟨h1, _⟩ := h)) | (apply WL.add; exact rfl; exact rfl; exact rfl; exact rfl; omega) | (apply WL.sub; exact rfl; exact rfl; exact rfl; exact rfl; omega) | (apply WL.mul; exact rfl; exact rfl; exact rfl; exact rfl; omega) | (apply WL.quo; exact rfl; exact rfl; exact rfl; exact rfl; omega) | (apply WL.rem; exact rfl; exact rfl; exact rfl; exact rfl; omega) | (apply WL.loadA tOk; exact rfl; exact rfl; exact rfl; exact rfl; exact rfl; (first | assumption | (focus (apply Cells.ext; rotate_left; assumption; (exact extA); done))); exact rfl) | (apply WL.guardF; exact rfl; exact rfl) | (apply WL.gD; exact rfl; exact rfl; all_goals intro _) | (apply WL.gN; exact rfl; exact rfl; all_goals intro _) | (apply WL.gB; exact rfl; exact rfl; all_goals intro _))
      | (show Z _ _ _ _ _; first | apply Z.tail | apply Z.then_normal | apply Z.block_normal | apply Z.then_exit | apply Z.block_exit | apply Z.then_ret | apply Z.block_ret | (apply Z.block_other; exact rfl))
      | (show W _ _ _ _ _ _; first | apply W.seq | apply W.region | apply W.block | apply W.skip | apply W.ret | apply W.exit | (apply W.condT; exact rfl) | (apply W.condF; exact rfl) | (apply W.condD; exact rfl; all_goals intro _) | (apply W.condN; exact rfl; all_goals intro _) | (apply W.condB; exact rfl; all_goals intro _)))
    exact Z.body2 Try.results28 rfl rfl fun m => ⟨hX1.at m, .inl rfl⟩
end Go.Proofs.Ytfkdlepemiepdaa
