/- On what literals of a net hang: what it means, and the reference's answers. No conditions. -/
import Derived.Test.YtfkdlepemiepdaaNet
import Derived.Test.YtfkdlepemiepdaaLtClear
namespace Go.Proofs.Ytfkdlepemiepdaa
open Go Go.Lt Go.RowKit
set_option linter.unusedVariables false
set_option linter.unusedSimpArgs false

/-- c is one of the two that the gate u has. -/
def Kid (n : List (Int × Int)) (u c : Nat) : Prop := ∃ k x, u = k + 1 ∧ n[k]? = some x ∧ 0 ≤ x.1 ∧ (c = (x.1 / 2).toNat ∨ c = (x.2 / 2).toNat)
inductive Hang (n : List (Int × Int)) : Nat → Nat → Prop
  | refl (v : Nat) : Hang n v v
  | step {u c v : Nat} : Kid n u c → Hang n c v → Hang n u v
theorem Hang.snoc {n : List (Int × Int)} {u w c : Nat} (h : Hang n u w) : Kid n w c → Hang n u c := by
  induction h with
  | refl v => exact fun k => .step k (.refl _)
  | step hk _ ih => exact fun k => .step hk (ih k)
theorem Hang.trans {n : List (Int × Int)} {u v w : Nat} (h : Hang n u v) : Hang n v w → Hang n u w := by
  induction h with
  | refl v => exact fun k => k
  | step hk _ ih => exact fun k => .step hk (ih k)
theorem Kid.lt {n : List (Int × Int)} (hg : GoodNet n) {u c : Nat} (h : Kid n u c) : c < u := by
  obtain ⟨k, x, rfl, hx, h0, hc⟩ := h
  have := hg.gate hx h0
  omega
theorem Kid.le {n : List (Int × Int)} {u c : Nat} (h : Kid n u c) : 1 ≤ u ∧ u ≤ n.length := by
  obtain ⟨k, x, rfl, hx, _⟩ := h
  have := lt_of_get hx
  omega
theorem Hang.le {n : List (Int × Int)} (hg : GoodNet n) {u v : Nat} (h : Hang n u v) : v ≤ u := by
  induction h with
  | refl v => exact Nat.le_refl _
  | step hk _ ih => have := hk.lt hg; omega
theorem hang_cases {n : List (Int × Int)} {u v : Nat} : Hang n u v ↔ u = v ∨ ∃ c, Kid n u c ∧ Hang n c v := by
  constructor
  · intro h
    cases h with
    | refl => exact .inl rfl
    | step hk h => exact .inr ⟨_, hk, h⟩
  · rintro (rfl | ⟨c, hk, h⟩)
    · exact .refl _
    · exact .step hk h
theorem hang_last {n : List (Int × Int)} {u v : Nat} (h : Hang n u v) : u = v ∨ ∃ g, Hang n u g ∧ Kid n g v := by
  induction h with
  | refl v => exact .inl rfl
  | @step u c v hk hh ih =>
    right
    rcases ih with rfl | ⟨g, h1, h2⟩
    · exact ⟨u, .refl _, hk⟩
    · exact ⟨g, .step hk h1, h2⟩
theorem hang_node {n : List (Int × Int)} {i v : Nat} {x : Int × Int} (hx : n[i]? = some x) (hv : v ≤ i) : Hang n (i + 1) v ↔ 0 ≤ x.1 ∧ (Hang n (x.1 / 2).toNat v ∨ Hang n (x.2 / 2).toNat v) := by
  rw [hang_cases]
  constructor
  · rintro (h | ⟨c, ⟨k, y, hk, hy, h0, hc⟩, h⟩)
    · omega
    · obtain rfl : i = k := by omega
      rw [hx] at hy; cases hy
      rcases hc with rfl | rfl
      · exact ⟨h0, .inl h⟩
      · exact ⟨h0, .inr h⟩
  · rintro ⟨h0, h | h⟩
    · exact .inr ⟨_, ⟨i, x, rfl, hx, h0, .inl rfl⟩, h⟩
    · exact .inr ⟨_, ⟨i, x, rfl, hx, h0, .inr rfl⟩, h⟩

/-- The same, by reckoning. -/
def hangC (n : List (Int × Int)) (v : Nat) : Nat → Nat → Bool
  | 0, u => u == v
  | f + 1, u => u == v || (match u with
    | 0 => false
    | k + 1 => match n[k]? with
      | some x => decide (0 ≤ x.1) && (hangC n v f (x.1 / 2).toNat || hangC n v f (x.2 / 2).toNat)
      | none => false)
theorem hangC_iff {n : List (Int × Int)} (hg : GoodNet n) (v : Nat) : ∀ f u, u ≤ f → (hangC n v f u = true ↔ Hang n u v)
  | 0, u, h => by
    rw [hang_cases]
    simp only [hangC, beq_iff_eq]
    refine ⟨.inl, ?_⟩
    rintro (h1 | ⟨c, hk, _⟩)
    · exact h1
    · have := hk.lt hg; omega
  | f + 1, 0, h => by
    rw [hang_cases]
    simp only [hangC, Bool.or_false, beq_iff_eq]
    refine ⟨.inl, ?_⟩
    rintro (h1 | ⟨c, hk, _⟩)
    · exact h1
    · have := hk.lt hg; omega
  | f + 1, k + 1, h => by
    by_cases hkv : k + 1 = v
    · subst hkv
      simp only [hangC, beq_self_eq_true, Bool.true_or, true_iff]; exact .refl _
    · rw [hang_cases]
      cases hx : n[k]? with
      | none =>
        simp only [hangC, hx, Bool.or_false, beq_iff_eq]
        refine ⟨.inl, ?_⟩
        rintro (h1 | ⟨c, ⟨q, y, hq, hy, _⟩, _⟩)
        · exact h1
        · obtain rfl : k = q := by omega
          rw [hx] at hy; cases hy
      | some x =>
        simp only [hangC, hx, Bool.or_eq_true, beq_iff_eq, hkv, false_or, Bool.and_eq_true, decide_eq_true_eq]
        constructor
        · rintro ⟨h0, h1⟩
          have hgt := hg.gate hx h0
          rw [hangC_iff hg v f _ (by omega), hangC_iff hg v f _ (by omega)] at h1
          rcases h1 with h1 | h1
          · exact ⟨_, ⟨k, x, rfl, hx, h0, .inl rfl⟩, h1⟩
          · exact ⟨_, ⟨k, x, rfl, hx, h0, .inr rfl⟩, h1⟩
        · rintro ⟨c, ⟨q, y, hq, hy, h0, hc⟩, h1⟩
          obtain rfl : k = q := by omega
          rw [hx] at hy; cases hy
          have hgt := hg.gate hx h0
          rw [hangC_iff hg v f _ (by omega), hangC_iff hg v f _ (by omega)]
          rcases hc with rfl | rfl
          · exact ⟨h0, .inl h1⟩
          · exact ⟨h0, .inr h1⟩

/-- A literal hangs on a variable. -/
def HangL (n : List (Int × Int)) (l v : Int) : Prop := 2 ≤ l ∧ l / 2 ≤ n.length ∧ 1 ≤ v ∧ v ≤ l / 2 ∧ Hang n (l / 2).toNat v.toNat

noncomputable def inH (n : List (Int × Int)) (v i : Nat) : List Bool := tab (n.length + 1) (fun u => dec (u ≤ i ∧ Hang n u v))
theorem inH_start {n : List (Int × Int)} (hg : GoodNet n) (v : Nat) : (List.replicate (n.length + 1) false).set v true = inH n v v := by
  rw [tab_rep, inH]
  refine tab_set fun u hu => ?_
  by_cases h : u = v
  · rw [if_pos h, dec_true ⟨by omega, by rw [h]; exact .refl _⟩]
  · rw [if_neg h, dec_false (fun hh => by have := hh.2.le hg; omega)]
theorem inH_step {n : List (Int × Int)} {v i : Nat} {b : Bool} (h : b = dec (Hang n (i + 1) v)) : (inH n v i).set (i + 1) b = inH n v (i + 1) := by
  refine tab_set fun u hu => ?_
  by_cases hui : u = i + 1
  · rw [if_pos hui, h, hui]; exact dec_congr ⟨fun h => h.2, fun h => ⟨Nat.le_refl _, h⟩⟩
  · rw [if_neg hui]; exact dec_congr ⟨fun h => ⟨by omega, h.2⟩, fun h => ⟨by omega, h.2⟩⟩
theorem inH_len (n : List (Int × Int)) (v i : Nat) : (inH n v i).length = n.length + 1 := tab_len _ _
theorem inH_get {n : List (Int × Int)} {v i u : Nat} (hu : u ≤ i) (hi : i ≤ n.length) : (inH n v i)[u]? = some (dec (Hang n u v)) := by
  rw [inH, tab_get _ (by omega)]; exact congrArg some (dec_congr ⟨fun h => h.2, fun h => ⟨hu, h⟩⟩)

set_option maxHeartbeats 1000000 in
theorem ref08_Hangs (a : Option Addr) (cap : Nat) (n : List (Int × Int)) (l v : Int) (w : World) (R : Row 2 encN w a n) (hg : GoodNet n) (hn : n.length ≤ 1048576) (hl : inI64 l) :
    Pure Try.prog 27 [.slice a n.length cap, .int .i64 l, .int .i64 v] w (.bool (dec (HangL n l v))) := by
  unfold inI64 at hl
  by_cases hlt : l < 2
  · refine Spec.of _ Try.func27 rfl Try.ntmps27 (by kernel_rfl) rfl ?_
    repeat' (first
      | (apply WL.gT; exact rfl; exact rfl; (focus (exact dec_true (by omega); done)))
      | (apply WL.gF; exact rfl; exact rfl; (focus (exact dec_true (by omega); done)))
      | (apply W.condKT; exact rfl; (focus (exact dec_true (by omega); done)))
      | (apply W.condKF; exact rfl; (focus (exact dec_true (by omega); done)))
      | (show WL _ _ _ _ _ _ _; first | apply WL.nil | (apply WL.pev tOk; exact rfl; exact rfl; exact rfl) | (apply WL.load tOk; exact rfl; exact rfl; exact rfl; exact rfl; exact rfl; (first | assumption | (focus (apply Ext.cell; rotate_left; assumption; (exact extA); done)))) | (apply WL.index tOk; exact rfl; exact rfl; exact rfl; exact rfl; exact rfl; exact rfl; exact rfl; exact rfl; assumption; (exact extA); exact rfl; omega; assumption; intro b off h; have hcc := h; first | (obtain ⟨h1, h2, h3, h4, h5, h6, _⟩ := h) | (obtain ⟨h1, h2, h3, _⟩ := h) | (obtain ⟨h1, h2, _⟩ := h) | (obtain ⟨h1, _⟩ := h)) | (apply WL.add; exact rfl; exact rfl; exact rfl; exact rfl; omega) | (apply WL.sub; exact rfl; exact rfl; exact rfl; exact rfl; omega) | (apply WL.mul; exact rfl; exact rfl; exact rfl; exact rfl; omega) | (apply WL.quo; exact rfl; exact rfl; exact rfl; exact rfl; omega) | (apply WL.rem; exact rfl; exact rfl; exact rfl; exact rfl; omega) | (apply WL.loadA tOk; exact rfl; exact rfl; exact rfl; exact rfl; exact rfl; (first | assumption | (focus (apply Cells.ext; rotate_left; assumption; (exact extA); done))); exact rfl) | (apply WL.guardF; exact rfl; exact rfl) | (apply WL.gD; exact rfl; exact rfl; all_goals intro _) | (apply WL.gN; exact rfl; exact rfl; all_goals intro _) | (apply WL.gB; exact rfl; exact rfl; all_goals intro _))
      | (show Z _ _ _ _ _; first | apply Z.tail | apply Z.then_normal | apply Z.block_normal | apply Z.then_exit | apply Z.block_exit | apply Z.then_ret | apply Z.block_ret | (apply Z.block_other; exact rfl))
      | (show W _ _ _ _ _ _; first | apply W.seq | apply W.region | apply W.block | apply W.skip | apply W.ret | apply W.exit | (apply W.condT; exact rfl) | (apply W.condF; exact rfl) | (apply W.condD; exact rfl; all_goals intro _) | (apply W.condN; exact rfl; all_goals intro _) | (apply W.condB; exact rfl; all_goals intro _)))
    exact Z.body1 Try.results27 rfl fun m => ⟨congrArg Value.bool (dec_false (fun h => by have := h.1; omega)).symm, (Ext.refl w).at m⟩
  by_cases hbad : ¬ (l / 2 ≤ n.length ∧ 1 ≤ v ∧ v ≤ l / 2)
  · refine Spec.of _ Try.func27 rfl Try.ntmps27 (by kernel_rfl) rfl ?_
    repeat' (first
      | (apply WL.gT; exact rfl; exact rfl; (focus (exact dec_false (by omega); done)))
      | (apply WL.gF; exact rfl; exact rfl; (focus (exact dec_false (by omega); done)))
      | (apply W.condKT; exact rfl; (focus (exact dec_false (by omega); done)))
      | (apply W.condKF; exact rfl; (focus (exact dec_false (by omega); done)))
      | (show WL _ _ _ _ _ _ _; first | apply WL.nil | (apply WL.pev tOk; exact rfl; exact rfl; exact rfl) | (apply WL.load tOk; exact rfl; exact rfl; exact rfl; exact rfl; exact rfl; (first | assumption | (focus (apply Ext.cell; rotate_left; assumption; (exact extA); done)))) | (apply WL.index tOk; exact rfl; exact rfl; exact rfl; exact rfl; exact rfl; exact rfl; exact rfl; exact rfl; assumption; (exact extA); exact rfl; omega; assumption; intro b off h; have hcc := h; first | (obtain ⟨h1, h2, h3, h4, h5, h6, _⟩ := h) | (obtain ⟨h1, h2, h3, _⟩ := h) | (obtain ⟨h1, h2, _⟩ := h) | (obtain ⟨h1, _⟩ := h)) | (apply WL.add; exact rfl; exact rfl; exact rfl; exact rfl; omega) | (apply WL.sub; exact rfl; exact rfl; exact rfl; exact rfl; omega) | (apply WL.mul; exact rfl; exact rfl; exact rfl; exact rfl; omega) | (apply WL.quo; exact rfl; exact rfl; exact rfl; exact rfl; omega) | (apply WL.rem; exact rfl; exact rfl; exact rfl; exact rfl; omega) | (apply WL.loadA tOk; exact rfl; exact rfl; exact rfl; exact rfl; exact rfl; (first | assumption | (focus (apply Cells.ext; rotate_left; assumption; (exact extA); done))); exact rfl) | (apply WL.guardF; exact rfl; exact rfl) | (apply WL.gD; exact rfl; exact rfl; all_goals intro _) | (apply WL.gN; exact rfl; exact rfl; all_goals intro _) | (apply WL.gB; exact rfl; exact rfl; all_goals intro _))
      | (show Z _ _ _ _ _; first | apply Z.tail | apply Z.then_normal | apply Z.block_normal | apply Z.then_exit | apply Z.block_exit | apply Z.then_ret | apply Z.block_ret | (apply Z.block_other; exact rfl))
      | (show W _ _ _ _ _ _; first | apply W.seq | apply W.region | apply W.block | apply W.skip | apply W.ret | apply W.exit | (apply W.condT; exact rfl) | (apply W.condF; exact rfl) | (apply W.condD; exact rfl; all_goals intro _) | (apply W.condN; exact rfl; all_goals intro _) | (apply W.condB; exact rfl; all_goals intro _)))
    all_goals first
      | (exfalso; omega)
      | exact Z.body1 Try.results27 rfl fun m => ⟨congrArg Value.bool (dec_false (fun h => hbad ⟨h.2.1, h.2.2.1, h.2.2.2.1⟩)).symm, (Ext.refl w).at m⟩
  · obtain ⟨hb1, hb2, hb3⟩ := Classical.not_not.1 hbad
    obtain ⟨v, rfl⟩ := Int.eq_ofNat_of_zero_le (show 0 ≤ v by omega)
    have hz0 : (List.replicate (n.length + 1) false)[v]? = some false := by rw [List.getElem?_replicate, if_pos (by omega)]
    refine Spec.of _ Try.func27 rfl Try.ntmps27 (by kernel_rfl) rfl ?_
    repeat' (first
      | (apply WL.gT; exact rfl; exact rfl; (focus (first | exact dec_false (by omega) | exact dec_true (by omega); done)))
      | (apply WL.gF; exact rfl; exact rfl; (focus (first | exact dec_false (by omega) | exact dec_true (by omega); done)))
      | (apply W.condKT; exact rfl; (focus (first | exact dec_false (by omega) | exact dec_true (by omega); done)))
      | (apply W.condKF; exact rfl; (focus (first | exact dec_false (by omega) | exact dec_true (by omega); done)))
      | (apply WL.make (w0 := w) tOk; exact rfl; exact rfl; exact rfl; exact rfl; exact rfl; exact rfl; exact rfl; exact rfl; exact rfl; exact encB_ok; exact rfl; exact rfl; (exact extA); (first | omega | (simp; omega) | (simp at *; omega)); intro gb w' hO hge hx)
      | (show WL _ _ _ _ _ _ _; first | apply WL.nil | (apply WL.pev tOk; exact rfl; exact rfl; exact rfl) | (apply WL.load tOk; exact rfl; exact rfl; exact rfl; exact rfl; exact rfl; (first | assumption | (focus (apply Ext.cell; rotate_left; assumption; (exact extA); done)))) | (apply WL.index tOk; exact rfl; exact rfl; exact rfl; exact rfl; exact rfl; exact rfl; exact rfl; exact rfl; assumption; (exact extA); exact rfl; omega; assumption; intro b off h; have hcc := h; first | (obtain ⟨h1, h2, h3, h4, h5, h6, _⟩ := h) | (obtain ⟨h1, h2, h3, _⟩ := h) | (obtain ⟨h1, h2, _⟩ := h) | (obtain ⟨h1, _⟩ := h)) | (apply WL.add; exact rfl; exact rfl; exact rfl; exact rfl; omega) | (apply WL.sub; exact rfl; exact rfl; exact rfl; exact rfl; omega) | (apply WL.mul; exact rfl; exact rfl; exact rfl; exact rfl; omega) | (apply WL.quo; exact rfl; exact rfl; exact rfl; exact rfl; omega) | (apply WL.rem; exact rfl; exact rfl; exact rfl; exact rfl; omega) | (apply WL.loadA tOk; exact rfl; exact rfl; exact rfl; exact rfl; exact rfl; (first | assumption | (focus (apply Cells.ext; rotate_left; assumption; (exact extA); done))); exact rfl) | (apply WL.guardF; exact rfl; exact rfl) | (apply WL.gD; exact rfl; exact rfl; all_goals intro _) | (apply WL.gN; exact rfl; exact rfl; all_goals intro _) | (apply WL.gB; exact rfl; exact rfl; all_goals intro _))
      | (show Z _ _ _ _ _; first | apply Z.tail | apply Z.then_normal | apply Z.block_normal | apply Z.then_exit | apply Z.block_exit | apply Z.then_ret | apply Z.block_ret | (apply Z.block_other; exact rfl))
      | (show W _ _ _ _ _ _; first | apply W.seq | apply W.region | apply W.block | apply W.skip | apply W.ret | apply W.exit | (apply W.condT; exact rfl) | (apply W.condF; exact rfl) | (apply W.condD; exact rfl; all_goals intro _) | (apply W.condN; exact rfl; all_goals intro _) | (apply W.condB; exact rfl; all_goals intro _)))
    have en : ((n.length : Int) + 1).toNat = n.length + 1 := by omega
    rw [en] at hO ⊢
    have e0l : (List.replicate (n.length + 1) false).length = n.length + 1 := List.length_replicate
    repeat' (first
      | (apply WL.gT; exact rfl; exact rfl; (focus (first | exact dec_false (by omega) | exact dec_true (by omega); done)))
      | (apply WL.gF; exact rfl; exact rfl; (focus (first | exact dec_false (by omega) | exact dec_true (by omega); done)))
      | (apply W.condKT; exact rfl; (focus (first | exact dec_false (by omega) | exact dec_true (by omega); done)))
      | (apply W.condKF; exact rfl; (focus (first | exact dec_false (by omega) | exact dec_true (by omega); done)))
      | (apply WL.indexO tOk; exact rfl; exact rfl; exact rfl; exact rfl; exact rfl; exact rfl; exact rfl; exact rfl; assumption; (exact extA); exact encB_ok; (first | exact rfl | (simp; done) | (simp [*]; done) | omega | (simp only [List.length_set]; omega)); omega; assumption; intro gb ha hc; cases ha; have hcc := hc; first | (obtain ⟨h1, h2, h3, _⟩ := hc) | (obtain ⟨h1, h2, _⟩ := hc) | (obtain ⟨h1, _⟩ := hc))
      | (apply WL.storeO tOk; exact rfl; exact rfl; exact rfl; exact rfl; assumption; (exact extA); exact rfl; exact rfl; exact rfl; exact encB_ok; assumption; exact rfl; (exact extA); intro w' hO hX' hU)
      | (show WL _ _ _ _ _ _ _; first | apply WL.nil | (apply WL.pev tOk; exact rfl; exact rfl; exact rfl) | (apply WL.load tOk; exact rfl; exact rfl; exact rfl; exact rfl; exact rfl; (first | assumption | (focus (apply Ext.cell; rotate_left; assumption; (exact extA); done)))) | (apply WL.index tOk; exact rfl; exact rfl; exact rfl; exact rfl; exact rfl; exact rfl; exact rfl; exact rfl; assumption; (exact extA); exact rfl; omega; assumption; intro b off h; have hcc := h; first | (obtain ⟨h1, h2, h3, h4, h5, h6, _⟩ := h) | (obtain ⟨h1, h2, h3, _⟩ := h) | (obtain ⟨h1, h2, _⟩ := h) | (obtain ⟨h1, _⟩ := h)) | (apply WL.add; exact rfl; exact rfl; exact rfl; exact rfl; omega) | (apply WL.sub; exact rfl; exact rfl; exact rfl; exact rfl; omega) | (apply WL.mul; exact rfl; exact rfl; exact rfl; exact rfl; omega) | (apply WL.quo; exact rfl; exact rfl; exact rfl; exact rfl; omega) | (apply WL.rem; exact rfl; exact rfl; exact rfl; exact rfl; omega) | (apply WL.loadA tOk; exact rfl; exact rfl; exact rfl; exact rfl; exact rfl; (first | assumption | (focus (apply Cells.ext; rotate_left; assumption; (exact extA); done))); exact rfl) | (apply WL.guardF; exact rfl; exact rfl) | (apply WL.gD; exact rfl; exact rfl; all_goals intro _) | (apply WL.gN; exact rfl; exact rfl; all_goals intro _) | (apply WL.gB; exact rfl; exact rfl; all_goals intro _))
      | (show Z _ _ _ _ _; first | apply Z.tail | apply Z.then_normal | apply Z.block_normal | apply Z.then_exit | apply Z.block_exit | apply Z.then_ret | apply Z.block_ret | (apply Z.block_other; exact rfl))
      | (show W _ _ _ _ _ _; first | apply W.seq | apply W.region | apply W.block | apply W.skip | apply W.ret | apply W.exit | (apply W.condT; exact rfl) | (apply W.condF; exact rfl) | (apply W.condD; exact rfl; all_goals intro _) | (apply W.condN; exact rfl; all_goals intro _) | (apply W.condB; exact rfl; all_goals intro _)))
    rw [Int.toNat_natCast, inH_start hg] at hO
    refine W.loopW ((l / 2).toNat - v) (fun k w' => k ≤ (l / 2).toNat - v ∧ Ext w w' ∧ Own 1 encB 4 w.heap.size w' (some ⟨gb, 0, none⟩) (n.length + 1) (inH n v (v + k)))
      (fun k => [(0, .slice a n.length cap), (1, .int .i64 l), (2, .int .i64 v), (7, .slice (some ⟨gb, 0, none⟩) (n.length + 1) (n.length + 1)), (8, .int .i64 ((v + k : Nat) : Int))]) ⟨by omega, hX', hO⟩ (fun k w' h => h.1) (by repeat' first | exact trivial | (refine And.intro ?_ ?_) | exact rfl | (rw [e0l]; exact rfl)) ?_
    rintro k w' ⟨hk, hx', hO'⟩
    have hil := inH_len n v (v + k)
    by_cases hlt : k < (l / 2).toNat - v
    · obtain ⟨x, hx⟩ := getI n (show v + k < n.length by omega)
      have hnode := hang_node (v := v) hx (by omega)
      obtain ⟨zo, hzo⟩ := getI (inH n v (v + k)) (show v + k + 1 < _ by omega)
      by_cases h0 : 0 ≤ x.1
      · have hgt := hg.gate hx h0
        have hA := inH_get (n := n) (v := v) (i := v + k) (u := (x.1 / 2).toNat) (by omega) (by omega)
        have hB := inH_get (n := n) (v := v) (i := v + k) (u := (x.2 / 2).toNat) (by omega) (by omega)
        repeat' (first
          | (apply WL.gT; exact rfl; exact rfl; (focus (first | exact dec_true (by omega) | exact dec_false (by omega); done)))
          | (apply WL.gF; exact rfl; exact rfl; (focus (first | exact dec_true (by omega) | exact dec_false (by omega); done)))
          | (apply W.condKT; exact rfl; (focus (first | exact dec_true (by omega) | exact dec_false (by omega); done)))
          | (apply W.condKF; exact rfl; (focus (first | exact dec_true (by omega) | exact dec_false (by omega); done)))
          | (apply WL.indexO tOk; exact rfl; exact rfl; exact rfl; exact rfl; exact rfl; exact rfl; exact rfl; exact rfl; assumption; (exact extA); exact encB_ok; (first | exact rfl | (simp; done) | (simp [*]; done) | omega | (simp only [List.length_set]; omega)); omega; assumption; intro gb ha hc; cases ha; have hcc := hc; first | (obtain ⟨h1, h2, h3, _⟩ := hc) | (obtain ⟨h1, h2, _⟩ := hc) | (obtain ⟨h1, _⟩ := hc))
          | (apply WL.storeO tOk; exact rfl; exact rfl; exact rfl; exact rfl; assumption; (exact extA); exact rfl; exact rfl; exact rfl; exact encB_ok; assumption; exact rfl; (exact extA); intro w' hO hX' hU)
          | (show WL _ _ _ _ _ _ _; first | apply WL.nil | (apply WL.pev tOk; exact rfl; exact rfl; exact rfl) | (apply WL.load tOk; exact rfl; exact rfl; exact rfl; exact rfl; exact rfl; (first | assumption | (focus (apply Ext.cell; rotate_left; assumption; (exact extA); done)))) | (apply WL.index tOk; exact rfl; exact rfl; exact rfl; exact rfl; exact rfl; exact rfl; exact rfl; exact rfl; assumption; (exact extA); exact rfl; omega; assumption; intro b off h; have hcc := h; first | (obtain ⟨h1, h2, h3, h4, h5, h6, _⟩ := h) | (obtain ⟨h1, h2, h3, _⟩ := h) | (obtain ⟨h1, h2, _⟩ := h) | (obtain ⟨h1, _⟩ := h)) | (apply WL.add; exact rfl; exact rfl; exact rfl; exact rfl; omega) | (apply WL.sub; exact rfl; exact rfl; exact rfl; exact rfl; omega) | (apply WL.mul; exact rfl; exact rfl; exact rfl; exact rfl; omega) | (apply WL.quo; exact rfl; exact rfl; exact rfl; exact rfl; omega) | (apply WL.rem; exact rfl; exact rfl; exact rfl; exact rfl; omega) | (apply WL.loadA tOk; exact rfl; exact rfl; exact rfl; exact rfl; exact rfl; (first | assumption | (focus (apply Cells.ext; rotate_left; assumption; (exact extA); done))); exact rfl) | (apply WL.guardF; exact rfl; exact rfl) | (apply WL.gD; exact rfl; exact rfl; all_goals intro _) | (apply WL.gN; exact rfl; exact rfl; all_goals intro _) | (apply WL.gB; exact rfl; exact rfl; all_goals intro _))
          | (show Z _ _ _ _ _; first | apply Z.tail | apply Z.then_normal | apply Z.block_normal | apply Z.then_exit | apply Z.block_exit | apply Z.then_ret | apply Z.block_ret | (apply Z.block_other; exact rfl))
          | (show W _ _ _ _ _ _; first | apply W.seq | apply W.region | apply W.block | apply W.skip | apply W.ret | apply W.exit | (apply W.condT; exact rfl) | (apply W.condF; exact rfl) | (apply W.condD; exact rfl; all_goals intro _) | (apply W.condN; exact rfl; all_goals intro _) | (apply W.condB; exact rfl; all_goals intro _)))
        all_goals
          have e3 : ((v + k : Nat) + 1 : Int).toNat = v + k + 1 := by omega
          rw [e3, inH_step (by first | exact (dec_true (hnode.2 ⟨h0, .inl (by assumption)⟩)).symm | exact dec_congr ⟨fun h => hnode.2 ⟨h0, .inr h⟩, fun h => (hnode.1 h).2.resolve_left (by assumption)⟩)] at hO
          exact Z.againW (k := k) ⟨by omega, hX', by rw [← Nat.add_assoc]; exact hO⟩ ⟨rfl, rfl, rfl, rfl, by rw [← Nat.add_assoc]; exact rfl, trivial⟩
      · repeat' (first
          | (apply WL.gT; exact rfl; exact rfl; (focus (first | exact dec_true (by omega) | exact dec_false (by omega); done)))
          | (apply WL.gF; exact rfl; exact rfl; (focus (first | exact dec_true (by omega) | exact dec_false (by omega); done)))
          | (apply W.condKT; exact rfl; (focus (first | exact dec_true (by omega) | exact dec_false (by omega); done)))
          | (apply W.condKF; exact rfl; (focus (first | exact dec_true (by omega) | exact dec_false (by omega); done)))
          | (apply WL.indexO tOk; exact rfl; exact rfl; exact rfl; exact rfl; exact rfl; exact rfl; exact rfl; exact rfl; assumption; (exact extA); exact encB_ok; (first | exact rfl | (simp; done) | (simp [*]; done) | omega | (simp only [List.length_set]; omega)); omega; assumption; intro gb ha hc; cases ha; have hcc := hc; first | (obtain ⟨h1, h2, h3, _⟩ := hc) | (obtain ⟨h1, h2, _⟩ := hc) | (obtain ⟨h1, _⟩ := hc))
          | (apply WL.storeO tOk; exact rfl; exact rfl; exact rfl; exact rfl; assumption; (exact extA); exact rfl; exact rfl; exact rfl; exact encB_ok; assumption; exact rfl; (exact extA); intro w' hO hX' hU)
          | (show WL _ _ _ _ _ _ _; first | apply WL.nil | (apply WL.pev tOk; exact rfl; exact rfl; exact rfl) | (apply WL.load tOk; exact rfl; exact rfl; exact rfl; exact rfl; exact rfl; (first | assumption | (focus (apply Ext.cell; rotate_left; assumption; (exact extA); done)))) | (apply WL.index tOk; exact rfl; exact rfl; exact rfl; exact rfl; exact rfl; exact rfl; exact rfl; exact rfl; assumption; (exact extA); exact rfl; omega; assumption; intro b off h; have hcc := h; first | (obtain ⟨h1, h2, h3, h4, h5, h6, _⟩ := h) | (obtain ⟨h1, h2, h3, _⟩ := h) | (obtain ⟨h1, h2, _⟩ := h) | (obtain ⟨h1, _⟩ := h)) | (apply WL.add; exact rfl; exact rfl; exact rfl; exact rfl; omega) | (apply WL.sub; exact rfl; exact rfl; exact rfl; exact rfl; omega) | (apply WL.mul; exact rfl; exact rfl; exact rfl; exact rfl; omega) | (apply WL.quo; exact rfl; exact rfl; exact rfl; exact rfl; omega) | (apply WL.rem; exact rfl; exact rfl; exact rfl; exact rfl; omega) | (apply WL.loadA tOk; exact rfl; exact rfl; exact rfl; exact rfl; exact rfl; (first | assumption | (focus (apply Cells.ext; rotate_left; assumption; (exact extA); done))); exact rfl) | (apply WL.guardF; exact rfl; exact rfl) | (apply WL.gD; exact rfl; exact rfl; all_goals intro _) | (apply WL.gN; exact rfl; exact rfl; all_goals intro _) | (apply WL.gB; exact rfl; exact rfl; all_goals intro _))
          | (show Z _ _ _ _ _; first | apply Z.tail | apply Z.then_normal | apply Z.block_normal | apply Z.then_exit | apply Z.block_exit | apply Z.then_ret | apply Z.block_ret | (apply Z.block_other; exact rfl))
          | (show W _ _ _ _ _ _; first | apply W.seq | apply W.region | apply W.block | apply W.skip | apply W.ret | apply W.exit | (apply W.condT; exact rfl) | (apply W.condF; exact rfl) | (apply W.condD; exact rfl; all_goals intro _) | (apply W.condN; exact rfl; all_goals intro _) | (apply W.condB; exact rfl; all_goals intro _)))
        have e3 : ((v + k : Nat) + 1 : Int).toNat = v + k + 1 := by omega
        rw [e3, inH_step (dec_false (fun h => h0 (hnode.1 h).1)).symm] at hO
        exact Z.againW (k := k) ⟨by omega, hX', by rw [← Nat.add_assoc]; exact hO⟩ ⟨rfl, rfl, rfl, rfl, by rw [← Nat.add_assoc]; exact rfl, trivial⟩
    · have hfin := inH_get (n := n) (v := v) (i := v + k) (u := (l / 2).toNat) (by omega) (by omega)
      repeat' (first
        | (apply WL.gT; exact rfl; exact rfl; (focus (first | exact dec_true (by omega) | exact dec_false (by omega); done)))
        | (apply WL.gF; exact rfl; exact rfl; (focus (first | exact dec_true (by omega) | exact dec_false (by omega); done)))
        | (apply W.condKT; exact rfl; (focus (first | exact dec_true (by omega) | exact dec_false (by omega); done)))
        | (apply W.condKF; exact rfl; (focus (first | exact dec_true (by omega) | exact dec_false (by omega); done)))
        | (apply WL.indexO tOk; exact rfl; exact rfl; exact rfl; exact rfl; exact rfl; exact rfl; exact rfl; exact rfl; assumption; (exact extA); exact encB_ok; (first | exact rfl | (simp; done) | (simp [*]; done) | omega | (simp only [List.length_set]; omega)); omega; assumption; intro gb ha hc; cases ha; have hcc := hc; first | (obtain ⟨h1, h2, h3, _⟩ := hc) | (obtain ⟨h1, h2, _⟩ := hc) | (obtain ⟨h1, _⟩ := hc))
        | (show WL _ _ _ _ _ _ _; first | apply WL.nil | (apply WL.pev tOk; exact rfl; exact rfl; exact rfl) | (apply WL.load tOk; exact rfl; exact rfl; exact rfl; exact rfl; exact rfl; (first | assumption | (focus (apply Ext.cell; rotate_left; assumption; (exact extA); done)))) | (apply WL.index tOk; exact rfl; exact rfl; exact rfl; exact rfl; exact rfl; exact rfl; exact rfl; exact rfl; assumption; (exact extA); exact rfl; omega; assumption; intro b off h; have hcc := h; first | (obtain ⟨h1, h2, h3, h4, h5, h6, _⟩ := h) | (obtain ⟨h1, h2, h3, _⟩ := h) | (obtain ⟨h1, h2, _⟩ := h) | (obtain ⟨h1, _⟩ := h)) | (apply WL.add; exact rfl; exact rfl; exact rfl; exact rfl; omega) | (apply WL.sub; exact rfl; exact rfl; exact rfl; exact rfl; omega) | (apply WL.mul; exact rfl; exact rfl; exact rfl; exact rfl; omega) | (apply WL.quo; exact rfl; exact rfl; exact rfl; exact rfl; omega) | (apply WL.rem; exact rfl; exact rfl; exact rfl; exact rfl; omega) | (apply WL.loadA tOk; exact rfl; exact rfl; exact rfl; exact rfl; exact rfl; (first | assumption | (focus (apply Cells.ext; rotate_left; assumption; (exact extA); done))); exact rfl) | (apply WL.guardF; exact rfl; exact rfl) | (apply WL.gD; exact rfl; exact rfl; all_goals intro _) | (apply WL.gN; exact rfl; exact rfl; all_goals intro _) | (apply WL.gB; exact rfl; exact rfl; all_goals intro _))
        | (show Z _ _ _ _ _; first | apply Z.tail | apply Z.then_normal | apply Z.block_normal | apply Z.then_exit | apply Z.block_exit | apply Z.then_ret | apply Z.block_ret | (apply Z.block_other; exact rfl))
        | (show W _ _ _ _ _ _; first | apply W.seq | apply W.region | apply W.block | apply W.skip | apply W.ret | apply W.exit | (apply W.condT; exact rfl) | (apply W.condF; exact rfl) | (apply W.condD; exact rfl; all_goals intro _) | (apply W.condN; exact rfl; all_goals intro _) | (apply W.condB; exact rfl; all_goals intro _)))
      exact Z.body1 Try.results27 rfl fun m => ⟨congrArg Value.bool (dec_congr ⟨fun h => ⟨by omega, hb1, hb2, hb3, by simpa using h⟩, fun h => by simpa using h.2.2.2.2⟩), hx'.at m⟩

/-! ### Numbers by a sentence -/
noncomputable def sel (m : Nat) (p : Nat → Prop) : List Int := ((List.range m).filter (fun u => dec (p u))).map (fun u => ((u : Nat) : Int))
theorem sel_yes {m : Nat} {p : Nat → Prop} (h : p m) : sel (m + 1) p = sel m p ++ [(m : Int)] := by simp [sel, List.range_succ, dec_true h]
theorem sel_no {m : Nat} {p : Nat → Prop} (h : ¬ p m) : sel (m + 1) p = sel m p := by simp [sel, List.range_succ, dec_false h]
theorem sel_zero (p : Nat → Prop) : sel 0 p = [] := rfl
theorem sel_le (m : Nat) (p : Nat → Prop) : (sel m p).length ≤ m := by
  rw [sel, List.length_map]; exact Nat.le_trans (List.length_filter_le _ _) (by simp)
theorem sel_congr {m : Nat} {p q : Nat → Prop} (h : ∀ u, u < m → (p u ↔ q u)) : sel m p = sel m q := by
  unfold sel; congr 1
  exact List.filter_congr (fun u hu => dec_congr (h u (List.mem_range.1 hu)))
theorem sel_mem {m : Nat} {p : Nat → Prop} {v : Int} : v ∈ sel m p ↔ ∃ u : Nat, v = u ∧ u < m ∧ p u := by
  simp only [sel, List.mem_map, List.mem_filter, List.mem_range]
  constructor
  · rintro ⟨u, ⟨h1, h2⟩, rfl⟩; exact ⟨u, rfl, h1, of_dec h2⟩
  · rintro ⟨u, rfl, h1, h2⟩; exact ⟨u, ⟨h1, dec_true h2⟩, rfl⟩
theorem sel_filter (m : Nat) (p : Nat → Prop) (q : Int → Prop) : (sel m p).filter (fun v => dec (q v)) = sel m (fun u => p u ∧ q u) := by
  induction m with
  | zero => rfl
  | succ m ih =>
    by_cases hp : p m
    · rw [sel_yes hp, List.filter_append, ih]
      by_cases hq : q m
      · rw [sel_yes (p := fun u : Nat => p u ∧ q (u : Int)) ⟨hp, hq⟩]; simp [dec_true hq]
      · rw [sel_no (p := fun u : Nat => p u ∧ q (u : Int)) (fun h => hq h.2)]; simp [dec_false hq]
    · rw [sel_no hp, ih, sel_no (p := fun u : Nat => p u ∧ q (u : Int)) (fun h => hp h.1)]

def OfP (n : List (Int × Int)) (l : List Int) (v : Nat) : Prop := 1 ≤ v ∧ ∃ x ∈ l, HangL n x v
noncomputable def onL (n : List (Int × Int)) (l : List Int) : List Int := sel (n.length + 1) (OfP n l)

theorem take_ex {α : Type} {l : List α} {k : Nat} {x : α} {p : α → Prop} (hx : l[k]? = some x) : (∃ y ∈ l.take (k + 1), p y) ↔ (∃ y ∈ l.take k, p y) ∨ p x := by
  rw [take_succ' hx]
  constructor
  · rintro ⟨y, hy, h⟩
    rcases List.mem_append.1 hy with hy | hy
    · exact .inl ⟨y, hy, h⟩
    · rw [List.mem_singleton.1 hy] at h; exact .inr h
  · rintro (⟨y, hy, h⟩ | h)
    · exact ⟨y, List.mem_append_left _ hy, h⟩
    · exact ⟨x, by simp, h⟩

def InP (n : List (Int × Int)) (v : Nat) : Prop := ∃ x, n[v - 1]? = some x ∧ x.1 < 0
noncomputable def supL (n : List (Int × Int)) (l : List Int) : List Int := sel (n.length + 1) (fun v => OfP n l v ∧ InP n v)
theorem filter_take {α : Type} {l : List α} {k : Nat} {x : α} (q : α → Bool) (hx : l[k]? = some x) : (l.take (k + 1)).filter q = (l.take k).filter q ++ (if q x then [x] else []) := by
  rw [take_succ' hx, List.filter_append]; simp [List.filter_cons]
noncomputable def inQ (n : List (Int × Int)) (v : Int) : Bool := dec (InP n v.toNat)
theorem sup_eq (n : List (Int × Int)) (l : List Int) : (onL n l).filter (inQ n) = supL n l := sel_filter (n.length + 1) (OfP n l) (fun v : Int => InP n v.toNat)
theorem of_mem {n : List (Int × Int)} {l : List Int} {v : Int} (h : v ∈ onL n l) : 1 ≤ v ∧ v ≤ n.length := by
  obtain ⟨u, rfl, h1, h2⟩ := sel_mem.1 h
  have := h2.1
  omega

end Go.Proofs.Ytfkdlepemiepdaa
