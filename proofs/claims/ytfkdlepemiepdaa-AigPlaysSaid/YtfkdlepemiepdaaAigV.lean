/- No gate of a store is folded, or there twice: the law AigTidy. No conditions. -/
import Derived.Test.YtfkdlepemiepdaaAigT
import Derived.Test.YtfkdlepemiepdaaAigE
import Derived.Test.YtfkdlepemiepdaaAig6
namespace Go.Proofs.Ytfkdlepemiepdaa
open Go Go.Lt Go.RowKit
set_option linter.unusedVariables false
set_option linter.unusedSimpArgs false

/-- Something that is put to a store: its kind, three literals, a list, a net. -/
abbrev AskT := Int × Int × Int × Int × RowV Int × RowV (Int × Int)
abbrev encK : AskT → List Value := fun x => [.int .i64 x.1, .int .i64 x.2.1, .int .i64 x.2.2.1, .int .i64 x.2.2.2.1, .slice x.2.2.2.2.1.1 x.2.2.2.2.1.2.2.length x.2.2.2.2.1.2.1, .slice x.2.2.2.2.2.1 x.2.2.2.2.2.2.2.length x.2.2.2.2.2.2.1]
structure OkK (w : World) (x : AskT) : Prop where
  ba : x.2.1 ≤ 9223372036854775807
  bb : x.2.2.1 ≤ 9223372036854775807
  RL : Row 1 encI w x.2.2.2.2.1.1 x.2.2.2.2.1.2.2
  nl : x.2.2.2.2.1.1 = none → x.2.2.2.2.1.2.1 = 0
  RN : Row 2 encN w x.2.2.2.2.2.1 x.2.2.2.2.2.2.2
  nn : x.2.2.2.2.2.1 = none → x.2.2.2.2.2.2.1 = 0

theorem stepN_grow (N : List (Int × Int)) (kk ka kb kc : Int) {L : List Int} {n : List (Int × Int)} (hg : GoodNet n) : Grow N (stepN N kk ka kb kc L n) := by
  unfold stepN
  split; exact .input (.refl N)
  split; exact .gate _ _ (.refl N)
  split; exact orV_grow _ _ _
  split; exact muxV_grow _ _ _ _
  split; exact muxV_grow _ _ _ _
  split
  · by_cases h : ∀ z ∈ L, hasL N z
    · rw [allV, dec_true h]; exact (aTo_inv h L.length (Nat.le_refl _)).2.2.2
    · rw [allV, dec_false h]; exact .refl N
  split
  · by_cases h : ∀ z ∈ L, hasL N z
    · rw [copyV, dec_true h]; exact (cto_inv (N := N) hg h n.length (Nat.le_refl _)).2.2.2.2.1
    · rw [copyV, dec_false h]; exact .refl N
  · exact .refl N
theorem stepN_len (N : List (Int × Int)) (kk ka kb kc : Int) {L : List Int} {n : List (Int × Int)} (hg : GoodNet n) (hL : L.length ≤ 60) (hn : n.length ≤ 60) : (stepN N kk ka kb kc L n).length ≤ N.length + 60 := by
  unfold stepN
  split; simp
  split; have := andV_len N ka kb; omega
  split; have := orV_len N ka kb; omega
  split; have := muxV_len N ka (notL kb) kb; unfold xorV; omega
  split; have := muxV_len N ka kb kc; omega
  split
  · by_cases h : ∀ z ∈ L, hasL N z
    · rw [allV, dec_true h]; have := (aTo_inv h L.length (Nat.le_refl _)).2.2.1; show (aTo N L L.length).2.length ≤ _; omega
    · rw [allV, dec_false h]; show N.length ≤ _; omega
  split
  · by_cases h : ∀ z ∈ L, hasL N z
    · rw [copyV, dec_true h]; have := (cto_inv (N := N) hg h n.length (Nat.le_refl _)).2.2.2.1; show (cto N n L n.length).2.2.length ≤ _; omega
    · rw [copyV, dec_false h]; show N.length ≤ _; omega
  · omega

theorem law07_step (gs r gw c1 c2 : Nat) (a1 a2 : Option Addr) (N1 N2 : List (Int × Int)) (x : AskT) (rest : List Piece) (w w0 : World) (hX : Ext w0 w)
    (hS : Sep w0.heap.size w (stN w0.heap.size gs a1 c1 r N1 ++ (rsN w0.heap.size gw a2 c2 N2 ++ rest))) (hN1 : N1.length + 100 < 1048576) (hN2 : N2.length + 100 < 1048576) (hx : OkK w0 x) (hL60 : x.2.2.2.2.1.2.2.length ≤ 60) (hg : GoodNet x.2.2.2.2.2.2.2) (hn60 : x.2.2.2.2.2.2.2.length ≤ 60) :
    Lt.Spec Try.prog 62 [.pointer (some ⟨gs, 0, none⟩), .pointer (some ⟨gw, 0, none⟩), .agg (encK x).toArray] w (AtStep w0 gs r gw rest (N1 = N2) (stepN N1 x.1 x.2.1 x.2.2.1 x.2.2.2.1 x.2.2.2.2.1.2.2 x.2.2.2.2.2.2.2) (stepN N2 x.1 x.2.1 x.2.2.1 x.2.2.2.1 x.2.2.2.2.1.2.2 x.2.2.2.2.2.2.2)) := by
  obtain ⟨kk, ka, kb, kc, ⟨la, lc, L⟩, na, nc, n⟩ := x
  by_cases h0 : kk = 0
  · exact step_k0 gs r gw c1 c2 a1 a2 N1 N2 kk ka kb kc la na lc nc L n rest w w0 hX hS hN1 hN2 hx.ba hx.bb h0
  by_cases h1 : kk = 1
  · exact step_k1 gs r gw c1 c2 a1 a2 N1 N2 kk ka kb kc la na lc nc L n rest w w0 hX hS hN1 hN2 hx.ba hx.bb h1
  by_cases h2 : kk = 2
  · exact step_k2 gs r gw c1 c2 a1 a2 N1 N2 kk ka kb kc la na lc nc L n rest w w0 hX hS hN1 hN2 hx.ba hx.bb h2
  by_cases h3 : kk = 3
  · exact step_k3 gs r gw c1 c2 a1 a2 N1 N2 kk ka kb kc la na lc nc L n rest w w0 hX hS hN1 hN2 hx.ba hx.bb h3
  by_cases h4 : kk = 4
  · exact step_k4 gs r gw c1 c2 a1 a2 N1 N2 kk ka kb kc la na lc nc L n rest w w0 hX hS hN1 hN2 hx.ba hx.bb h4
  by_cases h5 : kk = 5
  · exact step_k5 gs r gw c1 c2 a1 a2 N1 N2 kk ka kb kc la na lc nc L n rest w w0 hX hS hN1 hN2 hx.RL hx.RN hx.nl hx.nn hL60 hg hn60 h5
  by_cases h7 : kk = 7
  · exact step_k7 gs r gw c1 c2 a1 a2 N1 N2 kk ka kb kc la na lc nc L n rest w w0 hX hS hN1 hN2 hx.RL hx.RN hx.nl hx.nn hL60 hg hn60 h7
  · exact step_no gs r gw c1 c2 a1 a2 N1 N2 kk ka kb kc la na lc nc L n rest w w0 hX hS (by omega)

set_option maxHeartbeats 16000000 in
theorem law_AigTidy (a0 : Option Addr) (cap0 : Nat) (l0 : List AskT) (w : World) (R0 : Row 6 encK w a0 l0) (hok : ∀ x ∈ l0, OkK w x) (hc0 : l0.length ≤ cap0) :
    Pure Try.prog 11 [.slice a0 l0.length cap0] w (.bool true) := by
  have hl0 := R0.len
  refine Spec.of _ Try.func11 rfl Try.ntmps11 (by kernel_rfl) rfl ?_
  apply W.seq; apply W.region; apply WL.pev tOk; exact rfl; exact rfl; exact rfl; apply WL.nil; apply Z.then_normal
  refine W.cut (σ := Option Addr × Nat × List AskT) (fun s => Row 6 encK w s.1 s.2.2 ∧ (∀ x ∈ s.2.2, OkK w x) ∧ s.2.2.length ≤ 60) (fun s => [(0, .slice s.1 s.2.2.length s.2.1)]) (fun _ => w) ?_ ?_
  · by_cases h60 : 60 < l0.length
    · repeat' (first
        | (apply WL.sliceH tOk; exact rfl; exact rfl; exact rfl; exact rfl; exact rfl; exact rfl; exact rfl; assumption; (first | exact rfl | (simp; done) | (simp [*]; done) | omega | (simp only [List.length_set]; omega)); (first | assumption | omega); (first | omega | (simp; omega) | (simp at *; omega)); intro hR hc)
        | (apply WL.gT; exact rfl; exact rfl; (focus (exact dec_true (by omega); done)))
        | (apply WL.gF; exact rfl; exact rfl; (focus (exact dec_true (by omega); done)))
        | (apply W.condKT; exact rfl; (focus (exact dec_true (by omega); done)))
        | (apply W.condKF; exact rfl; (focus (exact dec_true (by omega); done)))
        | (show WL _ _ _ _ _ _ _; first | apply WL.nil | (apply WL.pev tOk; exact rfl; exact rfl; exact rfl) | (apply WL.load tOk; exact rfl; exact rfl; exact rfl; exact rfl; exact rfl; (first | assumption | (focus (apply Ext.cell; rotate_left; assumption; (exact extA); done)))) | (apply WL.index tOk; exact rfl; exact rfl; exact rfl; exact rfl; exact rfl; exact rfl; exact rfl; exact rfl; assumption; (exact extA); exact rfl; omega; assumption; intro b off h; have hcc := h; first | (obtain ⟨h1, h2, h3, h4, h5, h6, _⟩ := h) | (obtain ⟨h1, h2, h3, _⟩ := h) | (obtain ⟨h1, h2, _⟩ := h) | (obtain ⟨h1, _⟩ := h)) | (apply WL.add; exact rfl; exact rfl; exact rfl; exact rfl; omega) | (apply WL.sub; exact rfl; exact rfl; exact rfl; exact rfl; omega) | (apply WL.mul; exact rfl; exact rfl; exact rfl; exact rfl; omega) | (apply WL.quo; exact rfl; exact rfl; exact rfl; exact rfl; omega) | (apply WL.rem; exact rfl; exact rfl; exact rfl; exact rfl; omega) | (apply WL.loadA tOk; exact rfl; exact rfl; exact rfl; exact rfl; exact rfl; (first | assumption | (focus (apply Cells.ext; rotate_left; assumption; (exact extA); done))); exact rfl) | (apply WL.guardF; exact rfl; exact rfl) | (apply WL.gD; exact rfl; exact rfl; all_goals intro _) | (apply WL.gN; exact rfl; exact rfl; all_goals intro _) | (apply WL.gB; exact rfl; exact rfl; all_goals intro _))
        | (show Z _ _ _ _ _; first | apply Z.tail | apply Z.then_normal | apply Z.block_normal | apply Z.then_exit | apply Z.block_exit | apply Z.then_ret | apply Z.block_ret | (apply Z.block_other; exact rfl))
        | (show W _ _ _ _ _ _; first | apply W.seq | apply W.region | apply W.block | apply W.skip | apply W.ret | apply W.exit | (apply W.condT; exact rfl) | (apply W.condF; exact rfl) | (apply W.condD; exact rfl; all_goals intro _) | (apply W.condN; exact rfl; all_goals intro _) | (apply W.condB; exact rfl; all_goals intro _)))
      exact Z.cut (a0, cap0, l0.take 60) ⟨hR, fun x hx => hok x (List.mem_of_mem_take hx), by show (l0.take 60).length ≤ 60; rw [List.length_take]; omega⟩ ⟨rfl, trivial⟩ rfl
    · repeat' (first
        | (apply WL.gT; exact rfl; exact rfl; (focus (exact dec_false (by omega); done)))
        | (apply WL.gF; exact rfl; exact rfl; (focus (exact dec_false (by omega); done)))
        | (apply W.condKT; exact rfl; (focus (exact dec_false (by omega); done)))
        | (apply W.condKF; exact rfl; (focus (exact dec_false (by omega); done)))
        | (show WL _ _ _ _ _ _ _; first | apply WL.nil | (apply WL.pev tOk; exact rfl; exact rfl; exact rfl) | (apply WL.load tOk; exact rfl; exact rfl; exact rfl; exact rfl; exact rfl; (first | assumption | (focus (apply Ext.cell; rotate_left; assumption; (exact extA); done)))) | (apply WL.index tOk; exact rfl; exact rfl; exact rfl; exact rfl; exact rfl; exact rfl; exact rfl; exact rfl; assumption; (exact extA); exact rfl; omega; assumption; intro b off h; have hcc := h; first | (obtain ⟨h1, h2, h3, h4, h5, h6, _⟩ := h) | (obtain ⟨h1, h2, h3, _⟩ := h) | (obtain ⟨h1, h2, _⟩ := h) | (obtain ⟨h1, _⟩ := h)) | (apply WL.add; exact rfl; exact rfl; exact rfl; exact rfl; omega) | (apply WL.sub; exact rfl; exact rfl; exact rfl; exact rfl; omega) | (apply WL.mul; exact rfl; exact rfl; exact rfl; exact rfl; omega) | (apply WL.quo; exact rfl; exact rfl; exact rfl; exact rfl; omega) | (apply WL.rem; exact rfl; exact rfl; exact rfl; exact rfl; omega) | (apply WL.loadA tOk; exact rfl; exact rfl; exact rfl; exact rfl; exact rfl; (first | assumption | (focus (apply Cells.ext; rotate_left; assumption; (exact extA); done))); exact rfl) | (apply WL.guardF; exact rfl; exact rfl) | (apply WL.gD; exact rfl; exact rfl; all_goals intro _) | (apply WL.gN; exact rfl; exact rfl; all_goals intro _) | (apply WL.gB; exact rfl; exact rfl; all_goals intro _))
        | (show Z _ _ _ _ _; first | apply Z.tail | apply Z.then_normal | apply Z.block_normal | apply Z.then_exit | apply Z.block_exit | apply Z.then_ret | apply Z.block_ret | (apply Z.block_other; exact rfl))
        | (show W _ _ _ _ _ _; first | apply W.seq | apply W.region | apply W.block | apply W.skip | apply W.ret | apply W.exit | (apply W.condT; exact rfl) | (apply W.condF; exact rfl) | (apply W.condD; exact rfl; all_goals intro _) | (apply W.condN; exact rfl; all_goals intro _) | (apply W.condB; exact rfl; all_goals intro _)))
      exact Z.cut (a0, cap0, l0) ⟨R0, hok, by show l0.length ≤ 60; omega⟩ ⟨rfl, trivial⟩ rfl
  rintro ⟨a, cap, l⟩ ⟨R, hok, hl60⟩
  dsimp only at R hok hl60 ⊢
  repeat' (first
    | (apply WL.nilc; exact rfl; exact rfl; exact rfl)
    | (apply WL.eqNilS tOk; exact rfl; exact rfl; exact rfl; exact rfl; exact rfl; exact rfl)
    | (apply WL.neNilS tOk; exact rfl; exact rfl; exact rfl; exact rfl; exact rfl; exact rfl)
    | (apply WL.eqNil tOk; exact rfl; exact rfl; exact rfl; exact rfl; exact rfl; exact rfl)
    | (apply WL.neNil tOk; exact rfl; exact rfl; exact rfl; exact rfl; exact rfl; exact rfl)
    | (apply WL.gT; exact rfl; exact rfl; (focus (exact dec_false (by simp); done)))
    | (apply WL.gF; exact rfl; exact rfl; (focus (exact dec_false (by simp); done)))
    | (apply W.condKT; exact rfl; (focus (exact dec_false (by simp); done)))
    | (apply W.condKF; exact rfl; (focus (exact dec_false (by simp); done)))
    | (((show WL _ _ _ (⟨_, .call ⟨.value (.func 49), _, _⟩, _, _, _, _⟩ :: _) _ _ _); apply WL.call; exact rfl; exact rfl; exact rfl; exact rfl; exact aig_NewV _ w [] (Ext.refl _) Sep.none'; rintro v' w1 ⟨hX1, gs, r, rfl, hS1⟩))
    | (show WL _ _ _ _ _ _ _; first | apply WL.nil | (apply WL.pev tOk; exact rfl; exact rfl; exact rfl) | (apply WL.load tOk; exact rfl; exact rfl; exact rfl; exact rfl; exact rfl; (first | assumption | (focus (apply Ext.cell; rotate_left; assumption; (exact extA); done)))) | (apply WL.index tOk; exact rfl; exact rfl; exact rfl; exact rfl; exact rfl; exact rfl; exact rfl; exact rfl; assumption; (exact extA); exact rfl; omega; assumption; intro b off h; have hcc := h; first | (obtain ⟨h1, h2, h3, h4, h5, h6, _⟩ := h) | (obtain ⟨h1, h2, h3, _⟩ := h) | (obtain ⟨h1, h2, _⟩ := h) | (obtain ⟨h1, _⟩ := h)) | (apply WL.add; exact rfl; exact rfl; exact rfl; exact rfl; omega) | (apply WL.sub; exact rfl; exact rfl; exact rfl; exact rfl; omega) | (apply WL.mul; exact rfl; exact rfl; exact rfl; exact rfl; omega) | (apply WL.quo; exact rfl; exact rfl; exact rfl; exact rfl; omega) | (apply WL.rem; exact rfl; exact rfl; exact rfl; exact rfl; omega) | (apply WL.loadA tOk; exact rfl; exact rfl; exact rfl; exact rfl; exact rfl; (first | assumption | (focus (apply Cells.ext; rotate_left; assumption; (exact extA); done))); exact rfl) | (apply WL.guardF; exact rfl; exact rfl) | (apply WL.gD; exact rfl; exact rfl; all_goals intro _) | (apply WL.gN; exact rfl; exact rfl; all_goals intro _) | (apply WL.gB; exact rfl; exact rfl; all_goals intro _))
    | (show Z _ _ _ _ _; first | apply Z.tail | apply Z.then_normal | apply Z.block_normal | apply Z.then_exit | apply Z.block_exit | apply Z.then_ret | apply Z.block_ret | (apply Z.block_other; exact rfl))
    | (show W _ _ _ _ _ _; first | apply W.seq | apply W.region | apply W.block | apply W.skip | apply W.ret | apply W.exit | (apply W.condT; exact rfl) | (apply W.condF; exact rfl) | (apply W.condD; exact rfl; all_goals intro _) | (apply W.condN; exact rfl; all_goals intro _) | (apply W.condB; exact rfl; all_goals intro _)))
  refine W.loopW l.length (fun k w' => k ≤ l.length ∧ Ext w w' ∧ ∃ a' c' N, Tidy N ∧ N.length ≤ 60 * k ∧ Sep w.heap.size w' (stN w.heap.size gs a' c' r N ++ [])) (fun k => [(0, .slice a l.length cap), (3, .pointer (some ⟨gs, 0, none⟩)), (4, .int .i64 k)]) ⟨by omega, hX1, none, 0, [], Tidy.nil, by simp, hS1⟩ (fun k w' h => h.1) ⟨rfl, rfl, rfl, trivial⟩ ?_
  rintro k w9 ⟨hk, hX9, a9, c9, N, hT, hNl, hS9⟩
  by_cases hlt : k < l.length
  · obtain ⟨x, hxk⟩ := getI l hlt
    have hxo := hok x (List.mem_of_getElem? hxk)
    have RL := hxo.RL.ext hX9
    have RN := hxo.RN.ext hX9
    have hln := RN.len
    by_cases hgo : x.2.2.2.2.1.2.2.length ≤ 60 ∧ x.2.2.2.2.2.2.2.length ≤ 60 ∧ GoodNet x.2.2.2.2.2.2.2
    · obtain ⟨g1, g2, g3⟩ := hgo
      repeat' (first
        | (apply WL.gT; exact rfl; exact rfl; (focus (first | exact dec_true (by omega) | exact dec_true ⟨by omega, g3⟩; done)))
        | (apply WL.gF; exact rfl; exact rfl; (focus (first | exact dec_true (by omega) | exact dec_true ⟨by omega, g3⟩; done)))
        | (apply W.condKT; exact rfl; (focus (first | exact dec_true (by omega) | exact dec_true ⟨by omega, g3⟩; done)))
        | (apply W.condKF; exact rfl; (focus (first | exact dec_true (by omega) | exact dec_true ⟨by omega, g3⟩; done)))
        | ((show WL _ _ _ (⟨_, .call ⟨.value (.func 17), _, _⟩, _, _, _, _⟩ :: _) _ _ _); apply WL.callS; exact rfl; exact rfl; exact rfl; exact rfl; exact law07_Small _ _ x.2.2.2.2.2.2.2 60 _ RN (by omega))
        | (apply WL.build tOk; exact rfl; exact rfl; exact rfl; exact rfl; exact rfl; exact rfl; exact rfl; kernel_rfl)
        | (show WL _ _ _ _ _ _ _; first | apply WL.nil | (apply WL.pev tOk; exact rfl; exact rfl; exact rfl) | (apply WL.load tOk; exact rfl; exact rfl; exact rfl; exact rfl; exact rfl; (first | assumption | (focus (apply Ext.cell; rotate_left; assumption; (exact extA); done)))) | (apply WL.index tOk; exact rfl; exact rfl; exact rfl; exact rfl; exact rfl; exact rfl; exact rfl; exact rfl; assumption; (exact extA); exact rfl; omega; assumption; intro b off h; have hcc := h; first | (obtain ⟨h1, h2, h3, h4, h5, h6, _⟩ := h) | (obtain ⟨h1, h2, h3, _⟩ := h) | (obtain ⟨h1, h2, _⟩ := h) | (obtain ⟨h1, _⟩ := h)) | (apply WL.add; exact rfl; exact rfl; exact rfl; exact rfl; omega) | (apply WL.sub; exact rfl; exact rfl; exact rfl; exact rfl; omega) | (apply WL.mul; exact rfl; exact rfl; exact rfl; exact rfl; omega) | (apply WL.quo; exact rfl; exact rfl; exact rfl; exact rfl; omega) | (apply WL.rem; exact rfl; exact rfl; exact rfl; exact rfl; omega) | (apply WL.loadA tOk; exact rfl; exact rfl; exact rfl; exact rfl; exact rfl; (first | assumption | (focus (apply Cells.ext; rotate_left; assumption; (exact extA); done))); exact rfl) | (apply WL.guardF; exact rfl; exact rfl) | (apply WL.gD; exact rfl; exact rfl; all_goals intro _) | (apply WL.gN; exact rfl; exact rfl; all_goals intro _) | (apply WL.gB; exact rfl; exact rfl; all_goals intro _))
        | (show Z _ _ _ _ _; first | apply Z.tail | apply Z.then_normal | apply Z.block_normal | apply Z.then_exit | apply Z.block_exit | apply Z.then_ret | apply Z.block_ret | (apply Z.block_other; exact rfl))
        | (show W _ _ _ _ _ _; first | apply W.seq | apply W.region | apply W.block | apply W.skip | apply W.ret | apply W.exit | (apply W.condT; exact rfl) | (apply W.condF; exact rfl) | (apply W.condD; exact rfl; all_goals intro _) | (apply W.condN; exact rfl; all_goals intro _) | (apply W.condB; exact rfl; all_goals intro _)))
      apply WL.box; exact rfl; exact rfl; exact rfl; intro gb w' hb hge hc hx
      obtain ⟨gw, rfl⟩ : ∃ x, x = gb := ⟨_, rfl⟩; obtain ⟨wb, rfl⟩ : ∃ x, x = w' := ⟨_, rfl⟩
      have hS2 : Lt.Sep w.heap.size wb (stN w.heap.size gs a9 c9 r N ++ (rsN w.heap.size gw none 0 [] ++ [])) := Sep.back32 (Sep.newCell (Sep.newRow hS9 (Ext.refl _) (Own.nil : Own 2 encN 35 w.heap.size w9 none 0 []) (fun k hk => by cases hk) hX9.size) hx hb hge hX9.size)
      have hXb : Ext w wb := hX9.trans hx
      repeat' (first
        | (apply WL.gT; exact rfl; exact rfl; (focus (exact dec_true (by omega); done)))
        | (apply WL.gF; exact rfl; exact rfl; (focus (exact dec_true (by omega); done)))
        | (apply W.condKT; exact rfl; (focus (exact dec_true (by omega); done)))
        | (apply W.condKF; exact rfl; (focus (exact dec_true (by omega); done)))
        | (((show WL _ _ _ (⟨_, .call ⟨.value (.func 62), _, _⟩, _, _, _, _⟩ :: _) _ _ _); apply WL.call; exact rfl; exact rfl; exact rfl; exact rfl; exact law07_step gs r gw _ _ _ _ N [] x [] _ w hXb hS2 (by omega) (by decide) hxo g1 g3 g2; rintro v' w2 ⟨hX2, ⟨bb, rfl, _⟩, a2, c2, a3, c3, hS3⟩))
        | (show WL _ _ _ _ _ _ _; first | apply WL.nil | (apply WL.pev tOk; exact rfl; exact rfl; exact rfl) | (apply WL.load tOk; exact rfl; exact rfl; exact rfl; exact rfl; exact rfl; (first | assumption | (focus (apply Ext.cell; rotate_left; assumption; (exact extA); done)))) | (apply WL.index tOk; exact rfl; exact rfl; exact rfl; exact rfl; exact rfl; exact rfl; exact rfl; exact rfl; assumption; (exact extA); exact rfl; omega; assumption; intro b off h; have hcc := h; first | (obtain ⟨h1, h2, h3, h4, h5, h6, _⟩ := h) | (obtain ⟨h1, h2, h3, _⟩ := h) | (obtain ⟨h1, h2, _⟩ := h) | (obtain ⟨h1, _⟩ := h)) | (apply WL.add; exact rfl; exact rfl; exact rfl; exact rfl; omega) | (apply WL.sub; exact rfl; exact rfl; exact rfl; exact rfl; omega) | (apply WL.mul; exact rfl; exact rfl; exact rfl; exact rfl; omega) | (apply WL.quo; exact rfl; exact rfl; exact rfl; exact rfl; omega) | (apply WL.rem; exact rfl; exact rfl; exact rfl; exact rfl; omega) | (apply WL.loadA tOk; exact rfl; exact rfl; exact rfl; exact rfl; exact rfl; (first | assumption | (focus (apply Cells.ext; rotate_left; assumption; (exact extA); done))); exact rfl) | (apply WL.guardF; exact rfl; exact rfl) | (apply WL.gD; exact rfl; exact rfl; all_goals intro _) | (apply WL.gN; exact rfl; exact rfl; all_goals intro _) | (apply WL.gB; exact rfl; exact rfl; all_goals intro _))
        | (show Z _ _ _ _ _; first | apply Z.tail | apply Z.then_normal | apply Z.block_normal | apply Z.then_exit | apply Z.block_exit | apply Z.then_ret | apply Z.block_ret | (apply Z.block_other; exact rfl))
        | (show W _ _ _ _ _ _; first | apply W.seq | apply W.region | apply W.block | apply W.skip | apply W.ret | apply W.exit | (apply W.condT; exact rfl) | (apply W.condF; exact rfl) | (apply W.condD; exact rfl; all_goals intro _) | (apply W.condN; exact rfl; all_goals intro _) | (apply W.condB; exact rfl; all_goals intro _)))
      exact Z.againW ⟨by omega, hX2, a2, c2, _, (stepN_grow N _ _ _ _ g3).tidy hT, by have := stepN_len N x.1 x.2.1 x.2.2.1 x.2.2.2.1 g3 g1 g2; omega, Sep.drop34 hS3⟩ ⟨rfl, rfl, rfl, trivial⟩
    · repeat' (first
        | (apply WL.gT; exact rfl; exact rfl; (focus (exact dec_true (by omega); done)))
        | (apply WL.gF; exact rfl; exact rfl; (focus (exact dec_true (by omega); done)))
        | (apply W.condKT; exact rfl; (focus (exact dec_true (by omega); done)))
        | (apply W.condKF; exact rfl; (focus (exact dec_true (by omega); done)))
        | ((show WL _ _ _ (⟨_, .call ⟨.value (.func 17), _, _⟩, _, _, _, _⟩ :: _) _ _ _); apply WL.callS; exact rfl; exact rfl; exact rfl; exact rfl; exact law07_Small _ _ x.2.2.2.2.2.2.2 60 _ RN (by omega))
        | (show WL _ _ _ _ _ _ _; first | apply WL.nil | (apply WL.pev tOk; exact rfl; exact rfl; exact rfl) | (apply WL.load tOk; exact rfl; exact rfl; exact rfl; exact rfl; exact rfl; (first | assumption | (focus (apply Ext.cell; rotate_left; assumption; (exact extA); done)))) | (apply WL.index tOk; exact rfl; exact rfl; exact rfl; exact rfl; exact rfl; exact rfl; exact rfl; exact rfl; assumption; (exact extA); exact rfl; omega; assumption; intro b off h; have hcc := h; first | (obtain ⟨h1, h2, h3, h4, h5, h6, _⟩ := h) | (obtain ⟨h1, h2, h3, _⟩ := h) | (obtain ⟨h1, h2, _⟩ := h) | (obtain ⟨h1, _⟩ := h)) | (apply WL.add; exact rfl; exact rfl; exact rfl; exact rfl; omega) | (apply WL.sub; exact rfl; exact rfl; exact rfl; exact rfl; omega) | (apply WL.mul; exact rfl; exact rfl; exact rfl; exact rfl; omega) | (apply WL.quo; exact rfl; exact rfl; exact rfl; exact rfl; omega) | (apply WL.rem; exact rfl; exact rfl; exact rfl; exact rfl; omega) | (apply WL.loadA tOk; exact rfl; exact rfl; exact rfl; exact rfl; exact rfl; (first | assumption | (focus (apply Cells.ext; rotate_left; assumption; (exact extA); done))); exact rfl) | (apply WL.guardF; exact rfl; exact rfl) | (apply WL.gD; exact rfl; exact rfl; all_goals intro _) | (apply WL.gN; exact rfl; exact rfl; all_goals intro _) | (apply WL.gB; exact rfl; exact rfl; all_goals intro _))
        | (show Z _ _ _ _ _; first | apply Z.tail | apply Z.then_normal | apply Z.block_normal | apply Z.then_exit | apply Z.block_exit | apply Z.then_ret | apply Z.block_ret | (apply Z.block_other; exact rfl))
        | (show W _ _ _ _ _ _; first | apply W.seq | apply W.region | apply W.block | apply W.skip | apply W.ret | apply W.exit | (apply W.condT; exact rfl) | (apply W.condF; exact rfl) | (apply W.condD; exact rfl; all_goals intro _) | (apply W.condN; exact rfl; all_goals intro _) | (apply W.condB; exact rfl; all_goals intro _)))
      all_goals first
        | (exfalso; apply hgo; refine ⟨?_, ?_, ?_⟩ <;> first | omega | exact (And.right (by assumption)); done)
        | exact Z.againW ⟨by omega, hX9, a9, c9, N, hT, by omega, hS9⟩ ⟨rfl, rfl, rfl, trivial⟩
        | skip
  · have hkl : k = l.length := by omega
    have hNm : N.length ≤ 3600 := by omega
    have hck : check N = 0 := (check_zero (by omega)).2 hT.good
    repeat' (first
      | (apply WL.gT; exact rfl; exact rfl; (focus (exact dec_false (by omega); done)))
      | (apply WL.gF; exact rfl; exact rfl; (focus (exact dec_false (by omega); done)))
      | (apply W.condKT; exact rfl; (focus (exact dec_false (by omega); done)))
      | (apply W.condKF; exact rfl; (focus (exact dec_false (by omega); done)))
      | ((show WL _ _ _ (⟨_, .call ⟨.value (.func 55), _, _⟩, _, _, _, _⟩ :: _) _ _ _); apply WL.call; exact rfl; exact rfl; exact rfl; exact rfl; exact aig_NetV gs r _ _ N _ _ w hS9 (by omega); rintro v' w' ⟨hx, a', cap', rfl, hO⟩)
      | (show WL _ _ _ _ _ _ _; first | apply WL.nil | (apply WL.pev tOk; exact rfl; exact rfl; exact rfl) | (apply WL.load tOk; exact rfl; exact rfl; exact rfl; exact rfl; exact rfl; (first | assumption | (focus (apply Ext.cell; rotate_left; assumption; (exact extA); done)))) | (apply WL.index tOk; exact rfl; exact rfl; exact rfl; exact rfl; exact rfl; exact rfl; exact rfl; exact rfl; assumption; (exact extA); exact rfl; omega; assumption; intro b off h; have hcc := h; first | (obtain ⟨h1, h2, h3, h4, h5, h6, _⟩ := h) | (obtain ⟨h1, h2, h3, _⟩ := h) | (obtain ⟨h1, h2, _⟩ := h) | (obtain ⟨h1, _⟩ := h)) | (apply WL.add; exact rfl; exact rfl; exact rfl; exact rfl; omega) | (apply WL.sub; exact rfl; exact rfl; exact rfl; exact rfl; omega) | (apply WL.mul; exact rfl; exact rfl; exact rfl; exact rfl; omega) | (apply WL.quo; exact rfl; exact rfl; exact rfl; exact rfl; omega) | (apply WL.rem; exact rfl; exact rfl; exact rfl; exact rfl; omega) | (apply WL.loadA tOk; exact rfl; exact rfl; exact rfl; exact rfl; exact rfl; (first | assumption | (focus (apply Cells.ext; rotate_left; assumption; (exact extA); done))); exact rfl) | (apply WL.guardF; exact rfl; exact rfl) | (apply WL.gD; exact rfl; exact rfl; all_goals intro _) | (apply WL.gN; exact rfl; exact rfl; all_goals intro _) | (apply WL.gB; exact rfl; exact rfl; all_goals intro _))
      | (show Z _ _ _ _ _; first | apply Z.tail | apply Z.then_normal | apply Z.block_normal | apply Z.then_exit | apply Z.block_exit | apply Z.then_ret | apply Z.block_ret | (apply Z.block_other; exact rfl))
      | (show W _ _ _ _ _ _; first | apply W.seq | apply W.region | apply W.block | apply W.skip | apply W.ret | apply W.exit | (apply W.condT; exact rfl) | (apply W.condF; exact rfl) | (apply W.condD; exact rfl; all_goals intro _) | (apply W.condN; exact rfl; all_goals intro _) | (apply W.condB; exact rfl; all_goals intro _)))
    have RM := Own.row encN_ok hO
    have hSn := hS9.ext hx
    obtain ⟨am, rfl⟩ : ∃ x, x = a' := ⟨_, rfl⟩; obtain ⟨cm, rfl⟩ : ∃ x, x = cap' := ⟨_, rfl⟩; obtain ⟨wm, rfl⟩ : ∃ x, x = w' := ⟨_, rfl⟩
    have hXm : Ext w wm := hX9.trans hx
    repeat' (first
      | ((show WL _ _ _ (⟨_, .call ⟨.value (.func 63), _, _⟩, _, _, _, _⟩ :: _) _ _ _); apply WL.callP; exact rfl; exact rfl; exact rfl; exact rfl; exact aig_Check _ _ N _ (RM.ext (by (exact extA))); intro w' hx)
      | ((show WL _ _ _ (⟨_, .call ⟨.value (.func 51), _, _⟩, _, _, _, _⟩ :: _) _ _ _); apply WL.callS; exact rfl; exact rfl; exact rfl; exact rfl; exact aig_Len gs _ _ N.length _ _ (Ext.heap (by (exact extA)) (hSn.cell (i := 0) rfl)))
      | (apply WL.gT; exact rfl; exact rfl; (focus (first | exact dec_false (fun h => h hck) | exact dec_false (fun h => h rfl); done)))
      | (apply WL.gF; exact rfl; exact rfl; (focus (first | exact dec_false (fun h => h hck) | exact dec_false (fun h => h rfl); done)))
      | (apply W.condKT; exact rfl; (focus (first | exact dec_false (fun h => h hck) | exact dec_false (fun h => h rfl); done)))
      | (apply W.condKF; exact rfl; (focus (first | exact dec_false (fun h => h hck) | exact dec_false (fun h => h rfl); done)))
      | (show WL _ _ _ _ _ _ _; first | apply WL.nil | (apply WL.pev tOk; exact rfl; exact rfl; exact rfl) | (apply WL.load tOk; exact rfl; exact rfl; exact rfl; exact rfl; exact rfl; (first | assumption | (focus (apply Ext.cell; rotate_left; assumption; (exact extA); done)))) | (apply WL.index tOk; exact rfl; exact rfl; exact rfl; exact rfl; exact rfl; exact rfl; exact rfl; exact rfl; assumption; (exact extA); exact rfl; omega; assumption; intro b off h; have hcc := h; first | (obtain ⟨h1, h2, h3, h4, h5, h6, _⟩ := h) | (obtain ⟨h1, h2, h3, _⟩ := h) | (obtain ⟨h1, h2, _⟩ := h) | (obtain ⟨h1, _⟩ := h)) | (apply WL.add; exact rfl; exact rfl; exact rfl; exact rfl; omega) | (apply WL.sub; exact rfl; exact rfl; exact rfl; exact rfl; omega) | (apply WL.mul; exact rfl; exact rfl; exact rfl; exact rfl; omega) | (apply WL.quo; exact rfl; exact rfl; exact rfl; exact rfl; omega) | (apply WL.rem; exact rfl; exact rfl; exact rfl; exact rfl; omega) | (apply WL.loadA tOk; exact rfl; exact rfl; exact rfl; exact rfl; exact rfl; (first | assumption | (focus (apply Cells.ext; rotate_left; assumption; (exact extA); done))); exact rfl) | (apply WL.guardF; exact rfl; exact rfl) | (apply WL.gD; exact rfl; exact rfl; all_goals intro _) | (apply WL.gN; exact rfl; exact rfl; all_goals intro _) | (apply WL.gB; exact rfl; exact rfl; all_goals intro _))
      | (show Z _ _ _ _ _; first | apply Z.tail | apply Z.then_normal | apply Z.block_normal | apply Z.then_exit | apply Z.block_exit | apply Z.then_ret | apply Z.block_ret | (apply Z.block_other; exact rfl))
      | (show W _ _ _ _ _ _; first | apply W.seq | apply W.region | apply W.block | apply W.skip | apply W.ret | apply W.exit | (apply W.condT; exact rfl) | (apply W.condF; exact rfl) | (apply W.condD; exact rfl; all_goals intro _) | (apply W.condN; exact rfl; all_goals intro _) | (apply W.condB; exact rfl; all_goals intro _)))
    have RM2 := RM.ext (show Ext wm w' from (by (exact extA)))
    have hXw : Ext w w' := (by (exact extA))
    obtain ⟨w5, rfl⟩ : ∃ x, x = w' := ⟨_, rfl⟩
    refine W.loop1 N.length (fun i => i ≤ N.length) (fun i => [(5, .slice am N.length cm), (6, .int .i64 i)]) (by omega) (fun i h => h) ⟨rfl, rfl, trivial⟩ ?_
    rintro i hi
    by_cases hil : i < N.length
    · obtain ⟨z, hz⟩ := getI N hil
      by_cases hin : z.1 < 0
      · repeat' (first
          | (apply WL.gT; exact rfl; exact rfl; (focus (first | exact dec_true (by omega) | exact dec_false (by omega); done)))
          | (apply WL.gF; exact rfl; exact rfl; (focus (first | exact dec_true (by omega) | exact dec_false (by omega); done)))
          | (apply W.condKT; exact rfl; (focus (first | exact dec_true (by omega) | exact dec_false (by omega); done)))
          | (apply W.condKF; exact rfl; (focus (first | exact dec_true (by omega) | exact dec_false (by omega); done)))
          | (show WL _ _ _ _ _ _ _; first | apply WL.nil | (apply WL.pev tOk; exact rfl; exact rfl; exact rfl) | (apply WL.load tOk; exact rfl; exact rfl; exact rfl; exact rfl; exact rfl; (first | assumption | (focus (apply Ext.cell; rotate_left; assumption; (exact extA); done)))) | (apply WL.index tOk; exact rfl; exact rfl; exact rfl; exact rfl; exact rfl; exact rfl; exact rfl; exact rfl; assumption; (exact extA); exact rfl; omega; assumption; intro b off h; have hcc := h; first | (obtain ⟨h1, h2, h3, h4, h5, h6, _⟩ := h) | (obtain ⟨h1, h2, h3, _⟩ := h) | (obtain ⟨h1, h2, _⟩ := h) | (obtain ⟨h1, _⟩ := h)) | (apply WL.add; exact rfl; exact rfl; exact rfl; exact rfl; omega) | (apply WL.sub; exact rfl; exact rfl; exact rfl; exact rfl; omega) | (apply WL.mul; exact rfl; exact rfl; exact rfl; exact rfl; omega) | (apply WL.quo; exact rfl; exact rfl; exact rfl; exact rfl; omega) | (apply WL.rem; exact rfl; exact rfl; exact rfl; exact rfl; omega) | (apply WL.loadA tOk; exact rfl; exact rfl; exact rfl; exact rfl; exact rfl; (first | assumption | (focus (apply Cells.ext; rotate_left; assumption; (exact extA); done))); exact rfl) | (apply WL.guardF; exact rfl; exact rfl) | (apply WL.gD; exact rfl; exact rfl; all_goals intro _) | (apply WL.gN; exact rfl; exact rfl; all_goals intro _) | (apply WL.gB; exact rfl; exact rfl; all_goals intro _))
          | (show Z _ _ _ _ _; first | apply Z.tail | apply Z.then_normal | apply Z.block_normal | apply Z.then_exit | apply Z.block_exit | apply Z.then_ret | apply Z.block_ret | (apply Z.block_other; exact rfl))
          | (show W _ _ _ _ _ _; first | apply W.seq | apply W.region | apply W.block | apply W.skip | apply W.ret | apply W.exit | (apply W.condT; exact rfl) | (apply W.condF; exact rfl) | (apply W.condD; exact rfl; all_goals intro _) | (apply W.condN; exact rfl; all_goals intro _) | (apply W.condB; exact rfl; all_goals intro _)))
        exact Z.again1 (by omega) ⟨rfl, rfl, trivial⟩
      · obtain ⟨t1, t2, t3⟩ := hT.gate i z hz (by omega)
        have hgz := hT.good.gate hz (by omega)
        repeat' (first
          | (apply WL.gT; exact rfl; exact rfl; (focus (first | exact dec_true (by omega) | exact dec_false (by omega); done)))
          | (apply WL.gF; exact rfl; exact rfl; (focus (first | exact dec_true (by omega) | exact dec_false (by omega); done)))
          | (apply QL.gT; exact rfl; exact rfl; (focus (first | exact dec_true (by omega) | exact dec_false (by omega); done)))
          | (apply QL.gF; exact rfl; exact rfl; (focus (first | exact dec_true (by omega) | exact dec_false (by omega); done)))
          | (apply W.condKT; exact rfl; (focus (first | exact dec_true (by omega) | exact dec_false (by omega); done)))
          | (apply W.condKF; exact rfl; (focus (first | exact dec_true (by omega) | exact dec_false (by omega); done)))
          | (show WL _ _ _ _ _ _ _; first | apply WL.nil | (apply WL.pev tOk; exact rfl; exact rfl; exact rfl) | (apply WL.load tOk; exact rfl; exact rfl; exact rfl; exact rfl; exact rfl; (first | assumption | (focus (apply Ext.cell; rotate_left; assumption; (exact extA); done)))) | (apply WL.index tOk; exact rfl; exact rfl; exact rfl; exact rfl; exact rfl; exact rfl; exact rfl; exact rfl; assumption; (exact extA); exact rfl; omega; assumption; intro b off h; have hcc := h; first | (obtain ⟨h1, h2, h3, h4, h5, h6, _⟩ := h) | (obtain ⟨h1, h2, h3, _⟩ := h) | (obtain ⟨h1, h2, _⟩ := h) | (obtain ⟨h1, _⟩ := h)) | (apply WL.add; exact rfl; exact rfl; exact rfl; exact rfl; omega) | (apply WL.sub; exact rfl; exact rfl; exact rfl; exact rfl; omega) | (apply WL.mul; exact rfl; exact rfl; exact rfl; exact rfl; omega) | (apply WL.quo; exact rfl; exact rfl; exact rfl; exact rfl; omega) | (apply WL.rem; exact rfl; exact rfl; exact rfl; exact rfl; omega) | (apply WL.loadA tOk; exact rfl; exact rfl; exact rfl; exact rfl; exact rfl; (first | assumption | (focus (apply Cells.ext; rotate_left; assumption; (exact extA); done))); exact rfl) | (apply WL.guardF; exact rfl; exact rfl) | (apply WL.gD; exact rfl; exact rfl; all_goals intro _) | (apply WL.gN; exact rfl; exact rfl; all_goals intro _) | (apply WL.gB; exact rfl; exact rfl; all_goals intro _))
          | (show QL _ _ _ _ _ _ _; first | apply QL.nil | (apply QL.pev tOk; exact rfl; exact rfl; exact rfl) | (apply QL.load tOk; exact rfl; exact rfl; exact rfl; exact rfl; exact rfl; (first | assumption | (focus (apply Ext.cell; rotate_left; assumption; (exact extA); done)))) | (apply QL.index tOk; exact rfl; exact rfl; exact rfl; exact rfl; exact rfl; exact rfl; exact rfl; exact rfl; assumption; (exact extA); exact rfl; omega; assumption; intro b off h; have hcc := h; first | (obtain ⟨h1, h2, h3, h4, h5, h6, _⟩ := h) | (obtain ⟨h1, h2, h3, _⟩ := h) | (obtain ⟨h1, h2, _⟩ := h) | (obtain ⟨h1, _⟩ := h)) | (apply QL.add; exact rfl; exact rfl; exact rfl; exact rfl; omega) | (apply QL.sub; exact rfl; exact rfl; exact rfl; exact rfl; omega) | (apply QL.mul; exact rfl; exact rfl; exact rfl; exact rfl; omega) | (apply QL.quo; exact rfl; exact rfl; exact rfl; exact rfl; omega) | (apply QL.rem; exact rfl; exact rfl; exact rfl; exact rfl; omega) | (apply QL.loadA tOk; exact rfl; exact rfl; exact rfl; exact rfl; exact rfl; (first | assumption | (focus (apply Cells.ext; rotate_left; assumption; (exact extA); done))); exact rfl) | (apply QL.guardF; exact rfl; exact rfl) | (apply QL.gD; exact rfl; exact rfl; all_goals intro _) | (apply QL.gN; exact rfl; exact rfl; all_goals intro _) | (apply QL.gB; exact rfl; exact rfl; all_goals intro _))
          | (show Z _ _ _ _ _; first | apply Z.tail | apply Z.then_normal | apply Z.block_normal | apply Z.then_exit | apply Z.block_exit | apply Z.then_ret | apply Z.block_ret | (apply Z.block_other; exact rfl))
          | (show W _ _ _ _ _ _; first | apply W.seq | apply W.region | apply W.block | apply W.skip | apply W.ret | apply W.exit | (apply W.condT; exact rfl) | (apply W.condF; exact rfl) | (apply W.condD; exact rfl; all_goals intro _) | (apply W.condN; exact rfl; all_goals intro _) | (apply W.condB; exact rfl; all_goals intro _) | (apply W.regionD tMix; kernel_rfl)))
        refine W.loop1 i (fun j => j ≤ i) (fun j => [(5, .slice am N.length cm), (6, .int .i64 i), (7, .int .i64 j)]) (by omega) (fun j h => h) ⟨rfl, rfl, rfl, trivial⟩ ?_
        rintro j hj
        by_cases hjl : j < i
        · obtain ⟨y, hy⟩ := getI N (show j < N.length by omega)
          have hne : ¬ y = z := fun h => t3 j hjl (by rw [hy, h])
          have hne2 : ¬ encN y = encN z := fun h => hne (encN_inj _ _ h)
          repeat' (first
            | (apply WL.gT; exact rfl; exact rfl; (focus (first | exact dec_true (by omega) | exact dec_false (by omega) | exact dec_false hne2; done)))
            | (apply WL.gF; exact rfl; exact rfl; (focus (first | exact dec_true (by omega) | exact dec_false (by omega) | exact dec_false hne2; done)))
            | (apply QL.gT; exact rfl; exact rfl; (focus (first | exact dec_true (by omega) | exact dec_false (by omega) | exact dec_false hne2; done)))
            | (apply QL.gF; exact rfl; exact rfl; (focus (first | exact dec_true (by omega) | exact dec_false (by omega) | exact dec_false hne2; done)))
            | (apply W.condKT; exact rfl; (focus (first | exact dec_true (by omega) | exact dec_false (by omega) | exact dec_false hne2; done)))
            | (apply W.condKF; exact rfl; (focus (first | exact dec_true (by omega) | exact dec_false (by omega) | exact dec_false hne2; done)))
            | (apply WL.eqlS tOk; exact rfl; exact rfl; exact rfl; exact rfl; exact rfl; exact rfl; exact rfl; exact factNN)
            | (apply QL.eqlS tOk; exact rfl; exact rfl; exact rfl; exact rfl; exact rfl; exact rfl; exact rfl; exact factNN)
            | (show WL _ _ _ _ _ _ _; first | apply WL.nil | (apply WL.pev tOk; exact rfl; exact rfl; exact rfl) | (apply WL.load tOk; exact rfl; exact rfl; exact rfl; exact rfl; exact rfl; (first | assumption | (focus (apply Ext.cell; rotate_left; assumption; (exact extA); done)))) | (apply WL.index tOk; exact rfl; exact rfl; exact rfl; exact rfl; exact rfl; exact rfl; exact rfl; exact rfl; assumption; (exact extA); exact rfl; omega; assumption; intro b off h; have hcc := h; first | (obtain ⟨h1, h2, h3, h4, h5, h6, _⟩ := h) | (obtain ⟨h1, h2, h3, _⟩ := h) | (obtain ⟨h1, h2, _⟩ := h) | (obtain ⟨h1, _⟩ := h)) | (apply WL.add; exact rfl; exact rfl; exact rfl; exact rfl; omega) | (apply WL.sub; exact rfl; exact rfl; exact rfl; exact rfl; omega) | (apply WL.mul; exact rfl; exact rfl; exact rfl; exact rfl; omega) | (apply WL.quo; exact rfl; exact rfl; exact rfl; exact rfl; omega) | (apply WL.rem; exact rfl; exact rfl; exact rfl; exact rfl; omega) | (apply WL.loadA tOk; exact rfl; exact rfl; exact rfl; exact rfl; exact rfl; (first | assumption | (focus (apply Cells.ext; rotate_left; assumption; (exact extA); done))); exact rfl) | (apply WL.guardF; exact rfl; exact rfl) | (apply WL.gD; exact rfl; exact rfl; all_goals intro _) | (apply WL.gN; exact rfl; exact rfl; all_goals intro _) | (apply WL.gB; exact rfl; exact rfl; all_goals intro _))
            | (show QL _ _ _ _ _ _ _; first | apply QL.nil | (apply QL.pev tOk; exact rfl; exact rfl; exact rfl) | (apply QL.load tOk; exact rfl; exact rfl; exact rfl; exact rfl; exact rfl; (first | assumption | (focus (apply Ext.cell; rotate_left; assumption; (exact extA); done)))) | (apply QL.index tOk; exact rfl; exact rfl; exact rfl; exact rfl; exact rfl; exact rfl; exact rfl; exact rfl; assumption; (exact extA); exact rfl; omega; assumption; intro b off h; have hcc := h; first | (obtain ⟨h1, h2, h3, h4, h5, h6, _⟩ := h) | (obtain ⟨h1, h2, h3, _⟩ := h) | (obtain ⟨h1, h2, _⟩ := h) | (obtain ⟨h1, _⟩ := h)) | (apply QL.add; exact rfl; exact rfl; exact rfl; exact rfl; omega) | (apply QL.sub; exact rfl; exact rfl; exact rfl; exact rfl; omega) | (apply QL.mul; exact rfl; exact rfl; exact rfl; exact rfl; omega) | (apply QL.quo; exact rfl; exact rfl; exact rfl; exact rfl; omega) | (apply QL.rem; exact rfl; exact rfl; exact rfl; exact rfl; omega) | (apply QL.loadA tOk; exact rfl; exact rfl; exact rfl; exact rfl; exact rfl; (first | assumption | (focus (apply Cells.ext; rotate_left; assumption; (exact extA); done))); exact rfl) | (apply QL.guardF; exact rfl; exact rfl) | (apply QL.gD; exact rfl; exact rfl; all_goals intro _) | (apply QL.gN; exact rfl; exact rfl; all_goals intro _) | (apply QL.gB; exact rfl; exact rfl; all_goals intro _))
            | (show Z _ _ _ _ _; first | apply Z.tail | apply Z.then_normal | apply Z.block_normal | apply Z.then_exit | apply Z.block_exit | apply Z.then_ret | apply Z.block_ret | (apply Z.block_other; exact rfl))
            | (show W _ _ _ _ _ _; first | apply W.seq | apply W.region | apply W.block | apply W.skip | apply W.ret | apply W.exit | (apply W.condT; exact rfl) | (apply W.condF; exact rfl) | (apply W.condD; exact rfl; all_goals intro _) | (apply W.condN; exact rfl; all_goals intro _) | (apply W.condB; exact rfl; all_goals intro _) | (apply W.regionD tMix; kernel_rfl)))
          exact Z.again1 (by omega) ⟨rfl, rfl, rfl, trivial⟩
        · repeat' (first
            | (apply WL.gT; exact rfl; exact rfl; (focus (exact dec_false (by omega); done)))
            | (apply WL.gF; exact rfl; exact rfl; (focus (exact dec_false (by omega); done)))
            | (apply W.condKT; exact rfl; (focus (exact dec_false (by omega); done)))
            | (apply W.condKF; exact rfl; (focus (exact dec_false (by omega); done)))
            | (show WL _ _ _ _ _ _ _; first | apply WL.nil | (apply WL.pev tOk; exact rfl; exact rfl; exact rfl) | (apply WL.load tOk; exact rfl; exact rfl; exact rfl; exact rfl; exact rfl; (first | assumption | (focus (apply Ext.cell; rotate_left; assumption; (exact extA); done)))) | (apply WL.index tOk; exact rfl; exact rfl; exact rfl; exact rfl; exact rfl; exact rfl; exact rfl; exact rfl; assumption; (exact extA); exact rfl; omega; assumption; intro b off h; have hcc := h; first | (obtain ⟨h1, h2, h3, h4, h5, h6, _⟩ := h) | (obtain ⟨h1, h2, h3, _⟩ := h) | (obtain ⟨h1, h2, _⟩ := h) | (obtain ⟨h1, _⟩ := h)) | (apply WL.add; exact rfl; exact rfl; exact rfl; exact rfl; omega) | (apply WL.sub; exact rfl; exact rfl; exact rfl; exact rfl; omega) | (apply WL.mul; exact rfl; exact rfl; exact rfl; exact rfl; omega) | (apply WL.quo; exact rfl; exact rfl; exact rfl; exact rfl; omega) | (apply WL.rem; exact rfl; exact rfl; exact rfl; exact rfl; omega) | (apply WL.loadA tOk; exact rfl; exact rfl; exact rfl; exact rfl; exact rfl; (first | assumption | (focus (apply Cells.ext; rotate_left; assumption; (exact extA); done))); exact rfl) | (apply WL.guardF; exact rfl; exact rfl) | (apply WL.gD; exact rfl; exact rfl; all_goals intro _) | (apply WL.gN; exact rfl; exact rfl; all_goals intro _) | (apply WL.gB; exact rfl; exact rfl; all_goals intro _))
            | (show Z _ _ _ _ _; first | apply Z.tail | apply Z.then_normal | apply Z.block_normal | apply Z.then_exit | apply Z.block_exit | apply Z.then_ret | apply Z.block_ret | (apply Z.block_other; exact rfl))
            | (show W _ _ _ _ _ _; first | apply W.seq | apply W.region | apply W.block | apply W.skip | apply W.ret | apply W.exit | (apply W.condT; exact rfl) | (apply W.condF; exact rfl) | (apply W.condD; exact rfl; all_goals intro _) | (apply W.condN; exact rfl; all_goals intro _) | (apply W.condB; exact rfl; all_goals intro _)))
          exact Z.again1 (by omega) ⟨rfl, rfl, trivial⟩
    · repeat' (first
        | (apply WL.gT; exact rfl; exact rfl; (focus (exact dec_false (by omega); done)))
        | (apply WL.gF; exact rfl; exact rfl; (focus (exact dec_false (by omega); done)))
        | (apply W.condKT; exact rfl; (focus (exact dec_false (by omega); done)))
        | (apply W.condKF; exact rfl; (focus (exact dec_false (by omega); done)))
        | ((show WL _ _ _ (⟨_, .call ⟨.value (.func 48), _, _⟩, _, _, _, _⟩ :: _) _ _ _); apply WL.callP; exact rfl; exact rfl; exact rfl; exact rfl; exact law07_lives _; intro w' hx)
        | (show WL _ _ _ _ _ _ _; first | apply WL.nil | (apply WL.pev tOk; exact rfl; exact rfl; exact rfl) | (apply WL.load tOk; exact rfl; exact rfl; exact rfl; exact rfl; exact rfl; (first | assumption | (focus (apply Ext.cell; rotate_left; assumption; (exact extA); done)))) | (apply WL.index tOk; exact rfl; exact rfl; exact rfl; exact rfl; exact rfl; exact rfl; exact rfl; exact rfl; assumption; (exact extA); exact rfl; omega; assumption; intro b off h; have hcc := h; first | (obtain ⟨h1, h2, h3, h4, h5, h6, _⟩ := h) | (obtain ⟨h1, h2, h3, _⟩ := h) | (obtain ⟨h1, h2, _⟩ := h) | (obtain ⟨h1, _⟩ := h)) | (apply WL.add; exact rfl; exact rfl; exact rfl; exact rfl; omega) | (apply WL.sub; exact rfl; exact rfl; exact rfl; exact rfl; omega) | (apply WL.mul; exact rfl; exact rfl; exact rfl; exact rfl; omega) | (apply WL.quo; exact rfl; exact rfl; exact rfl; exact rfl; omega) | (apply WL.rem; exact rfl; exact rfl; exact rfl; exact rfl; omega) | (apply WL.loadA tOk; exact rfl; exact rfl; exact rfl; exact rfl; exact rfl; (first | assumption | (focus (apply Cells.ext; rotate_left; assumption; (exact extA); done))); exact rfl) | (apply WL.guardF; exact rfl; exact rfl) | (apply WL.gD; exact rfl; exact rfl; all_goals intro _) | (apply WL.gN; exact rfl; exact rfl; all_goals intro _) | (apply WL.gB; exact rfl; exact rfl; all_goals intro _))
        | (show Z _ _ _ _ _; first | apply Z.tail | apply Z.then_normal | apply Z.block_normal | apply Z.then_exit | apply Z.block_exit | apply Z.then_ret | apply Z.block_ret | (apply Z.block_other; exact rfl))
        | (show W _ _ _ _ _ _; first | apply W.seq | apply W.region | apply W.block | apply W.skip | apply W.ret | apply W.exit | (apply W.condT; exact rfl) | (apply W.condF; exact rfl) | (apply W.condD; exact rfl; all_goals intro _) | (apply W.condN; exact rfl; all_goals intro _) | (apply W.condB; exact rfl; all_goals intro _)))
      exact Z.body1 Try.results11 rfl fun m => ⟨rfl, Ext.at (by (exact extA)) m⟩
/-- What the statement's reading of an element gives. -/
abbrev OkR (w : World) (x : AskT) : Prop := (Lit.int .i64 x.1).wf = true ∧ (Lit.int .i64 x.2.1).wf = true ∧ (Lit.int .i64 x.2.2.1).wf = true ∧ (Lit.int .i64 x.2.2.2.1).wf = true ∧
  (Row 1 encI w x.2.2.2.2.1.1 x.2.2.2.2.1.2.2 ∧ x.2.2.2.2.1.2.2.length ≤ x.2.2.2.2.1.2.1 ∧ x.2.2.2.2.1.2.1 ≤ maxLen ∧ (x.2.2.2.2.1.1 = none → x.2.2.2.2.1.2.1 = 0) ∧ ∀ z ∈ x.2.2.2.2.1.2.2, (Lit.int .i64 z).wf = true) ∧
  (Row 2 encN w x.2.2.2.2.2.1 x.2.2.2.2.2.2.2 ∧ x.2.2.2.2.2.2.2.length ≤ x.2.2.2.2.2.2.1 ∧ x.2.2.2.2.2.2.1 ≤ maxLen ∧ (x.2.2.2.2.2.1 = none → x.2.2.2.2.2.2.1 = 0) ∧ ∀ z ∈ x.2.2.2.2.2.2.2, (Lit.int .i64 z.1).wf = true ∧ (Lit.int .i64 z.2).wf = true)
theorem OkR.ok {w : World} {x : AskT} (h : OkR w x) : OkK w x := ⟨(wf_i64 h.2.1).2, (wf_i64 h.2.2.1).2, h.2.2.2.2.1.1, h.2.2.2.2.1.2.2.2.1, h.2.2.2.2.2.1, h.2.2.2.2.2.2.2.2.1⟩
end Go.Proofs.Ytfkdlepemiepdaa
