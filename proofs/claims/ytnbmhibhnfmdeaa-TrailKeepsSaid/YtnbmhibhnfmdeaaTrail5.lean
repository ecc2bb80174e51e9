/- Trails: back to a level. No conditions. -/
import Derived.Test.YtnbmhibhnfmdeaaTrail4
namespace Go.Proofs.Ytnbmhibhnfmdeaa
open Go Go.Lt Go.RowKit
set_option linter.unusedVariables false
set_option linter.unusedSimpArgs false

/-- What was set up to a level. -/
def keepT (k : Int) (Lr : List T3) : List T3 := Lr.filter fun x => decide (x.2.1 ≤ k)
def Sorted (Lr : List T3) : Prop := Lr.Pairwise fun x y => x.2.1 ≤ y.2.1
theorem keep_take {k : Int} : ∀ {Lr : List T3}, Sorted Lr → keepT k Lr = Lr.take (keepT k Lr).length
  | [], _ => rfl
  | x :: r, h => by
    have h' := List.pairwise_cons.1 h
    unfold keepT
    by_cases hx : x.2.1 ≤ k
    · rw [List.filter_cons_of_pos (by simpa using hx)]
      have ih := keep_take (k := k) h'.2
      unfold keepT at ih
      rw [List.length_cons, List.take_succ_cons, ← ih]
    · rw [List.filter_cons_of_neg (by simpa using hx), List.filter_eq_nil_iff.2 (fun y hy => by have := h'.1 y hy; simp; omega)]
      rfl
/-- The levels, and how many were set up to each. -/
def EOk (Lr : List T3) (E : List Int) : Prop := Sorted Lr ∧ (∀ x ∈ Lr, 0 ≤ x.2.1 ∧ x.2.1 ≤ E.length) ∧ ∀ (k : Nat) (e : Int), E[k]? = some e → e = ((keepT k Lr).length : Int)
def backT (Lr : List T3) (E : List Int) (lev : Int) : List T3 := if (E.length : Int) ≤ max lev 0 then Lr else keepT (max lev 0) Lr
def backE (E : List Int) (lev : Int) : List Int := E.take (max lev 0).toNat
theorem backE_no {E : List Int} {lev : Int} (h : (E.length : Int) ≤ max lev 0) : backE E lev = E := List.take_of_length_le (by omega)

theorem vOf_free {n : Nat} {A D : List T3} {x : T3} (hT : TOk n (A ++ x :: D)) : (vOf n (A ++ x :: D)).set (x.1 / 2).toNat 2 = vOf n (A ++ D) := by
  have hT2 : TOk n (A ++ D) := hT.sub (by simp)
  have hx := hT.1 x (by simp)
  refine tab_set fun u hu => ?_
  by_cases hu0 : u = 0
  · rw [if_pos hu0, if_neg (by omega), if_pos hu0]
  · rw [if_neg hu0, if_neg hu0]
    by_cases he : u = (x.1 / 2).toNat
    · rw [if_pos he]
      refine valT_free (by omega) (plc_none.2 fun y hy hyv => ?_)
      have h2 := hT.2
      rw [show (A ++ x :: D) = A ++ [x] ++ D by simp] at h2
      rw [List.pairwise_append, List.pairwise_append] at h2
      rcases List.mem_append.1 hy with hy | hy
      · exact h2.1.2.2 y hy x (by simp) (by omega)
      · exact h2.2.2 x (by simp) y hy (by omega)
    · rw [if_neg he]
      cases hp : plc (u : Int) (A ++ D) with
      | none =>
        have hn := plc_none.1 hp
        rw [valT_free (by omega) (by rw [show 2 * (u : Int) / 2 = u by omega]; exact hp)]
        refine (valT_free (by omega) (plc_none.2 fun y hy hyv => ?_)).symm
        simp only [List.mem_append, List.mem_cons] at hy
        rcases hy with hy | rfl | hy
        · exact hn y (by simp [hy]) (by omega)
        · omega
        · exact hn y (by simp [hy]) (by omega)
      | some i =>
        obtain ⟨y, hy, hyv⟩ := plc_some hp
        have hm : y ∈ A ++ x :: D := by
          have := List.mem_of_getElem? hy
          simp only [List.mem_append, List.mem_cons] at this ⊢
          rcases this with h | h
          · exact .inl h
          · exact .inr (.inr h)
        obtain ⟨j, hj⟩ := List.mem_iff_getElem?.1 hm
        rw [valT_set hT2 (by omega) hy (by omega), valT_set hT (by omega) hj (by omega)]

section
variable {gt n : Nat} {w w0 : World} {av am al ae : Option Addr} {cv cm cl ce : Nat} {M Lr : List T3} {E : List Int} {rest : List Piece}
set_option maxHeartbeats 8000000 in
theorem trail_Back (hX : Ext w0 w) (hS : Lt.Sep w0.heap.size w (trP w0.heap.size gt n av cv (vOf n Lr) am cm M al cl (Lr.map (·.1)) ae ce E ++ rest)) (hT : TOk n Lr) (hM : MarkOk n Lr M) (hE : EOk Lr E) (hn : n ≤ 1048576) (hL : Lr.length ≤ 1048576) (lev : Int) :
    Lt.Spec Try.prog 93 [.pointer (some ⟨gt, 0, none⟩), .int .i64 lev] w (fun v w' => Ext w0 w' ∧ v = .tuple #[] ∧ TrAt w0.heap.size w' gt n (backT Lr E lev) (backE E lev) rest) := by
  have hV := vOf_len n Lr
  have hgt := (hS.lt (i := 0) rfl rfl).1
  obtain ⟨c0, c1, c2, c3⟩ := trC hS
  have hR3 := hS.row (i := 3) rfl
  have hR4 := hS.row (i := 4) rfl
  have hLm : (Lr.map (·.1)).length = Lr.length := List.length_map _
  by_cases hle : (E.length : Int) ≤ max lev 0
  · rw [backE_no hle, backT, if_pos hle]
    refine Spec.of _ Try.func93 rfl Try.ntmps93 (by kernel_rfl) rfl ?_
    repeat' (first
      | (apply WL.nilc; exact rfl; exact rfl; exact rfl)
      | (apply WL.eqNilS tOk; exact rfl; exact rfl; exact rfl; exact rfl; exact rfl; exact rfl)
      | (apply WL.neNilS tOk; exact rfl; exact rfl; exact rfl; exact rfl; exact rfl; exact rfl)
      | (apply WL.eqNil tOk; exact rfl; exact rfl; exact rfl; exact rfl; exact rfl; exact rfl)
      | (apply WL.neNil tOk; exact rfl; exact rfl; exact rfl; exact rfl; exact rfl; exact rfl)
      | (apply WL.min; exact rfl; exact rfl; exact rfl; exact rfl)
      | (apply WL.max; exact rfl; exact rfl; exact rfl; exact rfl)
      | ((show WL _ _ _ (⟨_, .call ⟨.value (.func 94), _, _⟩, _, _, _, _⟩ :: _) _ _ _); apply WL.callS; exact rfl; exact rfl; exact rfl; exact rfl; exact trail_Level hS)
      | (apply WL.gT; exact rfl; exact rfl; (focus (exact dec_true hle; done)))
      | (apply WL.gF; exact rfl; exact rfl; (focus (exact dec_true hle; done)))
      | (apply W.condKT; exact rfl; (focus (exact dec_true hle; done)))
      | (apply W.condKF; exact rfl; (focus (exact dec_true hle; done)))
      | (show WL _ _ _ _ _ _ _; first | apply WL.nil | (apply WL.pev tOk; exact rfl; exact rfl; exact rfl) | (apply WL.load tOk; exact rfl; exact rfl; exact rfl; exact rfl; exact rfl; (first | assumption | (focus (apply Ext.cell; rotate_left; assumption; (first | exact Ext.refl _ | assumption | exact Ext.trans (by assumption) (by assumption) | (focus (repeat (first | exact Ext.refl _ | assumption | (apply Ext.trans; rotate_left; assumption))); done) | solve_by_elim (maxDepth := 8) [Ext.trans]); done)))) | (apply WL.index tOk; exact rfl; exact rfl; exact rfl; exact rfl; exact rfl; exact rfl; exact rfl; exact rfl; assumption; (first | exact Ext.refl _ | assumption | exact Ext.trans (by assumption) (by assumption) | (focus (repeat (first | exact Ext.refl _ | assumption | (apply Ext.trans; rotate_left; assumption))); done) | solve_by_elim (maxDepth := 8) [Ext.trans]); exact rfl; omega; assumption; intro b off h; have hcc := h; first | (obtain ⟨h1, h2, h3, _⟩ := h) | (obtain ⟨h1, h2, _⟩ := h) | (obtain ⟨h1, _⟩ := h)) | (apply WL.add; exact rfl; exact rfl; exact rfl; exact rfl; omega) | (apply WL.sub; exact rfl; exact rfl; exact rfl; exact rfl; omega) | (apply WL.mul; exact rfl; exact rfl; exact rfl; exact rfl; omega) | (apply WL.quo; exact rfl; exact rfl; exact rfl; exact rfl; omega) | (apply WL.rem; exact rfl; exact rfl; exact rfl; exact rfl; omega) | (apply WL.loadA tOk; exact rfl; exact rfl; exact rfl; exact rfl; exact rfl; (first | assumption | (focus (apply Cells.ext; rotate_left; assumption; (first | exact Ext.refl _ | assumption | exact Ext.trans (by assumption) (by assumption) | (focus (repeat (first | exact Ext.refl _ | assumption | (apply Ext.trans; rotate_left; assumption))); done) | solve_by_elim (maxDepth := 8) [Ext.trans]); done))); exact rfl) | (apply WL.guardF; exact rfl; exact rfl) | (apply WL.gD; exact rfl; exact rfl; all_goals intro _) | (apply WL.gN; exact rfl; exact rfl; all_goals intro _) | (apply WL.gB; exact rfl; exact rfl; all_goals intro _))
      | (show Z _ _ _ _ _; first | apply Z.tail | apply Z.then_normal | apply Z.block_normal | apply Z.then_exit | apply Z.block_exit | apply Z.then_ret | apply Z.block_ret | (apply Z.block_other; exact rfl))
      | (show W _ _ _ _ _ _; first | apply W.seq | apply W.region | apply W.block | apply W.skip | apply W.ret | apply W.exit | (apply W.condT; exact rfl) | (apply W.condF; exact rfl) | (apply W.condD; exact rfl; all_goals intro _) | (apply W.condN; exact rfl; all_goals intro _) | (apply W.condB; exact rfl; all_goals intro _)))
    exact Z.body0 Try.results93 fun m => ⟨hX.at m, rfl, av, cv, am, cm, M, al, cl, ae, ce, hM, hS.ext ((Ext.refl _).at m)⟩
  obtain ⟨K, hK⟩ : ∃ K : Nat, max lev 0 = K := ⟨(max lev 0).toNat, by omega⟩
  have hKE : K < E.length := by omega
  obtain ⟨e, he⟩ := getI E hKE
  have hec := hE.2.2 K e he
  have hkt := keep_take (k := K) hE.1
  generalize hm : (keepT K Lr).length = c at hec hkt
  have hcl : c ≤ Lr.length := by rw [← hm]; exact List.length_filter_le _ _
  have eb1 : backT Lr E lev = Lr.take c := by rw [backT, if_neg hle, hK, hkt]
  have eb2 : backE E lev = E.take K := by rw [backE, hK]; rfl
  rw [eb1, eb2]
  subst hec
  have hMk : MarkOk n (Lr.take c) M := ⟨hM.1, hM.2.1, fun i x hx => by
    rw [List.getElem?_take] at hx
    split at hx
    · exact hM.2.2 i x hx
    · cases hx⟩
  have he' : E[(max lev 0).toNat]? = some (c : Int) := by rw [hK]; exact he
  refine Spec.of _ Try.func93 rfl Try.ntmps93 (by kernel_rfl) rfl ?_
  repeat' (first
    | (apply WL.nilc; exact rfl; exact rfl; exact rfl)
    | (apply WL.eqNilS tOk; exact rfl; exact rfl; exact rfl; exact rfl; exact rfl; exact rfl)
    | (apply WL.neNilS tOk; exact rfl; exact rfl; exact rfl; exact rfl; exact rfl; exact rfl)
    | (apply WL.eqNil tOk; exact rfl; exact rfl; exact rfl; exact rfl; exact rfl; exact rfl)
    | (apply WL.neNil tOk; exact rfl; exact rfl; exact rfl; exact rfl; exact rfl; exact rfl)
    | (apply WL.min; exact rfl; exact rfl; exact rfl; exact rfl)
    | (apply WL.max; exact rfl; exact rfl; exact rfl; exact rfl)
    | ((show WL _ _ _ (⟨_, .call ⟨.value (.func 94), _, _⟩, _, _, _, _⟩ :: _) _ _ _); apply WL.callS; exact rfl; exact rfl; exact rfl; exact rfl; exact trail_Level hS)
    | (apply WL.indexO tOk; exact rfl; exact rfl; exact rfl; exact rfl; exact rfl; exact rfl; exact rfl; exact rfl; assumption; (first | exact Ext.refl _ | assumption | exact Ext.trans (by assumption) (by assumption) | (focus (repeat (first | exact Ext.refl _ | assumption | (apply Ext.trans; rotate_left; assumption))); done) | solve_by_elim (maxDepth := 8) [Ext.trans]); exact encI_ok; (first | exact rfl | (simp; done) | (simp [*]; done) | omega | (simp only [List.length_set]; omega)); omega; assumption; intro gb ha hc; cases ha; have hcc := hc; first | (obtain ⟨h1, h2, h3, _⟩ := hc) | (obtain ⟨h1, h2, _⟩ := hc) | (obtain ⟨h1, _⟩ := hc))
    | (apply WL.gT; exact rfl; exact rfl; (focus (exact dec_false hle; done)))
    | (apply WL.gF; exact rfl; exact rfl; (focus (exact dec_false hle; done)))
    | (apply W.condKT; exact rfl; (focus (exact dec_false hle; done)))
    | (apply W.condKF; exact rfl; (focus (exact dec_false hle; done)))
    | (apply WL.sliceLO (s := 1) tOk; exact rfl; exact rfl; exact rfl; exact rfl; exact rfl; exact rfl; exact rfl; exact rfl; omega)
    | (apply WL.sliceLO (s := 2) tOk; exact rfl; exact rfl; exact rfl; exact rfl; exact rfl; exact rfl; exact rfl; exact rfl; omega)
    | (apply WL.sliceLO (s := 3) tOk; exact rfl; exact rfl; exact rfl; exact rfl; exact rfl; exact rfl; exact rfl; exact rfl; omega)
    | (show WL _ _ _ _ _ _ _; first | apply WL.nil | (apply WL.pev tOk; exact rfl; exact rfl; exact rfl) | (apply WL.load tOk; exact rfl; exact rfl; exact rfl; exact rfl; exact rfl; (first | assumption | (focus (apply Ext.cell; rotate_left; assumption; (first | exact Ext.refl _ | assumption | exact Ext.trans (by assumption) (by assumption) | (focus (repeat (first | exact Ext.refl _ | assumption | (apply Ext.trans; rotate_left; assumption))); done) | solve_by_elim (maxDepth := 8) [Ext.trans]); done)))) | (apply WL.index tOk; exact rfl; exact rfl; exact rfl; exact rfl; exact rfl; exact rfl; exact rfl; exact rfl; assumption; (first | exact Ext.refl _ | assumption | exact Ext.trans (by assumption) (by assumption) | (focus (repeat (first | exact Ext.refl _ | assumption | (apply Ext.trans; rotate_left; assumption))); done) | solve_by_elim (maxDepth := 8) [Ext.trans]); exact rfl; omega; assumption; intro b off h; have hcc := h; first | (obtain ⟨h1, h2, h3, _⟩ := h) | (obtain ⟨h1, h2, _⟩ := h) | (obtain ⟨h1, _⟩ := h)) | (apply WL.add; exact rfl; exact rfl; exact rfl; exact rfl; omega) | (apply WL.sub; exact rfl; exact rfl; exact rfl; exact rfl; omega) | (apply WL.mul; exact rfl; exact rfl; exact rfl; exact rfl; omega) | (apply WL.quo; exact rfl; exact rfl; exact rfl; exact rfl; omega) | (apply WL.rem; exact rfl; exact rfl; exact rfl; exact rfl; omega) | (apply WL.loadA tOk; exact rfl; exact rfl; exact rfl; exact rfl; exact rfl; (first | assumption | (focus (apply Cells.ext; rotate_left; assumption; (first | exact Ext.refl _ | assumption | exact Ext.trans (by assumption) (by assumption) | (focus (repeat (first | exact Ext.refl _ | assumption | (apply Ext.trans; rotate_left; assumption))); done) | solve_by_elim (maxDepth := 8) [Ext.trans]); done))); exact rfl) | (apply WL.guardF; exact rfl; exact rfl) | (apply WL.gD; exact rfl; exact rfl; all_goals intro _) | (apply WL.gN; exact rfl; exact rfl; all_goals intro _) | (apply WL.gB; exact rfl; exact rfl; all_goals intro _))
    | (show Z _ _ _ _ _; first | apply Z.tail | apply Z.then_normal | apply Z.block_normal | apply Z.then_exit | apply Z.block_exit | apply Z.then_ret | apply Z.block_ret | (apply Z.block_other; exact rfl))
    | (show W _ _ _ _ _ _; first | apply W.seq | apply W.region | apply W.block | apply W.skip | apply W.ret | apply W.exit | (apply W.condT; exact rfl) | (apply W.condF; exact rfl) | (apply W.condD; exact rfl; all_goals intro _) | (apply W.condN; exact rfl; all_goals intro _) | (apply W.condB; exact rfl; all_goals intro _)))
  have hcap := hR3.capLe
  have hcapE := hR4.capLe
  refine W.loopW Lr.length (fun k w' => c + k ≤ Lr.length ∧ Ext w0 w' ∧ Lt.Sep w0.heap.size w' (trP w0.heap.size gt n av cv (vOf n (Lr.take c ++ Lr.drop (c + k))) am cm M al cl (Lr.map (·.1)) (some ⟨gb, 0, none⟩) ce E ++ rest))
    (fun k => [(0, .pointer (some ⟨gt, 0, none⟩)), (1, .int .i64 (max lev 0)), (4, .int .i64 c), (25, .slice (subA al cl c 1) ((Lr.map (·.1)).drop c).length (cl - c)), (26, .int .i64 ((Lr.map (·.1)).drop c).length), (27, .int .i64 k)]) ⟨by omega, hX, ?_⟩ (fun k w' h => by omega) ⟨rfl, rfl, rfl, ?_, ?_, rfl, trivial⟩ ?_
  · rw [Nat.add_zero, List.take_append_drop]; exact hS
  · rw [List.length_drop]; exact rfl
  · rw [List.length_drop]; exact rfl
  · rintro k w' ⟨hk, hX1, hS⟩
    have hS1 := hS
    obtain ⟨c0, c1, c2, c3⟩ := trC hS
    (try simp only [List.set_cons_zero, List.set_cons_succ] at hS); (try have hR0 := hS.row (i := 0) rfl); (try have hR1 := hS.row (i := 1) rfl); (try have hR2 := hS.row (i := 2) rfl); (try have hR3 := hS.row (i := 3) rfl); (try have hR4 := hS.row (i := 4) rfl); (try have hC0 := hS.cell (i := 0) rfl); (try have hD0 := (cells_heap hC0).1); (try have hE0 := (cells_heap hC0).2.1); (try have hF0 := (cells_heap hC0).2.2.1); (try have hG0 := (cells_heap hC0).2.2.2.1); (try have hC1 := hS.cell (i := 1) rfl); (try have hD1 := (cells_heap hC1).1); (try have hE1 := (cells_heap hC1).2.1); (try have hF1 := (cells_heap hC1).2.2.1); (try have hG1 := (cells_heap hC1).2.2.2.1); (try have hC2 := hS.cell (i := 2) rfl); (try have hD2 := (cells_heap hC2).1); (try have hE2 := (cells_heap hC2).2.1); (try have hF2 := (cells_heap hC2).2.2.1); (try have hG2 := (cells_heap hC2).2.2.2.1); (try have hC3 := hS.cell (i := 3) rfl); (try have hD3 := (cells_heap hC3).1); (try have hE3 := (cells_heap hC3).2.1); (try have hF3 := (cells_heap hC3).2.2.1); (try have hG3 := (cells_heap hC3).2.2.2.1); (try have hC4 := hS.cell (i := 4) rfl); (try have hD4 := (cells_heap hC4).1); (try have hE4 := (cells_heap hC4).2.1); (try have hF4 := (cells_heap hC4).2.2.1); (try have hG4 := (cells_heap hC4).2.2.2.1); (try have hM0 := hS.map (i := 0) rfl); (try have hM1 := hS.map (i := 1) rfl); (try have hM2 := hS.map (i := 2) rfl); (try have hM3 := hS.map (i := 3) rfl); (try have hM4 := hS.map (i := 4) rfl)
    have hdl : ((Lr.map (·.1)).drop c).length = Lr.length - c := by rw [List.length_drop, hLm]
    have hTk : TOk n (Lr.take c ++ Lr.drop (c + k)) := hT.sub (by
      have h := List.Sublist.append (List.Sublist.refl (Lr.take c)) (List.drop_sublist k (Lr.drop c))
      rwa [List.drop_drop, List.take_append_drop] at h)
    have hVk := vOf_len n (Lr.take c ++ Lr.drop (c + k))
    by_cases hlt : c + k < Lr.length
    · obtain ⟨x, hx⟩ := getI Lr hlt
      have hdr : Lr.drop (c + k) = x :: Lr.drop (c + (k + 1)) := by
        rw [List.drop_eq_getElem_cons hlt, (List.getElem?_eq_some_iff.1 hx).2]; rfl
      have hxb := hT.1 x (List.mem_of_getElem? hx)
      have hxk : ((Lr.map (·.1)).drop c)[((k : Int)).toNat]? = some x.1 := by
        rw [List.getElem?_drop, List.getElem?_map, show c + ((k : Int)).toNat = c + k by omega, hx]; rfl
      have hRd : Row 1 encI w' (subA al cl c 1) ((Lr.map (·.1)).drop c) := Row.dropAt (Own.row encI_ok hR3) c cl hR3.capLe
      obtain ⟨z, hz⟩ := getI (vOf n (Lr.take c ++ Lr.drop (c + k))) (show (x.1 / 2).toNat < _ by omega)
      repeat' (first
        | (apply WL.nilc; exact rfl; exact rfl; exact rfl)
        | (apply WL.eqNilS tOk; exact rfl; exact rfl; exact rfl; exact rfl; exact rfl; exact rfl)
        | (apply WL.neNilS tOk; exact rfl; exact rfl; exact rfl; exact rfl; exact rfl; exact rfl)
        | (apply WL.eqNil tOk; exact rfl; exact rfl; exact rfl; exact rfl; exact rfl; exact rfl)
        | (apply WL.neNil tOk; exact rfl; exact rfl; exact rfl; exact rfl; exact rfl; exact rfl)
        | (apply WL.indexO tOk; exact rfl; exact rfl; exact rfl; exact rfl; exact rfl; exact rfl; exact rfl; exact rfl; assumption; (first | exact Ext.refl _ | assumption | exact Ext.trans (by assumption) (by assumption) | (focus (repeat (first | exact Ext.refl _ | assumption | (apply Ext.trans; rotate_left; assumption))); done) | solve_by_elim (maxDepth := 8) [Ext.trans]); exact encI_ok; (first | exact rfl | (simp; done) | (simp [*]; done) | omega | (simp only [List.length_set]; omega)); omega; assumption; intro gb ha hc; cases ha; have hcc := hc; first | (obtain ⟨h1, h2, h3, _⟩ := hc) | (obtain ⟨h1, h2, _⟩ := hc) | (obtain ⟨h1, _⟩ := hc))
        | (apply WL.storeO tOk; exact rfl; exact rfl; exact rfl; exact rfl; assumption; (first | exact Ext.refl _ | assumption | exact Ext.trans (by assumption) (by assumption) | (focus (repeat (first | exact Ext.refl _ | assumption | (apply Ext.trans; rotate_left; assumption))); done) | solve_by_elim (maxDepth := 8) [Ext.trans]); exact rfl; exact rfl; exact rfl; exact encI_ok; assumption; exact rfl; (first | exact Ext.refl _ | assumption | exact Ext.trans (by assumption) (by assumption) | (focus (repeat (first | exact Ext.refl _ | assumption | (apply Ext.trans; rotate_left; assumption))); done) | solve_by_elim (maxDepth := 8) [Ext.trans]); intro w' hO hX' hU; (first | replace hS := Sep.updRow (i := 0) rfl hU hO (.inl rfl) hS (by (first | exact Ext.refl _ | assumption | exact Ext.trans (by assumption) (by assumption) | (focus (repeat (first | exact Ext.refl _ | assumption | (apply Ext.trans; rotate_left; assumption))); done) | solve_by_elim (maxDepth := 8) [Ext.trans])) (by (first | exact Nat.le_refl _ | exact Below.size (by (first | exact Ext.refl _ | assumption | exact Ext.trans (by assumption) (by assumption) | (focus (repeat (first | exact Ext.refl _ | assumption | (apply Ext.trans; rotate_left; assumption))); done) | solve_by_elim (maxDepth := 8) [Ext.trans])))) | replace hS := Sep.updRow (i := 1) rfl hU hO (.inl rfl) hS (by (first | exact Ext.refl _ | assumption | exact Ext.trans (by assumption) (by assumption) | (focus (repeat (first | exact Ext.refl _ | assumption | (apply Ext.trans; rotate_left; assumption))); done) | solve_by_elim (maxDepth := 8) [Ext.trans])) (by (first | exact Nat.le_refl _ | exact Below.size (by (first | exact Ext.refl _ | assumption | exact Ext.trans (by assumption) (by assumption) | (focus (repeat (first | exact Ext.refl _ | assumption | (apply Ext.trans; rotate_left; assumption))); done) | solve_by_elim (maxDepth := 8) [Ext.trans])))) | replace hS := Sep.updRow (i := 2) rfl hU hO (.inl rfl) hS (by (first | exact Ext.refl _ | assumption | exact Ext.trans (by assumption) (by assumption) | (focus (repeat (first | exact Ext.refl _ | assumption | (apply Ext.trans; rotate_left; assumption))); done) | solve_by_elim (maxDepth := 8) [Ext.trans])) (by (first | exact Nat.le_refl _ | exact Below.size (by (first | exact Ext.refl _ | assumption | exact Ext.trans (by assumption) (by assumption) | (focus (repeat (first | exact Ext.refl _ | assumption | (apply Ext.trans; rotate_left; assumption))); done) | solve_by_elim (maxDepth := 8) [Ext.trans])))) | replace hS := Sep.updRow (i := 3) rfl hU hO (.inl rfl) hS (by (first | exact Ext.refl _ | assumption | exact Ext.trans (by assumption) (by assumption) | (focus (repeat (first | exact Ext.refl _ | assumption | (apply Ext.trans; rotate_left; assumption))); done) | solve_by_elim (maxDepth := 8) [Ext.trans])) (by (first | exact Nat.le_refl _ | exact Below.size (by (first | exact Ext.refl _ | assumption | exact Ext.trans (by assumption) (by assumption) | (focus (repeat (first | exact Ext.refl _ | assumption | (apply Ext.trans; rotate_left; assumption))); done) | solve_by_elim (maxDepth := 8) [Ext.trans])))) | replace hS := Sep.updRow (i := 4) rfl hU hO (.inl rfl) hS (by (first | exact Ext.refl _ | assumption | exact Ext.trans (by assumption) (by assumption) | (focus (repeat (first | exact Ext.refl _ | assumption | (apply Ext.trans; rotate_left; assumption))); done) | solve_by_elim (maxDepth := 8) [Ext.trans])) (by (first | exact Nat.le_refl _ | exact Below.size (by (first | exact Ext.refl _ | assumption | exact Ext.trans (by assumption) (by assumption) | (focus (repeat (first | exact Ext.refl _ | assumption | (apply Ext.trans; rotate_left; assumption))); done) | solve_by_elim (maxDepth := 8) [Ext.trans])))) | replace hS := Sep.updRow (i := 5) rfl hU hO (.inl rfl) hS (by (first | exact Ext.refl _ | assumption | exact Ext.trans (by assumption) (by assumption) | (focus (repeat (first | exact Ext.refl _ | assumption | (apply Ext.trans; rotate_left; assumption))); done) | solve_by_elim (maxDepth := 8) [Ext.trans])) (by (first | exact Nat.le_refl _ | exact Below.size (by (first | exact Ext.refl _ | assumption | exact Ext.trans (by assumption) (by assumption) | (focus (repeat (first | exact Ext.refl _ | assumption | (apply Ext.trans; rotate_left; assumption))); done) | solve_by_elim (maxDepth := 8) [Ext.trans]))))); (try simp only [List.set_cons_zero, List.set_cons_succ] at hS); (try have hR0 := hS.row (i := 0) rfl); (try have hR1 := hS.row (i := 1) rfl); (try have hR2 := hS.row (i := 2) rfl); (try have hR3 := hS.row (i := 3) rfl); (try have hR4 := hS.row (i := 4) rfl); (try have hC0 := hS.cell (i := 0) rfl); (try have hD0 := (cells_heap hC0).1); (try have hE0 := (cells_heap hC0).2.1); (try have hF0 := (cells_heap hC0).2.2.1); (try have hG0 := (cells_heap hC0).2.2.2.1); (try have hC1 := hS.cell (i := 1) rfl); (try have hD1 := (cells_heap hC1).1); (try have hE1 := (cells_heap hC1).2.1); (try have hF1 := (cells_heap hC1).2.2.1); (try have hG1 := (cells_heap hC1).2.2.2.1); (try have hC2 := hS.cell (i := 2) rfl); (try have hD2 := (cells_heap hC2).1); (try have hE2 := (cells_heap hC2).2.1); (try have hF2 := (cells_heap hC2).2.2.1); (try have hG2 := (cells_heap hC2).2.2.2.1); (try have hC3 := hS.cell (i := 3) rfl); (try have hD3 := (cells_heap hC3).1); (try have hE3 := (cells_heap hC3).2.1); (try have hF3 := (cells_heap hC3).2.2.1); (try have hG3 := (cells_heap hC3).2.2.2.1); (try have hC4 := hS.cell (i := 4) rfl); (try have hD4 := (cells_heap hC4).1); (try have hE4 := (cells_heap hC4).2.1); (try have hF4 := (cells_heap hC4).2.2.1); (try have hG4 := (cells_heap hC4).2.2.2.1); (try have hM0 := hS.map (i := 0) rfl); (try have hM1 := hS.map (i := 1) rfl); (try have hM2 := hS.map (i := 2) rfl); (try have hM3 := hS.map (i := 3) rfl); (try have hM4 := hS.map (i := 4) rfl))
        | (apply WL.gT; exact rfl; exact rfl; (focus (exact dec_true (by omega); done)))
        | (apply WL.gF; exact rfl; exact rfl; (focus (exact dec_true (by omega); done)))
        | (apply W.condKT; exact rfl; (focus (exact dec_true (by omega); done)))
        | (apply W.condKF; exact rfl; (focus (exact dec_true (by omega); done)))
        | (show WL _ _ _ _ _ _ _; first | apply WL.nil | (apply WL.pev tOk; exact rfl; exact rfl; exact rfl) | (apply WL.load tOk; exact rfl; exact rfl; exact rfl; exact rfl; exact rfl; (first | assumption | (focus (apply Ext.cell; rotate_left; assumption; (first | exact Ext.refl _ | assumption | exact Ext.trans (by assumption) (by assumption) | (focus (repeat (first | exact Ext.refl _ | assumption | (apply Ext.trans; rotate_left; assumption))); done) | solve_by_elim (maxDepth := 8) [Ext.trans]); done)))) | (apply WL.index tOk; exact rfl; exact rfl; exact rfl; exact rfl; exact rfl; exact rfl; exact rfl; exact rfl; assumption; (first | exact Ext.refl _ | assumption | exact Ext.trans (by assumption) (by assumption) | (focus (repeat (first | exact Ext.refl _ | assumption | (apply Ext.trans; rotate_left; assumption))); done) | solve_by_elim (maxDepth := 8) [Ext.trans]); exact rfl; omega; assumption; intro b off h; have hcc := h; first | (obtain ⟨h1, h2, h3, _⟩ := h) | (obtain ⟨h1, h2, _⟩ := h) | (obtain ⟨h1, _⟩ := h)) | (apply WL.add; exact rfl; exact rfl; exact rfl; exact rfl; omega) | (apply WL.sub; exact rfl; exact rfl; exact rfl; exact rfl; omega) | (apply WL.mul; exact rfl; exact rfl; exact rfl; exact rfl; omega) | (apply WL.quo; exact rfl; exact rfl; exact rfl; exact rfl; omega) | (apply WL.rem; exact rfl; exact rfl; exact rfl; exact rfl; omega) | (apply WL.loadA tOk; exact rfl; exact rfl; exact rfl; exact rfl; exact rfl; (first | assumption | (focus (apply Cells.ext; rotate_left; assumption; (first | exact Ext.refl _ | assumption | exact Ext.trans (by assumption) (by assumption) | (focus (repeat (first | exact Ext.refl _ | assumption | (apply Ext.trans; rotate_left; assumption))); done) | solve_by_elim (maxDepth := 8) [Ext.trans]); done))); exact rfl) | (apply WL.guardF; exact rfl; exact rfl) | (apply WL.gD; exact rfl; exact rfl; all_goals intro _) | (apply WL.gN; exact rfl; exact rfl; all_goals intro _) | (apply WL.gB; exact rfl; exact rfl; all_goals intro _))
        | (show Z _ _ _ _ _; first | apply Z.tail | apply Z.then_normal | apply Z.block_normal | apply Z.then_exit | apply Z.block_exit | apply Z.then_ret | apply Z.block_ret | (apply Z.block_other; exact rfl))
        | (show W _ _ _ _ _ _; first | apply W.seq | apply W.region | apply W.block | apply W.skip | apply W.ret | apply W.exit | (apply W.condT; exact rfl) | (apply W.condF; exact rfl) | (apply W.condD; exact rfl; all_goals intro _) | (apply W.condN; exact rfl; all_goals intro _) | (apply W.condB; exact rfl; all_goals intro _)))
      rw [hdr] at hTk hS hVk
      rw [vOf_free hTk] at hS
      exact Z.againW ⟨by omega, hX', hS⟩ ⟨rfl, rfl, rfl, rfl, rfl, rfl, trivial⟩
    · have hck : c + k = Lr.length := by omega
      have hV2 : Lr.take c ++ Lr.drop (c + k) = Lr.take c := by rw [List.drop_eq_nil_of_le (by omega), List.append_nil]
      rw [hV2] at hS hVk hS1
      repeat' (first
        | (apply WL.nilc; exact rfl; exact rfl; exact rfl)
        | (apply FL.nilc; exact rfl; exact rfl; exact rfl)
        | (apply WL.eqNilS tOk; exact rfl; exact rfl; exact rfl; exact rfl; exact rfl; exact rfl)
        | (apply WL.neNilS tOk; exact rfl; exact rfl; exact rfl; exact rfl; exact rfl; exact rfl)
        | (apply WL.eqNil tOk; exact rfl; exact rfl; exact rfl; exact rfl; exact rfl; exact rfl)
        | (apply WL.neNil tOk; exact rfl; exact rfl; exact rfl; exact rfl; exact rfl; exact rfl)
        | (apply WL.gT; exact rfl; exact rfl; (focus (exact dec_false (by omega); done)))
        | (apply WL.gF; exact rfl; exact rfl; (focus (exact dec_false (by omega); done)))
        | (apply FL.gT; exact rfl; exact rfl; (focus (exact dec_false (by omega); done)))
        | (apply FL.gF; exact rfl; exact rfl; (focus (exact dec_false (by omega); done)))
        | (apply W.condKT; exact rfl; (focus (exact dec_false (by omega); done)))
        | (apply W.condKF; exact rfl; (focus (exact dec_false (by omega); done)))
        | (apply WL.sliceLO (s := 1) tOk; exact rfl; exact rfl; exact rfl; exact rfl; exact rfl; exact rfl; exact rfl; exact rfl; omega)
        | (apply WL.sliceLO (s := 2) tOk; exact rfl; exact rfl; exact rfl; exact rfl; exact rfl; exact rfl; exact rfl; exact rfl; omega)
        | (apply WL.sliceLO (s := 3) tOk; exact rfl; exact rfl; exact rfl; exact rfl; exact rfl; exact rfl; exact rfl; exact rfl; omega)
        | (apply WL.clearT (z := ((0:Int))) tOk encI_ok; exact rfl; exact rfl; exact rfl; exact rfl; exact rfl; exact rfl; exact rfl; assumption; (first | exact Ext.refl _ | assumption | exact Ext.trans (by assumption) (by assumption) | (focus (repeat (first | exact Ext.refl _ | assumption | (apply Ext.trans; rotate_left; assumption))); done) | solve_by_elim (maxDepth := 8) [Ext.trans]); (first | exact rfl | (simp; done) | (simp [*]; done) | omega | (simp only [List.length_set]; omega)); omega; exact rfl; (first | exact Ext.refl _ | assumption | exact Ext.trans (by assumption) (by assumption) | (focus (repeat (first | exact Ext.refl _ | assumption | (apply Ext.trans; rotate_left; assumption))); done) | solve_by_elim (maxDepth := 8) [Ext.trans]); intro w' hO hX' hU; (first | replace hS := Sep.updRow (i := 0) rfl hU hO (.inl rfl) hS (by (first | exact Ext.refl _ | assumption | exact Ext.trans (by assumption) (by assumption) | (focus (repeat (first | exact Ext.refl _ | assumption | (apply Ext.trans; rotate_left; assumption))); done) | solve_by_elim (maxDepth := 8) [Ext.trans])) (by (first | exact Nat.le_refl _ | exact Below.size (by (first | exact Ext.refl _ | assumption | exact Ext.trans (by assumption) (by assumption) | (focus (repeat (first | exact Ext.refl _ | assumption | (apply Ext.trans; rotate_left; assumption))); done) | solve_by_elim (maxDepth := 8) [Ext.trans])))) | replace hS := Sep.updRow (i := 1) rfl hU hO (.inl rfl) hS (by (first | exact Ext.refl _ | assumption | exact Ext.trans (by assumption) (by assumption) | (focus (repeat (first | exact Ext.refl _ | assumption | (apply Ext.trans; rotate_left; assumption))); done) | solve_by_elim (maxDepth := 8) [Ext.trans])) (by (first | exact Nat.le_refl _ | exact Below.size (by (first | exact Ext.refl _ | assumption | exact Ext.trans (by assumption) (by assumption) | (focus (repeat (first | exact Ext.refl _ | assumption | (apply Ext.trans; rotate_left; assumption))); done) | solve_by_elim (maxDepth := 8) [Ext.trans])))) | replace hS := Sep.updRow (i := 2) rfl hU hO (.inl rfl) hS (by (first | exact Ext.refl _ | assumption | exact Ext.trans (by assumption) (by assumption) | (focus (repeat (first | exact Ext.refl _ | assumption | (apply Ext.trans; rotate_left; assumption))); done) | solve_by_elim (maxDepth := 8) [Ext.trans])) (by (first | exact Nat.le_refl _ | exact Below.size (by (first | exact Ext.refl _ | assumption | exact Ext.trans (by assumption) (by assumption) | (focus (repeat (first | exact Ext.refl _ | assumption | (apply Ext.trans; rotate_left; assumption))); done) | solve_by_elim (maxDepth := 8) [Ext.trans])))) | replace hS := Sep.updRow (i := 3) rfl hU hO (.inl rfl) hS (by (first | exact Ext.refl _ | assumption | exact Ext.trans (by assumption) (by assumption) | (focus (repeat (first | exact Ext.refl _ | assumption | (apply Ext.trans; rotate_left; assumption))); done) | solve_by_elim (maxDepth := 8) [Ext.trans])) (by (first | exact Nat.le_refl _ | exact Below.size (by (first | exact Ext.refl _ | assumption | exact Ext.trans (by assumption) (by assumption) | (focus (repeat (first | exact Ext.refl _ | assumption | (apply Ext.trans; rotate_left; assumption))); done) | solve_by_elim (maxDepth := 8) [Ext.trans])))) | replace hS := Sep.updRow (i := 4) rfl hU hO (.inl rfl) hS (by (first | exact Ext.refl _ | assumption | exact Ext.trans (by assumption) (by assumption) | (focus (repeat (first | exact Ext.refl _ | assumption | (apply Ext.trans; rotate_left; assumption))); done) | solve_by_elim (maxDepth := 8) [Ext.trans])) (by (first | exact Nat.le_refl _ | exact Below.size (by (first | exact Ext.refl _ | assumption | exact Ext.trans (by assumption) (by assumption) | (focus (repeat (first | exact Ext.refl _ | assumption | (apply Ext.trans; rotate_left; assumption))); done) | solve_by_elim (maxDepth := 8) [Ext.trans])))) | replace hS := Sep.updRow (i := 5) rfl hU hO (.inl rfl) hS (by (first | exact Ext.refl _ | assumption | exact Ext.trans (by assumption) (by assumption) | (focus (repeat (first | exact Ext.refl _ | assumption | (apply Ext.trans; rotate_left; assumption))); done) | solve_by_elim (maxDepth := 8) [Ext.trans])) (by (first | exact Nat.le_refl _ | exact Below.size (by (first | exact Ext.refl _ | assumption | exact Ext.trans (by assumption) (by assumption) | (focus (repeat (first | exact Ext.refl _ | assumption | (apply Ext.trans; rotate_left; assumption))); done) | solve_by_elim (maxDepth := 8) [Ext.trans]))))); (try simp only [List.set_cons_zero, List.set_cons_succ] at hS); (try have hR0 := hS.row (i := 0) rfl); (try have hR1 := hS.row (i := 1) rfl); (try have hR2 := hS.row (i := 2) rfl); (try have hR3 := hS.row (i := 3) rfl); (try have hR4 := hS.row (i := 4) rfl); (try have hC0 := hS.cell (i := 0) rfl); (try have hD0 := (cells_heap hC0).1); (try have hE0 := (cells_heap hC0).2.1); (try have hF0 := (cells_heap hC0).2.2.1); (try have hG0 := (cells_heap hC0).2.2.2.1); (try have hC1 := hS.cell (i := 1) rfl); (try have hD1 := (cells_heap hC1).1); (try have hE1 := (cells_heap hC1).2.1); (try have hF1 := (cells_heap hC1).2.2.1); (try have hG1 := (cells_heap hC1).2.2.2.1); (try have hC2 := hS.cell (i := 2) rfl); (try have hD2 := (cells_heap hC2).1); (try have hE2 := (cells_heap hC2).2.1); (try have hF2 := (cells_heap hC2).2.2.1); (try have hG2 := (cells_heap hC2).2.2.2.1); (try have hC3 := hS.cell (i := 3) rfl); (try have hD3 := (cells_heap hC3).1); (try have hE3 := (cells_heap hC3).2.1); (try have hF3 := (cells_heap hC3).2.2.1); (try have hG3 := (cells_heap hC3).2.2.2.1); (try have hC4 := hS.cell (i := 4) rfl); (try have hD4 := (cells_heap hC4).1); (try have hE4 := (cells_heap hC4).2.1); (try have hF4 := (cells_heap hC4).2.2.1); (try have hG4 := (cells_heap hC4).2.2.2.1); (try have hM0 := hS.map (i := 0) rfl); (try have hM1 := hS.map (i := 1) rfl); (try have hM2 := hS.map (i := 2) rfl); (try have hM3 := hS.map (i := 3) rfl); (try have hM4 := hS.map (i := 4) rfl))
        | (apply W.regionGB (.fl true 0 (.fl true 1 (.fl true 2 (.fl true 3 (.fl true 4 (.fl true 6 (.fl true 8 (.fl true 9 (.fl true 10 (.fl true 12 (.fl false 5 (.fl true 7 (.fl false 11 (.fl true 13 (.fl true 14 (.fl true 15 (.br 16 (.fl true 17 (.fl true 18 (.br 19 .done .stop))) .stop))))))))))))))))) [11, 13] (none) tMix; kernel_rfl)
        | (apply FL.sliceH0 tOk; exact rfl; exact rfl; exact rfl; exact rfl; exact rfl; exact rfl; exact rfl; omega)
        | (apply FL.sliceL0 tOk; exact rfl; exact rfl; exact rfl; exact rfl; exact rfl; exact rfl; exact rfl; exact rfl; omega)
        | (apply WL.storeF (w0 := w0) tOk; exact rfl; exact rfl; exact rfl; exact rfl; assumption; (first | exact Ext.refl _ | assumption | exact Ext.trans (by assumption) (by assumption) | (focus (repeat (first | exact Ext.refl _ | assumption | (apply Ext.trans; rotate_left; assumption))); done) | solve_by_elim (maxDepth := 8) [Ext.trans]); exact rfl; exact rfl; exact rfl; exact rfl; (first | exact Ext.refl _ | assumption | exact Ext.trans (by assumption) (by assumption) | (focus (repeat (first | exact Ext.refl _ | assumption | (apply Ext.trans; rotate_left; assumption))); done) | solve_by_elim (maxDepth := 8) [Ext.trans]); (first | assumption | omega); intro w' hb hX' hU; replace hS := Sep.updCell (i := 0) rfl hU hb hS (by (first | exact Ext.refl _ | assumption | exact Ext.trans (by assumption) (by assumption) | (focus (repeat (first | exact Ext.refl _ | assumption | (apply Ext.trans; rotate_left; assumption))); done) | solve_by_elim (maxDepth := 8) [Ext.trans])) (by (first | exact Nat.le_refl _ | exact Below.size (by (first | exact Ext.refl _ | assumption | exact Ext.trans (by assumption) (by assumption) | (focus (repeat (first | exact Ext.refl _ | assumption | (apply Ext.trans; rotate_left; assumption))); done) | solve_by_elim (maxDepth := 8) [Ext.trans])))); (try simp only [List.set_cons_zero, List.set_cons_succ] at hS); (try have hR0 := hS.row (i := 0) rfl); (try have hR1 := hS.row (i := 1) rfl); (try have hR2 := hS.row (i := 2) rfl); (try have hR3 := hS.row (i := 3) rfl); (try have hR4 := hS.row (i := 4) rfl); (try have hC0 := hS.cell (i := 0) rfl); (try have hD0 := (cells_heap hC0).1); (try have hE0 := (cells_heap hC0).2.1); (try have hF0 := (cells_heap hC0).2.2.1); (try have hG0 := (cells_heap hC0).2.2.2.1); (try have hC1 := hS.cell (i := 1) rfl); (try have hD1 := (cells_heap hC1).1); (try have hE1 := (cells_heap hC1).2.1); (try have hF1 := (cells_heap hC1).2.2.1); (try have hG1 := (cells_heap hC1).2.2.2.1); (try have hC2 := hS.cell (i := 2) rfl); (try have hD2 := (cells_heap hC2).1); (try have hE2 := (cells_heap hC2).2.1); (try have hF2 := (cells_heap hC2).2.2.1); (try have hG2 := (cells_heap hC2).2.2.2.1); (try have hC3 := hS.cell (i := 3) rfl); (try have hD3 := (cells_heap hC3).1); (try have hE3 := (cells_heap hC3).2.1); (try have hF3 := (cells_heap hC3).2.2.1); (try have hG3 := (cells_heap hC3).2.2.2.1); (try have hC4 := hS.cell (i := 4) rfl); (try have hD4 := (cells_heap hC4).1); (try have hE4 := (cells_heap hC4).2.1); (try have hF4 := (cells_heap hC4).2.2.1); (try have hG4 := (cells_heap hC4).2.2.2.1); (try have hM0 := hS.map (i := 0) rfl); (try have hM1 := hS.map (i := 1) rfl); (try have hM2 := hS.map (i := 2) rfl); (try have hM3 := hS.map (i := 3) rfl); (try have hM4 := hS.map (i := 4) rfl))
        | (show WL _ _ _ _ _ _ _; first | apply WL.nil | (apply WL.pev tOk; exact rfl; exact rfl; exact rfl) | (apply WL.load tOk; exact rfl; exact rfl; exact rfl; exact rfl; exact rfl; (first | assumption | (focus (apply Ext.cell; rotate_left; assumption; (first | exact Ext.refl _ | assumption | exact Ext.trans (by assumption) (by assumption) | (focus (repeat (first | exact Ext.refl _ | assumption | (apply Ext.trans; rotate_left; assumption))); done) | solve_by_elim (maxDepth := 8) [Ext.trans]); done)))) | (apply WL.index tOk; exact rfl; exact rfl; exact rfl; exact rfl; exact rfl; exact rfl; exact rfl; exact rfl; assumption; (first | exact Ext.refl _ | assumption | exact Ext.trans (by assumption) (by assumption) | (focus (repeat (first | exact Ext.refl _ | assumption | (apply Ext.trans; rotate_left; assumption))); done) | solve_by_elim (maxDepth := 8) [Ext.trans]); exact rfl; omega; assumption; intro b off h; have hcc := h; first | (obtain ⟨h1, h2, h3, _⟩ := h) | (obtain ⟨h1, h2, _⟩ := h) | (obtain ⟨h1, _⟩ := h)) | (apply WL.add; exact rfl; exact rfl; exact rfl; exact rfl; omega) | (apply WL.sub; exact rfl; exact rfl; exact rfl; exact rfl; omega) | (apply WL.mul; exact rfl; exact rfl; exact rfl; exact rfl; omega) | (apply WL.quo; exact rfl; exact rfl; exact rfl; exact rfl; omega) | (apply WL.rem; exact rfl; exact rfl; exact rfl; exact rfl; omega) | (apply WL.loadA tOk; exact rfl; exact rfl; exact rfl; exact rfl; exact rfl; (first | assumption | (focus (apply Cells.ext; rotate_left; assumption; (first | exact Ext.refl _ | assumption | exact Ext.trans (by assumption) (by assumption) | (focus (repeat (first | exact Ext.refl _ | assumption | (apply Ext.trans; rotate_left; assumption))); done) | solve_by_elim (maxDepth := 8) [Ext.trans]); done))); exact rfl) | (apply WL.guardF; exact rfl; exact rfl) | (apply WL.gD; exact rfl; exact rfl; all_goals intro _) | (apply WL.gN; exact rfl; exact rfl; all_goals intro _) | (apply WL.gB; exact rfl; exact rfl; all_goals intro _))
        | (show SG _ _ _ _ _ _ _ _ _; first | apply SG.done | apply SG.stop | (apply SG.fl0; exact rfl) | (apply SG.fl1; exact rfl; (focus ((intro m; first | (apply Ext.at; (first | exact Ext.refl _ | assumption | exact Ext.trans (by assumption) (by assumption) | (focus (repeat (first | exact Ext.refl _ | assumption | (apply Ext.trans; rotate_left; assumption))); done) | solve_by_elim (maxDepth := 8) [Ext.trans])) | apply But.of_at; first | exact But.upd (by assumption) | exact But.ext (by (first | exact Ext.refl _ | assumption | exact Ext.trans (by assumption) (by assumption) | (focus (repeat (first | exact Ext.refl _ | assumption | (apply Ext.trans; rotate_left; assumption))); done) | solve_by_elim (maxDepth := 8) [Ext.trans])) | (refine But.trans ?_ (But.upd (by assumption)); exact But.ext (by (first | exact Ext.refl _ | assumption | exact Ext.trans (by assumption) (by assumption) | (focus (repeat (first | exact Ext.refl _ | assumption | (apply Ext.trans; rotate_left; assumption))); done) | solve_by_elim (maxDepth := 8) [Ext.trans]))) | exact But.at _ _ _); done))) | (apply SG.br1; exact rfl) | (apply SG.br; exact rfl))
        | (show FL _ _ _ _ _ _ _ _; first | apply FL.nilS | (apply FL.pev tOk; exact rfl; exact rfl; exact rfl) | (apply FL.loadG tOk; exact rfl; exact rfl; exact rfl; exact rfl; exact rfl; (first | assumption | (focus (apply Ext.cell; rotate_left; assumption; (first | exact Ext.refl _ | assumption | exact Ext.trans (by assumption) (by assumption) | (focus (repeat (first | exact Ext.refl _ | assumption | (apply Ext.trans; rotate_left; assumption))); done) | solve_by_elim (maxDepth := 8) [Ext.trans]); done))); (first | (focus (intro h; cases h; done)) | (focus (intro h; have h9 := hBC _ h; (try simp only at h9); omega)) | assumption | (focus (intro h; simp only [blk, Option.map_some, Option.some.injEq] at h; omega)))) | (apply FL.index tOk; exact rfl; exact rfl; exact rfl; exact rfl; exact rfl; exact rfl; exact rfl; exact rfl; assumption; (first | exact Ext.refl _ | assumption | exact Ext.trans (by assumption) (by assumption) | (focus (repeat (first | exact Ext.refl _ | assumption | (apply Ext.trans; rotate_left; assumption))); done) | solve_by_elim (maxDepth := 8) [Ext.trans]); exact rfl; omega; assumption; exact List.cons_ne_nil _ _; intro b off h hbl; have hcc := h; first | (obtain ⟨h1, h2, h3, _⟩ := h) | (obtain ⟨h1, h2, _⟩ := h) | (obtain ⟨h1, _⟩ := h)) | (apply FL.add; exact rfl; exact rfl; exact rfl; exact rfl; omega) | (apply FL.sub; exact rfl; exact rfl; exact rfl; exact rfl; omega) | (apply FL.mul; exact rfl; exact rfl; exact rfl; exact rfl; omega) | (apply FL.quo; exact rfl; exact rfl; exact rfl; exact rfl; omega) | (apply FL.rem; exact rfl; exact rfl; exact rfl; exact rfl; omega) | (apply FL.loadAG tOk; exact rfl; exact rfl; exact rfl; exact rfl; exact rfl; (first | assumption | (focus (apply Cells.ext; rotate_left; assumption; (first | exact Ext.refl _ | assumption | exact Ext.trans (by assumption) (by assumption) | (focus (repeat (first | exact Ext.refl _ | assumption | (apply Ext.trans; rotate_left; assumption))); done) | solve_by_elim (maxDepth := 8) [Ext.trans]); done))); exact rfl; (first | (focus (intro h; cases h; done)) | (focus (intro h; have h9 := hBC _ h; (try simp only at h9); omega)) | assumption | (focus (intro h; simp only [blk, Option.map_some, Option.some.injEq] at h; omega)))) | (apply FL.guardF; exact rfl; exact rfl) | (apply FL.gD; exact rfl; exact rfl; all_goals intro _) | (apply FL.gN; exact rfl; exact rfl; all_goals intro _) | (apply FL.gB; exact rfl; exact rfl; all_goals intro _))
        | (show Z _ _ _ _ _; first | (apply Z.sgL; exact rfl) | (apply Z.sgE; (focus ((intro m; first | (apply Ext.at; (first | exact Ext.refl _ | assumption | exact Ext.trans (by assumption) (by assumption) | (focus (repeat (first | exact Ext.refl _ | assumption | (apply Ext.trans; rotate_left; assumption))); done) | solve_by_elim (maxDepth := 8) [Ext.trans])) | apply But.of_at; first | exact But.upd (by assumption) | exact But.ext (by (first | exact Ext.refl _ | assumption | exact Ext.trans (by assumption) (by assumption) | (focus (repeat (first | exact Ext.refl _ | assumption | (apply Ext.trans; rotate_left; assumption))); done) | solve_by_elim (maxDepth := 8) [Ext.trans])) | (refine But.trans ?_ (But.upd (by assumption)); exact But.ext (by (first | exact Ext.refl _ | assumption | exact Ext.trans (by assumption) (by assumption) | (focus (repeat (first | exact Ext.refl _ | assumption | (apply Ext.trans; rotate_left; assumption))); done) | solve_by_elim (maxDepth := 8) [Ext.trans]))) | exact But.at _ _ _); done))))
        | (show Z _ _ _ _ _; first | apply Z.tail | apply Z.then_normal | apply Z.block_normal | apply Z.then_exit | apply Z.block_exit | apply Z.then_ret | apply Z.block_ret | (apply Z.block_other; exact rfl))
        | (show W _ _ _ _ _ _; first | apply W.seq | apply W.region | apply W.block | apply W.skip | apply W.ret | apply W.exit | (apply W.condT; exact rfl) | (apply W.condF; exact rfl) | (apply W.condD; exact rfl; all_goals intro _) | (apply W.condN; exact rfl; all_goals intro _) | (apply W.condB; exact rfl; all_goals intro _)))
      have h3 := Own.take encI_ok hR3 c
      rw [Int.toNat_natCast, List.take_append_of_le_length (by rw [List.length_take, hLm]; omega), List.take_take, Nat.min_self, ← List.map_take] at h3
      have hK2 : (max lev 0).toNat = K := by omega
      have h4 := Own.take encI_ok hR4 K
      rw [hK2, List.take_append_of_le_length (by rw [List.length_take]; omega), List.take_take, Nat.min_self] at h4
      have hS3 := Sep.re (i := 3) (p' := prow 1 encI 3 w0.heap.size al cl ((Lr.take c).map fun x : T3 => x.1)) hS rfl rfl h3
      have hS4 := Sep.re (i := 4) (p' := prow 1 encI 3 w0.heap.size (some ⟨gb, 0, none⟩) ce (E.take K)) hS3 rfl rfl h4
      exact Z.body0n Try.results93 fun m => ⟨hX'.at m, rfl, (TrAt.mk hS4 hMk rfl rfl (by rw [List.length_take, Int.toNat_natCast]; omega) rfl (by rw [List.length_take]; omega)).ext ((Ext.refl _).at m)⟩
end
/-! ### What stays so -/
theorem EOk.nil : EOk [] [] := ⟨List.Pairwise.nil, by simp, fun k e h => by simp at h⟩
theorem setT_ok {n : Nat} {Lr : List T3} {E : List Int} {l y : Int} (hT : TOk n Lr) (hE : EOk Lr E) : TOk n (setT n Lr l E.length y) ∧ EOk (setT n Lr l E.length y) E := by
  unfold setT
  by_cases h : setE n Lr l = 0
  · rw [if_pos h]
    have hp := setE_pos h
    refine ⟨tok_push hT ⟨hp.1, hp.2.1⟩ (plc_of_free hT ⟨hp.1, hp.2.1⟩ hp.2.2), List.pairwise_append.2 ⟨hE.1, List.pairwise_singleton _ _, fun a ha b hb => ?_⟩, fun x hx => ?_, fun k e he => ?_⟩
    · rw [List.mem_singleton.1 hb]; exact (hE.2.1 a ha).2
    · rcases List.mem_append.1 hx with hx | hx
      · exact hE.2.1 x hx
      · rw [List.mem_singleton.1 hx]; exact ⟨by show (0 : Int) ≤ E.length; omega, Int.le_refl _⟩
    · have hk := lt_of_get he
      rw [hE.2.2 k e he, keepT, keepT, List.filter_append, List.filter_cons_of_neg (by simp; omega), List.filter_nil, List.append_nil]
  · rw [if_neg h]; exact ⟨hT, hE⟩
theorem keep_all {Lr : List T3} {k : Int} (h : ∀ x ∈ Lr, x.2.1 ≤ k) : keepT k Lr = Lr := List.filter_eq_self.2 fun x hx => by simpa using h x hx
theorem push_ok {Lr : List T3} {E : List Int} (hE : EOk Lr E) : EOk Lr (E ++ [(Lr.length : Int)]) := by
  refine ⟨hE.1, fun x hx => ?_, fun k e he => ?_⟩
  · have := hE.2.1 x hx; simp; omega
  · by_cases hk : k < E.length
    · rw [List.getElem?_append_left hk] at he; exact hE.2.2 k e he
    · have := lt_of_get he
      simp only [List.length_append, List.length_cons, List.length_nil] at this
      obtain rfl : k = E.length := by omega
      simp at he
      rw [keep_all (fun x hx => (hE.2.1 x hx).2)]; exact he.symm
theorem back_ok {n : Nat} {Lr : List T3} {E : List Int} {lev : Int} (hT : TOk n Lr) (hE : EOk Lr E) : TOk n (backT Lr E lev) ∧ EOk (backT Lr E lev) (backE E lev) := by
  unfold backT
  by_cases h : (E.length : Int) ≤ max lev 0
  · rw [if_pos h, backE_no h]; exact ⟨hT, hE⟩
  · rw [if_neg h]
    have hl : (backE E lev).length = (max lev 0).toNat := by rw [backE, List.length_take]; omega
    refine ⟨hT.sub List.filter_sublist, hE.1.sublist List.filter_sublist, fun x hx => ?_, fun k e he => ?_⟩
    · have h1 := List.mem_filter.1 hx
      have h2 := hE.2.1 x h1.1
      have h3 : x.2.1 ≤ max lev 0 := by simpa using h1.2
      rw [hl]; omega
    · unfold backE at he
      rw [List.getElem?_take] at he
      split at he
      · rw [hE.2.2 k e he]
        congr 1
        unfold keepT
        rw [List.filter_filter]
        congr 1
        apply List.filter_congr
        intro x hx
        rename_i hk
        have : (decide (x.2.1 ≤ (k : Int)) && decide (x.2.1 ≤ max lev 0)) = decide (x.2.1 ≤ (k : Int)) := by
          by_cases h5 : x.2.1 ≤ (k : Int)
          · have : x.2.1 ≤ max lev 0 := by omega
            simp [h5, this]
          · simp [h5]
        exact this.symm
      · cases he
end Go.Proofs.Ytnbmhibhnfmdeaa
