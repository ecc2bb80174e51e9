/- CircSame: circuits, whether the same, and their clones. -/
import Derived.Test.YtmaekaflpbenmaaRows
import Derived.Lib.SmallJoins
import Derived.KernelRfl
import Derived.WalkKit
import Derived.ProofKit
import Derived.Deep.Quiet
import Derived.Deep.LoopGhost
import Derived.StillTail
import Derived.Test.YtmaekaflpbenmaaProg
import Derived.OpenShut
import Derived.ShutString
import Derived.ChangeOld
import Derived.Deep.Slices
import Derived.SizedLaws
import Derived.Laws.StructEq
import Derived.Test.YtmaekaflpbenmaaCircSameP5
namespace Go.Proofs.Ytmaekaflpbenmaa
open Go Go.Lt Go.RowKit
set_option linter.unusedVariables false
set_option linter.unusedSimpArgs false
set_option maxRecDepth 20000

theorem Sep.join {B : Nat} {w w' : World} {ps qs : List Piece} (hS : Lt.Sep B w ps) (hx : Ext w w') (hq : Lt.Sep w.heap.size w' qs) (hB : B ≤ w.heap.size) : Lt.Sep B w' (qs ++ ps) := by
  have hS' := hS.ext hx
  refine ⟨fun i p h => ?_, fun i j p q h1 h2 hne => ?_⟩
  · rcases get_app h with h | ⟨_, h⟩
    · exact ⟨(hq.holds i p h).1, fun k hk => ⟨Nat.le_trans hB ((hq.holds i p h).2 k hk).1, ((hq.holds i p h).2 k hk).2⟩⟩
    · exact hS'.holds _ p h
  · rcases get_app h1 with h1 | ⟨l1, h1⟩
    · rcases get_app h2 with h2 | ⟨l2, h2⟩
      · exact hq.apart i j p q h1 h2 hne
      · cases hb : p.b with
        | none => exact .inl rfl
        | some k =>
          refine .inr fun he => ?_
          have e1 := ((hq.holds i p h1).2 k hb).1
          have e2 := ((hS.holds _ q h2).2 k he.symm).2
          omega
    · rcases get_app h2 with h2 | ⟨l2, h2⟩
      · cases hb : p.b with
        | none => exact .inl rfl
        | some k =>
          refine .inr fun he => ?_
          have e1 := ((hq.holds j q h2).2 k he.symm).1
          have e2 := ((hS.holds _ p h1).2 k hb).2
          omega
      · exact hS.apart _ _ p q h1 h2 (by omega)
theorem Sep.updRowZ {α : Type} {s : Nat} {enc : α → List Value} {el B i cap cap' : Nat} {a a' : Option Addr} {l l' : List α} {w w' w1 : World} {ps : List Piece} (hi : ps[i]? = some (prowZ s enc el B a cap l)) (hl : l ≠ []) (hl' : l' ≠ []) (hU : Upd B a w w') (hO : Own s enc el B w' a' cap' l') (hF : blk a' = blk a ∨ ∃ k, blk a' = some k ∧ w.heap.size ≤ k) (hS : Lt.Sep B w1 ps) (hx : Ext w1 w) (hB : B ≤ w.heap.size) :
    Lt.Sep B w' (ps.set i (prowZ s enc el B a' cap' l')) := by
  refine (hS.ext hx).upd hi (by rw [prowZ_b hl]; exact hU.grown) (fun _ => hO) ?_ hB
  rw [prowZ_b hl, prowZ_b hl']
  exact hF.imp id fun ⟨k, hk, hle⟩ => ⟨k, hk, hle, (hO.blk_lt k hk).2⟩
theorem set_ne {α : Type} {l : List α} {i : Nat} {x : α} (h : l ≠ []) : l.set i x ≠ [] := fun he => h (by have := congrArg List.length he; rw [List.length_set] at this; exact List.eq_nil_of_length_eq_zero this)
theorem rowZ_row2 {α : Type} {s : Nat} {enc : α → List Value} {el B C cap i : Nat} {a : Option Addr} {l : List α} {w : World} {ps : List Piece} (hE : Enc s enc) (hS : Lt.Sep B w ps) (h : ps[i]? = some (prowZ s enc el C a cap l)) : Row s enc w a l := by
  by_cases hl : l = []
  · subst hl; exact Row.nil s enc w a
  · exact ((hS.holds i _ h).1 hl).row hE
theorem OwnC.at2 {B C : Nat} {w : World} {d : Circ} (hS : Lt.Sep B w (d.ps C)) (h : CapC d) : CAt w d :=
  ⟨⟨rowZ_row2 encI_ok hS (i := 6) rfl, h.ins.1, h.ins.2⟩, ⟨rowZ_row2 enc3_ok hS (i := 2) rfl, h.lat.1, h.lat.2⟩, ⟨rowZ_row2 encI_ok hS (i := 5) rfl, h.outs.1, h.outs.2⟩, ⟨rowZ_row2 encI_ok hS (i := 4) rfl, h.bads.1, h.bads.2⟩,
    ⟨rowZ_row2 encI_ok hS (i := 3) rfl, h.cons.1, h.cons.2⟩, ⟨rowZ_row2 enc3_ok hS (i := 1) rfl, h.gates.1, h.gates.2⟩, ⟨rowZ_row2 encY_ok hS (i := 0) rfl, h.syms.1, h.syms.2⟩⟩
/-- The pieces of d, its four rows as they are by now. -/
noncomputable def Circ.ps4 (B : Nat) (d : Circ) (li : List Int) (ll lg : List T3) (lb : List Int) : List Piece :=
  [prowZ 3 encY 109 B d.syms.1 d.syms.2.1 d.syms.2.2, prowZ 3 enc3 60 B d.gates.1 d.gates.2.1 lg, prowZ 3 enc3 58 B d.lat.1 d.lat.2.1 ll,
    prowZ 1 encI 3 B d.cons.1 d.cons.2.1 d.cons.2.2, prowZ 1 encI 3 B d.bads.1 d.bads.2.1 lb, prowZ 1 encI 3 B d.outs.1 d.outs.2.1 d.outs.2.2, prowZ 1 encI 3 B d.ins.1 d.ins.2.1 li]
/-- All pieces: the clone's, and d's. -/
noncomputable abbrev allP (g6 : Nat) (e : Circ) (B6 g5 : Nat) (d : Circ) (B : Nat) (li : List Int) (ll lg : List T3) (lb : List Int) : List Piece :=
  pcell g6 e.vals.toArray 45 :: (e.ps B6 ++ pcell g5 d.vals.toArray 45 :: d.ps4 B li ll lg lb)

set_option maxHeartbeats 32000000 in
theorem law_CircSame (a c : Circ) (w : World) (hCa : CAt w a) (hCb : CAt w c) : Pure Try.prog 7 [a.val, c.val] w (.bool true) := by
  by_cases hfa : FewC a.t 60
  rotate_left
  · skip
    refine Spec.of _ Try.func7 rfl Try.ntmps7 (by kernel_rfl) rfl ?_
    repeat' (first
      | (apply WL.box; exact rfl; exact rfl; exact rfl; intro gb w' hb hge hc hx; have hcc := hc; (first | (obtain ⟨h1, h2, h3, _⟩ := hc) | (obtain ⟨h1, h2, _⟩ := hc)))
      | (apply WL.gT; exact rfl; exact rfl; (focus (first | (rw [dec_false hfa]; rfl); done)))
      | (apply WL.gF; exact rfl; exact rfl; (focus (first | (rw [dec_false hfa]; rfl); done)))
      | (apply W.condKT; exact rfl; (focus (first | (rw [dec_false hfa]; rfl); done)))
      | (apply W.condKF; exact rfl; (focus (first | (rw [dec_false hfa]; rfl); done)))
      | ((show WL _ _ _ (⟨_, .call ⟨.value (.func 27), _, _⟩, _, _, _, _⟩ :: _) _ _ _); apply WL.callP; exact rfl; exact rfl; exact rfl; exact rfl; exact law11_Few a 60 _; intro w' hx)
      | ((show WL _ _ _ (⟨_, .call ⟨.value (.func 28), _, _⟩, _, _, _, _⟩ :: _) _ _ _); apply WL.callP; exact rfl; exact rfl; exact rfl; exact rfl; exact law11_lives _; intro w' hx)
      | (show WL _ _ _ _ _ _ _; first | apply WL.nil | (refine WL.au (k := ?_)) | (apply WL.index tOk; exact rfl; exact rfl; exact rfl; exact rfl; exact rfl; exact rfl; exact rfl; exact rfl; assumption; (exact extA); exact rfl; omega; assumption; intro b off h; have hcc := h; first | (obtain ⟨h1, h2, h3, h4, h5, h6, _⟩ := h) | (obtain ⟨h1, h2, h3, _⟩ := h) | (obtain ⟨h1, h2, _⟩ := h) | (obtain ⟨h1, _⟩ := h)) | (apply WL.guardF; exact rfl; exact rfl) | (apply WL.gD; exact rfl; exact rfl; all_goals intro _) | (apply WL.gN; exact rfl; exact rfl; all_goals intro _) | (apply WL.gB; exact rfl; exact rfl; all_goals intro _))
      | (show Z _ _ _ _ _; first | apply Z.tail | apply Z.then_normal | apply Z.block_normal | apply Z.then_exit | apply Z.block_exit | apply Z.then_ret | apply Z.block_ret | (apply Z.block_other; exact rfl))
      | (show W _ _ _ _ _ _; first | apply W.seq | apply W.region | apply W.block | apply W.skip | apply W.ret | apply W.exit | (apply W.condT; exact rfl) | (apply W.condF; exact rfl) | (apply W.condD; exact rfl; all_goals intro _) | (apply W.condN; exact rfl; all_goals intro _) | (apply W.condB; exact rfl; all_goals intro _)))
    exact Z.body1 Try.results7 rfl fun m => ⟨rfl, Ext.at (by (exact extA)) m⟩
  by_cases hfb : FewC c.t 60
  rotate_left
  · skip
    refine Spec.of _ Try.func7 rfl Try.ntmps7 (by kernel_rfl) rfl ?_
    repeat' (first
      | (apply WL.box; exact rfl; exact rfl; exact rfl; intro gb w' hb hge hc hx; have hcc := hc; (first | (obtain ⟨h1, h2, h3, _⟩ := hc) | (obtain ⟨h1, h2, _⟩ := hc)))
      | (apply WL.gT; exact rfl; exact rfl; (focus (first | (rw [dec_false hfb]; rfl) | (rw [dec_true hfa]; rfl); done)))
      | (apply WL.gF; exact rfl; exact rfl; (focus (first | (rw [dec_false hfb]; rfl) | (rw [dec_true hfa]; rfl); done)))
      | (apply W.condKT; exact rfl; (focus (first | (rw [dec_false hfb]; rfl) | (rw [dec_true hfa]; rfl); done)))
      | (apply W.condKF; exact rfl; (focus (first | (rw [dec_false hfb]; rfl) | (rw [dec_true hfa]; rfl); done)))
      | ((show WL _ _ _ (⟨_, .call ⟨.value (.func 27), _, _⟩, _, _, _, _⟩ :: _) _ _ _); apply WL.callP; exact rfl; exact rfl; exact rfl; exact rfl; exact law11_Few a 60 _; intro w' hx)
      | ((show WL _ _ _ (⟨_, .call ⟨.value (.func 27), _, _⟩, _, _, _, _⟩ :: _) _ _ _); apply WL.callP; exact rfl; exact rfl; exact rfl; exact rfl; exact law11_Few c 60 _; intro w' hx)
      | ((show WL _ _ _ (⟨_, .call ⟨.value (.func 28), _, _⟩, _, _, _, _⟩ :: _) _ _ _); apply WL.callP; exact rfl; exact rfl; exact rfl; exact rfl; exact law11_lives _; intro w' hx)
      | (show WL _ _ _ _ _ _ _; first | apply WL.nil | (refine WL.au (k := ?_)) | (apply WL.index tOk; exact rfl; exact rfl; exact rfl; exact rfl; exact rfl; exact rfl; exact rfl; exact rfl; assumption; (exact extA); exact rfl; omega; assumption; intro b off h; have hcc := h; first | (obtain ⟨h1, h2, h3, h4, h5, h6, _⟩ := h) | (obtain ⟨h1, h2, h3, _⟩ := h) | (obtain ⟨h1, h2, _⟩ := h) | (obtain ⟨h1, _⟩ := h)) | (apply WL.guardF; exact rfl; exact rfl) | (apply WL.gD; exact rfl; exact rfl; all_goals intro _) | (apply WL.gN; exact rfl; exact rfl; all_goals intro _) | (apply WL.gB; exact rfl; exact rfl; all_goals intro _))
      | (show Z _ _ _ _ _; first | apply Z.tail | apply Z.then_normal | apply Z.block_normal | apply Z.then_exit | apply Z.block_exit | apply Z.then_ret | apply Z.block_ret | (apply Z.block_other; exact rfl))
      | (show W _ _ _ _ _ _; first | apply W.seq | apply W.region | apply W.block | apply W.skip | apply W.ret | apply W.exit | (apply W.condT; exact rfl) | (apply W.condF; exact rfl) | (apply W.condD; exact rfl; all_goals intro _) | (apply W.condN; exact rfl; all_goals intro _) | (apply W.condB; exact rfl; all_goals intro _)))
    exact Z.body1 Try.results7 rfl fun m => ⟨rfl, Ext.at (by (exact extA)) m⟩
  obtain ⟨hza, hza7⟩ := few_sz2 hfa (by decide)
  obtain ⟨hzb, hzb7⟩ := few_sz2 hfb (by decide)
  refine Spec.of _ Try.func7 rfl Try.ntmps7 (by kernel_rfl) rfl ?_
  repeat' (first
    | (apply WL.box; exact rfl; exact rfl; exact rfl; intro gb w' hb hge hc hx; have hcc := hc; (first | (obtain ⟨h1, h2, h3, _⟩ := hc) | (obtain ⟨h1, h2, _⟩ := hc)); (first | (have h_0 := gA; clear h_0; have hB := hcc; (obtain ⟨gB, rfl⟩ : ∃ x, x = gb := ⟨_, rfl⟩; obtain ⟨wB, rfl⟩ : ∃ x, x = w' := ⟨_, rfl⟩; obtain ⟨hxB, rfl⟩ : ∃ x, x = hx := ⟨_, rfl⟩)) | (have hA := hcc; (obtain ⟨gA, rfl⟩ : ∃ x, x = gb := ⟨_, rfl⟩; obtain ⟨wA, rfl⟩ : ∃ x, x = w' := ⟨_, rfl⟩; obtain ⟨hxA, rfl⟩ : ∃ x, x = hx := ⟨_, rfl⟩))))
    | (apply WL.gT; exact rfl; exact rfl; (focus (first | (rw [dec_true hfb]; rfl) | (rw [dec_true hfa]; rfl); done)))
    | (apply WL.gF; exact rfl; exact rfl; (focus (first | (rw [dec_true hfb]; rfl) | (rw [dec_true hfa]; rfl); done)))
    | (apply W.condKT; exact rfl; (focus (first | (rw [dec_true hfb]; rfl) | (rw [dec_true hfa]; rfl); done)))
    | (apply W.condKF; exact rfl; (focus (first | (rw [dec_true hfb]; rfl) | (rw [dec_true hfa]; rfl); done)))
    | ((show WL _ _ _ (⟨_, .call ⟨.value (.func 27), _, _⟩, _, _, _, _⟩ :: _) _ _ _); apply WL.callP; exact rfl; exact rfl; exact rfl; exact rfl; exact law11_Few a 60 _; intro w' hx; (obtain ⟨wD, rfl⟩ : ∃ x, x = w' := ⟨_, rfl⟩; obtain ⟨hxD, rfl⟩ : ∃ x, x = hx := ⟨_, rfl⟩))
    | ((show WL _ _ _ (⟨_, .call ⟨.value (.func 27), _, _⟩, _, _, _, _⟩ :: _) _ _ _); apply WL.callP; exact rfl; exact rfl; exact rfl; exact rfl; exact law11_Few c 60 _; intro w' hx; (obtain ⟨wE, rfl⟩ : ∃ x, x = w' := ⟨_, rfl⟩; obtain ⟨hxE, rfl⟩ : ∃ x, x = hx := ⟨_, rfl⟩))
    | (show WL _ _ _ _ _ _ _; first | apply WL.nil | (refine WL.au (k := ?_)) | (apply WL.index tOk; exact rfl; exact rfl; exact rfl; exact rfl; exact rfl; exact rfl; exact rfl; exact rfl; assumption; (exact extA); exact rfl; omega; assumption; intro b off h; have hcc := h; first | (obtain ⟨h1, h2, h3, h4, h5, h6, _⟩ := h) | (obtain ⟨h1, h2, h3, _⟩ := h) | (obtain ⟨h1, h2, _⟩ := h) | (obtain ⟨h1, _⟩ := h)) | (apply WL.guardF; exact rfl; exact rfl) | (apply WL.gD; exact rfl; exact rfl; all_goals intro _) | (apply WL.gN; exact rfl; exact rfl; all_goals intro _) | (apply WL.gB; exact rfl; exact rfl; all_goals intro _))
    | (show Z _ _ _ _ _; first | apply Z.tail | apply Z.then_normal | apply Z.block_normal | apply Z.then_exit | apply Z.block_exit | apply Z.then_ret | apply Z.block_ret | (apply Z.block_other; exact rfl))
    | (show W _ _ _ _ _ _; first | apply W.seq | apply W.region | apply W.block | apply W.skip | apply W.ret | apply W.exit | (apply W.condT; exact rfl) | (apply W.condF; exact rfl) | (apply W.condD; exact rfl; all_goals intro _) | (apply W.condN; exact rfl; all_goals intro _) | (apply W.condB; exact rfl; all_goals intro _)))
  have hXw : Ext w wE := (by (exact extA))
  have xA : Cells wE gA 0 a.vals := hA.ext (by (exact extA))
  have xB : Cells wE gB 0 c.vals := hB.ext (by (exact extA))
  have hCa' : CAt wE a := hCa.ext hXw
  have hCb' : CAt wE c := hCb.ext hXw
  have hr := fun (w9 : World) (h9 : Ext wE w9) => ref11_Same a c w9 (hCa'.ext h9) (hCb'.ext h9)
  obtain ⟨bb, hbb⟩ : ∃ bb, dec (a.t = c.t) = bb := ⟨_, rfl⟩
  rw [hbb] at hr
  repeat' (first
    | (show W _ _ (.region 3 _ _) _ _ _; apply W.regionGX (.fl false 0 (.fl false 2 (.fl false 5 (.fl false 6 (.br 1 (.br 3 (.br 4 (.br 7 (.fl true 8 .done) .stop) .stop) .stop) .stop))))) [1, 2, 3, 4, 5, 6, 7, 8] tMix; kernel_rfl)
    | (((show WL _ _ _ (⟨_, .call ⟨.value (.func 30), _, _⟩, _, _, _, _⟩ :: _) _ _ _); apply WL.call; exact rfl; exact rfl; exact rfl; exact rfl; exact law11_Own a _ (hCa'.ext (by (exact extA))) hza hza7; rintro v' w4 ⟨hx4, d1, rfl, hdt1, hOd1⟩))
    | (((show WL _ _ _ (⟨_, .call ⟨.value (.func 30), _, _⟩, _, _, _, _⟩ :: _) _ _ _); apply WL.call; exact rfl; exact rfl; exact rfl; exact rfl; exact law11_Own c _ (hCb'.ext (by (exact extA))) hzb hzb7; rintro v' w5 ⟨hx5, d2, rfl, hdt2, hOd2⟩; have hs := fun (w9 : World) (h9 : Ext w5 w9) => circ_Same d1 d2 w9 (hOd1.at.ext (Ext.trans (show Ext w4 w5 from (by (exact extA))) h9)) (hOd2.at.ext h9); rw [hdt1, hdt2, hbb] at hs))
    | (((show WL _ _ _ (⟨_, .call ⟨.value (.func 38), _, _⟩, _, _, _, _⟩ :: _) _ _ _); apply WL.callP; exact rfl; exact rfl; exact rfl; exact rfl; exact hs _ (by (exact extA)); intro w' hx))
    | (((show WL _ _ _ (⟨_, .call ⟨.value (.func 37), _, _⟩, _, _, _, _⟩ :: _) _ _ _); apply WL.callP; exact rfl; exact rfl; exact rfl; exact rfl; exact hr _ (by (exact extA)); intro w' hx))
    | (show SX _ _ _ _ _ _ _ _ _; first | (apply SX.done; intro w' hx) | apply SX.stop | (apply SX.fl0; exact rfl) | (apply SX.fl1; exact rfl; (exact extA)) | (apply SX.br1; exact rfl; intro w' hx) | (apply SX.br; exact rfl; (intro w' hx)))
    | (show FL _ _ _ _ _ _ _ _; first | apply FL.nilX | (apply FL.loadE tOk; exact rfl; exact rfl; exact rfl; exact rfl; exact rfl; assumption) | (apply FL.loadAE tOk; exact rfl; exact rfl; exact rfl; exact rfl; exact rfl; assumption; exact rfl) | (apply FL.indexE tOk; exact rfl; exact rfl; exact rfl; exact rfl; exact rfl; exact rfl; exact rfl; exact rfl; assumption; exact rfl; omega; assumption; intro b off h; have hcc := h; first | (obtain ⟨h1, h2, h3, h4, h5, h6, _⟩ := h) | (obtain ⟨h1, h2, h3, _⟩ := h) | (obtain ⟨h1, h2, _⟩ := h) | (obtain ⟨h1, _⟩ := h)))
    | (show FL _ _ _ _ _ _ _ _; first | apply FL.nilX | (refine FL.au (k := ?_)) | (apply FL.loadG tOk; exact rfl; exact rfl; exact rfl; exact rfl; exact rfl; (first | assumption | (focus (apply Ext.cell; rotate_left; assumption; (exact extA); done))); (first | (focus (intro h; cases h; done)) | (focus (intro h; have h9 := hBC _ h; (try simp only at h9); omega)) | assumption | (focus (intro h; simp only [blk, Option.map_some, Option.some.injEq] at h; omega)))) | (apply FL.index tOk; exact rfl; exact rfl; exact rfl; exact rfl; exact rfl; exact rfl; exact rfl; exact rfl; assumption; (exact extA); exact rfl; omega; assumption; exact List.cons_ne_nil _ _; intro b off h hbl; have hcc := h; first | (obtain ⟨h1, h2, h3, h4, h5, h6, _⟩ := h) | (obtain ⟨h1, h2, h3, _⟩ := h) | (obtain ⟨h1, h2, _⟩ := h) | (obtain ⟨h1, _⟩ := h)) | (apply FL.loadAG tOk; exact rfl; exact rfl; exact rfl; exact rfl; exact rfl; (first | assumption | (focus (apply Cells.ext; rotate_left; assumption; (exact extA); done))); exact rfl; (first | (focus (intro h; cases h; done)) | (focus (intro h; have h9 := hBC _ h; (try simp only at h9); omega)) | assumption | (focus (intro h; simp only [blk, Option.map_some, Option.some.injEq] at h; omega)))) | (apply FL.guardF; exact rfl; exact rfl) | (apply FL.gD; exact rfl; exact rfl; all_goals intro _) | (apply FL.gN; exact rfl; exact rfl; all_goals intro _) | (apply FL.gB; exact rfl; exact rfl; all_goals intro _))
    | (show Z _ _ _ _ _; first | (apply Z.sxL; exact rfl) | (apply Z.sxE; (exact extA)))
    | (show WL _ _ _ _ _ _ _; first | apply WL.nil | (refine WL.au (k := ?_)) | (apply WL.index tOk; exact rfl; exact rfl; exact rfl; exact rfl; exact rfl; exact rfl; exact rfl; exact rfl; assumption; (exact extA); exact rfl; omega; assumption; intro b off h; have hcc := h; first | (obtain ⟨h1, h2, h3, h4, h5, h6, _⟩ := h) | (obtain ⟨h1, h2, h3, _⟩ := h) | (obtain ⟨h1, h2, _⟩ := h) | (obtain ⟨h1, _⟩ := h)) | (apply WL.guardF; exact rfl; exact rfl) | (apply WL.gD; exact rfl; exact rfl; all_goals intro _) | (apply WL.gN; exact rfl; exact rfl; all_goals intro _) | (apply WL.gB; exact rfl; exact rfl; all_goals intro _))
    | (show SG _ _ _ _ _ _ _ _ _; first | apply SG.done | apply SG.stop | (apply SG.fl0; exact rfl) | (apply SG.fl1; exact rfl; (focus ((intro m; first | assumption | (apply Ext.at; (exact extA)) | apply But.of_at; first | exact But.upd (by assumption) | exact But.ext (by (exact extA)) | (refine But.trans ?_ (But.upd (by assumption)); exact But.ext (by (exact extA))) | exact But.at _ _ _); done))) | (apply SG.br1; exact rfl) | (apply SG.br; exact rfl))
    | (show FL _ _ _ _ _ _ _ _; first | apply FL.nilS | (refine FL.au (k := ?_)) | (apply FL.loadG tOk; exact rfl; exact rfl; exact rfl; exact rfl; exact rfl; (first | assumption | (focus (apply Ext.cell; rotate_left; assumption; (exact extA); done))); (first | (focus (intro h; cases h; done)) | (focus (intro h; have h9 := hBC _ h; (try simp only at h9); omega)) | assumption | (focus (intro h; simp only [blk, Option.map_some, Option.some.injEq] at h; omega)))) | (apply FL.index tOk; exact rfl; exact rfl; exact rfl; exact rfl; exact rfl; exact rfl; exact rfl; exact rfl; assumption; (exact extA); exact rfl; omega; assumption; exact List.cons_ne_nil _ _; intro b off h hbl; have hcc := h; first | (obtain ⟨h1, h2, h3, h4, h5, h6, _⟩ := h) | (obtain ⟨h1, h2, h3, _⟩ := h) | (obtain ⟨h1, h2, _⟩ := h) | (obtain ⟨h1, _⟩ := h)) | (apply FL.loadAG tOk; exact rfl; exact rfl; exact rfl; exact rfl; exact rfl; (first | assumption | (focus (apply Cells.ext; rotate_left; assumption; (exact extA); done))); exact rfl; (first | (focus (intro h; cases h; done)) | (focus (intro h; have h9 := hBC _ h; (try simp only at h9); omega)) | assumption | (focus (intro h; simp only [blk, Option.map_some, Option.some.injEq] at h; omega)))) | (apply FL.guardF; exact rfl; exact rfl) | (apply FL.gD; exact rfl; exact rfl; all_goals intro _) | (apply FL.gN; exact rfl; exact rfl; all_goals intro _) | (apply FL.gB; exact rfl; exact rfl; all_goals intro _))
    | (show Z _ _ _ _ _; first | (apply Z.sgL; exact rfl) | (apply Z.sgE; (focus ((intro m; first | assumption | (apply Ext.at; (exact extA)) | apply But.of_at; first | exact But.upd (by assumption) | exact But.ext (by (exact extA)) | (refine But.trans ?_ (But.upd (by assumption)); exact But.ext (by (exact extA))) | exact But.at _ _ _); done))))
    | (show Z _ _ _ _ _; first | apply Z.tail | apply Z.then_normal | apply Z.block_normal | apply Z.then_exit | apply Z.block_exit | apply Z.then_ret | apply Z.block_ret | (apply Z.block_other; exact rfl))
    | (show W _ _ _ _ _ _; first | apply W.seq | apply W.region | apply W.block | apply W.skip | apply W.ret | apply W.exit | (apply W.condT; exact rfl) | (apply W.condF; exact rfl) | (apply W.condD; exact rfl; all_goals intro _) | (apply W.condN; exact rfl; all_goals intro _) | (apply W.condB; exact rfl; all_goals intro _)))
  · exact absurd rfl (by assumption)
  obtain ⟨wF, rfl⟩ : ∃ x, x = w' := ⟨_, rfl⟩
  have hXF : Ext wE wF := (by (exact extA))
  have hX4 : Ext wE w4 := (by (exact extA))
  have hS : Lt.Sep wF.heap.size w4 (d1.ps4 wF.heap.size d1.ins.2.2 d1.lat.2.2 d1.gates.2.2 d1.bads.2.2) := hOd1.sep
  have hC1 := hOd1.at
  have hz1 : SzC d1.t 100000 := by rw [hdt1]; exact hza
  have hz17 : d1.t.syms.length ≤ 100000 := by rw [hdt1]; exact hza7
  have hwF : wF.heap.size ≤ w4.heap.size := Below.size (by (exact extA))
  repeat' (first
    | (apply WL.alloc tOk; exact rfl; exact rfl; exact rfl; intro gb w' hb hge hx; (obtain ⟨g5, rfl⟩ : ∃ x, x = gb := ⟨_, rfl⟩; obtain ⟨w5, rfl⟩ : ∃ x, x = w' := ⟨_, rfl⟩; obtain ⟨hb5, rfl⟩ : ∃ x, x = hb := ⟨_, rfl⟩; obtain ⟨hge5, rfl⟩ : ∃ x, x = hge := ⟨_, rfl⟩; obtain ⟨hx5, rfl⟩ : ∃ x, x = hx := ⟨_, rfl⟩))
    | (apply WL.storeB (w0 := w4) tOk; exact rfl; exact rfl; exact rfl; exact rfl; assumption; (exact extA); exact rfl; exact rfl; exact rfl; (exact extA); (first | assumption | omega | (focus (apply Nat.le_trans; rotate_left; assumption; exact Below.size (by (exact extA)); done))); intro w' hb hc hX' hU; have hcc := hc; obtain ⟨h1, h2, _⟩ := hc; (obtain ⟨w6, rfl⟩ : ∃ x, x = w' := ⟨_, rfl⟩; obtain ⟨hb6, rfl⟩ : ∃ x, x = hb := ⟨_, rfl⟩; obtain ⟨hX6, rfl⟩ : ∃ x, x = hX' := ⟨_, rfl⟩; have hcd := cells_heap hb6))
    | (show WL _ _ _ _ _ _ _; first | apply WL.nil | (refine WL.au (k := ?_)) | (apply WL.index tOk; exact rfl; exact rfl; exact rfl; exact rfl; exact rfl; exact rfl; exact rfl; exact rfl; assumption; (exact extA); exact rfl; omega; assumption; intro b off h; have hcc := h; first | (obtain ⟨h1, h2, h3, h4, h5, h6, _⟩ := h) | (obtain ⟨h1, h2, h3, _⟩ := h) | (obtain ⟨h1, h2, _⟩ := h) | (obtain ⟨h1, _⟩ := h)) | (apply WL.guardF; exact rfl; exact rfl) | (apply WL.gD; exact rfl; exact rfl; all_goals intro _) | (apply WL.gN; exact rfl; exact rfl; all_goals intro _) | (apply WL.gB; exact rfl; exact rfl; all_goals intro _))
    | (show Z _ _ _ _ _; first | apply Z.tail | apply Z.then_normal | apply Z.block_normal | apply Z.then_exit | apply Z.block_exit | apply Z.then_ret | apply Z.block_ret | (apply Z.block_other; exact rfl))
    | (show W _ _ _ _ _ _; first | apply W.seq | apply W.region | apply W.block | apply W.skip | apply W.ret | apply W.exit))
  have hS6 : Lt.Sep wF.heap.size w6 (pcell g5 d1.vals.toArray 45 :: d1.ps4 wF.heap.size d1.ins.2.2 d1.lat.2.2 d1.gates.2.2 d1.bads.2.2) := Sep.newCell hS hX6 hb6 hge5 hwF
  have hX6F : Ext wE w6 := (by (exact extA))
  repeat' (first
    | (((show WL _ _ _ (⟨_, .call ⟨.value (.func 39), _, _⟩, _, _, _, _⟩ :: _) _ _ _); apply WL.call; exact rfl; exact rfl; exact rfl; exact rfl; exact circ_Clone d1 _ (hC1.ext (by (exact extA))) hz1 hz17; rintro v' w7 ⟨hx7, e, rfl, het, hOe⟩))
    | (show WL _ _ _ _ _ _ _; first | apply WL.nil | (refine WL.au (k := ?_)) | (apply WL.index tOk; exact rfl; exact rfl; exact rfl; exact rfl; exact rfl; exact rfl; exact rfl; exact rfl; assumption; (exact extA); exact rfl; omega; assumption; intro b off h; have hcc := h; first | (obtain ⟨h1, h2, h3, h4, h5, h6, _⟩ := h) | (obtain ⟨h1, h2, h3, _⟩ := h) | (obtain ⟨h1, h2, _⟩ := h) | (obtain ⟨h1, _⟩ := h)) | (apply WL.guardF; exact rfl; exact rfl) | (apply WL.gD; exact rfl; exact rfl; all_goals intro _) | (apply WL.gN; exact rfl; exact rfl; all_goals intro _) | (apply WL.gB; exact rfl; exact rfl; all_goals intro _))
    | (show Z _ _ _ _ _; first | apply Z.tail | apply Z.then_normal | apply Z.block_normal | apply Z.then_exit | apply Z.block_exit | apply Z.then_ret | apply Z.block_ret | (apply Z.block_other; exact rfl))
    | (show W _ _ _ _ _ _; first | apply W.seq | apply W.region | apply W.block | apply W.skip | apply W.ret | apply W.exit))
  have hJ := Sep.join hS6 hx7 hOe.sep (Below.size (show Ext wF w6 from (by (exact extA))))
  have hXE7 : Ext wE w7 := (by (exact extA))
  repeat' (first
    | (apply WL.alloc tOk; exact rfl; exact rfl; exact rfl; intro gb w' hb hge hx; (obtain ⟨g6, rfl⟩ : ∃ x, x = gb := ⟨_, rfl⟩; obtain ⟨w8, rfl⟩ : ∃ x, x = w' := ⟨_, rfl⟩; obtain ⟨hb8, rfl⟩ : ∃ x, x = hb := ⟨_, rfl⟩; obtain ⟨hge8, rfl⟩ : ∃ x, x = hge := ⟨_, rfl⟩; obtain ⟨hx8, rfl⟩ : ∃ x, x = hx := ⟨_, rfl⟩))
    | (apply WL.storeB (w0 := w7) tOk; exact rfl; exact rfl; exact rfl; exact rfl; assumption; (exact extA); exact rfl; exact rfl; exact rfl; (exact extA); (first | assumption | omega | (focus (apply Nat.le_trans; rotate_left; assumption; exact Below.size (by (exact extA)); done))); intro w' hb hc hX' hU; have hcc := hc; obtain ⟨h1, h2, _⟩ := hc; (obtain ⟨w9, rfl⟩ : ∃ x, x = w' := ⟨_, rfl⟩; obtain ⟨hb9, rfl⟩ : ∃ x, x = hb := ⟨_, rfl⟩; obtain ⟨hX9, rfl⟩ : ∃ x, x = hX' := ⟨_, rfl⟩; have hce := cells_heap hb9))
    | (show WL _ _ _ _ _ _ _; first | apply WL.nil | (refine WL.au (k := ?_)) | (apply WL.index tOk; exact rfl; exact rfl; exact rfl; exact rfl; exact rfl; exact rfl; exact rfl; exact rfl; assumption; (exact extA); exact rfl; omega; assumption; intro b off h; have hcc := h; first | (obtain ⟨h1, h2, h3, h4, h5, h6, _⟩ := h) | (obtain ⟨h1, h2, h3, _⟩ := h) | (obtain ⟨h1, h2, _⟩ := h) | (obtain ⟨h1, _⟩ := h)) | (apply WL.guardF; exact rfl; exact rfl) | (apply WL.gD; exact rfl; exact rfl; all_goals intro _) | (apply WL.gN; exact rfl; exact rfl; all_goals intro _) | (apply WL.gB; exact rfl; exact rfl; all_goals intro _))
    | (show Z _ _ _ _ _; first | apply Z.tail | apply Z.then_normal | apply Z.block_normal | apply Z.then_exit | apply Z.block_exit | apply Z.then_ret | apply Z.block_ret | (apply Z.block_other; exact rfl))
    | (show W _ _ _ _ _ _; first | apply W.seq | apply W.region | apply W.block | apply W.skip | apply W.ret | apply W.exit))
  have hS9 : Lt.Sep wF.heap.size w9 (allP g6 e w6.heap.size g5 d1 wF.heap.size d1.ins.2.2 d1.lat.2.2 d1.gates.2.2 d1.bads.2.2) := Sep.newCell hJ hX9 hb9 hge8 (Below.size (show Ext wF w7 from (by (exact extA))))
  have hX9E : Ext wE w9 := (by (exact extA))
  have hXF9 : Ext wF w9 := (by (exact extA))
  have hea : e.t = a.t := het.trans hdt1
  have xA9 := xA.ext hX9E
  have hse := fun (w0 : World) (h0 : Ext w9 w0) => ref11_Same e a w0 (hOe.at.ext (Ext.trans hX9 h0)) (hCa'.ext (hX9E.trans h0))
  rw [dec_true hea] at hse
  repeat' (first
    | (((show WL _ _ _ (⟨_, .call ⟨.value (.func 37), _, _⟩, _, _, _, _⟩ :: _) _ _ _); apply WL.callP; exact rfl; exact rfl; exact rfl; exact rfl; exact hse _ (Ext.refl _); intro w10 hx10))
    | (show WL _ _ _ _ _ _ _; first | apply WL.nil | (refine WL.au (k := ?_)) | (apply WL.index tOk; exact rfl; exact rfl; exact rfl; exact rfl; exact rfl; exact rfl; exact rfl; exact rfl; assumption; (exact extA); exact rfl; omega; assumption; intro b off h; have hcc := h; first | (obtain ⟨h1, h2, h3, h4, h5, h6, _⟩ := h) | (obtain ⟨h1, h2, h3, _⟩ := h) | (obtain ⟨h1, h2, _⟩ := h) | (obtain ⟨h1, _⟩ := h)) | (apply WL.guardF; exact rfl; exact rfl) | (apply WL.gD; exact rfl; exact rfl; all_goals intro _) | (apply WL.gN; exact rfl; exact rfl; all_goals intro _) | (apply WL.gB; exact rfl; exact rfl; all_goals intro _))
    | (show Z _ _ _ _ _; first | apply Z.tail | apply Z.then_normal | apply Z.block_normal | apply Z.then_exit | apply Z.block_exit | apply Z.then_ret | apply Z.block_ret | (apply Z.block_other; exact rfl))
    | (show W _ _ _ _ _ _; first | apply W.seq | apply W.region | apply W.block | apply W.skip | apply W.ret | apply W.exit | (apply W.condT; exact rfl) | (apply W.condF; exact rfl) | (apply W.condD; exact rfl; all_goals intro _) | (apply W.condN; exact rfl; all_goals intro _) | (apply W.condB; exact rfl; all_goals intro _)))
  have hl1 : d1.ins.2.2.length ≤ 100000 := hz1.1
  have hl2 : d1.lat.2.2.length ≤ 100000 := hz1.2.1
  have hl3 : d1.gates.2.2.length ≤ 100000 := hz1.2.2.2.2.2
  have hl4 : d1.bads.2.2.length ≤ 100000 := hz1.2.2.2.1
  have hX10 : Ext wF w10 := (by (exact extA))
  have hS10 := hS9.ext hx10
  refine W.loopW d1.ins.2.2.length (fun k w' => k ≤ d1.ins.2.2.length ∧ Ext wF w' ∧ ∃ (li : List Int) (ll lg : List T3) (lb : List Int), li.length = d1.ins.2.2.length ∧ ll.length = d1.lat.2.2.length ∧ lg.length = d1.gates.2.2.length ∧ lb.length = d1.bads.2.2.length ∧ Lt.Sep wF.heap.size w' (allP g6 e w6.heap.size g5 d1 wF.heap.size li ll lg lb)) (fun k => [(2, .pointer (some ⟨gA, 0, none⟩)), (5, .pointer (some ⟨g5, 0, none⟩)), (6, .pointer (some ⟨g6, 0, none⟩)), (7, .int .i64 k)]) ⟨Nat.zero_le _, hX10, d1.ins.2.2, d1.lat.2.2, d1.gates.2.2, d1.bads.2.2, rfl, rfl, rfl, rfl, hS10⟩ (fun k w' h => h.1) ⟨rfl, rfl, rfl, rfl, trivial⟩ ?_
  rintro k w11 ⟨hk, hX11, li, ll, lg, lb, q1, q2, q3, q4, hS⟩
  have hcell := cells_heap (hS.cell (i := 8) rfl)
  obtain ⟨y0, y1, y2, y3, y4, y5, y6, y7, _⟩ := hcell
  have hcell := trivial
  by_cases hlt : k < d1.ins.2.2.length
  · obtain ⟨z, hz⟩ := getI li (show ((k : Nat) : Int).toNat < li.length by omega)
    have hne : li ≠ [] := fun h => by rw [h] at hz; simp at hz
    have hOw := hS.rowZ (i := 15) rfl hne
    repeat' (first
      | (apply WL.gT; exact rfl; exact rfl; (focus (exact dec_true (by omega); done)))
      | (apply WL.gF; exact rfl; exact rfl; (focus (exact dec_true (by omega); done)))
      | (apply W.condKT; exact rfl; (focus (exact dec_true (by omega); done)))
      | (apply W.condKF; exact rfl; (focus (exact dec_true (by omega); done)))
      | ((apply WL.indexO tOk; exact rfl; exact rfl; exact rfl; exact rfl; exact rfl; exact rfl; exact rfl; exact rfl; exact hOw; exact (by (exact extA)); exact encI_ok; omega; omega; assumption; intro gb ha hc; have hcc := hc; (first | (obtain ⟨h1, h2, h3, _⟩ := hc) | (obtain ⟨h1, _⟩ := hc)); have hOz := hOw; rw [ha] at hOz))
      | (apply WL.storeO (z' := ((-5 : Int))) tOk; exact rfl; exact rfl; exact rfl; exact rfl; assumption; (exact extA); exact rfl; exact rfl; exact rfl; exact encI_ok; assumption; exact rfl; (exact extA); intro w' hO hX' hU)
      | (show WL _ _ _ _ _ _ _; first | apply WL.nil | (refine WL.au (k := ?_)) | (apply WL.index tOk; exact rfl; exact rfl; exact rfl; exact rfl; exact rfl; exact rfl; exact rfl; exact rfl; assumption; (exact extA); exact rfl; omega; assumption; intro b off h; have hcc := h; first | (obtain ⟨h1, h2, h3, h4, h5, h6, _⟩ := h) | (obtain ⟨h1, h2, h3, _⟩ := h) | (obtain ⟨h1, h2, _⟩ := h) | (obtain ⟨h1, _⟩ := h)) | (apply WL.guardF; exact rfl; exact rfl) | (apply WL.gD; exact rfl; exact rfl; all_goals intro _) | (apply WL.gN; exact rfl; exact rfl; all_goals intro _) | (apply WL.gB; exact rfl; exact rfl; all_goals intro _))
      | (show Z _ _ _ _ _; first | apply Z.tail | apply Z.then_normal | apply Z.block_normal | apply Z.then_exit | apply Z.block_exit | apply Z.then_ret | apply Z.block_ret | (apply Z.block_other; exact rfl))
      | (show W _ _ _ _ _ _; first | apply W.seq | apply W.region | apply W.block | apply W.skip | apply W.ret | apply W.exit | (apply W.condT; exact rfl) | (apply W.condF; exact rfl) | (apply W.condD; exact rfl; all_goals intro _) | (apply W.condN; exact rfl; all_goals intro _) | (apply W.condB; exact rfl; all_goals intro _)))
    rw [← ha] at hU hO
    have hS2 := Sep.updRowZ (i := 15) rfl hne (set_ne hne) hU hO (.inl rfl) hS (Ext.refl _) (Below.size hX11)
    exact Z.againW ⟨by omega, hX', _, ll, lg, lb, (by rw [List.length_set]; exact q1), q2, q3, q4, hS2⟩ ⟨rfl, rfl, rfl, rfl, trivial⟩
  obtain rfl : k = d1.ins.2.2.length := by omega
  repeat' (first
    | (apply WL.gT; exact rfl; exact rfl; (focus (exact dec_false (by omega); done)))
    | (apply WL.gF; exact rfl; exact rfl; (focus (exact dec_false (by omega); done)))
    | (apply W.condKT; exact rfl; (focus (exact dec_false (by omega); done)))
    | (apply W.condKF; exact rfl; (focus (exact dec_false (by omega); done)))
    | (show WL _ _ _ _ _ _ _; first | apply WL.nil | (refine WL.au (k := ?_)) | (apply WL.index tOk; exact rfl; exact rfl; exact rfl; exact rfl; exact rfl; exact rfl; exact rfl; exact rfl; assumption; (exact extA); exact rfl; omega; assumption; intro b off h; have hcc := h; first | (obtain ⟨h1, h2, h3, h4, h5, h6, _⟩ := h) | (obtain ⟨h1, h2, h3, _⟩ := h) | (obtain ⟨h1, h2, _⟩ := h) | (obtain ⟨h1, _⟩ := h)) | (apply WL.guardF; exact rfl; exact rfl) | (apply WL.gD; exact rfl; exact rfl; all_goals intro _) | (apply WL.gN; exact rfl; exact rfl; all_goals intro _) | (apply WL.gB; exact rfl; exact rfl; all_goals intro _))
    | (show Z _ _ _ _ _; first | apply Z.tail | apply Z.then_normal | apply Z.block_normal | apply Z.then_exit | apply Z.block_exit | apply Z.then_ret | apply Z.block_ret | (apply Z.block_other; exact rfl))
    | (show W _ _ _ _ _ _; first | apply W.seq | apply W.region | apply W.block | apply W.skip | apply W.ret | apply W.exit | (apply W.condT; exact rfl) | (apply W.condF; exact rfl) | (apply W.condD; exact rfl; all_goals intro _) | (apply W.condN; exact rfl; all_goals intro _) | (apply W.condB; exact rfl; all_goals intro _)))
  refine W.loopW d1.lat.2.2.length (fun k w' => k ≤ d1.lat.2.2.length ∧ Ext wF w' ∧ ∃ (li : List Int) (ll lg : List T3) (lb : List Int), li.length = d1.ins.2.2.length ∧ ll.length = d1.lat.2.2.length ∧ lg.length = d1.gates.2.2.length ∧ lb.length = d1.bads.2.2.length ∧ Lt.Sep wF.heap.size w' (allP g6 e w6.heap.size g5 d1 wF.heap.size li ll lg lb)) (fun k => [(2, .pointer (some ⟨gA, 0, none⟩)), (5, .pointer (some ⟨g5, 0, none⟩)), (6, .pointer (some ⟨g6, 0, none⟩)), (8, .int .i64 k)]) ⟨Nat.zero_le _, hX11, li, ll, lg, lb, q1, q2, q3, q4, hS⟩ (fun k w' h => h.1) ⟨rfl, rfl, rfl, rfl, trivial⟩ ?_
  clear hS hX11 q1 q2 q3 q4 hk hlt hcell y0 y1 y2 y3 y4 y5 y6 y7
  rintro k w11 ⟨hk, hX11, li, ll, lg, lb, q1, q2, q3, q4, hS⟩
  have hcell := cells_heap (hS.cell (i := 8) rfl)
  obtain ⟨y0, y1, y2, y3, y4, y5, y6, y7, _⟩ := hcell
  have hcell := trivial
  by_cases hlt : k < d1.lat.2.2.length
  · obtain ⟨z, hz⟩ := getI ll (show ((k : Nat) : Int).toNat < ll.length by omega)
    have hne : ll ≠ [] := fun h => by rw [h] at hz; simp at hz
    have hOw := hS.rowZ (i := 11) rfl hne
    repeat' (first
      | (apply WL.gT; exact rfl; exact rfl; (focus (exact dec_true (by omega); done)))
      | (apply WL.gF; exact rfl; exact rfl; (focus (exact dec_true (by omega); done)))
      | (apply W.condKT; exact rfl; (focus (exact dec_true (by omega); done)))
      | (apply W.condKF; exact rfl; (focus (exact dec_true (by omega); done)))
      | ((apply WL.indexO tOk; exact rfl; exact rfl; exact rfl; exact rfl; exact rfl; exact rfl; exact rfl; exact rfl; exact hOw; exact (by (exact extA)); exact enc3_ok; omega; omega; assumption; intro gb ha hc; have hcc := hc; (first | (obtain ⟨h1, h2, h3, _⟩ := hc) | (obtain ⟨h1, _⟩ := hc)); have hOz := hOw; rw [ha] at hOz))
      | ((apply WL.storeOF (w0 := wF) (z' := ((-5, z.2.1, z.2.2) : T3)) (i := ((k : Nat) : Int).toNat) [] [.int .i64 z.2.1, .int .i64 z.2.2] tOk; exact rfl; exact rfl; exact rfl; exact rfl; assumption; exact (by (exact extA)); exact rfl; exact rfl; exact rfl; exact rfl; exact rfl; exact enc3_ok; assumption; exact rfl; exact (by (exact extA)); intro w' hO hX' hU))
      | (show WL _ _ _ _ _ _ _; first | apply WL.nil | (refine WL.au (k := ?_)) | (apply WL.index tOk; exact rfl; exact rfl; exact rfl; exact rfl; exact rfl; exact rfl; exact rfl; exact rfl; assumption; (exact extA); exact rfl; omega; assumption; intro b off h; have hcc := h; first | (obtain ⟨h1, h2, h3, h4, h5, h6, _⟩ := h) | (obtain ⟨h1, h2, h3, _⟩ := h) | (obtain ⟨h1, h2, _⟩ := h) | (obtain ⟨h1, _⟩ := h)) | (apply WL.guardF; exact rfl; exact rfl) | (apply WL.gD; exact rfl; exact rfl; all_goals intro _) | (apply WL.gN; exact rfl; exact rfl; all_goals intro _) | (apply WL.gB; exact rfl; exact rfl; all_goals intro _))
      | (show Z _ _ _ _ _; first | apply Z.tail | apply Z.then_normal | apply Z.block_normal | apply Z.then_exit | apply Z.block_exit | apply Z.then_ret | apply Z.block_ret | (apply Z.block_other; exact rfl))
      | (show W _ _ _ _ _ _; first | apply W.seq | apply W.region | apply W.block | apply W.skip | apply W.ret | apply W.exit | (apply W.condT; exact rfl) | (apply W.condF; exact rfl) | (apply W.condD; exact rfl; all_goals intro _) | (apply W.condN; exact rfl; all_goals intro _) | (apply W.condB; exact rfl; all_goals intro _)))
    rw [← ha] at hU hO
    have hS2 := Sep.updRowZ (i := 11) rfl hne (set_ne hne) hU hO (.inl rfl) hS (Ext.refl _) (Below.size hX11)
    exact Z.againW ⟨by omega, hX', li, _, lg, lb, q1, (by rw [List.length_set]; exact q2), q3, q4, hS2⟩ ⟨rfl, rfl, rfl, rfl, trivial⟩
  obtain rfl : k = d1.lat.2.2.length := by omega
  repeat' (first
    | (apply WL.gT; exact rfl; exact rfl; (focus (exact dec_false (by omega); done)))
    | (apply WL.gF; exact rfl; exact rfl; (focus (exact dec_false (by omega); done)))
    | (apply W.condKT; exact rfl; (focus (exact dec_false (by omega); done)))
    | (apply W.condKF; exact rfl; (focus (exact dec_false (by omega); done)))
    | (show WL _ _ _ _ _ _ _; first | apply WL.nil | (refine WL.au (k := ?_)) | (apply WL.index tOk; exact rfl; exact rfl; exact rfl; exact rfl; exact rfl; exact rfl; exact rfl; exact rfl; assumption; (exact extA); exact rfl; omega; assumption; intro b off h; have hcc := h; first | (obtain ⟨h1, h2, h3, h4, h5, h6, _⟩ := h) | (obtain ⟨h1, h2, h3, _⟩ := h) | (obtain ⟨h1, h2, _⟩ := h) | (obtain ⟨h1, _⟩ := h)) | (apply WL.guardF; exact rfl; exact rfl) | (apply WL.gD; exact rfl; exact rfl; all_goals intro _) | (apply WL.gN; exact rfl; exact rfl; all_goals intro _) | (apply WL.gB; exact rfl; exact rfl; all_goals intro _))
    | (show Z _ _ _ _ _; first | apply Z.tail | apply Z.then_normal | apply Z.block_normal | apply Z.then_exit | apply Z.block_exit | apply Z.then_ret | apply Z.block_ret | (apply Z.block_other; exact rfl))
    | (show W _ _ _ _ _ _; first | apply W.seq | apply W.region | apply W.block | apply W.skip | apply W.ret | apply W.exit | (apply W.condT; exact rfl) | (apply W.condF; exact rfl) | (apply W.condD; exact rfl; all_goals intro _) | (apply W.condN; exact rfl; all_goals intro _) | (apply W.condB; exact rfl; all_goals intro _)))
  refine W.loopW d1.gates.2.2.length (fun k w' => k ≤ d1.gates.2.2.length ∧ Ext wF w' ∧ ∃ (li : List Int) (ll lg : List T3) (lb : List Int), li.length = d1.ins.2.2.length ∧ ll.length = d1.lat.2.2.length ∧ lg.length = d1.gates.2.2.length ∧ lb.length = d1.bads.2.2.length ∧ Lt.Sep wF.heap.size w' (allP g6 e w6.heap.size g5 d1 wF.heap.size li ll lg lb)) (fun k => [(2, .pointer (some ⟨gA, 0, none⟩)), (5, .pointer (some ⟨g5, 0, none⟩)), (6, .pointer (some ⟨g6, 0, none⟩)), (9, .int .i64 k)]) ⟨Nat.zero_le _, hX11, li, ll, lg, lb, q1, q2, q3, q4, hS⟩ (fun k w' h => h.1) ⟨rfl, rfl, rfl, rfl, trivial⟩ ?_
  clear hS hX11 q1 q2 q3 q4 hk hlt hcell y0 y1 y2 y3 y4 y5 y6 y7
  rintro k w11 ⟨hk, hX11, li, ll, lg, lb, q1, q2, q3, q4, hS⟩
  have hcell := cells_heap (hS.cell (i := 8) rfl)
  obtain ⟨y0, y1, y2, y3, y4, y5, y6, y7, _⟩ := hcell
  have hcell := trivial
  by_cases hlt : k < d1.gates.2.2.length
  · obtain ⟨z, hz⟩ := getI lg (show ((k : Nat) : Int).toNat < lg.length by omega)
    have hne : lg ≠ [] := fun h => by rw [h] at hz; simp at hz
    have hOw := hS.rowZ (i := 10) rfl hne
    repeat' (first
      | (apply WL.gT; exact rfl; exact rfl; (focus (exact dec_true (by omega); done)))
      | (apply WL.gF; exact rfl; exact rfl; (focus (exact dec_true (by omega); done)))
      | (apply W.condKT; exact rfl; (focus (exact dec_true (by omega); done)))
      | (apply W.condKF; exact rfl; (focus (exact dec_true (by omega); done)))
      | ((apply WL.indexO tOk; exact rfl; exact rfl; exact rfl; exact rfl; exact rfl; exact rfl; exact rfl; exact rfl; exact hOw; exact (by (exact extA)); exact enc3_ok; omega; omega; assumption; intro gb ha hc; have hcc := hc; (first | (obtain ⟨h1, h2, h3, _⟩ := hc) | (obtain ⟨h1, _⟩ := hc)); have hOz := hOw; rw [ha] at hOz))
      | ((apply WL.storeOF (w0 := wF) (z' := ((-5, z.2.1, z.2.2) : T3)) (i := ((k : Nat) : Int).toNat) [] [.int .i64 z.2.1, .int .i64 z.2.2] tOk; exact rfl; exact rfl; exact rfl; exact rfl; assumption; exact (by (exact extA)); exact rfl; exact rfl; exact rfl; exact rfl; exact rfl; exact enc3_ok; assumption; exact rfl; exact (by (exact extA)); intro w' hO hX' hU))
      | (show WL _ _ _ _ _ _ _; first | apply WL.nil | (refine WL.au (k := ?_)) | (apply WL.index tOk; exact rfl; exact rfl; exact rfl; exact rfl; exact rfl; exact rfl; exact rfl; exact rfl; assumption; (exact extA); exact rfl; omega; assumption; intro b off h; have hcc := h; first | (obtain ⟨h1, h2, h3, h4, h5, h6, _⟩ := h) | (obtain ⟨h1, h2, h3, _⟩ := h) | (obtain ⟨h1, h2, _⟩ := h) | (obtain ⟨h1, _⟩ := h)) | (apply WL.guardF; exact rfl; exact rfl) | (apply WL.gD; exact rfl; exact rfl; all_goals intro _) | (apply WL.gN; exact rfl; exact rfl; all_goals intro _) | (apply WL.gB; exact rfl; exact rfl; all_goals intro _))
      | (show Z _ _ _ _ _; first | apply Z.tail | apply Z.then_normal | apply Z.block_normal | apply Z.then_exit | apply Z.block_exit | apply Z.then_ret | apply Z.block_ret | (apply Z.block_other; exact rfl))
      | (show W _ _ _ _ _ _; first | apply W.seq | apply W.region | apply W.block | apply W.skip | apply W.ret | apply W.exit | (apply W.condT; exact rfl) | (apply W.condF; exact rfl) | (apply W.condD; exact rfl; all_goals intro _) | (apply W.condN; exact rfl; all_goals intro _) | (apply W.condB; exact rfl; all_goals intro _)))
    rw [← ha] at hU hO
    have hS2 := Sep.updRowZ (i := 10) rfl hne (set_ne hne) hU hO (.inl rfl) hS (Ext.refl _) (Below.size hX11)
    exact Z.againW ⟨by omega, hX', li, ll, _, lb, q1, q2, (by rw [List.length_set]; exact q3), q4, hS2⟩ ⟨rfl, rfl, rfl, rfl, trivial⟩
  obtain rfl : k = d1.gates.2.2.length := by omega
  repeat' (first
    | (apply WL.gT; exact rfl; exact rfl; (focus (exact dec_false (by omega); done)))
    | (apply WL.gF; exact rfl; exact rfl; (focus (exact dec_false (by omega); done)))
    | (apply W.condKT; exact rfl; (focus (exact dec_false (by omega); done)))
    | (apply W.condKF; exact rfl; (focus (exact dec_false (by omega); done)))
    | (show WL _ _ _ _ _ _ _; first | apply WL.nil | (refine WL.au (k := ?_)) | (apply WL.index tOk; exact rfl; exact rfl; exact rfl; exact rfl; exact rfl; exact rfl; exact rfl; exact rfl; assumption; (exact extA); exact rfl; omega; assumption; intro b off h; have hcc := h; first | (obtain ⟨h1, h2, h3, h4, h5, h6, _⟩ := h) | (obtain ⟨h1, h2, h3, _⟩ := h) | (obtain ⟨h1, h2, _⟩ := h) | (obtain ⟨h1, _⟩ := h)) | (apply WL.guardF; exact rfl; exact rfl) | (apply WL.gD; exact rfl; exact rfl; all_goals intro _) | (apply WL.gN; exact rfl; exact rfl; all_goals intro _) | (apply WL.gB; exact rfl; exact rfl; all_goals intro _))
    | (show Z _ _ _ _ _; first | apply Z.tail | apply Z.then_normal | apply Z.block_normal | apply Z.then_exit | apply Z.block_exit | apply Z.then_ret | apply Z.block_ret | (apply Z.block_other; exact rfl))
    | (show W _ _ _ _ _ _; first | apply W.seq | apply W.region | apply W.block | apply W.skip | apply W.ret | apply W.exit | (apply W.condT; exact rfl) | (apply W.condF; exact rfl) | (apply W.condD; exact rfl; all_goals intro _) | (apply W.condN; exact rfl; all_goals intro _) | (apply W.condB; exact rfl; all_goals intro _)))
  refine W.loopW d1.bads.2.2.length (fun k w' => k ≤ d1.bads.2.2.length ∧ Ext wF w' ∧ ∃ (li : List Int) (ll lg : List T3) (lb : List Int), li.length = d1.ins.2.2.length ∧ ll.length = d1.lat.2.2.length ∧ lg.length = d1.gates.2.2.length ∧ lb.length = d1.bads.2.2.length ∧ Lt.Sep wF.heap.size w' (allP g6 e w6.heap.size g5 d1 wF.heap.size li ll lg lb)) (fun k => [(2, .pointer (some ⟨gA, 0, none⟩)), (5, .pointer (some ⟨g5, 0, none⟩)), (6, .pointer (some ⟨g6, 0, none⟩)), (10, .int .i64 k)]) ⟨Nat.zero_le _, hX11, li, ll, lg, lb, q1, q2, q3, q4, hS⟩ (fun k w' h => h.1) ⟨rfl, rfl, rfl, rfl, trivial⟩ ?_
  clear hS hX11 q1 q2 q3 q4 hk hlt hcell y0 y1 y2 y3 y4 y5 y6 y7
  rintro k w11 ⟨hk, hX11, li, ll, lg, lb, q1, q2, q3, q4, hS⟩
  have hcell := cells_heap (hS.cell (i := 8) rfl)
  obtain ⟨y0, y1, y2, y3, y4, y5, y6, y7, _⟩ := hcell
  have hcell := trivial
  by_cases hlt : k < d1.bads.2.2.length
  · obtain ⟨z, hz⟩ := getI lb (show ((k : Nat) : Int).toNat < lb.length by omega)
    have hne : lb ≠ [] := fun h => by rw [h] at hz; simp at hz
    have hOw := hS.rowZ (i := 13) rfl hne
    repeat' (first
      | (apply WL.gT; exact rfl; exact rfl; (focus (exact dec_true (by omega); done)))
      | (apply WL.gF; exact rfl; exact rfl; (focus (exact dec_true (by omega); done)))
      | (apply W.condKT; exact rfl; (focus (exact dec_true (by omega); done)))
      | (apply W.condKF; exact rfl; (focus (exact dec_true (by omega); done)))
      | ((apply WL.indexO tOk; exact rfl; exact rfl; exact rfl; exact rfl; exact rfl; exact rfl; exact rfl; exact rfl; exact hOw; exact (by (exact extA)); exact encI_ok; omega; omega; assumption; intro gb ha hc; have hcc := hc; (first | (obtain ⟨h1, h2, h3, _⟩ := hc) | (obtain ⟨h1, _⟩ := hc)); have hOz := hOw; rw [ha] at hOz))
      | (apply WL.storeO (z' := ((-5 : Int))) tOk; exact rfl; exact rfl; exact rfl; exact rfl; assumption; (exact extA); exact rfl; exact rfl; exact rfl; exact encI_ok; assumption; exact rfl; (exact extA); intro w' hO hX' hU)
      | (show WL _ _ _ _ _ _ _; first | apply WL.nil | (refine WL.au (k := ?_)) | (apply WL.index tOk; exact rfl; exact rfl; exact rfl; exact rfl; exact rfl; exact rfl; exact rfl; exact rfl; assumption; (exact extA); exact rfl; omega; assumption; intro b off h; have hcc := h; first | (obtain ⟨h1, h2, h3, h4, h5, h6, _⟩ := h) | (obtain ⟨h1, h2, h3, _⟩ := h) | (obtain ⟨h1, h2, _⟩ := h) | (obtain ⟨h1, _⟩ := h)) | (apply WL.guardF; exact rfl; exact rfl) | (apply WL.gD; exact rfl; exact rfl; all_goals intro _) | (apply WL.gN; exact rfl; exact rfl; all_goals intro _) | (apply WL.gB; exact rfl; exact rfl; all_goals intro _))
      | (show Z _ _ _ _ _; first | apply Z.tail | apply Z.then_normal | apply Z.block_normal | apply Z.then_exit | apply Z.block_exit | apply Z.then_ret | apply Z.block_ret | (apply Z.block_other; exact rfl))
      | (show W _ _ _ _ _ _; first | apply W.seq | apply W.region | apply W.block | apply W.skip | apply W.ret | apply W.exit | (apply W.condT; exact rfl) | (apply W.condF; exact rfl) | (apply W.condD; exact rfl; all_goals intro _) | (apply W.condN; exact rfl; all_goals intro _) | (apply W.condB; exact rfl; all_goals intro _)))
    rw [← ha] at hU hO
    have hS2 := Sep.updRowZ (i := 13) rfl hne (set_ne hne) hU hO (.inl rfl) hS (Ext.refl _) (Below.size hX11)
    exact Z.againW ⟨by omega, hX', li, ll, lg, _, q1, q2, q3, (by rw [List.length_set]; exact q4), hS2⟩ ⟨rfl, rfl, rfl, rfl, trivial⟩
  obtain rfl : k = d1.bads.2.2.length := by omega
  have hce2 := cells_heap (hS.cell (i := 0) rfl)
  have hSe : Lt.Sep wF.heap.size w11 (e.ps w6.heap.size) := (hS.drop 1).takeN 7
  have hCe : CAt w11 e := OwnC.at2 hSe hOe.cap
  have hE11 : Ext wE w11 := hXF.trans hX11
  have xA11 := xA.ext hE11
  have hse2 := fun (w0 : World) (h0 : Ext w11 w0) => ref11_Same e a w0 (hCe.ext h0) (hCa'.ext (hE11.trans h0))
  rw [dec_true hea] at hse2
  repeat' (first
    | (apply WL.gT; exact rfl; exact rfl; (focus (exact dec_false (by omega); done)))
    | (apply WL.gF; exact rfl; exact rfl; (focus (exact dec_false (by omega); done)))
    | (apply W.condKT; exact rfl; (focus (exact dec_false (by omega); done)))
    | (apply W.condKF; exact rfl; (focus (exact dec_false (by omega); done)))
    | (((show WL _ _ _ (⟨_, .call ⟨.value (.func 37), _, _⟩, _, _, _, _⟩ :: _) _ _ _); apply WL.callP; exact rfl; exact rfl; exact rfl; exact rfl; exact hse2 _ (by (exact extA)); intro w12 hx12))
    | ((show WL _ _ _ (⟨_, .call ⟨.value (.func 28), _, _⟩, _, _, _, _⟩ :: _) _ _ _); apply WL.callP; exact rfl; exact rfl; exact rfl; exact rfl; exact law11_lives _; intro w' hx)
    | (show WL _ _ _ _ _ _ _; first | apply WL.nil | (refine WL.au (k := ?_)) | (apply WL.index tOk; exact rfl; exact rfl; exact rfl; exact rfl; exact rfl; exact rfl; exact rfl; exact rfl; assumption; (exact extA); exact rfl; omega; assumption; intro b off h; have hcc := h; first | (obtain ⟨h1, h2, h3, h4, h5, h6, _⟩ := h) | (obtain ⟨h1, h2, h3, _⟩ := h) | (obtain ⟨h1, h2, _⟩ := h) | (obtain ⟨h1, _⟩ := h)) | (apply WL.guardF; exact rfl; exact rfl) | (apply WL.gD; exact rfl; exact rfl; all_goals intro _) | (apply WL.gN; exact rfl; exact rfl; all_goals intro _) | (apply WL.gB; exact rfl; exact rfl; all_goals intro _))
    | (show Z _ _ _ _ _; first | apply Z.tail | apply Z.then_normal | apply Z.block_normal | apply Z.then_exit | apply Z.block_exit | apply Z.then_ret | apply Z.block_ret | (apply Z.block_other; exact rfl))
    | (show W _ _ _ _ _ _; first | apply W.seq | apply W.region | apply W.block | apply W.skip | apply W.ret | apply W.exit | (apply W.condT; exact rfl) | (apply W.condF; exact rfl) | (apply W.condD; exact rfl; all_goals intro _) | (apply W.condN; exact rfl; all_goals intro _) | (apply W.condB; exact rfl; all_goals intro _)))
  have hw11 : Ext w w11 := hXw.trans hE11
  exact Z.body1 Try.results7 rfl fun m => ⟨rfl, Ext.at (by (exact extA)) m⟩
end Go.Proofs.Ytmaekaflpbenmaa
namespace Go.Proofs.Ytmaekaflpbenmaa
open Go Go.Lt Go.ChangeShapes Go.WideShapes Go.ChangeAt Go.RowKit
set_option linter.unusedVariables false
set_option linter.unusedSimpArgs false
set_option maxRecDepth 20000
open Go.ChangeMaps (open_string shut_string)
namespace circSame
theorem own : ownKnob Try.prog.godebug = none := by kernel_rfl
theorem laidOut : laidOutB Try.prog = true := factLaid
set_option maxRecDepth 100000 in
theorem lifted (os : Os) (started : os.Started) (H : Type) (enc : TypeId × Value → H) :
    ReturnsInHanded {} Try.checked os 7 .any (Rows.circSameSpec.pre6 enc Try.prog Try.f7 Rows.circSameRow.domain false) (Rows.circSameSpec.post enc Try.prog Try.f7 false true false false) := by
  refine returnsInHanded_of_change (C := Try.checked) own started (by kernel_rfl) Try.func7
    (ChangeSpec.witness6 (enc := enc) (C := Try.checked) false ⟨#[], #[.agg #[.int .i64 0, .slice none 0 0, .slice none 0 0, .slice none 0 0, .slice none 0 0, .slice none 0 0, .slice none 0 0, .slice none 0 0, .string ⟨#[]⟩], .agg #[.int .i64 0, .slice none 0 0, .slice none 0 0, .slice none 0 0, .slice none 0 0, .slice none 0 0, .slice none 0 0, .slice none 0 0, .string ⟨#[]⟩]], []⟩ 8 (by kernel_rfl) (by kernel_rfl) (by kernel_rfl) (by kernel_rfl)) ?_
  intro W base args ds gs before hval0 hW hcnd _
  have hval : ∀ (j : Nat) t v, Try.f7.params[j]? = some t → args[j]? = some v → Value.okWide Try.prog W .any base t v := hval0
  have hW' := hW
  obtain ⟨p, q, hA0, hV, rfl, hfz, hnd⟩ := hW
  have hA : DataW.TrodAll enc Try.prog W 0 (fun _ => true) true Try.f7.params.toList args.toList ds p := hA0
  rw [Try.params7] at hA hval
  obtain ⟨v0, vs0, d0, ds0, p0, q0, hargs, rfl, rfl, h0, r0⟩ := trodAll_cons hA
  obtain ⟨v1, vs1, d1, ds1, p1, q1, rfl, rfl, rfl, h1, r1⟩ := trodAll_cons r0
  obtain ⟨rfl, rfl, rfl⟩ := trodAll_nil r1
  obtain rfl : args = #[v0, v1] := by cases args; simp_all
  obtain ⟨rfl, rfl⟩ := trodVars_none hV
  have k0 := h0
  have lt0 : ∀ x ∈ p0, x.block < W.heap.size := by obtain ⟨m, hm⟩ := k0; exact DataW.trod_lt m _ _ _ hm
  have k1 := h1
  have lt1 : ∀ x ∈ p1, x.block < W.heap.size := by obtain ⟨m, hm⟩ := k1; exact DataW.trod_lt m _ _ _ hm
  obtain ⟨c0, rfl, hC0⟩ := circ_of (hval 0 45 v0 rfl rfl) h0
  obtain ⟨c1, rfl, hC1⟩ := circ_of (hval 1 45 v1 rfl rfl) h1
  clear hA0 hval0
  refine (Spec.law (law_CircSame c0 c1 W hC0 hC1)).mono fun e W' ⟨he, bel⟩ => ?_
  subst he
  exact ⟨_, rfl, _, _, _, [], _, [], hW', trodAll_mk1 (shut_bool Try.underlying4 _), (trodAll_cons_mk (Below.trod laidOut (by kernel_rfl) (of_decide_eq_true (by kernel_rfl)) k0 bel lt0) (trodAll_cons_mk (Below.trod laidOut (by kernel_rfl) (of_decide_eq_true (by kernel_rfl)) k1 bel lt1) trodAll_mk0)), rfl, bel.frame _, fun h => by cases h⟩
theorem j0 : (Rows.circSameRow.wf (OpenSpec.ofChange Rows.circSameSpec)) = true := by kernel_rfl
theorem j3 : (Try.f7.params.all (Try.prog.readableRec ·)) = true := by kernel_rfl
theorem j4 : (namedTie Try.prog Rows.circSameRow.named Rows.circSameSpec.vars) = true := by kernel_rfl
theorem j5 : ((Rows.circSameRow.stops == [])) = true := by kernel_rfl
theorem j7 : ((Rows.circSameRow.knobs == [])) = true := by kernel_rfl
theorem j9 : ((Rows.circSameRow.inPlace == Try.prog.inPlace 7)) = true := by kernel_rfl
theorem j10 : ((Rows.circSameRow.unfollowed == Try.prog.unfollowed 7)) = true := by kernel_rfl
theorem j11 : ((Rows.circSameRow.recurses == Try.prog.recurses 7)) = true := by kernel_rfl
theorem j12 : ((Rows.circSameRow.named == Try.prog.varsNamed 7)) = true := by kernel_rfl
theorem j13 : ((Rows.circSameRow.maps == (Try.f7.params.toList ++ Rows.circSameSpec.plain.varTypes Try.prog).any (Try.prog.mapsRec ·))) = true := by kernel_rfl
theorem j14 : ((Rows.circSameRow.ifaces == (Try.f7.params.toList ++ Rows.circSameSpec.plain.varTypes Try.prog).any (Try.prog.ifacesRec ·))) = true := by kernel_rfl
theorem j15 : ((Rows.circSameRow.mapsOut == Try.prog.mapsAmong Try.f7.resultTypes.toList)) = true := by kernel_rfl
theorem j16 : ((Rows.circSameRow.loops == (Try.f7.params.toList ++ Rows.circSameSpec.plain.varTypes Try.prog).any (Try.prog.loopsFrom ·))) = true := by kernel_rfl
theorem j17 : ((Rows.circSameRow.wideKeys == (Try.f7.params.toList ++ Rows.circSameSpec.plain.varTypes Try.prog ++ Try.f7.resultTypes.toList).any (Try.prog.wideKeysFrom ·))) = true := by kernel_rfl
theorem j18 : (Rows.circSameSpec.vars.all (Try.prog.varReadable ·)) = true := by kernel_rfl
theorem j19 : (Try.f7.resultTypes.all (fun t => Try.prog.readableRec t && decide (t < Try.prog.types.size))) = true := by kernel_rfl
theorem j20 : ((Rows.circSameRow.ifacesOut == Try.f7.resultTypes.toList.any (Try.prog.ifacesRec ·))) = true := by kernel_rfl
theorem j21 : ((Rows.circSameRow.loopsOut == Try.f7.resultTypes.toList.any (Try.prog.loopsFrom ·))) = true := by kernel_rfl
theorem j22 : ((Rows.circSameRow.plainKeys == Try.prog.plainKeys)) = true := by rw [show Rows.circSameRow.plainKeys = Rows.balanceMeansRow.plainKeys by kernel_rfl]; exact factKeys
theorem j23 : (Rows.circSameRow.shortTexts.isNone) = true := by kernel_rfl
theorem j26 : ((Rows.circSameRow.lifted == Try.prog.liftsFinal)) = true := by rw [show Rows.circSameRow.lifted = Rows.balanceMeansRow.lifted by kernel_rfl]; exact factLifts
theorem j27 : ((Try.prog.make == some Rows.circSameRow.make)) = true := by rw [show Rows.circSameRow.make = Rows.balanceMeansRow.make by kernel_rfl]; exact factMake
theorem j28 : ((Rows.circSameRow.kinds == (if Rows.circSameRow.domain.isEmpty then [] else Try.f7.params.toList.map fun t => match Try.prog.underlying t with | some (.int k) => some k | _ => none))) = true := by kernel_rfl
theorem j29 : ((Rows.circSameRow.pinned == Rows.circSameRow.pinnedBy)) = true := by kernel_rfl
theorem j30 : ((Rows.circSameRow.veiled == (Try.f7.params.toList ++ Rows.circSameSpec.plain.varTypes Try.prog ++ Try.f7.resultTypes.toList).any (Try.prog.veiledRec ·))) = true := by kernel_rfl
theorem j31 : (Rows.circSameRow.veiledFits Try.prog Try.f7.params.toList (Try.f7.params.toList ++ Rows.circSameSpec.plain.varTypes Try.prog ++ Try.f7.resultTypes.toList)) = true := by kernel_rfl
set_option maxRecDepth 100000 in
theorem closed : joinedFacts Try.checked.prog 7 Try.f7 Rows.circSameSpec Rows.circSameRow = true := by unfold joinedFacts; exact (band (band (band (band (band (band (band (band (band (band (band (band (band (band (band (band (band (band (band (band (band (band (band (band (band (band (band (band (band (band (band j0 factLaid) factMaps) j3) j4) j5) factStops) j7) factKnobs) j9) j10) j11) j12) j13) j14) j15) j16) j17) j18) j19) j20) j21) j22) j23) factHeard) factEnter) j26) j27) j28) j29) j30) j31)
theorem named : Try.checked.prog.funcNamed Rows.circSameRow.func = some 7 := by kernel_rfl
theorem over : Rows.circSameRow.holds Try.pinned (OpenSpec.ofChange Rows.circSameSpec) :=
  OpenClaim.holds_of_wide 7 Try.f7 rfl rfl rfl rfl rfl rfl rfl ⟨rfl, rfl, rfl, rfl, rfl⟩ rfl rfl rfl rfl rfl named Try.func7 closed
    (of_decide_eq_true (by kernel_rfl)) (by unfold Func.isWrapper; first | (rw [if_pos (by decide +kernel)]; kernel_rfl) | (rw [if_neg (by decide +kernel)]; exact ⟨rfl, rfl⟩))
    (fun os started H enc _ => lifted os started H enc)
/-- The statement. -/
theorem proved : Rows.CircSameSaid := over
end circSame
end Go.Proofs.Ytmaekaflpbenmaa
