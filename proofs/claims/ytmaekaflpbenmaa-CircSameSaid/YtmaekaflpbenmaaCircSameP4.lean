/- Part 4 of what the claim CircSame needs: lemmas and contracts, printed from longer texts. No conditions. -/
import Derived.Test.YtmaekaflpbenmaaRows
import Derived.Lib.SmallJoins
import Derived.KernelRfl
import Derived.WalkKit
import Derived.ProofKit
import Derived.Deep.Quiet
import Derived.Deep.LoopGhost
import Derived.StillTail
import Derived.Test.YtmaekaflpbenmaaProg
import Derived.OpenShut
import Derived.ShutString
import Derived.ChangeOld
import Derived.Deep.Slices
import Derived.SizedLaws
import Derived.Laws.StructEq
import Derived.Test.YtmaekaflpbenmaaCircSameP3
namespace Go.Proofs.Ytmaekaflpbenmaa
open Go Go.Lt Go.RowKit
set_option linter.unusedVariables false
set_option linter.unusedSimpArgs false
set_option maxRecDepth 20000

set_option maxHeartbeats 32000000 in
theorem circ_Order (c : Circ) (w : World) (hG : Row 3 enc3 w c.gates.1 c.gates.2.2) (hok : gsOk c.gates.2.2) (hn : c.gates.2.2.length ≤ 1048576) (ho : Once c.gates.2.2) :
    Lt.Spec Try.prog 35 [c.val] w (IsFresh 1 encI 3 w (natI (ordL c.gates.2.2))) := by
  refine Spec.of _ Try.func35 rfl Try.ntmps35 (by kernel_rfl) rfl ?_
  repeat' (first
    | (apply WL.box; exact rfl; exact rfl; exact rfl; intro gb w' hb hge hc hx; have hcc := hc; (first | (obtain ⟨h1, h2, h3, _⟩ := hc) | (obtain ⟨h1, h2, _⟩ := hc)); (have hcells := hcc; obtain ⟨y0, y1, y2, y3, y4, y5, y6, _⟩ := hcc; obtain ⟨gc, rfl⟩ : ∃ x, x = gb := ⟨_, rfl⟩; obtain ⟨wc, rfl⟩ : ∃ x, x = w' := ⟨_, rfl⟩; obtain ⟨hxc, rfl⟩ : ∃ x, x = hx := ⟨_, rfl⟩))
    | ((apply WL.makeMap (kv := encK) (vv := encK); exact rfl; exact rfl; intro rm w1 hM1 hge1 hx1))
    | (show WL _ _ _ _ _ _ _; first | apply WL.nil | (refine WL.au (k := ?_)) | (apply WL.index tOk; exact rfl; exact rfl; exact rfl; exact rfl; exact rfl; exact rfl; exact rfl; exact rfl; assumption; (exact extA); exact rfl; omega; assumption; intro b off h; have hcc := h; first | (obtain ⟨h1, h2, h3, h4, h5, h6, _⟩ := h) | (obtain ⟨h1, h2, h3, _⟩ := h) | (obtain ⟨h1, h2, _⟩ := h) | (obtain ⟨h1, _⟩ := h)) | (apply WL.guardF; exact rfl; exact rfl) | (apply WL.gD; exact rfl; exact rfl; all_goals intro _) | (apply WL.gN; exact rfl; exact rfl; all_goals intro _) | (apply WL.gB; exact rfl; exact rfl; all_goals intro _))
    | (show Z _ _ _ _ _; first | apply Z.tail | apply Z.then_normal | apply Z.block_normal | apply Z.then_exit | apply Z.block_exit | apply Z.then_ret | apply Z.block_ret | (apply Z.block_other; exact rfl))
    | (show W _ _ _ _ _ _; first | apply W.seq | apply W.region | apply W.block | apply W.skip | apply W.ret | apply W.exit))
  have Rg := hG.ext hxc
  have hwc := Below.size hxc
  have hS : Lt.Sep wc.heap.size w1 [pmap encK encK rm (plcM c.gates.2.2 0)] := Sep.newMap Sep.none' hx1 hM1 hge1 (Nat.le_refl _)
  refine W.loopW c.gates.2.2.length (fun k w' => k ≤ c.gates.2.2.length ∧ Ext wc w' ∧ Lt.Sep wc.heap.size w' [pmap encK encK rm (plcM c.gates.2.2 k)]) (fun k => [(1, .pointer (some ⟨gc, 0, none⟩)), (3, .map (some rm)), (22, rowVal c.gates), (23, .int .i64 (c.gates.2.2.length : Nat)), (24, .int .i64 k)]) ⟨Nat.zero_le _, hx1, hS⟩ (fun k w' h => h.1) ⟨rfl, rfl, rfl, rfl, rfl, trivial⟩ ?_
  clear hS
  rintro k w3 ⟨hk, hX3, hS⟩
  have hM3 := hS.map (i := 0) rfl
  have hrm := (hS.lt (i := 0) rfl rfl).1
  by_cases hlt : k < c.gates.2.2.length
  · obtain ⟨g, hgg⟩ := getI c.gates.2.2 hlt
    have hgo := hok g (List.mem_of_getElem? hgg)
    have hnew := plcM_new ho hgg
    repeat' (first
      | (apply WL.gT; exact rfl; exact rfl; (focus (exact dec_true (by omega); done)))
      | (apply WL.gF; exact rfl; exact rfl; (focus (exact dec_true (by omega); done)))
      | (show WL _ _ _ _ _ _ _; first | apply WL.nil | (refine WL.au (k := ?_)) | (apply WL.index tOk; exact rfl; exact rfl; exact rfl; exact rfl; exact rfl; exact rfl; exact rfl; exact rfl; assumption; (exact extA); exact rfl; omega; assumption; intro b off h; have hcc := h; first | (obtain ⟨h1, h2, h3, h4, h5, h6, _⟩ := h) | (obtain ⟨h1, h2, h3, _⟩ := h) | (obtain ⟨h1, h2, _⟩ := h) | (obtain ⟨h1, _⟩ := h)) | (apply WL.guardF; exact rfl; exact rfl) | (apply WL.gD; exact rfl; exact rfl; all_goals intro _) | (apply WL.gN; exact rfl; exact rfl; all_goals intro _) | (apply WL.gB; exact rfl; exact rfl; all_goals intro _))
      | (show Z _ _ _ _ _; first | apply Z.tail | apply Z.then_normal | apply Z.block_normal | apply Z.then_exit | apply Z.block_exit | apply Z.then_ret | apply Z.block_ret | (apply Z.block_other; exact rfl))
      | (show W _ _ _ _ _ _; first | apply W.seq | apply W.region | apply W.block | apply W.skip | apply W.ret | apply W.exit))
    refine W.condKT rfl (dec_true (by omega)) ?_
    repeat' (first
      | (apply WL.gT; exact rfl; exact rfl; (focus (exact dec_true (by omega); done)))
      | (apply WL.gF; exact rfl; exact rfl; (focus (exact dec_true (by omega); done)))
      | (apply WL.alloc tOk; exact rfl; exact rfl; exact rfl; intro gb w' hb hge hx)
      | (apply WL.storeB (w0 := w3) tOk; exact rfl; exact rfl; exact rfl; exact rfl; assumption; (exact extA); exact rfl; exact rfl; exact rfl; (exact extA); (first | assumption | omega | (focus (apply Nat.le_trans; rotate_left; assumption; exact Below.size (by (exact extA)); done))); intro w' hb hc hX' hU; have hcc := hc; obtain ⟨h1, h2, _⟩ := hc; (obtain ⟨w4, rfl⟩ : ∃ x, x = w' := ⟨_, rfl⟩; obtain ⟨hX4, rfl⟩ : ∃ x, x = hX' := ⟨_, rfl⟩; have hC4 := cells_heap hb; obtain ⟨i0, i1, i2, _⟩ := hC4))
      | ((apply WL.mapPutF (B := 0) (w0 := wc) (vv := encK) tOk keyI; exact rfl; exact rfl; exact rfl; exact rfl; exact rfl; exact rfl; exact hM3.ext (by (exact extA)); exact (by (exact extA)); assumption; intro w' hM' hX' hU))
      | (show WL _ _ _ _ _ _ _; first | apply WL.nil | (refine WL.au (k := ?_)) | (apply WL.index tOk; exact rfl; exact rfl; exact rfl; exact rfl; exact rfl; exact rfl; exact rfl; exact rfl; assumption; (exact extA); exact rfl; omega; assumption; intro b off h; have hcc := h; first | (obtain ⟨h1, h2, h3, h4, h5, h6, _⟩ := h) | (obtain ⟨h1, h2, h3, _⟩ := h) | (obtain ⟨h1, h2, _⟩ := h) | (obtain ⟨h1, _⟩ := h)) | (apply WL.guardF; exact rfl; exact rfl) | (apply WL.gD; exact rfl; exact rfl; all_goals intro _) | (apply WL.gN; exact rfl; exact rfl; all_goals intro _) | (apply WL.gB; exact rfl; exact rfl; all_goals intro _))
      | (show Z _ _ _ _ _; first | apply Z.tail | apply Z.then_normal | apply Z.block_normal | apply Z.then_exit | apply Z.block_exit | apply Z.then_ret | apply Z.block_ret | (apply Z.block_other; exact rfl))
      | (show W _ _ _ _ _ _; first | apply W.seq | apply W.region | apply W.block | apply W.skip | apply W.ret | apply W.exit))
    rw [hnew] at hM'
    have hS4 := Sep.updMap (i := 0) rfl hU hM' hS (by (exact extA)) (Below.size (by (exact extA)))
    exact Z.againW ⟨by omega, (by (exact extA)), by rw [plcM_s hgg]; exact hS4⟩ ⟨rfl, rfl, rfl, rfl, rfl, trivial⟩
  obtain rfl : k = c.gates.2.2.length := by omega
  repeat' (first
    | (show WL _ _ _ _ _ _ _; first | apply WL.nil | (refine WL.au (k := ?_)) | (apply WL.index tOk; exact rfl; exact rfl; exact rfl; exact rfl; exact rfl; exact rfl; exact rfl; exact rfl; assumption; (exact extA); exact rfl; omega; assumption; intro b off h; have hcc := h; first | (obtain ⟨h1, h2, h3, h4, h5, h6, _⟩ := h) | (obtain ⟨h1, h2, h3, _⟩ := h) | (obtain ⟨h1, h2, _⟩ := h) | (obtain ⟨h1, _⟩ := h)) | (apply WL.guardF; exact rfl; exact rfl) | (apply WL.gD; exact rfl; exact rfl; all_goals intro _) | (apply WL.gN; exact rfl; exact rfl; all_goals intro _) | (apply WL.gB; exact rfl; exact rfl; all_goals intro _))
    | (show Z _ _ _ _ _; first | apply Z.tail | apply Z.then_normal | apply Z.block_normal | apply Z.then_exit | apply Z.block_exit | apply Z.then_ret | apply Z.block_ret | (apply Z.block_other; exact rfl))
    | (show W _ _ _ _ _ _; first | apply W.seq | apply W.region | apply W.block | apply W.skip | apply W.ret | apply W.exit))
  refine W.condKF rfl (dec_false (by omega)) ?_
  repeat' (first
    | (show WL _ _ _ _ _ _ _; first | apply WL.nil | (refine WL.au (k := ?_)) | (apply WL.index tOk; exact rfl; exact rfl; exact rfl; exact rfl; exact rfl; exact rfl; exact rfl; exact rfl; assumption; (exact extA); exact rfl; omega; assumption; intro b off h; have hcc := h; first | (obtain ⟨h1, h2, h3, h4, h5, h6, _⟩ := h) | (obtain ⟨h1, h2, h3, _⟩ := h) | (obtain ⟨h1, h2, _⟩ := h) | (obtain ⟨h1, _⟩ := h)) | (apply WL.guardF; exact rfl; exact rfl) | (apply WL.gD; exact rfl; exact rfl; all_goals intro _) | (apply WL.gN; exact rfl; exact rfl; all_goals intro _) | (apply WL.gB; exact rfl; exact rfl; all_goals intro _))
    | (show Z _ _ _ _ _; first | apply Z.tail | apply Z.then_normal | apply Z.block_normal | apply Z.then_exit | apply Z.block_exit | apply Z.then_ret | apply Z.block_ret | (apply Z.block_other; exact rfl))
    | (show W _ _ _ _ _ _; first | apply W.seq | apply W.region | apply W.block | apply W.skip | apply W.ret | apply W.exit))
  have y6w : w3.cell? ⟨gc, 0 + 1 + 1 + 1 + 1 + 1 + 1, none⟩ = some (rowVal c.gates) := (hcells.ext hX3).2.2.2.2.2.2.1
  have ei : ((c.gates.2.2.length : Nat) : Int).toNat = c.gates.2.2.length := by omega
  refine W.cutT (σ := Nat × Nat × World) (fun s => Ext wc s.2.2 ∧ Lt.Sep wc.heap.size s.2.2 [prow 1 encI 3 wc.heap.size (some ⟨s.1, 0, none⟩) c.gates.2.2.length (List.replicate c.gates.2.2.length 0), prow 1 encRow 23 wc.heap.size (some ⟨s.2.1, 0, none⟩) c.gates.2.2.length (List.replicate c.gates.2.2.length ((none, 0, []) : RowV Int)), pmap encK encK rm (plcM c.gates.2.2 c.gates.2.2.length)]) (fun s => [(1, .pointer (some ⟨gc, 0, none⟩)), (3, .map (some rm)), (6, .slice (some ⟨s.1, 0, none⟩) c.gates.2.2.length c.gates.2.2.length), (7, .slice (some ⟨s.2.1, 0, none⟩) c.gates.2.2.length c.gates.2.2.length)]) (fun s => s.2.2) ?_ ?_
  · repeat' (first
      | (show W _ _ (.region 7 _ _) _ _ _; apply W.regionGX (.fl true 0 (.fl true 4 (.fl false 1 (.fl true 2 (.fl false 5 (.fl true 6 (.br 3 (.fl true 8 (.br 7 (.fl true 9 .done) .stop)) (.br 7 (.br 3 (.fl true 8 (.fl true 9 .done)) .stop) .stop)))))))) [3, 5, 6, 7, 8] tMix; kernel_rfl)
      | (apply WL.make (w0 := wc) (z := (0:Int)) tOk; exact rfl; exact rfl; exact rfl; exact rfl; exact rfl; exact rfl; exact rfl; exact rfl; exact rfl; exact encI_ok; exact rfl; exact rfl; (exact extA); (first | omega | (simp; omega) | (simp at *; omega)); intro gb w' hO hge hx; replace hS := Sep.newRow (Sep.ext hS (by (exact extA))) hx hO (fun k hk => by cases hk; exact hge) (by (first | exact Nat.le_refl _ | exact Below.size (by (exact extA)))); (try simp only [List.set_cons_zero, List.set_cons_succ] at hS); (try have hR0 := hS.row (i := 0) rfl); (try have hR1 := hS.row (i := 1) rfl); (try have hR2 := hS.row (i := 2) rfl); (try have hR3 := hS.row (i := 3) rfl); (try have hR4 := hS.row (i := 4) rfl); (try have hC0 := hS.cell (i := 0) rfl); (try have hD0 := (cells_heap hC0).1); (try have hE0 := (cells_heap hC0).2.1); (try have hF0 := (cells_heap hC0).2.2.1); (try have hG0 := (cells_heap hC0).2.2.2.1); (try have hC1 := hS.cell (i := 1) rfl); (try have hD1 := (cells_heap hC1).1); (try have hE1 := (cells_heap hC1).2.1); (try have hF1 := (cells_heap hC1).2.2.1); (try have hG1 := (cells_heap hC1).2.2.2.1); (try have hC2 := hS.cell (i := 2) rfl); (try have hD2 := (cells_heap hC2).1); (try have hE2 := (cells_heap hC2).2.1); (try have hF2 := (cells_heap hC2).2.2.1); (try have hG2 := (cells_heap hC2).2.2.2.1); (try have hC3 := hS.cell (i := 3) rfl); (try have hD3 := (cells_heap hC3).1); (try have hE3 := (cells_heap hC3).2.1); (try have hF3 := (cells_heap hC3).2.2.1); (try have hG3 := (cells_heap hC3).2.2.2.1); (try have hC4 := hS.cell (i := 4) rfl); (try have hD4 := (cells_heap hC4).1); (try have hE4 := (cells_heap hC4).2.1); (try have hF4 := (cells_heap hC4).2.2.1); (try have hG4 := (cells_heap hC4).2.2.2.1); (try have hM0 := hS.map (i := 0) rfl); (try have hM1 := hS.map (i := 1) rfl); (try have hM2 := hS.map (i := 2) rfl); (try have hM3 := hS.map (i := 3) rfl); (try have hM4 := hS.map (i := 4) rfl))
      | (apply WL.make (w0 := wc) (z := nilR) tOk; exact rfl; exact rfl; exact rfl; exact rfl; exact rfl; exact rfl; exact rfl; exact rfl; exact rfl; exact encRow_ok; exact rfl; exact rfl; (exact extA); (first | omega | (simp; omega) | (simp at *; omega)); intro gb w' hO hge hx; replace hS := Sep.newRow (Sep.ext hS (by (exact extA))) hx hO (fun k hk => by cases hk; exact hge) (by (first | exact Nat.le_refl _ | exact Below.size (by (exact extA)))); (try simp only [List.set_cons_zero, List.set_cons_succ] at hS); (try have hR0 := hS.row (i := 0) rfl); (try have hR1 := hS.row (i := 1) rfl); (try have hR2 := hS.row (i := 2) rfl); (try have hR3 := hS.row (i := 3) rfl); (try have hR4 := hS.row (i := 4) rfl); (try have hC0 := hS.cell (i := 0) rfl); (try have hD0 := (cells_heap hC0).1); (try have hE0 := (cells_heap hC0).2.1); (try have hF0 := (cells_heap hC0).2.2.1); (try have hG0 := (cells_heap hC0).2.2.2.1); (try have hC1 := hS.cell (i := 1) rfl); (try have hD1 := (cells_heap hC1).1); (try have hE1 := (cells_heap hC1).2.1); (try have hF1 := (cells_heap hC1).2.2.1); (try have hG1 := (cells_heap hC1).2.2.2.1); (try have hC2 := hS.cell (i := 2) rfl); (try have hD2 := (cells_heap hC2).1); (try have hE2 := (cells_heap hC2).2.1); (try have hF2 := (cells_heap hC2).2.2.1); (try have hG2 := (cells_heap hC2).2.2.2.1); (try have hC3 := hS.cell (i := 3) rfl); (try have hD3 := (cells_heap hC3).1); (try have hE3 := (cells_heap hC3).2.1); (try have hF3 := (cells_heap hC3).2.2.1); (try have hG3 := (cells_heap hC3).2.2.2.1); (try have hC4 := hS.cell (i := 4) rfl); (try have hD4 := (cells_heap hC4).1); (try have hE4 := (cells_heap hC4).2.1); (try have hF4 := (cells_heap hC4).2.2.1); (try have hG4 := (cells_heap hC4).2.2.2.1); (try have hM0 := hS.map (i := 0) rfl); (try have hM1 := hS.map (i := 1) rfl); (try have hM2 := hS.map (i := 2) rfl); (try have hM3 := hS.map (i := 3) rfl); (try have hM4 := hS.map (i := 4) rfl))
      | (show WL _ _ _ _ _ _ _; first | apply WL.nil | (refine WL.au (k := ?_)) | (apply WL.index tOk; exact rfl; exact rfl; exact rfl; exact rfl; exact rfl; exact rfl; exact rfl; exact rfl; assumption; (exact extA); exact rfl; omega; assumption; intro b off h; have hcc := h; first | (obtain ⟨h1, h2, h3, h4, h5, h6, _⟩ := h) | (obtain ⟨h1, h2, h3, _⟩ := h) | (obtain ⟨h1, h2, _⟩ := h) | (obtain ⟨h1, _⟩ := h)) | (apply WL.guardF; exact rfl; exact rfl) | (apply WL.gD; exact rfl; exact rfl; all_goals intro _) | (apply WL.gN; exact rfl; exact rfl; all_goals intro _) | (apply WL.gB; exact rfl; exact rfl; all_goals intro _))
      | (show SG _ _ _ _ _ _ _ _ _; first | apply SG.done | apply SG.stop | (apply SG.fl0; exact rfl) | (apply SG.fl1; exact rfl; (focus ((intro m; first | assumption | (apply Ext.at; (exact extA)) | apply But.of_at; first | exact But.upd (by assumption) | exact But.ext (by (exact extA)) | (refine But.trans ?_ (But.upd (by assumption)); exact But.ext (by (exact extA))) | exact But.at _ _ _); done))) | (apply SG.br1; exact rfl) | (apply SG.br; exact rfl))
      | (show FL _ _ _ _ _ _ _ _; first | apply FL.nilS | (refine FL.au (k := ?_)) | (apply FL.loadG tOk; exact rfl; exact rfl; exact rfl; exact rfl; exact rfl; (first | assumption | (focus (apply Ext.cell; rotate_left; assumption; (exact extA); done))); (first | (focus (intro h; cases h; done)) | (focus (intro h; have h9 := hBC _ h; (try simp only at h9); omega)) | assumption | (focus (intro h; simp only [blk, Option.map_some, Option.some.injEq] at h; omega)))) | (apply FL.index tOk; exact rfl; exact rfl; exact rfl; exact rfl; exact rfl; exact rfl; exact rfl; exact rfl; assumption; (exact extA); exact rfl; omega; assumption; exact List.cons_ne_nil _ _; intro b off h hbl; have hcc := h; first | (obtain ⟨h1, h2, h3, h4, h5, h6, _⟩ := h) | (obtain ⟨h1, h2, h3, _⟩ := h) | (obtain ⟨h1, h2, _⟩ := h) | (obtain ⟨h1, _⟩ := h)) | (apply FL.loadAG tOk; exact rfl; exact rfl; exact rfl; exact rfl; exact rfl; (first | assumption | (focus (apply Cells.ext; rotate_left; assumption; (exact extA); done))); exact rfl; (first | (focus (intro h; cases h; done)) | (focus (intro h; have h9 := hBC _ h; (try simp only at h9); omega)) | assumption | (focus (intro h; simp only [blk, Option.map_some, Option.some.injEq] at h; omega)))) | (apply FL.guardF; exact rfl; exact rfl) | (apply FL.gD; exact rfl; exact rfl; all_goals intro _) | (apply FL.gN; exact rfl; exact rfl; all_goals intro _) | (apply FL.gB; exact rfl; exact rfl; all_goals intro _))
      | (show Z _ _ _ _ _; first | (apply Z.sgL; exact rfl) | (apply Z.sgE; (focus ((intro m; first | assumption | (apply Ext.at; (exact extA)) | apply But.of_at; first | exact But.upd (by assumption) | exact But.ext (by (exact extA)) | (refine But.trans ?_ (But.upd (by assumption)); exact But.ext (by (exact extA))) | exact But.at _ _ _); done))))
      | (show SX _ _ _ _ _ _ _ _ _; first | (apply SX.done; intro w' hx) | apply SX.stop | (apply SX.fl0; exact rfl) | (apply SX.fl1; exact rfl; (exact extA)) | (apply SX.br1; exact rfl; intro w' hx) | (apply SX.br; exact rfl; (intro w' hx)))
      | (show FL _ _ _ _ _ _ _ _; first | apply FL.nilX | (apply FL.loadE tOk; exact rfl; exact rfl; exact rfl; exact rfl; exact rfl; assumption) | (apply FL.loadAE tOk; exact rfl; exact rfl; exact rfl; exact rfl; exact rfl; assumption; exact rfl) | (apply FL.indexE tOk; exact rfl; exact rfl; exact rfl; exact rfl; exact rfl; exact rfl; exact rfl; exact rfl; assumption; exact rfl; omega; assumption; intro b off h; have hcc := h; first | (obtain ⟨h1, h2, h3, h4, h5, h6, _⟩ := h) | (obtain ⟨h1, h2, h3, _⟩ := h) | (obtain ⟨h1, h2, _⟩ := h) | (obtain ⟨h1, _⟩ := h)))
      | (show FL _ _ _ _ _ _ _ _; first | apply FL.nilX | (refine FL.au (k := ?_)) | (apply FL.loadG tOk; exact rfl; exact rfl; exact rfl; exact rfl; exact rfl; (first | assumption | (focus (apply Ext.cell; rotate_left; assumption; (exact extA); done))); (first | (focus (intro h; cases h; done)) | (focus (intro h; have h9 := hBC _ h; (try simp only at h9); omega)) | assumption | (focus (intro h; simp only [blk, Option.map_some, Option.some.injEq] at h; omega)))) | (apply FL.index tOk; exact rfl; exact rfl; exact rfl; exact rfl; exact rfl; exact rfl; exact rfl; exact rfl; assumption; (exact extA); exact rfl; omega; assumption; exact List.cons_ne_nil _ _; intro b off h hbl; have hcc := h; first | (obtain ⟨h1, h2, h3, h4, h5, h6, _⟩ := h) | (obtain ⟨h1, h2, h3, _⟩ := h) | (obtain ⟨h1, h2, _⟩ := h) | (obtain ⟨h1, _⟩ := h)) | (apply FL.loadAG tOk; exact rfl; exact rfl; exact rfl; exact rfl; exact rfl; (first | assumption | (focus (apply Cells.ext; rotate_left; assumption; (exact extA); done))); exact rfl; (first | (focus (intro h; cases h; done)) | (focus (intro h; have h9 := hBC _ h; (try simp only at h9); omega)) | assumption | (focus (intro h; simp only [blk, Option.map_some, Option.some.injEq] at h; omega)))) | (apply FL.guardF; exact rfl; exact rfl) | (apply FL.gD; exact rfl; exact rfl; all_goals intro _) | (apply FL.gN; exact rfl; exact rfl; all_goals intro _) | (apply FL.gB; exact rfl; exact rfl; all_goals intro _))
      | (show Z _ _ _ _ _; first | (apply Z.sxL; exact rfl) | (apply Z.sxE; (exact extA)))
      | (show Z _ _ _ _ _; first | apply Z.tail | apply Z.then_normal | apply Z.block_normal | apply Z.then_exit | apply Z.block_exit | apply Z.then_ret | apply Z.block_ret | (apply Z.block_other; exact rfl))
      | (show W _ _ _ _ _ _; first | apply W.seq | apply W.region | apply W.block | apply W.skip | apply W.ret | apply W.exit | (apply W.condT; exact rfl) | (apply W.condF; exact rfl) | (apply W.condD; exact rfl; all_goals intro _) | (apply W.condN; exact rfl; all_goals intro _) | (apply W.condB; exact rfl; all_goals intro _)))
    all_goals (rw [ei] at hS; rw [ei]; rw [List.length_replicate, List.length_replicate])
    · exact Z.cut (_, _, w') ⟨(by (exact extA)), (Sep.swap01 hS).ext (by (exact extA))⟩ ⟨rfl, rfl, rfl, rfl, trivial⟩ rfl
    · exact Z.cut (_, _, w') ⟨(by (exact extA)), hS.ext (by (exact extA))⟩ ⟨rfl, rfl, rfl, rfl, trivial⟩ rfl
  clear hS hX3 hM3 y6w
  rintro ⟨gl, go, w4⟩ ⟨hX4, hS⟩
  dsimp only at hX4 hS
  obtain ⟨n, hnn⟩ : ∃ n, c.gates.2.2.length = n := ⟨_, rfl⟩
  have hS4 : Lt.Sep wc.heap.size w4 (rst wc.heap.size (some ⟨gl, 0, none⟩) n (List.replicate n 0) (some ⟨go, 0, none⟩) n (List.replicate n nilR) rm (plcM c.gates.2.2 n) none 0 [] nilR (List.replicate n nilR)) := by
    have := Sep.addNils hS (n + 2)
    rw [hnn] at this
    exact this
  repeat' (first
    | (((show WL _ _ _ (⟨_, .call ⟨.value (.func 82), _, _⟩, _, _, _, _⟩ :: _) _ _ _); apply WL.call; exact rfl; exact rfl; exact rfl; exact rfl; exact heap_New c.gates.2.2.length hn _ wc _ (by (exact extA)) (hS4.ext (by (exact extA))); rintro v' w5 ⟨gh, F, A, rfl, hFl, hB5⟩; have hX5 := HpB.ext hB5))
    | (show WL _ _ _ _ _ _ _; first | apply WL.nil | (refine WL.au (k := ?_)) | (apply WL.index tOk; exact rfl; exact rfl; exact rfl; exact rfl; exact rfl; exact rfl; exact rfl; exact rfl; assumption; (exact extA); exact rfl; omega; assumption; intro b off h; have hcc := h; first | (obtain ⟨h1, h2, h3, h4, h5, h6, _⟩ := h) | (obtain ⟨h1, h2, h3, _⟩ := h) | (obtain ⟨h1, h2, _⟩ := h) | (obtain ⟨h1, _⟩ := h)) | (apply WL.guardF; exact rfl; exact rfl) | (apply WL.gD; exact rfl; exact rfl; all_goals intro _) | (apply WL.gN; exact rfl; exact rfl; all_goals intro _) | (apply WL.gB; exact rfl; exact rfl; all_goals intro _))
    | (show Z _ _ _ _ _; first | apply Z.tail | apply Z.then_normal | apply Z.block_normal | apply Z.then_exit | apply Z.block_exit | apply Z.then_ret | apply Z.block_ret | (apply Z.block_other; exact rfl))
    | (show W _ _ _ _ _ _; first | apply W.seq | apply W.region | apply W.block | apply W.skip | apply W.ret | apply W.exit))
  have hFn : F.length = n := by omega
  refine W.loopW n (fun k w' => k ≤ n ∧ ∃ lk rs lit t A, HpB wc w' gh F (rst wc.heap.size (some ⟨gl, 0, none⟩) n lk (some ⟨go, 0, none⟩) n rs rm (plcM c.gates.2.2 n) none 0 [] lit rs) t A (pA k lk) ∧ StI c.gates.2.2 k lk rs) (fun k => [(1, .pointer (some ⟨gc, 0, none⟩)), (3, .map (some rm)), (6, .slice (some ⟨gl, 0, none⟩) n n), (7, .slice (some ⟨go, 0, none⟩) n n), (8, .pointer (some ⟨gh, 0, none⟩)), (48, rowVal c.gates), (49, .int .i64 (n : Nat)), (50, .int .i64 k)]) ⟨Nat.zero_le _, _, _, _, _, _, hB5.mono (fun x => ⟨fun h => h.elim, fun ⟨j, _, h, _⟩ => absurd h (Nat.not_lt_zero _)⟩), by rw [← hnn]; exact StI.first _⟩ (fun k w' h => h.1) (by rw [← hnn]; exact ⟨rfl, rfl, rfl, rfl, rfl, rfl, rfl, rfl, trivial⟩) ?_
  clear hS hS4 hB5 hX5 hX4
  rintro k w6 ⟨hk, lk, rs, lit, t, A, hB6, hI6⟩
  have hX6 := hB6.ext
  by_cases hlt : k < n
  · obtain ⟨g, hgg⟩ := getI c.gates.2.2 (show k < c.gates.2.2.length by omega)
    have hgo := hok g (List.mem_of_getElem? hgg)
    repeat' (first
      | (show WL _ _ _ _ _ _ _; first | apply WL.nil | (refine WL.au (k := ?_)) | (apply WL.index tOk; exact rfl; exact rfl; exact rfl; exact rfl; exact rfl; exact rfl; exact rfl; exact rfl; assumption; (exact extA); exact rfl; omega; assumption; intro b off h; have hcc := h; first | (obtain ⟨h1, h2, h3, h4, h5, h6, _⟩ := h) | (obtain ⟨h1, h2, h3, _⟩ := h) | (obtain ⟨h1, h2, _⟩ := h) | (obtain ⟨h1, _⟩ := h)) | (apply WL.guardF; exact rfl; exact rfl) | (apply WL.gD; exact rfl; exact rfl; all_goals intro _) | (apply WL.gN; exact rfl; exact rfl; all_goals intro _) | (apply WL.gB; exact rfl; exact rfl; all_goals intro _))
      | (show Z _ _ _ _ _; first | apply Z.tail | apply Z.then_normal | apply Z.block_normal | apply Z.then_exit | apply Z.block_exit | apply Z.then_ret | apply Z.block_ret | (apply Z.block_other; exact rfl))
      | (show W _ _ _ _ _ _; first | apply W.seq | apply W.region | apply W.block | apply W.skip | apply W.ret | apply W.exit))
    refine W.condKT rfl (dec_true (by omega)) ?_
    repeat' (first
      | (apply WL.alloc tOk; exact rfl; exact rfl; exact rfl; intro gb w' hb hge hx)
      | (apply WL.storeB (w0 := w6) tOk; exact rfl; exact rfl; exact rfl; exact rfl; assumption; (exact extA); exact rfl; exact rfl; exact rfl; (exact extA); (first | assumption | omega | (focus (apply Nat.le_trans; rotate_left; assumption; exact Below.size (by (exact extA)); done))); intro w' hb hc hX' hU; have hcc := hc; obtain ⟨h1, h2, _⟩ := hc; (obtain ⟨w7, rfl⟩ : ∃ x, x = w' := ⟨_, rfl⟩; obtain ⟨hX7, rfl⟩ : ∃ x, x = hX' := ⟨_, rfl⟩; have hC7 := cells_heap hb; obtain ⟨i0, i1, i2, _⟩ := hC7))
      | (apply WL.lit tOk; exact rfl; exact rfl; exact rfl; exact rfl; exact rfl; exact rfl; (first | exact rfl | kernel_rfl | (simp [Instr.fill, catCells]; done)); exact rfl; intro gb w' hb hge hc hx; have hO := Own.of_block ([g.2.1, g.2.2]) encI_ok hb hge rfl; (obtain ⟨gt, rfl⟩ : ∃ x, x = gb := ⟨_, rfl⟩; obtain ⟨w8, rfl⟩ : ∃ x, x = w' := ⟨_, rfl⟩; obtain ⟨hx8, rfl⟩ : ∃ x, x = hx := ⟨_, rfl⟩; obtain ⟨hO8, rfl⟩ : ∃ x, x = hO := ⟨_, rfl⟩; obtain ⟨hge8, rfl⟩ : ∃ x, x = hge := ⟨_, rfl⟩))
      | (show WL _ _ _ _ _ _ _; first | apply WL.nil | (refine WL.au (k := ?_)) | (apply WL.index tOk; exact rfl; exact rfl; exact rfl; exact rfl; exact rfl; exact rfl; exact rfl; exact rfl; assumption; (exact extA); exact rfl; omega; assumption; intro b off h; have hcc := h; first | (obtain ⟨h1, h2, h3, h4, h5, h6, _⟩ := h) | (obtain ⟨h1, h2, h3, _⟩ := h) | (obtain ⟨h1, h2, _⟩ := h) | (obtain ⟨h1, _⟩ := h)) | (apply WL.guardF; exact rfl; exact rfl) | (apply WL.gD; exact rfl; exact rfl; all_goals intro _) | (apply WL.gN; exact rfl; exact rfl; all_goals intro _) | (apply WL.gB; exact rfl; exact rfl; all_goals intro _))
      | (show Z _ _ _ _ _; first | apply Z.tail | apply Z.then_normal | apply Z.block_normal | apply Z.then_exit | apply Z.block_exit | apply Z.then_ret | apply Z.block_ret | (apply Z.block_other; exact rfl))
      | (show W _ _ _ _ _ _; first | apply W.seq | apply W.region | apply W.block | apply W.skip | apply W.ret | apply W.exit))
    have hB8 := hB6.setLit (show Ext w6 w8 from (by (exact extA))) (hO8.base (Nat.le_trans (Below.size hX6) (Below.size hX7))) (Nat.le_trans (Below.size hX7) hge8)
    have hA8 := hI6.enter hgg
    refine W.loopW 2 (fun j w' => j ≤ 2 ∧ ∃ lk rs t A, HpB wc w' gh F (rst wc.heap.size (some ⟨gl, 0, none⟩) n lk (some ⟨go, 0, none⟩) n rs rm (plcM c.gates.2.2 n) none 0 [] (some ⟨gt, 0, none⟩, 2, [g.2.1, g.2.2]) rs) t A (pA k lk) ∧ StA c.gates.2.2 k g j lk rs) (fun j => [(1, .pointer (some ⟨gc, 0, none⟩)), (3, .map (some rm)), (6, .slice (some ⟨gl, 0, none⟩) n n), (7, .slice (some ⟨go, 0, none⟩) n n), (8, .pointer (some ⟨gh, 0, none⟩)), (9, .int .i64 k), (48, rowVal c.gates), (49, .int .i64 (n : Nat)), (50, .int .i64 k), (59, .slice (some ⟨gt, 0, none⟩) 2 2), (60, .int .i64 2), (61, .int .i64 j)]) ⟨Nat.zero_le _, _, _, _, _, hB8, hA8⟩ (fun k w' h => h.1) ⟨rfl, rfl, rfl, rfl, rfl, rfl, rfl, rfl, rfl, rfl, rfl, rfl, trivial⟩ ?_
    clear hB8 hA8 hB6 hI6 hX6
    rintro j w9 ⟨hj, lk, rs, t, A, hB9, hA9⟩
    have hX9 := hB9.ext
    by_cases hjl : j < 2
    · obtain ⟨l, hl⟩ : ∃ l, litJ g j = l := ⟨_, rfl⟩
      have hll : ([g.2.1, g.2.2] : List Int)[((j : Nat) : Int).toNat]? = some l := by
        rw [Int.toNat_natCast, ← hl]
        match j, hjl with
        | 0, _ => rfl
        | 1, _ => rfl
      have hl0 : 0 ≤ l ∧ l ≤ 33554433 := by
        rw [← hl]
        match j, hjl with
        | 0, _ => exact hgo.2.1
        | 1, _ => exact hgo.2.2
      obtain ⟨hX9, ⟨hat, hze, as_, cs, tr, ct, ap, cp, hS⟩, hO9, hm9⟩ := hB9
      have hMp := hS.map (i := 6) rfl
      have hLo := hS.row (i := 4) rfl
      have RL := (hS.row (i := 8) rfl).row encI_ok
      have hll3 := hA9.llen
      have hrl3 := hA9.rlen
      have hLn : lk.length = n := by omega
      have hRn : rs.length = n := by omega
      cases hmg : mget (l / 2) (plcM c.gates.2.2 n) with
      | none =>
        repeat' (first
          | ((apply WL.lookNoneF tOk keyI; exact rfl; exact rfl; exact rfl; exact rfl; exact rfl; exact rfl; exact rfl; exact hMp; exact hmg))
          | (show WL _ _ _ _ _ _ _; first | apply WL.nil | (refine WL.au (k := ?_)) | (apply WL.index tOk; exact rfl; exact rfl; exact rfl; exact rfl; exact rfl; exact rfl; exact rfl; exact rfl; assumption; (exact extA); exact rfl; omega; assumption; intro b off h; have hcc := h; first | (obtain ⟨h1, h2, h3, h4, h5, h6, _⟩ := h) | (obtain ⟨h1, h2, h3, _⟩ := h) | (obtain ⟨h1, h2, _⟩ := h) | (obtain ⟨h1, _⟩ := h)) | (apply WL.guardF; exact rfl; exact rfl) | (apply WL.gD; exact rfl; exact rfl; all_goals intro _) | (apply WL.gN; exact rfl; exact rfl; all_goals intro _) | (apply WL.gB; exact rfl; exact rfl; all_goals intro _))
          | (show Z _ _ _ _ _; first | apply Z.tail | apply Z.then_normal | apply Z.block_normal | apply Z.then_exit | apply Z.block_exit | apply Z.then_ret | apply Z.block_ret | (apply Z.block_other; exact rfl))
          | (show W _ _ _ _ _ _; first | apply W.seq | apply W.region | apply W.block | apply W.skip | apply W.ret | apply W.exit))
        refine W.condKT rfl (dec_true (by omega)) ?_
        repeat' (first
          | ((apply WL.lookNoneF tOk keyI; exact rfl; exact rfl; exact rfl; exact rfl; exact rfl; exact rfl; exact rfl; exact hMp; exact hmg))
          | (show WL _ _ _ _ _ _ _; first | apply WL.nil | (refine WL.au (k := ?_)) | (apply WL.index tOk; exact rfl; exact rfl; exact rfl; exact rfl; exact rfl; exact rfl; exact rfl; exact rfl; assumption; (exact extA); exact rfl; omega; assumption; intro b off h; have hcc := h; first | (obtain ⟨h1, h2, h3, h4, h5, h6, _⟩ := h) | (obtain ⟨h1, h2, h3, _⟩ := h) | (obtain ⟨h1, h2, _⟩ := h) | (obtain ⟨h1, _⟩ := h)) | (apply WL.guardF; exact rfl; exact rfl) | (apply WL.gD; exact rfl; exact rfl; all_goals intro _) | (apply WL.gN; exact rfl; exact rfl; all_goals intro _) | (apply WL.gB; exact rfl; exact rfl; all_goals intro _))
          | (show Z _ _ _ _ _; first | apply Z.tail | apply Z.then_normal | apply Z.block_normal | apply Z.then_exit | apply Z.block_exit | apply Z.then_ret | apply Z.block_ret | (apply Z.block_other; exact rfl))
          | (show W _ _ _ _ _ _; first | apply W.seq | apply W.region | apply W.block | apply W.skip | apply W.ret | apply W.exit))
        refine W.condKF rfl rfl ?_
        repeat' (first
          | (show WL _ _ _ _ _ _ _; first | apply WL.nil | (refine WL.au (k := ?_)) | (apply WL.index tOk; exact rfl; exact rfl; exact rfl; exact rfl; exact rfl; exact rfl; exact rfl; exact rfl; assumption; (exact extA); exact rfl; omega; assumption; intro b off h; have hcc := h; first | (obtain ⟨h1, h2, h3, h4, h5, h6, _⟩ := h) | (obtain ⟨h1, h2, h3, _⟩ := h) | (obtain ⟨h1, h2, _⟩ := h) | (obtain ⟨h1, _⟩ := h)) | (apply WL.guardF; exact rfl; exact rfl) | (apply WL.gD; exact rfl; exact rfl; all_goals intro _) | (apply WL.gN; exact rfl; exact rfl; all_goals intro _) | (apply WL.gB; exact rfl; exact rfl; all_goals intro _))
          | (show Z _ _ _ _ _; first | apply Z.tail | apply Z.then_normal | apply Z.block_normal | apply Z.then_exit | apply Z.block_exit | apply Z.then_ret | apply Z.block_ret | (apply Z.block_other; exact rfl))
          | (show W _ _ _ _ _ _; first | apply W.seq | apply W.region | apply W.block | apply W.skip | apply W.ret | apply W.exit))
        refine Z.againW ⟨by omega, lk, rs, t, A, ⟨(by (exact extA)), ⟨hat, hze, as_, cs, tr, ct, ap, cp, hS⟩, hO9, hm9⟩, hA9.skip fun q y hy he => ?_⟩ ⟨rfl, rfl, rfl, rfl, rfl, rfl, rfl, rfl, rfl, rfl, rfl, rfl, trivial⟩
        rw [← hnn] at hmg
        exact plcM_none hmg q y hy (by rw [← hl, he])
      | some v =>
        have hmg' := hmg
        rw [← hnn] at hmg'
        obtain ⟨kk, y, hy, hyl, rfl⟩ := plcM_some hmg'
        have hkk := lt_of_get hy
        obtain ⟨r, hr, hrv⟩ := hA9.row kk y hy
        have hnow := hA9.now
        have hLk : lk[((k : Nat) : Int).toNat]? = some (lackJ c.gates.2.2 g j : Int) := by rw [Int.toNat_natCast]; exact hnow
        have hRk : rs[((kk : Nat) : Int).toNat]? = some r := by rw [Int.toNat_natCast]; exact hr
        have hlj := lackJ_le c.gates.2.2 g j
        repeat' (first
          | ((apply WL.lookSomeF tOk keyI; exact rfl; exact rfl; exact rfl; exact rfl; exact rfl; exact rfl; exact rfl; exact hMp; exact hmg))
          | (show WL _ _ _ _ _ _ _; first | apply WL.nil | (refine WL.au (k := ?_)) | (apply WL.index tOk; exact rfl; exact rfl; exact rfl; exact rfl; exact rfl; exact rfl; exact rfl; exact rfl; assumption; (exact extA); exact rfl; omega; assumption; intro b off h; have hcc := h; first | (obtain ⟨h1, h2, h3, h4, h5, h6, _⟩ := h) | (obtain ⟨h1, h2, h3, _⟩ := h) | (obtain ⟨h1, h2, _⟩ := h) | (obtain ⟨h1, _⟩ := h)) | (apply WL.guardF; exact rfl; exact rfl) | (apply WL.gD; exact rfl; exact rfl; all_goals intro _) | (apply WL.gN; exact rfl; exact rfl; all_goals intro _) | (apply WL.gB; exact rfl; exact rfl; all_goals intro _))
          | (show Z _ _ _ _ _; first | apply Z.tail | apply Z.then_normal | apply Z.block_normal | apply Z.then_exit | apply Z.block_exit | apply Z.then_ret | apply Z.block_ret | (apply Z.block_other; exact rfl))
          | (show W _ _ _ _ _ _; first | apply W.seq | apply W.region | apply W.block | apply W.skip | apply W.ret | apply W.exit))
        refine W.condKT rfl (dec_true (by omega)) ?_
        repeat' (first
          | ((apply WL.lookSomeF tOk keyI; exact rfl; exact rfl; exact rfl; exact rfl; exact rfl; exact rfl; exact rfl; exact hMp; exact hmg))
          | (show WL _ _ _ _ _ _ _; first | apply WL.nil | (refine WL.au (k := ?_)) | (apply WL.index tOk; exact rfl; exact rfl; exact rfl; exact rfl; exact rfl; exact rfl; exact rfl; exact rfl; assumption; (exact extA); exact rfl; omega; assumption; intro b off h; have hcc := h; first | (obtain ⟨h1, h2, h3, h4, h5, h6, _⟩ := h) | (obtain ⟨h1, h2, h3, _⟩ := h) | (obtain ⟨h1, h2, _⟩ := h) | (obtain ⟨h1, _⟩ := h)) | (apply WL.guardF; exact rfl; exact rfl) | (apply WL.gD; exact rfl; exact rfl; all_goals intro _) | (apply WL.gN; exact rfl; exact rfl; all_goals intro _) | (apply WL.gB; exact rfl; exact rfl; all_goals intro _))
          | (show Z _ _ _ _ _; first | apply Z.tail | apply Z.then_normal | apply Z.block_normal | apply Z.then_exit | apply Z.block_exit | apply Z.then_ret | apply Z.block_ret | (apply Z.block_other; exact rfl))
          | (show W _ _ _ _ _ _; first | apply W.seq | apply W.region | apply W.block | apply W.skip | apply W.ret | apply W.exit))
        refine W.condKT rfl rfl ?_
        repeat' (first
          | (apply WL.indexO tOk; exact rfl; exact rfl; exact rfl; exact rfl; exact rfl; exact rfl; exact rfl; exact rfl; assumption; (exact extA); exact encI_ok; (first | exact rfl | (focus (simp only [List.length_set]; done)) | (focus (simp; done)) | (focus (simp [*]; done)) | omega | (focus (simp only [List.length_set]; omega))); omega; assumption; intro gb ha hc; cases ha; have hcc := hc; first | (obtain ⟨h1, h2, h3, _⟩ := hc) | (obtain ⟨h1, h2, _⟩ := hc) | (obtain ⟨h1, _⟩ := hc))
          | (apply WL.storeO (z' := (((lackJ c.gates.2.2 g j : Nat) : Int) + 1)) tOk; exact rfl; exact rfl; exact rfl; exact rfl; assumption; (exact extA); exact rfl; exact rfl; exact rfl; exact encI_ok; assumption; exact rfl; (exact extA); intro w' hO hX' hU)
          | (show WL _ _ _ _ _ _ _; first | apply WL.nil | (refine WL.au (k := ?_)) | (apply WL.index tOk; exact rfl; exact rfl; exact rfl; exact rfl; exact rfl; exact rfl; exact rfl; exact rfl; assumption; (exact extA); exact rfl; omega; assumption; intro b off h; have hcc := h; first | (obtain ⟨h1, h2, h3, h4, h5, h6, _⟩ := h) | (obtain ⟨h1, h2, h3, _⟩ := h) | (obtain ⟨h1, h2, _⟩ := h) | (obtain ⟨h1, _⟩ := h)) | (apply WL.guardF; exact rfl; exact rfl) | (apply WL.gD; exact rfl; exact rfl; all_goals intro _) | (apply WL.gN; exact rfl; exact rfl; all_goals intro _) | (apply WL.gB; exact rfl; exact rfl; all_goals intro _))
          | (show Z _ _ _ _ _; first | apply Z.tail | apply Z.then_normal | apply Z.block_normal | apply Z.then_exit | apply Z.block_exit | apply Z.then_ret | apply Z.block_ret | (apply Z.block_other; exact rfl))
          | (show W _ _ _ _ _ _; first | apply W.seq | apply W.region | apply W.block | apply W.skip | apply W.ret | apply W.exit))
        obtain ⟨w10, rfl⟩ : ∃ x, x = w' := ⟨_, rfl⟩
        have hS1 : Lt.Sep wc.heap.size w10 (hpP wc.heap.size gh as_ cs F tr ct t.length t ap cp A ++ rst wc.heap.size (some ⟨gl, 0, none⟩) n (lk.set ((k : Nat) : Int).toNat (((lackJ c.gates.2.2 g j : Nat) : Int) + 1)) (some ⟨go, 0, none⟩) n rs rm (plcM c.gates.2.2 n) none 0 [] (some ⟨gt, 0, none⟩, 2, [g.2.1, g.2.2]) rs) := Sep.updRow (i := 4) rfl hU hO (.inl rfl) hS (Ext.refl _) (Below.size hX9)
        have hOu := hS1.row (i := 5) rfl
        have hIn := hS1.row (rst_in hr _ rfl)
        have hX10 : Ext wc w10 := (by (exact extA))
        have hrl : r.2.2.length ≤ 2 * n + 2 := by
          have q1 := abv_len c.gates.2.2 y k
          have q2 := hangsJ_le g y j
          rw [hrv, List.length_append, List.length_replicate]; omega
        repeat' (first
          | (apply WL.indexO tOk; exact rfl; exact rfl; exact rfl; exact rfl; exact rfl; exact rfl; exact rfl; exact rfl; assumption; (exact extA); exact encRow_ok; (first | exact rfl | (focus (simp only [List.length_set]; done)) | (focus (simp; done)) | (focus (simp [*]; done)) | omega | (focus (simp only [List.length_set]; omega))); omega; assumption; intro gb ha hc; cases ha; have hcc := hc; first | (obtain ⟨h1, h2, h3, _⟩ := hc) | (obtain ⟨h1, h2, _⟩ := hc) | (obtain ⟨h1, _⟩ := hc))
          | (apply WL.lit tOk; exact rfl; exact rfl; exact rfl; exact rfl; exact rfl; exact rfl; (first | exact rfl | kernel_rfl | (simp [Instr.fill, catCells]; done)); exact rfl; intro gb w' hb hge hc hx)
          | (apply WL.append1 (z := (((k : Nat) : Int))) tOk encI_ok; exact rfl; exact rfl; exact rfl; exact rfl; exact rfl; exact rfl; exact rfl; exact rfl; exact rfl; exact rfl; assumption; (exact extA); (first | exact rfl | (focus (simp only [List.length_set]; done)) | (focus (simp; done)) | (focus (simp [*]; done)) | omega | (focus (simp only [List.length_set]; omega))); assumption; exact rfl; exact rfl; (exact extA); (first | omega | (simp; omega) | (simp at *; omega)); intro a' cap' w' hO hX' hU hF)
          | (show WL _ _ _ _ _ _ _; first | apply WL.nil | (refine WL.au (k := ?_)) | (apply WL.index tOk; exact rfl; exact rfl; exact rfl; exact rfl; exact rfl; exact rfl; exact rfl; exact rfl; assumption; (exact extA); exact rfl; omega; assumption; intro b off h; have hcc := h; first | (obtain ⟨h1, h2, h3, h4, h5, h6, _⟩ := h) | (obtain ⟨h1, h2, h3, _⟩ := h) | (obtain ⟨h1, h2, _⟩ := h) | (obtain ⟨h1, _⟩ := h)) | (apply WL.guardF; exact rfl; exact rfl) | (apply WL.gD; exact rfl; exact rfl; all_goals intro _) | (apply WL.gN; exact rfl; exact rfl; all_goals intro _) | (apply WL.gB; exact rfl; exact rfl; all_goals intro _))
          | (show Z _ _ _ _ _; first | apply Z.tail | apply Z.then_normal | apply Z.block_normal | apply Z.then_exit | apply Z.block_exit | apply Z.then_ret | apply Z.block_ret | (apply Z.block_other; exact rfl))
          | (show W _ _ _ _ _ _; first | apply W.seq | apply W.region | apply W.block | apply W.skip | apply W.ret | apply W.exit))
        obtain ⟨w12, rfl⟩ : ∃ x, x = w' := ⟨_, rfl⟩; obtain ⟨a2, rfl⟩ : ∃ x, x = a' := ⟨_, rfl⟩; obtain ⟨cp2, rfl⟩ : ∃ x, x = cap' := ⟨_, rfl⟩
        have hS2 := Sep.updRow (rst_in hr _ rfl) hU hO hF hS1 (by (exact extA)) (Below.size (by (exact extA)))
        rw [show prow 1 encI 3 wc.heap.size a2 cp2 (r.2.2 ++ [((k : Nat) : Int)]) = pI wc.heap.size (a2, cp2, r.2.2 ++ [((k : Nat) : Int)]) from rfl, rst_set _ rfl] at hS2
        have hOu2 := hS2.row (i := 5) rfl
        have hX12 : Ext wc w12 := (by (exact extA))
        repeat' (first
          | (apply WL.indexO tOk; exact rfl; exact rfl; exact rfl; exact rfl; exact rfl; exact rfl; exact rfl; exact rfl; assumption; (exact extA); exact encRow_ok; (first | exact rfl | (focus (simp only [List.length_set]; done)) | (focus (simp; done)) | (focus (simp [*]; done)) | omega | (focus (simp only [List.length_set]; omega))); omega; assumption; intro gb ha hc; cases ha; have hcc := hc; first | (obtain ⟨h1, h2, h3, _⟩ := hc) | (obtain ⟨h1, h2, _⟩ := hc) | (obtain ⟨h1, _⟩ := hc))
          | (apply WL.storeO (z' := (((a2, cp2, r.2.2 ++ [((k : Nat) : Int)]) : RowV Int))) tOk; exact rfl; exact rfl; exact rfl; exact rfl; assumption; (exact extA); exact rfl; exact rfl; exact rfl; exact encRow_ok; assumption; exact rfl; (exact extA); intro w' hO hX' hU)
          | (show WL _ _ _ _ _ _ _; first | apply WL.nil | (refine WL.au (k := ?_)) | (apply WL.index tOk; exact rfl; exact rfl; exact rfl; exact rfl; exact rfl; exact rfl; exact rfl; exact rfl; assumption; (exact extA); exact rfl; omega; assumption; intro b off h; have hcc := h; first | (obtain ⟨h1, h2, h3, h4, h5, h6, _⟩ := h) | (obtain ⟨h1, h2, h3, _⟩ := h) | (obtain ⟨h1, h2, _⟩ := h) | (obtain ⟨h1, _⟩ := h)) | (apply WL.guardF; exact rfl; exact rfl) | (apply WL.gD; exact rfl; exact rfl; all_goals intro _) | (apply WL.gN; exact rfl; exact rfl; all_goals intro _) | (apply WL.gB; exact rfl; exact rfl; all_goals intro _))
          | (show Z _ _ _ _ _; first | apply Z.tail | apply Z.then_normal | apply Z.block_normal | apply Z.then_exit | apply Z.block_exit | apply Z.then_ret | apply Z.block_ret | (apply Z.block_other; exact rfl))
          | (show W _ _ _ _ _ _; first | apply W.seq | apply W.region | apply W.block | apply W.skip | apply W.ret | apply W.exit))
        have hS3 : Lt.Sep wc.heap.size w' (hpP wc.heap.size gh as_ cs F tr ct t.length t ap cp A ++ rst wc.heap.size (some ⟨gl, 0, none⟩) n (lk.set ((k : Nat) : Int).toNat (((lackJ c.gates.2.2 g j : Nat) : Int) + 1)) (some ⟨go, 0, none⟩) n (rs.set ((kk : Nat) : Int).toNat (a2, cp2, r.2.2 ++ [((k : Nat) : Int)])) rm (plcM c.gates.2.2 n) none 0 [] (some ⟨gt, 0, none⟩, 2, [g.2.1, g.2.2]) (rs.set kk (a2, cp2, r.2.2 ++ [((k : Nat) : Int)]))) := Sep.updRow (i := 5) rfl hU hO (.inl rfl) hS2 (Ext.refl _) (Below.size hX12)
        rw [Int.toNat_natCast, Int.toNat_natCast] at hS3
        exact Z.againW ⟨by omega, _, _, t, A, ⟨(by (exact extA)), ⟨hat, hze, as_, cs, tr, ct, ap, cp, hS3⟩, hO9, fun x => (hm9 x).trans (pA_set x).symm⟩, hA9.take ho hy (by rw [hyl, hl]) hr⟩ ⟨rfl, rfl, rfl, rfl, rfl, rfl, rfl, rfl, rfl, rfl, rfl, rfl, trivial⟩
    obtain rfl : j = 2 := by omega
    have hI9 := hA9.leave hgg
    have hnow : lk[k]? = some (lackG c.gates.2.2 [] g : Int) := by rw [hA9.now, lackJ2]
    have hll3 := hA9.llen
    have hB9' := hB9
    obtain ⟨hX9, ⟨hat, hze, as_, cs, tr, ct, ap, cp, hS⟩, hO9, hm9⟩ := hB9'
    have hLo := hS.row (i := 4) rfl
    have hLn : lk.length = n := by omega
    have hLk : lk[((k : Nat) : Int).toNat]? = some (lackG c.gates.2.2 [] g : Int) := by rw [Int.toNat_natCast]; exact hnow
    repeat' (first
      | (show WL _ _ _ _ _ _ _; first | apply WL.nil | (refine WL.au (k := ?_)) | (apply WL.index tOk; exact rfl; exact rfl; exact rfl; exact rfl; exact rfl; exact rfl; exact rfl; exact rfl; assumption; (exact extA); exact rfl; omega; assumption; intro b off h; have hcc := h; first | (obtain ⟨h1, h2, h3, h4, h5, h6, _⟩ := h) | (obtain ⟨h1, h2, h3, _⟩ := h) | (obtain ⟨h1, h2, _⟩ := h) | (obtain ⟨h1, _⟩ := h)) | (apply WL.guardF; exact rfl; exact rfl) | (apply WL.gD; exact rfl; exact rfl; all_goals intro _) | (apply WL.gN; exact rfl; exact rfl; all_goals intro _) | (apply WL.gB; exact rfl; exact rfl; all_goals intro _))
      | (show Z _ _ _ _ _; first | apply Z.tail | apply Z.then_normal | apply Z.block_normal | apply Z.then_exit | apply Z.block_exit | apply Z.then_ret | apply Z.block_ret | (apply Z.block_other; exact rfl))
      | (show W _ _ _ _ _ _; first | apply W.seq | apply W.region | apply W.block | apply W.skip | apply W.ret | apply W.exit))
    refine W.condKF rfl (dec_false (by omega)) ?_
    repeat' (first
      | (apply WL.indexO tOk; exact rfl; exact rfl; exact rfl; exact rfl; exact rfl; exact rfl; exact rfl; exact rfl; assumption; (exact extA); exact encI_ok; (first | exact rfl | (focus (simp only [List.length_set]; done)) | (focus (simp; done)) | (focus (simp [*]; done)) | omega | (focus (simp only [List.length_set]; omega))); omega; assumption; intro gb ha hc; cases ha; have hcc := hc; first | (obtain ⟨h1, h2, h3, _⟩ := hc) | (obtain ⟨h1, h2, _⟩ := hc) | (obtain ⟨h1, _⟩ := hc))
      | (show WL _ _ _ _ _ _ _; first | apply WL.nil | (refine WL.au (k := ?_)) | (apply WL.index tOk; exact rfl; exact rfl; exact rfl; exact rfl; exact rfl; exact rfl; exact rfl; exact rfl; assumption; (exact extA); exact rfl; omega; assumption; intro b off h; have hcc := h; first | (obtain ⟨h1, h2, h3, h4, h5, h6, _⟩ := h) | (obtain ⟨h1, h2, h3, _⟩ := h) | (obtain ⟨h1, h2, _⟩ := h) | (obtain ⟨h1, _⟩ := h)) | (apply WL.guardF; exact rfl; exact rfl) | (apply WL.gD; exact rfl; exact rfl; all_goals intro _) | (apply WL.gN; exact rfl; exact rfl; all_goals intro _) | (apply WL.gB; exact rfl; exact rfl; all_goals intro _))
      | (show Z _ _ _ _ _; first | apply Z.tail | apply Z.then_normal | apply Z.block_normal | apply Z.then_exit | apply Z.block_exit | apply Z.then_ret | apply Z.block_ret | (apply Z.block_other; exact rfl))
      | (show W _ _ _ _ _ _; first | apply W.seq | apply W.region | apply W.block | apply W.skip | apply W.ret | apply W.exit))
    by_cases h0 : lackG c.gates.2.2 [] g = 0
    · refine W.condKT rfl (dec_true (by omega)) ?_
      have hnp : ¬ pA k lk (k : Int) := fun ⟨q, q1, q2, q3⟩ => by omega
      repeat' (first
        | (((show WL _ _ _ (⟨_, .call ⟨.value (.func 83), _, _⟩, _, _, _, _⟩ :: _) _ _ _); apply WL.call; exact rfl; exact rfl; exact rfl; exact rfl; exact heap_Push w9 wc gh F t A _ (pA k lk) hB9 (by omega) k (by omega) hnp; rintro v' w10 ⟨rfl, t1, A1, hB10⟩))
        | (show WL _ _ _ _ _ _ _; first | apply WL.nil | (refine WL.au (k := ?_)) | (apply WL.index tOk; exact rfl; exact rfl; exact rfl; exact rfl; exact rfl; exact rfl; exact rfl; exact rfl; assumption; (exact extA); exact rfl; omega; assumption; intro b off h; have hcc := h; first | (obtain ⟨h1, h2, h3, h4, h5, h6, _⟩ := h) | (obtain ⟨h1, h2, h3, _⟩ := h) | (obtain ⟨h1, h2, _⟩ := h) | (obtain ⟨h1, _⟩ := h)) | (apply WL.guardF; exact rfl; exact rfl) | (apply WL.gD; exact rfl; exact rfl; all_goals intro _) | (apply WL.gN; exact rfl; exact rfl; all_goals intro _) | (apply WL.gB; exact rfl; exact rfl; all_goals intro _))
        | (show Z _ _ _ _ _; first | apply Z.tail | apply Z.then_normal | apply Z.block_normal | apply Z.then_exit | apply Z.block_exit | apply Z.then_ret | apply Z.block_ret | (apply Z.block_other; exact rfl))
        | (show W _ _ _ _ _ _; first | apply W.seq | apply W.region | apply W.block | apply W.skip | apply W.ret | apply W.exit))
      exact Z.againW ⟨by omega, _, _, _, t1, A1, hB10.mono (fun x => pA_push (by rw [hnow, h0]; rfl) x), hI9⟩ ⟨rfl, rfl, rfl, rfl, rfl, rfl, rfl, rfl, trivial⟩
    · refine W.condKF rfl (dec_false (by omega)) ?_
      repeat' (first
        | (show WL _ _ _ _ _ _ _; first | apply WL.nil | (refine WL.au (k := ?_)) | (apply WL.index tOk; exact rfl; exact rfl; exact rfl; exact rfl; exact rfl; exact rfl; exact rfl; exact rfl; assumption; (exact extA); exact rfl; omega; assumption; intro b off h; have hcc := h; first | (obtain ⟨h1, h2, h3, h4, h5, h6, _⟩ := h) | (obtain ⟨h1, h2, h3, _⟩ := h) | (obtain ⟨h1, h2, _⟩ := h) | (obtain ⟨h1, _⟩ := h)) | (apply WL.guardF; exact rfl; exact rfl) | (apply WL.gD; exact rfl; exact rfl; all_goals intro _) | (apply WL.gN; exact rfl; exact rfl; all_goals intro _) | (apply WL.gB; exact rfl; exact rfl; all_goals intro _))
        | (show Z _ _ _ _ _; first | apply Z.tail | apply Z.then_normal | apply Z.block_normal | apply Z.then_exit | apply Z.block_exit | apply Z.then_ret | apply Z.block_ret | (apply Z.block_other; exact rfl))
        | (show W _ _ _ _ _ _; first | apply W.seq | apply W.region | apply W.block | apply W.skip | apply W.ret | apply W.exit))
      exact Z.againW ⟨by omega, _, _, _, t, A, hB9.mono (fun x => pA_next hnow (by omega) x), hI9⟩ ⟨rfl, rfl, rfl, rfl, rfl, rfl, rfl, rfl, trivial⟩
  obtain rfl : k = n := by omega
  repeat' (first
    | (show WL _ _ _ _ _ _ _; first | apply WL.nil | (refine WL.au (k := ?_)) | (apply WL.index tOk; exact rfl; exact rfl; exact rfl; exact rfl; exact rfl; exact rfl; exact rfl; exact rfl; assumption; (exact extA); exact rfl; omega; assumption; intro b off h; have hcc := h; first | (obtain ⟨h1, h2, h3, h4, h5, h6, _⟩ := h) | (obtain ⟨h1, h2, h3, _⟩ := h) | (obtain ⟨h1, h2, _⟩ := h) | (obtain ⟨h1, _⟩ := h)) | (apply WL.guardF; exact rfl; exact rfl) | (apply WL.gD; exact rfl; exact rfl; all_goals intro _) | (apply WL.gN; exact rfl; exact rfl; all_goals intro _) | (apply WL.gB; exact rfl; exact rfl; all_goals intro _))
    | (show Z _ _ _ _ _; first | apply Z.tail | apply Z.then_normal | apply Z.block_normal | apply Z.then_exit | apply Z.block_exit | apply Z.then_ret | apply Z.block_ret | (apply Z.block_other; exact rfl))
    | (show W _ _ _ _ _ _; first | apply W.seq | apply W.region | apply W.block | apply W.skip | apply W.ret | apply W.exit))
  refine W.condKF rfl (dec_false (by omega)) ?_
  have hll6 := hI6.llen
  have hB7 := hB6.mono (fun x => pA_all (show lk.length = k by omega) x)
  have hSB : StB c.gates.2.2 [] [] lk := ⟨hI6.llen, fun q x hx => by rw [hI6.old q x hx (by have := lt_of_get hx; omega)]; simp⟩
  have hrows : ∀ (q : Nat) (y : G3), c.gates.2.2[q]? = some y → ∃ r, rs[q]? = some r ∧ r.2.2 = abv c.gates.2.2 y c.gates.2.2.length := by
    rw [hnn]; exact hI6.row
  have hrl6 := hI6.rlen
  have start : ∀ (L : List Nat) (lk : List Int) (ya : Int), StB c.gates.2.2 L [] lk → pH L lk ya → (∀ x, pH L lk x → ya ≤ x) → ∃ i : Nat, ya = (i : Int) ∧ Least c.gates.2.2 L i := fun L lk ya hS hp hm => by
    obtain ⟨i, rfl, hr⟩ := (hS.rdy ya).1 hp
    exact ⟨i, rfl, hr, fun j hj => by have := hm (j : Int) ((hS.rdy _).2 ⟨j, rfl, hj⟩); omega⟩
  repeat' (first
    | (((show WL _ _ _ (⟨_, .call ⟨.value (.func 84), _, _⟩, _, _, _, _⟩ :: _) _ _ _); apply WL.call; exact rfl; exact rfl; exact rfl; exact rfl; exact heap_PopO w6 wc gh F t A _ (pH [] lk) hB7 (by omega); rintro v' w7 ⟨nx, rfl, hnx1, hnx2, t1, A1, hB8⟩))
    | (show WL _ _ _ _ _ _ _; first | apply WL.nil | (refine WL.au (k := ?_)) | (apply WL.index tOk; exact rfl; exact rfl; exact rfl; exact rfl; exact rfl; exact rfl; exact rfl; exact rfl; assumption; (exact extA); exact rfl; omega; assumption; intro b off h; have hcc := h; first | (obtain ⟨h1, h2, h3, h4, h5, h6, _⟩ := h) | (obtain ⟨h1, h2, h3, _⟩ := h) | (obtain ⟨h1, h2, _⟩ := h) | (obtain ⟨h1, _⟩ := h)) | (apply WL.guardF; exact rfl; exact rfl) | (apply WL.gD; exact rfl; exact rfl; all_goals intro _) | (apply WL.gN; exact rfl; exact rfl; all_goals intro _) | (apply WL.gB; exact rfl; exact rfl; all_goals intro _))
    | (show Z _ _ _ _ _; first | apply Z.tail | apply Z.then_normal | apply Z.block_normal | apply Z.then_exit | apply Z.block_exit | apply Z.then_ret | apply Z.block_ret | (apply Z.block_other; exact rfl))
    | (show W _ _ _ _ _ _; first | apply W.seq | apply W.region | apply W.block | apply W.skip | apply W.ret | apply W.exit))
  refine W.loop (σ := List Nat × Option Int × Option Addr × Nat × World) (fun s => PreOrd c.gates.2.2 s.1 ∧ ∃ lk t A, HpB wc s.2.2.2.2 gh F (rst wc.heap.size (some ⟨gl, 0, none⟩) k lk (some ⟨go, 0, none⟩) k rs rm (plcM c.gates.2.2 k) s.2.2.1 s.2.2.2.1 (natI s.1) lit rs) t A (fun x => pH s.1 lk x ∧ ∀ y, s.2.1 = some y → x ≠ y) ∧ StB c.gates.2.2 s.1 [] lk ∧ (∀ y, s.2.1 = some y → pH s.1 lk y ∧ ∀ x, pH s.1 lk x → y ≤ x) ∧ (s.2.1 = none → ∀ x, ¬ pH s.1 lk x)) (fun s => [(6, .slice (some ⟨gl, 0, none⟩) k k), (7, .slice (some ⟨go, 0, none⟩) k k), (8, .pointer (some ⟨gh, 0, none⟩)), (15, .slice s.2.2.1 (natI s.1).length s.2.2.2.1), (16, .int .i64 (s.2.1.getD 0)), (17, .bool s.2.1.isSome)]) (fun s => s.2.2.2.2) (fun s => c.gates.2.2.length + 1 - s.1.length) ([], nx, none, 0, w7) ⟨PreOrd.nil _, lk, t1, A1, hB8, hSB, hnx1, hnx2⟩ ⟨rfl, rfl, rfl, rfl, rfl, rfl, trivial⟩ rfl ?_
  clear hB7 hB8 hSB hnx1 hnx2 hB6 hI6 hX6 hll6
  rintro ⟨L, nx, ou, cu, w8⟩ ⟨hP, lk, t, A, hB8, hSB, hn1, hn2⟩
  dsimp only at hP hB8 hSB hn1 hn2 ⊢
  have hX8 := hB8.ext
  have hLle := hP.le
  cases nx with
  | none =>
    repeat' (first
      | (show WL _ _ _ _ _ _ _; first | apply WL.nil | (refine WL.au (k := ?_)) | (apply WL.index tOk; exact rfl; exact rfl; exact rfl; exact rfl; exact rfl; exact rfl; exact rfl; exact rfl; assumption; (exact extA); exact rfl; omega; assumption; intro b off h; have hcc := h; first | (obtain ⟨h1, h2, h3, h4, h5, h6, _⟩ := h) | (obtain ⟨h1, h2, h3, _⟩ := h) | (obtain ⟨h1, h2, _⟩ := h) | (obtain ⟨h1, _⟩ := h)) | (apply WL.guardF; exact rfl; exact rfl) | (apply WL.gD; exact rfl; exact rfl; all_goals intro _) | (apply WL.gN; exact rfl; exact rfl; all_goals intro _) | (apply WL.gB; exact rfl; exact rfl; all_goals intro _))
      | (show Z _ _ _ _ _; first | apply Z.tail | apply Z.then_normal | apply Z.block_normal | apply Z.then_exit | apply Z.block_exit | apply Z.then_ret | apply Z.block_ret | (apply Z.block_other; exact rfl))
      | (show W _ _ _ _ _ _; first | apply W.seq | apply W.region | apply W.block | apply W.skip | apply W.ret | apply W.exit))
    refine W.condKF rfl rfl ?_
    repeat' (first
      | (show WL _ _ _ _ _ _ _; first | apply WL.nil | (refine WL.au (k := ?_)) | (apply WL.index tOk; exact rfl; exact rfl; exact rfl; exact rfl; exact rfl; exact rfl; exact rfl; exact rfl; assumption; (exact extA); exact rfl; omega; assumption; intro b off h; have hcc := h; first | (obtain ⟨h1, h2, h3, h4, h5, h6, _⟩ := h) | (obtain ⟨h1, h2, h3, _⟩ := h) | (obtain ⟨h1, h2, _⟩ := h) | (obtain ⟨h1, _⟩ := h)) | (apply WL.guardF; exact rfl; exact rfl) | (apply WL.gD; exact rfl; exact rfl; all_goals intro _) | (apply WL.gN; exact rfl; exact rfl; all_goals intro _) | (apply WL.gB; exact rfl; exact rfl; all_goals intro _))
      | (show Z _ _ _ _ _; first | apply Z.tail | apply Z.then_normal | apply Z.block_normal | apply Z.then_exit | apply Z.block_exit | apply Z.then_ret | apply Z.block_ret | (apply Z.block_other; exact rfl))
      | (show W _ _ _ _ _ _; first | apply W.seq | apply W.region | apply W.block | apply W.skip | apply W.ret | apply W.exit))
    obtain ⟨hX9, ⟨hat, hze, as_, cs, tr, ct, ap, cp, hS⟩, hO9, hm9⟩ := hB8
    have hOut := hS.row (i := 7) rfl
    have hLo : L = ordL c.gates.2.2 := IsOrd.ord ⟨hP, fun q hq => hn2 rfl (q : Int) ((hSB.rdy _).2 ⟨q, rfl, hq⟩)⟩
    exact Z.body1 Try.results35 rfl fun m => ⟨hxc.trans (Ext.at hX8 m), ou, cu, by rw [← hLo], by rw [← hLo]; exact (hOut.base hwc).ext ((Ext.refl _).at m)⟩
  | some ya =>
    obtain ⟨i, rfl, hle⟩ := start L lk ya hSB (hn1 ya rfl).1 (hn1 ya rfl).2
    obtain ⟨y, hy, hiL, hself⟩ := hle.1
    have hself := rdy_self hle.1 hy
    have hik := lt_of_get hy
    obtain ⟨r, hr, hrv⟩ := hrows i y hy
    repeat' (first
      | (show WL _ _ _ _ _ _ _; first | apply WL.nil | (refine WL.au (k := ?_)) | (apply WL.index tOk; exact rfl; exact rfl; exact rfl; exact rfl; exact rfl; exact rfl; exact rfl; exact rfl; assumption; (exact extA); exact rfl; omega; assumption; intro b off h; have hcc := h; first | (obtain ⟨h1, h2, h3, h4, h5, h6, _⟩ := h) | (obtain ⟨h1, h2, h3, _⟩ := h) | (obtain ⟨h1, h2, _⟩ := h) | (obtain ⟨h1, _⟩ := h)) | (apply WL.guardF; exact rfl; exact rfl) | (apply WL.gD; exact rfl; exact rfl; all_goals intro _) | (apply WL.gN; exact rfl; exact rfl; all_goals intro _) | (apply WL.gB; exact rfl; exact rfl; all_goals intro _))
      | (show Z _ _ _ _ _; first | apply Z.tail | apply Z.then_normal | apply Z.block_normal | apply Z.then_exit | apply Z.block_exit | apply Z.then_ret | apply Z.block_ret | (apply Z.block_other; exact rfl))
      | (show W _ _ _ _ _ _; first | apply W.seq | apply W.region | apply W.block | apply W.skip | apply W.ret | apply W.exit))
    refine W.condKT rfl rfl ?_
    refine W.sub [(6, .slice (some ⟨gl, 0, none⟩) k k), (7, .slice (some ⟨go, 0, none⟩) k k), (8, .pointer (some ⟨gh, 0, none⟩)), (15, .slice ou (natI L).length cu), (16, .int .i64 ((i : Nat) : Int))] ⟨rfl, rfl, rfl, rfl, rfl, trivial⟩ ?_
    obtain ⟨hX9, ⟨hat, hze, as_, cs, tr, ct, ap, cp, hS⟩, hO9, hm9⟩ := hB8
    have hOut := hS.row (i := 7) rfl
    have hnl : (natI L).length = L.length := List.length_map _
    repeat' (first
      | (apply WL.lit tOk; exact rfl; exact rfl; exact rfl; exact rfl; exact rfl; exact rfl; (first | exact rfl | kernel_rfl | (simp [Instr.fill, catCells]; done)); exact rfl; intro gb w' hb hge hc hx)
      | (apply WL.append1 (z := (((i : Nat) : Int))) tOk encI_ok; exact rfl; exact rfl; exact rfl; exact rfl; exact rfl; exact rfl; exact rfl; exact rfl; exact rfl; exact rfl; assumption; (exact extA); (first | exact rfl | (focus (simp only [List.length_set]; done)) | (focus (simp; done)) | (focus (simp [*]; done)) | omega | (focus (simp only [List.length_set]; omega))); assumption; exact rfl; exact rfl; (exact extA); (first | omega | (simp; omega) | (simp at *; omega)); intro a' cap' w' hO hX' hU hF)
      | (show WL _ _ _ _ _ _ _; first | apply WL.nil | (refine WL.au (k := ?_)) | (apply WL.index tOk; exact rfl; exact rfl; exact rfl; exact rfl; exact rfl; exact rfl; exact rfl; exact rfl; assumption; (exact extA); exact rfl; omega; assumption; intro b off h; have hcc := h; first | (obtain ⟨h1, h2, h3, h4, h5, h6, _⟩ := h) | (obtain ⟨h1, h2, h3, _⟩ := h) | (obtain ⟨h1, h2, _⟩ := h) | (obtain ⟨h1, _⟩ := h)) | (apply WL.guardF; exact rfl; exact rfl) | (apply WL.gD; exact rfl; exact rfl; all_goals intro _) | (apply WL.gN; exact rfl; exact rfl; all_goals intro _) | (apply WL.gB; exact rfl; exact rfl; all_goals intro _))
      | (show Z _ _ _ _ _; first | apply Z.tail | apply Z.then_normal | apply Z.block_normal | apply Z.then_exit | apply Z.block_exit | apply Z.then_ret | apply Z.block_ret | (apply Z.block_other; exact rfl))
      | (show W _ _ _ _ _ _; first | apply W.seq | apply W.region | apply W.block | apply W.skip | apply W.ret | apply W.exit))
    obtain ⟨w9, rfl⟩ : ∃ x, x = w' := ⟨_, rfl⟩; obtain ⟨ou2, rfl⟩ : ∃ x, x = a' := ⟨_, rfl⟩; obtain ⟨cu2, rfl⟩ : ∃ x, x = cap' := ⟨_, rfl⟩
    have hnat : natI L ++ [((i : Nat) : Int)] = natI (L ++ [i]) := by simp [natI]
    have hS1 : Lt.Sep wc.heap.size w9 (hpP wc.heap.size gh as_ cs F tr ct t.length t ap cp A ++ rst wc.heap.size (some ⟨gl, 0, none⟩) k lk (some ⟨go, 0, none⟩) k rs rm (plcM c.gates.2.2 k) ou2 cu2 (natI (L ++ [i])) lit rs) := by
      rw [← hnat]; exact Sep.updRow (i := 7) rfl hU hO hF hS (by (exact extA)) (Below.size (by (exact extA)))
    have hX9' : Ext wc w9 := (by (exact extA))
    have hOu := hS1.row (i := 5) rfl
    have hRk : rs[((i : Nat) : Int).toNat]? = some r := by rw [Int.toNat_natCast]; exact hr
    rw [hnat]
    have hrl6' : rs.length = k := by omega
    repeat' (first
      | (apply WL.indexO tOk; exact rfl; exact rfl; exact rfl; exact rfl; exact rfl; exact rfl; exact rfl; exact rfl; assumption; (exact extA); exact encRow_ok; (first | exact rfl | (focus (simp only [List.length_set]; done)) | (focus (simp; done)) | (focus (simp [*]; done)) | omega | (focus (simp only [List.length_set]; omega))); omega; assumption; intro gb ha hc; cases ha; have hcc := hc; first | (obtain ⟨h1, h2, h3, _⟩ := hc) | (obtain ⟨h1, h2, _⟩ := hc) | (obtain ⟨h1, _⟩ := hc))
      | (show WL _ _ _ _ _ _ _; first | apply WL.nil | (refine WL.au (k := ?_)) | (apply WL.index tOk; exact rfl; exact rfl; exact rfl; exact rfl; exact rfl; exact rfl; exact rfl; exact rfl; assumption; (exact extA); exact rfl; omega; assumption; intro b off h; have hcc := h; first | (obtain ⟨h1, h2, h3, h4, h5, h6, _⟩ := h) | (obtain ⟨h1, h2, h3, _⟩ := h) | (obtain ⟨h1, h2, _⟩ := h) | (obtain ⟨h1, _⟩ := h)) | (apply WL.guardF; exact rfl; exact rfl) | (apply WL.gD; exact rfl; exact rfl; all_goals intro _) | (apply WL.gN; exact rfl; exact rfl; all_goals intro _) | (apply WL.gB; exact rfl; exact rfl; all_goals intro _))
      | (show Z _ _ _ _ _; first | apply Z.tail | apply Z.then_normal | apply Z.block_normal | apply Z.then_exit | apply Z.block_exit | apply Z.then_ret | apply Z.block_ret | (apply Z.block_other; exact rfl))
      | (show W _ _ _ _ _ _; first | apply W.seq | apply W.region | apply W.block | apply W.skip | apply W.ret | apply W.exit))
    have hYl : r.2.2.length ≤ 2 * k := by rw [hrv, hnn]; exact abv_len _ _ _
    have hm9' : ∀ x, x ∈ t ↔ pH (L ++ [i]) lk x := fun x => ((hm9 x).trans ⟨fun ⟨h1, h2⟩ => ⟨h1, h2 _ rfl⟩, fun ⟨h1, h2⟩ => ⟨h1, fun y hy => by cases hy; exact h2⟩⟩).trans (pH_out x)
    refine W.loopW r.2.2.length (fun m w' => m ≤ r.2.2.length ∧ ∃ lk t A, HpB wc w' gh F (rst wc.heap.size (some ⟨gl, 0, none⟩) k lk (some ⟨go, 0, none⟩) k rs rm (plcM c.gates.2.2 k) ou2 cu2 (natI (L ++ [i])) lit rs) t A (pH (L ++ [i]) lk) ∧ StB c.gates.2.2 L (r.2.2.take m) lk) (fun m => [(6, .slice (some ⟨gl, 0, none⟩) k k), (7, .slice (some ⟨go, 0, none⟩) k k), (8, .pointer (some ⟨gh, 0, none⟩)), (15, .slice ou2 (natI (L ++ [i])).length cu2), (117, .slice r.1 r.2.2.length r.2.1), (118, .int .i64 (r.2.2.length : Nat)), (119, .int .i64 m)]) ⟨Nat.zero_le _, lk, t, A, ⟨hX9', ⟨hat, hze, as_, cs, tr, ct, ap, cp, hS1⟩, hO9, hm9'⟩, by rw [List.take_zero]; exact hSB⟩ (fun m w' h => h.1) ⟨rfl, rfl, rfl, rfl, rfl, rfl, rfl, trivial⟩ ?_
    have hPi := hP.push hle
    clear hSB hS hS1 hO9 hm9 hm9' hat hze hOut hOu hO hX9 hX9' hn1 hn2
    rintro m w10 ⟨hm, lk, t, A, hB10, hSB⟩
    have hX10 := hB10.ext
    by_cases hml : m < r.2.2.length
    · obtain ⟨z, hgz⟩ := getI r.2.2 hml
      have hgz' := hgz
      rw [hrv] at hgz'
      obtain ⟨kk, g, rfl, hkk, hg, hh⟩ := abv_mem (List.mem_of_getElem? hgz')
      rw [hrv] at hSB
      obtain ⟨v, hv, hv1, hv2, hSB2⟩ := hSB.step ho hy hiL hg hgz'
      rw [← hrv] at hSB2
      have hkL : kk ∉ L ++ [i] := fun hm2 => by
        rcases List.mem_append.1 hm2 with h | h
        · exact not_told hP hy hg hh hiL h
        · obtain rfl := List.mem_singleton.1 h
          rw [hy] at hg; cases hg; omega
      have hB10' := hB10
      obtain ⟨_, ⟨hat, hze, as_, cs, tr, ct, ap, cp, hS⟩, hO9, hm9⟩ := hB10'
      have RL := (hS.row (rst_in hr _ rfl)).row encI_ok
      have hLo := hS.row (i := 4) rfl
      have hlk3 := hSB.llen
      have hLn : lk.length = k := by omega
      have hvk : lk[((kk : Nat) : Int).toNat]? = some v := by rw [Int.toNat_natCast]; exact hv
      have hvs : (lk.set ((kk : Nat) : Int).toNat (v - 1))[((kk : Nat) : Int).toNat]? = some (v - 1) := List.getElem?_set_self (by rw [Int.toNat_natCast]; omega)
      repeat' (first
        | (show WL _ _ _ _ _ _ _; first | apply WL.nil | (refine WL.au (k := ?_)) | (apply WL.index tOk; exact rfl; exact rfl; exact rfl; exact rfl; exact rfl; exact rfl; exact rfl; exact rfl; assumption; (exact extA); exact rfl; omega; assumption; intro b off h; have hcc := h; first | (obtain ⟨h1, h2, h3, h4, h5, h6, _⟩ := h) | (obtain ⟨h1, h2, h3, _⟩ := h) | (obtain ⟨h1, h2, _⟩ := h) | (obtain ⟨h1, _⟩ := h)) | (apply WL.guardF; exact rfl; exact rfl) | (apply WL.gD; exact rfl; exact rfl; all_goals intro _) | (apply WL.gN; exact rfl; exact rfl; all_goals intro _) | (apply WL.gB; exact rfl; exact rfl; all_goals intro _))
        | (show Z _ _ _ _ _; first | apply Z.tail | apply Z.then_normal | apply Z.block_normal | apply Z.then_exit | apply Z.block_exit | apply Z.then_ret | apply Z.block_ret | (apply Z.block_other; exact rfl))
        | (show W _ _ _ _ _ _; first | apply W.seq | apply W.region | apply W.block | apply W.skip | apply W.ret | apply W.exit))
      refine W.condKT rfl (dec_true (by omega)) ?_
      repeat' (first
        | (apply WL.indexO tOk; exact rfl; exact rfl; exact rfl; exact rfl; exact rfl; exact rfl; exact rfl; exact rfl; assumption; (exact extA); exact encI_ok; (first | exact rfl | (focus (simp only [List.length_set]; done)) | (focus (simp; done)) | (focus (simp [*]; done)) | omega | (focus (simp only [List.length_set]; omega))); omega; assumption; intro gb ha hc; cases ha; have hcc := hc; first | (obtain ⟨h1, h2, h3, _⟩ := hc) | (obtain ⟨h1, h2, _⟩ := hc) | (obtain ⟨h1, _⟩ := hc))
        | (apply WL.storeO (z' := (v - 1)) tOk; exact rfl; exact rfl; exact rfl; exact rfl; assumption; (exact extA); exact rfl; exact rfl; exact rfl; exact encI_ok; assumption; exact rfl; (exact extA); intro w' hO hX' hU)
        | (show WL _ _ _ _ _ _ _; first | apply WL.nil | (refine WL.au (k := ?_)) | (apply WL.index tOk; exact rfl; exact rfl; exact rfl; exact rfl; exact rfl; exact rfl; exact rfl; exact rfl; assumption; (exact extA); exact rfl; omega; assumption; intro b off h; have hcc := h; first | (obtain ⟨h1, h2, h3, h4, h5, h6, _⟩ := h) | (obtain ⟨h1, h2, h3, _⟩ := h) | (obtain ⟨h1, h2, _⟩ := h) | (obtain ⟨h1, _⟩ := h)) | (apply WL.guardF; exact rfl; exact rfl) | (apply WL.gD; exact rfl; exact rfl; all_goals intro _) | (apply WL.gN; exact rfl; exact rfl; all_goals intro _) | (apply WL.gB; exact rfl; exact rfl; all_goals intro _))
        | (show Z _ _ _ _ _; first | apply Z.tail | apply Z.then_normal | apply Z.block_normal | apply Z.then_exit | apply Z.block_exit | apply Z.then_ret | apply Z.block_ret | (apply Z.block_other; exact rfl))
        | (show W _ _ _ _ _ _; first | apply W.seq | apply W.region | apply W.block | apply W.skip | apply W.ret | apply W.exit))
      obtain ⟨w11, rfl⟩ : ∃ x, x = w' := ⟨_, rfl⟩
      have hS2 : Lt.Sep wc.heap.size w11 (hpP wc.heap.size gh as_ cs F tr ct t.length t ap cp A ++ rst wc.heap.size (some ⟨gl, 0, none⟩) k (lk.set ((kk : Nat) : Int).toNat (v - 1)) (some ⟨go, 0, none⟩) k rs rm (plcM c.gates.2.2 k) ou2 cu2 (natI (L ++ [i])) lit rs) := Sep.updRow (i := 4) rfl hU hO (.inl rfl) hS (Ext.refl _) (Below.size hX10)
      rw [Int.toNat_natCast] at hS2
      by_cases hv0 : v - 1 = 0
      · refine W.condKT rfl (dec_true hv0) ?_
        repeat' (first
          | (((show WL _ _ _ (⟨_, .call ⟨.value (.func 83), _, _⟩, _, _, _, _⟩ :: _) _ _ _); apply WL.call; exact rfl; exact rfl; exact rfl; exact rfl; exact heap_Push w11 wc gh F t A _ (pH (L ++ [i]) lk) ⟨hX', ⟨hat, hze, as_, cs, tr, ct, ap, cp, hS2⟩, hO9, hm9⟩ (by omega) kk (by omega) (pH_no hv hv1); rintro v' w12 ⟨rfl, t2, A2, hB12⟩))
          | (show WL _ _ _ _ _ _ _; first | apply WL.nil | (refine WL.au (k := ?_)) | (apply WL.index tOk; exact rfl; exact rfl; exact rfl; exact rfl; exact rfl; exact rfl; exact rfl; exact rfl; assumption; (exact extA); exact rfl; omega; assumption; intro b off h; have hcc := h; first | (obtain ⟨h1, h2, h3, h4, h5, h6, _⟩ := h) | (obtain ⟨h1, h2, h3, _⟩ := h) | (obtain ⟨h1, h2, _⟩ := h) | (obtain ⟨h1, _⟩ := h)) | (apply WL.guardF; exact rfl; exact rfl) | (apply WL.gD; exact rfl; exact rfl; all_goals intro _) | (apply WL.gN; exact rfl; exact rfl; all_goals intro _) | (apply WL.gB; exact rfl; exact rfl; all_goals intro _))
          | (show Z _ _ _ _ _; first | apply Z.tail | apply Z.then_normal | apply Z.block_normal | apply Z.then_exit | apply Z.block_exit | apply Z.then_ret | apply Z.block_ret | (apply Z.block_other; exact rfl))
          | (show W _ _ _ _ _ _; first | apply W.seq | apply W.region | apply W.block | apply W.skip | apply W.ret | apply W.exit))
        exact Z.againW ⟨by omega, _, t2, A2, hB12.mono (fun x => pH_zero hv hv1 hv0 hkL x), hSB2⟩ ⟨rfl, rfl, rfl, rfl, rfl, rfl, rfl, trivial⟩
      · refine W.condKF rfl (dec_false hv0) ?_
        repeat' (first
          | (show WL _ _ _ _ _ _ _; first | apply WL.nil | (refine WL.au (k := ?_)) | (apply WL.index tOk; exact rfl; exact rfl; exact rfl; exact rfl; exact rfl; exact rfl; exact rfl; exact rfl; assumption; (exact extA); exact rfl; omega; assumption; intro b off h; have hcc := h; first | (obtain ⟨h1, h2, h3, h4, h5, h6, _⟩ := h) | (obtain ⟨h1, h2, h3, _⟩ := h) | (obtain ⟨h1, h2, _⟩ := h) | (obtain ⟨h1, _⟩ := h)) | (apply WL.guardF; exact rfl; exact rfl) | (apply WL.gD; exact rfl; exact rfl; all_goals intro _) | (apply WL.gN; exact rfl; exact rfl; all_goals intro _) | (apply WL.gB; exact rfl; exact rfl; all_goals intro _))
          | (show Z _ _ _ _ _; first | apply Z.tail | apply Z.then_normal | apply Z.block_normal | apply Z.then_exit | apply Z.block_exit | apply Z.then_ret | apply Z.block_ret | (apply Z.block_other; exact rfl))
          | (show W _ _ _ _ _ _; first | apply W.seq | apply W.region | apply W.block | apply W.skip | apply W.ret | apply W.exit))
        exact Z.againW ⟨by omega, _, t, A, ⟨hX', ⟨hat, hze, as_, cs, tr, ct, ap, cp, hS2⟩, hO9, fun x => (hm9 x).trans (pH_dec hv hv1 hv0 x)⟩, hSB2⟩ ⟨rfl, rfl, rfl, rfl, rfl, rfl, rfl, trivial⟩
    obtain rfl : m = r.2.2.length := by omega
    rw [List.take_length, hrv] at hSB
    have hSB2 := hSB.next ho hy hiL
    repeat' (first
      | (show WL _ _ _ _ _ _ _; first | apply WL.nil | (refine WL.au (k := ?_)) | (apply WL.index tOk; exact rfl; exact rfl; exact rfl; exact rfl; exact rfl; exact rfl; exact rfl; exact rfl; assumption; (exact extA); exact rfl; omega; assumption; intro b off h; have hcc := h; first | (obtain ⟨h1, h2, h3, h4, h5, h6, _⟩ := h) | (obtain ⟨h1, h2, h3, _⟩ := h) | (obtain ⟨h1, h2, _⟩ := h) | (obtain ⟨h1, _⟩ := h)) | (apply WL.guardF; exact rfl; exact rfl) | (apply WL.gD; exact rfl; exact rfl; all_goals intro _) | (apply WL.gN; exact rfl; exact rfl; all_goals intro _) | (apply WL.gB; exact rfl; exact rfl; all_goals intro _))
      | (show Z _ _ _ _ _; first | apply Z.tail | apply Z.then_normal | apply Z.block_normal | apply Z.then_exit | apply Z.block_exit | apply Z.then_ret | apply Z.block_ret | (apply Z.block_other; exact rfl))
      | (show W _ _ _ _ _ _; first | apply W.seq | apply W.region | apply W.block | apply W.skip | apply W.ret | apply W.exit))
    refine W.condKF rfl (dec_false (by omega)) ?_
    repeat' (first
      | (((show WL _ _ _ (⟨_, .call ⟨.value (.func 84), _, _⟩, _, _, _, _⟩ :: _) _ _ _); apply WL.call; exact rfl; exact rfl; exact rfl; exact rfl; exact heap_PopO w10 wc gh F t A _ (pH (L ++ [i]) lk) hB10 (by omega); rintro v' w11 ⟨nx, rfl, hnx1, hnx2, t1, A1, hB11⟩))
      | (show WL _ _ _ _ _ _ _; first | apply WL.nil | (refine WL.au (k := ?_)) | (apply WL.index tOk; exact rfl; exact rfl; exact rfl; exact rfl; exact rfl; exact rfl; exact rfl; exact rfl; assumption; (exact extA); exact rfl; omega; assumption; intro b off h; have hcc := h; first | (obtain ⟨h1, h2, h3, h4, h5, h6, _⟩ := h) | (obtain ⟨h1, h2, h3, _⟩ := h) | (obtain ⟨h1, h2, _⟩ := h) | (obtain ⟨h1, _⟩ := h)) | (apply WL.guardF; exact rfl; exact rfl) | (apply WL.gD; exact rfl; exact rfl; all_goals intro _) | (apply WL.gN; exact rfl; exact rfl; all_goals intro _) | (apply WL.gB; exact rfl; exact rfl; all_goals intro _))
      | (show Z _ _ _ _ _; first | apply Z.tail | apply Z.then_normal | apply Z.block_normal | apply Z.then_exit | apply Z.block_exit | apply Z.then_ret | apply Z.block_ret | (apply Z.block_other; exact rfl))
      | (show W _ _ _ _ _ _; first | apply W.seq | apply W.region | apply W.block | apply W.skip | apply W.ret | apply W.exit))
    exact Z.again (L ++ [i], nx, ou2, cu2, w11) ⟨hPi, lk, t1, A1, hB11, hSB2, hnx1, hnx2⟩ (by have := hPi.le; simp only [List.length_append, List.length_singleton] at this ⊢; omega) ⟨rfl, rfl, rfl, rfl, rfl, rfl, trivial⟩ rfl
end Go.Proofs.Ytmaekaflpbenmaa
namespace Go.Lt
open Go.RowKit
set_option linter.unusedVariables false

theorem and1_any (a : Int) : IntKind.i64.wrap (BitVec.ofInt IntKind.i64.bits a &&& BitVec.ofInt IntKind.i64.bits 1).toNat = a % 2 := by
  show IntKind.i64.wrap (BitVec.ofInt 64 a &&& BitVec.ofInt 64 1).toNat = a % 2
  have h1 : (BitVec.ofInt 64 a &&& BitVec.ofInt 64 1).toNat = (BitVec.ofInt 64 a).toNat % 2 := by
    rw [BitVec.toNat_and, show (BitVec.ofInt 64 1).toNat = 1 from rfl, Nat.and_one_is_mod]
  have h2 : ((BitVec.ofInt 64 a).toNat : Int) = a % 18446744073709551616 := by
    rw [BitVec.toNat_ofInt]
    have : (0 : Int) ≤ a % ((2 ^ 64 : Nat) : Int) := Int.emod_nonneg _ (by decide)
    rw [Int.toNat_of_nonneg this]
    rfl
  rw [h1, IntWalk.i64_in _ (by omega)]
  omega
section rules
variable {P : Program} {N : Nat} {e : Env} {w : World} {Q : Exit → Act → World → Prop} {K : Act → World → Prop} {C : World → Prop} {ops : List Oper} {l : List Oper} {Kf : Act → Prop}
  {d : Nat} {tt t ty : TypeId} {ps : String} {af : Array Edge} {g : Option (Nat × Bool)} {x y : Operand} {a : Int}
theorem yandA {dd : Option Tmp} (hx : ev e x = some (.int .i64 a)) (hy : ev e y = some (.int .i64 1)) : Yields P e ⟨dd, .binOp .and t x y ty, tt, ps, af, g⟩ (.int .i64 (a % 2)) := by
  have := Yields.bin (P := P) (d := dd) (op := .and) (t := t) (ty := ty) (tt := tt) (ps := ps) (af := af) (g := g) hx hy (v := .int .i64 (IntKind.i64.wrap (BitVec.ofInt IntKind.i64.bits a &&& BitVec.ofInt IntKind.i64.bits 1).toNat)) rfl
  rwa [and1_any a] at this
theorem WL.andA (hg : gate ops e g = some true) (hd : Nat.blt d N = true) (hx : ev e x = some (.int .i64 a)) (hy : ev e y = some (.int .i64 1)) (k : WL P N ops.toArray l ((d, .int .i64 (a % 2)) :: e) w Q) : WL P N ops.toArray (⟨some d, .binOp .and t x y ty, tt, ps, af, g⟩ :: l) e w Q := WL.step hg hd (yandA hx hy).in k
theorem QL.andA (hg : gate ops e g = some true) (hd : Nat.blt d N = true) (hx : ev e x = some (.int .i64 a)) (hy : ev e y = some (.int .i64 1)) (k : QL P N C ops.toArray l ((d, .int .i64 (a % 2)) :: e) Q) : QL P N C ops.toArray (⟨some d, .binOp .and t x y ty, tt, ps, af, g⟩ :: l) e Q := QL.step hg hd (yandA hx hy).in k
theorem FL.andA (hg : gate ops e g = some true) (hd : Nat.blt d N = true) (hx : ev e x = some (.int .i64 a)) (hy : ev e y = some (.int .i64 1)) (k : FL P N ops.toArray C l ((d, .int .i64 (a % 2)) :: e) w Kf) : FL P N ops.toArray C (⟨some d, .binOp .and t x y ty, tt, ps, af, g⟩ :: l) e w Kf := FL.step hg hd (yandA hx hy).in k
end rules
end Go.Lt
namespace Go.Proofs.Ytmaekaflpbenmaa
open Go Go.Lt Go.RowKit
set_option linter.unusedVariables false
set_option linter.unusedSimpArgs false
set_option maxRecDepth 20000

noncomputable abbrev okO (m x : Int) : Bool := dec (1 < x) && dec (x % 2 = 0) && dec (x ≤ 2 * m)
noncomputable abbrev okR (x : T3) : Bool := dec (x.2.2 = 0) || dec (x.2.2 = 1) || dec (x.2.2 = x.1)
theorem all_snoc {α : Type} {l : List α} {k : Nat} {x : α} (p : α → Bool) (h : l[k]? = some x) : (l.take (k + 1)).all p = ((l.take k).all p && p x) := by rw [take_succ' h, List.all_append]; simp
theorem bad_iff {c : CirT} (hm : ¬ BadMax c) : (c.own.all (okO c.max) && c.lat.all okR && c.used.all (inR c.max)) = true ↔ ¬ (BadMax c ∨ BadOwn c ∨ BadUse c ∨ BadRes c) := by
  simp only [Bool.and_eq_true, List.all_eq_true]
  constructor
  · rintro ⟨⟨h1, h2⟩, h3⟩ (h | ⟨x, hx, h⟩ | ⟨x, hx, h⟩ | ⟨x, hx, h⟩)
    · exact hm h
    · have := h1 x hx
      have h4 := of_dec this.1.1; have h5 := of_dec this.1.2; have h6 := of_dec this.2; omega
    · have := h3 x hx
      have h4 := of_dec this.1; have h5 := of_dec this.2; omega
    · have := h2 x hx
      simp only [Bool.or_eq_true] at this
      rcases this with (h4 | h4) | h4 <;> have h5 := of_dec h4 <;> omega
  · intro h
    refine ⟨⟨fun x hx => ?_, fun x hx => ?_⟩, fun x hx => ?_⟩
    · have hn : ¬ (x < 2 ∨ x % 2 = 1 ∨ 2 * c.max < x) := fun hh => h (.inr (.inl ⟨x, hx, hh⟩))
      exact ⟨⟨dec_true (by omega), dec_true (by omega)⟩, dec_true (by omega)⟩
    · have hn : ¬ (x.2.2 ≠ 0 ∧ x.2.2 ≠ 1 ∧ x.2.2 ≠ x.1) := fun hh => h (.inr (.inr (.inr ⟨x, hx, hh⟩)))
      unfold okR
      by_cases q1 : x.2.2 = 0
      · rw [dec_true q1]; rfl
      · by_cases q2 : x.2.2 = 1
        · rw [dec_true q2]; simp
        · rw [dec_true (show x.2.2 = x.1 from Classical.byContradiction fun q3 => hn ⟨q1, q2, q3⟩)]; simp
    · have hn : ¬ (x < 0 ∨ 2 * c.max + 1 < x) := fun hh => h (.inr (.inr (.inl ⟨x, hx, hh⟩)))
      exact ⟨dec_true (by omega), dec_true (by omega)⟩
theorem half_mem {l : List Int} {x : Int} (hl : ∀ y ∈ l, y % 2 = 0 ∧ 2 ≤ y) : x / 2 ∈ (0 :: l.map (· / 2) : List Int) ↔ (x / 2 = 0 ∨ x - x % 2 ∈ l) := by
  constructor
  · intro h
    rcases List.mem_cons.1 h with h | h
    · exact .inl h
    · obtain ⟨y, hy, he⟩ := List.mem_map.1 h
      have := hl y hy
      exact .inr (by rw [show x - x % 2 = y by omega]; exact hy)
  · rintro (h | h)
    · rw [h]; simp
    · exact List.mem_cons_of_mem _ (List.mem_map.2 ⟨_, h, by omega⟩)
theorem none_iff {c : CirT} {m : Int} (hown : ∀ x ∈ c.own, 2 ≤ x ∧ x % 2 = 0 ∧ x ≤ 2 * m) (hused : ∀ x ∈ c.used, 0 ≤ x ∧ x ≤ 2 * m + 1) : (true && c.used.all (inK (0 :: c.own.map (· / 2)))) = true ↔ ¬ NoneC c := by
  rw [Bool.true_and, List.all_eq_true]
  have hev : ∀ y ∈ c.own, y % 2 = 0 ∧ 2 ≤ y := fun y hy => by have := hown y hy; omega
  constructor
  · rintro h ⟨x, hx, h1, h2⟩
    have := of_dec (h x hx)
    rcases (half_mem hev).1 this with h3 | h3
    · omega
    · exact h2 h3
  · intro h x hx
    refine dec_true ((half_mem hev).2 ?_)
    by_cases h1 : 1 < x
    · exact .inr (Classical.byContradiction fun h2 => h ⟨x, hx, h1, h2⟩)
    · have := hused x hx; exact .inl (by omega)
theorem once_of {c : CirT} (h : ¬ Twice c) (hown : ∀ x ∈ c.own, x % 2 = 0) : Once c.gates := by
  have hn : c.own.Nodup := nodup_take fun i x hx hm => h ⟨i, x, hx, hm⟩
  rw [List.nodup_append] at hn
  have hp := List.pairwise_iff_getElem.1 (List.nodup_iff_pairwise_ne.1 hn.2.1)
  intro i j x y hi hj he
  have h1 := hown x.1 (List.mem_append_right _ (List.mem_map.2 ⟨x, List.mem_of_getElem? hi, rfl⟩))
  have h2 := hown y.1 (List.mem_append_right _ (List.mem_map.2 ⟨y, List.mem_of_getElem? hj, rfl⟩))
  have ei : (c.gates.map (·.1))[i]? = some x.1 := by rw [List.getElem?_map, hi]; rfl
  have ej : (c.gates.map (·.1))[j]? = some y.1 := by rw [List.getElem?_map, hj]; rfl
  obtain ⟨li, gi⟩ := List.getElem?_eq_some_iff.1 ei
  obtain ⟨lj, gj⟩ := List.getElem?_eq_some_iff.1 ej
  refine Classical.byContradiction fun hne => ?_
  rcases Nat.lt_or_gt_of_ne hne with h3 | h3
  · exact hp i j li lj h3 (by rw [gi, gj]; omega)
  · exact hp j i lj li h3 (by rw [gi, gj]; omega)
set_option maxHeartbeats 32000000 in
theorem circ_Check (c : Circ) (w : World) (hC : CAt w c) (hz : SzC c.t 100000) :
    Pure Try.prog 29 [c.val] w (.int .i64 (chkC c.t)) := by
  have hcm : c.t.max = c.max := rfl
  have z1 : c.ins.2.2.length ≤ 100000 := hz.1
  have z2 : c.lat.2.2.length ≤ 100000 := hz.2.1
  have z6 : c.gates.2.2.length ≤ 100000 := hz.2.2.2.2.2
  have hol : c.t.own.length ≤ 300000 := by
    show (c.ins.2.2 ++ c.lat.2.2.map (·.1) ++ c.gates.2.2.map (·.1)).length ≤ _
    simp; omega
  by_cases hmax : BadMax c.t
  · rw [chk_5 (.inl hmax)]
    have hmax' : c.max < 0 ∨ 16777216 < c.max := hmax
    refine Spec.of _ Try.func29 rfl Try.ntmps29 (by kernel_rfl) rfl ?_
    repeat' (first
      | (apply WL.box; exact rfl; exact rfl; exact rfl; intro gb w' hb hge hc hx; have hcc := hc; (first | (obtain ⟨h1, h2, h3, _⟩ := hc) | (obtain ⟨h1, h2, _⟩ := hc)); (obtain ⟨y0, _⟩ := hcc; obtain ⟨gc, rfl⟩ : ∃ x, x = gb := ⟨_, rfl⟩; obtain ⟨wc, rfl⟩ : ∃ x, x = w' := ⟨_, rfl⟩; obtain ⟨hxc, rfl⟩ : ∃ x, x = hx := ⟨_, rfl⟩))
      | (show WL _ _ _ _ _ _ _; first | apply WL.nil | (refine WL.au (k := ?_)) | (apply WL.index tOk; exact rfl; exact rfl; exact rfl; exact rfl; exact rfl; exact rfl; exact rfl; exact rfl; assumption; (exact extA); exact rfl; omega; assumption; intro b off h; have hcc := h; first | (obtain ⟨h1, h2, h3, h4, h5, h6, _⟩ := h) | (obtain ⟨h1, h2, h3, _⟩ := h) | (obtain ⟨h1, h2, _⟩ := h) | (obtain ⟨h1, _⟩ := h)) | (apply WL.guardF; exact rfl; exact rfl) | (apply WL.gD; exact rfl; exact rfl; all_goals intro _) | (apply WL.gN; exact rfl; exact rfl; all_goals intro _) | (apply WL.gB; exact rfl; exact rfl; all_goals intro _))
      | (show Z _ _ _ _ _; first | apply Z.tail | apply Z.then_normal | apply Z.block_normal | apply Z.then_exit | apply Z.block_exit | apply Z.then_ret | apply Z.block_ret | (apply Z.block_other; exact rfl))
      | (show W _ _ _ _ _ _; first | apply W.seq | apply W.region | apply W.block | apply W.skip | apply W.ret | apply W.exit | (apply W.condT; exact rfl) | (apply W.condF; exact rfl) | (apply W.condD; exact rfl; all_goals intro _) | (apply W.condN; exact rfl; all_goals intro _) | (apply W.condB; exact rfl; all_goals intro _)))
    all_goals first
      | exact Z.body1 Try.results29 rfl fun m => ⟨rfl, Ext.at (by (exact extA)) m⟩
      | (exfalso; omega)
      | skip
  have hm0 : ¬ (c.max < 0 ∨ 16777216 < c.max) := hmax
  refine Spec.of _ Try.func29 rfl Try.ntmps29 (by kernel_rfl) rfl ?_
  repeat' (first
    | (apply WL.box; exact rfl; exact rfl; exact rfl; intro gb w' hb hge hc hx; have hcc := hc; (first | (obtain ⟨h1, h2, h3, _⟩ := hc) | (obtain ⟨h1, h2, _⟩ := hc)); (have hcells := hcc; obtain ⟨y0, y1, y2, y3, y4, y5, y6, _⟩ := hcc; obtain ⟨gc, rfl⟩ : ∃ x, x = gb := ⟨_, rfl⟩; obtain ⟨wc, rfl⟩ : ∃ x, x = w' := ⟨_, rfl⟩; obtain ⟨hxc, rfl⟩ : ∃ x, x = hx := ⟨_, rfl⟩))
    | (apply WL.gT; exact rfl; exact rfl; (focus (exact dec_false (by omega); done)))
    | (apply WL.gF; exact rfl; exact rfl; (focus (exact dec_false (by omega); done)))
    | (show WL _ _ _ _ _ _ _; first | apply WL.nil | (refine WL.au (k := ?_)) | (apply WL.index tOk; exact rfl; exact rfl; exact rfl; exact rfl; exact rfl; exact rfl; exact rfl; exact rfl; assumption; (exact extA); exact rfl; omega; assumption; intro b off h; have hcc := h; first | (obtain ⟨h1, h2, h3, h4, h5, h6, _⟩ := h) | (obtain ⟨h1, h2, h3, _⟩ := h) | (obtain ⟨h1, h2, _⟩ := h) | (obtain ⟨h1, _⟩ := h)) | (apply WL.guardF; exact rfl; exact rfl) | (apply WL.gD; exact rfl; exact rfl; all_goals intro _) | (apply WL.gN; exact rfl; exact rfl; all_goals intro _) | (apply WL.gB; exact rfl; exact rfl; all_goals intro _))
    | (show Z _ _ _ _ _; first | apply Z.tail | apply Z.then_normal | apply Z.block_normal | apply Z.then_exit | apply Z.block_exit | apply Z.then_ret | apply Z.block_ret | (apply Z.block_other; exact rfl))
    | (show W _ _ _ _ _ _; first | apply W.seq | apply W.region | apply W.block | apply W.skip | apply W.ret | apply W.exit))
  have hgc := heap_lt hb
  refine W.condKF rfl (dec_false (by omega)) ?_
  repeat' (first
    | ((show WL _ _ _ (⟨_, .call ⟨.value (.func 73), _, _⟩, _, _, _, _⟩ :: _) _ _ _); apply WL.call; exact rfl; exact rfl; exact rfl; exact rfl; exact circ_defined c _ (hC.ext (by (exact extA))) hz; rintro v' w' ⟨hx, a', cap', rfl, hO⟩; (obtain ⟨hOo, rfl⟩ : ∃ x, x = hO := ⟨_, rfl⟩; obtain ⟨hxo, rfl⟩ : ∃ x, x = hx := ⟨_, rfl⟩; obtain ⟨wo, rfl⟩ : ∃ x, x = w' := ⟨_, rfl⟩; obtain ⟨ao, rfl⟩ : ∃ x, x = a' := ⟨_, rfl⟩; obtain ⟨co, rfl⟩ : ∃ x, x = cap' := ⟨_, rfl⟩))
    | (apply WL.alloc tOk; exact rfl; exact rfl; exact rfl; intro gb w' hb hge hx; (obtain ⟨g3, rfl⟩ : ∃ x, x = gb := ⟨_, rfl⟩; obtain ⟨w3, rfl⟩ : ∃ x, x = w' := ⟨_, rfl⟩; obtain ⟨hx3, rfl⟩ : ∃ x, x = hx := ⟨_, rfl⟩; obtain ⟨hb3, rfl⟩ : ∃ x, x = hb := ⟨_, rfl⟩; obtain ⟨hge3, rfl⟩ : ∃ x, x = hge := ⟨_, rfl⟩))
    | (apply WL.storeB (w0 := wo) tOk; exact rfl; exact rfl; exact rfl; exact rfl; assumption; (exact extA); exact rfl; exact rfl; exact rfl; (exact extA); (first | assumption | omega | (focus (apply Nat.le_trans; rotate_left; assumption; exact Below.size (by (exact extA)); done))); intro w' hb hc hX' hU; have hcc := hc; obtain ⟨h1, h2, _⟩ := hc; (obtain ⟨w4, rfl⟩ : ∃ x, x = w' := ⟨_, rfl⟩; obtain ⟨hb4, rfl⟩ : ∃ x, x = hb := ⟨_, rfl⟩; obtain ⟨hU4, rfl⟩ : ∃ x, x = hU := ⟨_, rfl⟩; obtain ⟨hX4, rfl⟩ : ∃ x, x = hX' := ⟨_, rfl⟩))
    | (show WL _ _ _ _ _ _ _; first | apply WL.nil | (refine WL.au (k := ?_)) | (apply WL.index tOk; exact rfl; exact rfl; exact rfl; exact rfl; exact rfl; exact rfl; exact rfl; exact rfl; assumption; (exact extA); exact rfl; omega; assumption; intro b off h; have hcc := h; first | (obtain ⟨h1, h2, h3, h4, h5, h6, _⟩ := h) | (obtain ⟨h1, h2, h3, _⟩ := h) | (obtain ⟨h1, h2, _⟩ := h) | (obtain ⟨h1, _⟩ := h)) | (apply WL.guardF; exact rfl; exact rfl) | (apply WL.gD; exact rfl; exact rfl; all_goals intro _) | (apply WL.gN; exact rfl; exact rfl; all_goals intro _) | (apply WL.gB; exact rfl; exact rfl; all_goals intro _))
    | (show Z _ _ _ _ _; first | apply Z.tail | apply Z.then_normal | apply Z.block_normal | apply Z.then_exit | apply Z.block_exit | apply Z.then_ret | apply Z.block_ret | (apply Z.block_other; exact rfl))
    | (show W _ _ _ _ _ _; first | apply W.seq | apply W.region | apply W.block | apply W.skip | apply W.ret | apply W.exit))
  have Ro := Own.row encI_ok hOo
  have hXo : Ext wc wo := hxo
  have hlb : wo.heap.size ≤ g3 := hge3
  refine W.loopW c.t.own.length (fun k w' => k ≤ c.t.own.length ∧ Ext wo w' ∧ w'.heap[g3]? = some (.cells (okV ((c.t.own.take k).all (okO c.max))) 4 (0, 0))) (fun k => [(1, .pointer (some ⟨gc, 0, none⟩)), (3, .pointer (some ⟨g3, 0, none⟩)), (4, .slice ao c.t.own.length co), (22, .slice ao c.t.own.length co), (23, .int .i64 (c.t.own.length : Nat)), (24, .int .i64 k)]) ⟨Nat.zero_le _, hX4, hb4⟩ (fun k w' h => h.1) ⟨rfl, rfl, rfl, rfl, rfl, rfl, trivial⟩ ?_
  clear hb4 hX4 hU4 hcc h1 hb3 hx3
  rintro k w5 ⟨hk, hX5, hc5⟩
  have hcb := (cells_heap hc5).1
  by_cases hlt : k < c.t.own.length
  · obtain ⟨x, hx⟩ := getI c.t.own hlt
    have hso := all_snoc (okO c.max) hx
    obtain ⟨bb, hbb⟩ : ∃ bb, (c.t.own.take k).all (okO c.max) = bb := ⟨_, rfl⟩
    rw [hbb] at hcb hc5 hso
    cases bb with
    | false =>
      repeat' (first
        | (apply WL.gT; exact rfl; exact rfl; (focus (exact dec_true (by omega); done)))
        | (apply WL.gF; exact rfl; exact rfl; (focus (exact dec_true (by omega); done)))
        | (apply W.condKT; exact rfl; (focus (exact dec_true (by omega); done)))
        | (apply W.condKF; exact rfl; (focus (exact dec_true (by omega); done)))
        | (apply WL.storeB (w0 := wo) tOk; exact rfl; exact rfl; exact rfl; exact rfl; assumption; (exact extA); exact rfl; exact rfl; exact rfl; (exact extA); (first | assumption | omega | (focus (apply Nat.le_trans; rotate_left; assumption; exact Below.size (by (exact extA)); done))); intro w' hb hc hX' hU; have hcc := hc; obtain ⟨h1, h2, _⟩ := hc)
        | (show WL _ _ _ _ _ _ _; first | apply WL.nil | (refine WL.au (k := ?_)) | (apply WL.index tOk; exact rfl; exact rfl; exact rfl; exact rfl; exact rfl; exact rfl; exact rfl; exact rfl; assumption; (exact extA); exact rfl; omega; assumption; intro b off h; have hcc := h; first | (obtain ⟨h1, h2, h3, h4, h5, h6, _⟩ := h) | (obtain ⟨h1, h2, h3, _⟩ := h) | (obtain ⟨h1, h2, _⟩ := h) | (obtain ⟨h1, _⟩ := h)) | (apply WL.guardF; exact rfl; exact rfl) | (apply WL.gD; exact rfl; exact rfl; all_goals intro _) | (apply WL.gN; exact rfl; exact rfl; all_goals intro _) | (apply WL.gB; exact rfl; exact rfl; all_goals intro _))
        | (show Z _ _ _ _ _; first | apply Z.tail | apply Z.then_normal | apply Z.block_normal | apply Z.then_exit | apply Z.block_exit | apply Z.then_ret | apply Z.block_ret | (apply Z.block_other; exact rfl))
        | (show W _ _ _ _ _ _; first | apply W.seq | apply W.region | apply W.block | apply W.skip | apply W.ret | apply W.exit | (apply W.condT; exact rfl) | (apply W.condF; exact rfl) | (apply W.condD; exact rfl; all_goals intro _) | (apply W.condN; exact rfl; all_goals intro _) | (apply W.condB; exact rfl; all_goals intro _)))
      exact Z.againW ⟨by omega, (by (exact extA)), by rw [hso]; exact hb⟩ ⟨rfl, rfl, rfl, rfl, rfl, rfl, trivial⟩
    | true =>
      have hlt' : ((k : Nat) : Int) < (c.t.own.length : Int) := by omega
      by_cases f1 : 1 < x
      rotate_left
      · skip
        have e : okO c.max x = false := by unfold okO; rw [dec_false f1]; rfl
        rw [e] at hso
        repeat' (first
          | (apply WL.gT; exact rfl; exact rfl; (focus (first | exact dec_true hlt' | exact dec_false f1; done)))
          | (apply WL.gF; exact rfl; exact rfl; (focus (first | exact dec_true hlt' | exact dec_false f1; done)))
          | (apply W.condKT; exact rfl; (focus (first | exact dec_true hlt' | exact dec_false f1; done)))
          | (apply W.condKF; exact rfl; (focus (first | exact dec_true hlt' | exact dec_false f1; done)))
          | (apply WL.storeB (w0 := wo) tOk; exact rfl; exact rfl; exact rfl; exact rfl; assumption; (exact extA); exact rfl; exact rfl; exact rfl; (exact extA); (first | assumption | omega | (focus (apply Nat.le_trans; rotate_left; assumption; exact Below.size (by (exact extA)); done))); intro w' hb hc hX' hU; have hcc := hc; obtain ⟨h1, h2, _⟩ := hc)
          | (show WL _ _ _ _ _ _ _; first | apply WL.nil | (refine WL.au (k := ?_)) | (apply WL.index tOk; exact rfl; exact rfl; exact rfl; exact rfl; exact rfl; exact rfl; exact rfl; exact rfl; assumption; (exact extA); exact rfl; omega; assumption; intro b off h; have hcc := h; first | (obtain ⟨h1, h2, h3, h4, h5, h6, _⟩ := h) | (obtain ⟨h1, h2, h3, _⟩ := h) | (obtain ⟨h1, h2, _⟩ := h) | (obtain ⟨h1, _⟩ := h)) | (apply WL.guardF; exact rfl; exact rfl) | (apply WL.gD; exact rfl; exact rfl; all_goals intro _) | (apply WL.gN; exact rfl; exact rfl; all_goals intro _) | (apply WL.gB; exact rfl; exact rfl; all_goals intro _))
          | (show Z _ _ _ _ _; first | apply Z.tail | apply Z.then_normal | apply Z.block_normal | apply Z.then_exit | apply Z.block_exit | apply Z.then_ret | apply Z.block_ret | (apply Z.block_other; exact rfl))
          | (show W _ _ _ _ _ _; first | apply W.seq | apply W.region | apply W.block | apply W.skip | apply W.ret | apply W.exit | (apply W.condT; exact rfl) | (apply W.condF; exact rfl) | (apply W.condD; exact rfl; all_goals intro _) | (apply W.condN; exact rfl; all_goals intro _) | (apply W.condB; exact rfl; all_goals intro _)))
        exact Z.againW ⟨by omega, (by (exact extA)), by rw [hso]; exact hb⟩ ⟨rfl, rfl, rfl, rfl, rfl, rfl, trivial⟩
      by_cases f2 : x % 2 = 0
      rotate_left
      · skip
        have e : okO c.max x = false := by unfold okO; rw [dec_false f2]; simp
        rw [e] at hso
        repeat' (first
          | (apply WL.gT; exact rfl; exact rfl; (focus (first | exact dec_true hlt' | exact dec_true f1 | exact dec_false f2; done)))
          | (apply WL.gF; exact rfl; exact rfl; (focus (first | exact dec_true hlt' | exact dec_true f1 | exact dec_false f2; done)))
          | (apply W.condKT; exact rfl; (focus (first | exact dec_true hlt' | exact dec_true f1 | exact dec_false f2; done)))
          | (apply W.condKF; exact rfl; (focus (first | exact dec_true hlt' | exact dec_true f1 | exact dec_false f2; done)))
          | (apply WL.andA; exact rfl; exact rfl; exact rfl; exact rfl)
          | (apply WL.storeB (w0 := wo) tOk; exact rfl; exact rfl; exact rfl; exact rfl; assumption; (exact extA); exact rfl; exact rfl; exact rfl; (exact extA); (first | assumption | omega | (focus (apply Nat.le_trans; rotate_left; assumption; exact Below.size (by (exact extA)); done))); intro w' hb hc hX' hU; have hcc := hc; obtain ⟨h1, h2, _⟩ := hc)
          | (show WL _ _ _ _ _ _ _; first | apply WL.nil | (refine WL.au (k := ?_)) | (apply WL.index tOk; exact rfl; exact rfl; exact rfl; exact rfl; exact rfl; exact rfl; exact rfl; exact rfl; assumption; (exact extA); exact rfl; omega; assumption; intro b off h; have hcc := h; first | (obtain ⟨h1, h2, h3, h4, h5, h6, _⟩ := h) | (obtain ⟨h1, h2, h3, _⟩ := h) | (obtain ⟨h1, h2, _⟩ := h) | (obtain ⟨h1, _⟩ := h)) | (apply WL.guardF; exact rfl; exact rfl) | (apply WL.gD; exact rfl; exact rfl; all_goals intro _) | (apply WL.gN; exact rfl; exact rfl; all_goals intro _) | (apply WL.gB; exact rfl; exact rfl; all_goals intro _))
          | (show Z _ _ _ _ _; first | apply Z.tail | apply Z.then_normal | apply Z.block_normal | apply Z.then_exit | apply Z.block_exit | apply Z.then_ret | apply Z.block_ret | (apply Z.block_other; exact rfl))
          | (show W _ _ _ _ _ _; first | apply W.seq | apply W.region | apply W.block | apply W.skip | apply W.ret | apply W.exit | (apply W.condT; exact rfl) | (apply W.condF; exact rfl) | (apply W.condD; exact rfl; all_goals intro _) | (apply W.condN; exact rfl; all_goals intro _) | (apply W.condB; exact rfl; all_goals intro _)))
        exact Z.againW ⟨by omega, (by (exact extA)), by rw [hso]; exact hb⟩ ⟨rfl, rfl, rfl, rfl, rfl, rfl, trivial⟩
      have e : okO c.max x = dec (x ≤ 2 * c.max) := by unfold okO; rw [dec_true f1, dec_true f2]; rfl
      rw [e] at hso
      repeat' (first
        | (apply WL.gT; exact rfl; exact rfl; (focus (first | exact dec_true hlt' | exact dec_true f1 | exact dec_true f2; done)))
        | (apply WL.gF; exact rfl; exact rfl; (focus (first | exact dec_true hlt' | exact dec_true f1 | exact dec_true f2; done)))
        | (apply W.condKT; exact rfl; (focus (first | exact dec_true hlt' | exact dec_true f1 | exact dec_true f2; done)))
        | (apply W.condKF; exact rfl; (focus (first | exact dec_true hlt' | exact dec_true f1 | exact dec_true f2; done)))
        | (apply WL.andA; exact rfl; exact rfl; exact rfl; exact rfl)
        | (apply WL.storeB (w0 := wo) tOk; exact rfl; exact rfl; exact rfl; exact rfl; assumption; (exact extA); exact rfl; exact rfl; exact rfl; (exact extA); (first | assumption | omega | (focus (apply Nat.le_trans; rotate_left; assumption; exact Below.size (by (exact extA)); done))); intro w' hb hc hX' hU; have hcc := hc; obtain ⟨h1, h2, _⟩ := hc)
        | (show WL _ _ _ _ _ _ _; first | apply WL.nil | (refine WL.au (k := ?_)) | (apply WL.index tOk; exact rfl; exact rfl; exact rfl; exact rfl; exact rfl; exact rfl; exact rfl; exact rfl; assumption; (exact extA); exact rfl; omega; assumption; intro b off h; have hcc := h; first | (obtain ⟨h1, h2, h3, h4, h5, h6, _⟩ := h) | (obtain ⟨h1, h2, h3, _⟩ := h) | (obtain ⟨h1, h2, _⟩ := h) | (obtain ⟨h1, _⟩ := h)) | (apply WL.guardF; exact rfl; exact rfl) | (apply WL.gD; exact rfl; exact rfl; all_goals intro _) | (apply WL.gN; exact rfl; exact rfl; all_goals intro _) | (apply WL.gB; exact rfl; exact rfl; all_goals intro _))
        | (show Z _ _ _ _ _; first | apply Z.tail | apply Z.then_normal | apply Z.block_normal | apply Z.then_exit | apply Z.block_exit | apply Z.then_ret | apply Z.block_ret | (apply Z.block_other; exact rfl))
        | (show W _ _ _ _ _ _; first | apply W.seq | apply W.region | apply W.block | apply W.skip | apply W.ret | apply W.exit | (apply W.condT; exact rfl) | (apply W.condF; exact rfl) | (apply W.condD; exact rfl; all_goals intro _) | (apply W.condN; exact rfl; all_goals intro _) | (apply W.condB; exact rfl; all_goals intro _)))
      exact Z.againW ⟨by omega, (by (exact extA)), by rw [hso]; exact hb⟩ ⟨rfl, rfl, rfl, rfl, rfl, rfl, trivial⟩
  obtain rfl : k = c.t.own.length := by omega
  rw [List.take_length] at hc5
  obtain ⟨b1, hb1⟩ : ∃ b1, c.t.own.all (okO c.max) = b1 := ⟨_, rfl⟩
  rw [hb1] at hc5
  have Rl := hC.lat.row.ext hxc
  repeat' (first
    | (apply WL.gT; exact rfl; exact rfl; (focus (exact dec_false (by omega); done)))
    | (apply WL.gF; exact rfl; exact rfl; (focus (exact dec_false (by omega); done)))
    | (apply W.condKT; exact rfl; (focus (exact dec_false (by omega); done)))
    | (apply W.condKF; exact rfl; (focus (exact dec_false (by omega); done)))
    | (show WL _ _ _ _ _ _ _; first | apply WL.nil | (refine WL.au (k := ?_)) | (apply WL.index tOk; exact rfl; exact rfl; exact rfl; exact rfl; exact rfl; exact rfl; exact rfl; exact rfl; assumption; (exact extA); exact rfl; omega; assumption; intro b off h; have hcc := h; first | (obtain ⟨h1, h2, h3, h4, h5, h6, _⟩ := h) | (obtain ⟨h1, h2, h3, _⟩ := h) | (obtain ⟨h1, h2, _⟩ := h) | (obtain ⟨h1, _⟩ := h)) | (apply WL.guardF; exact rfl; exact rfl) | (apply WL.gD; exact rfl; exact rfl; all_goals intro _) | (apply WL.gN; exact rfl; exact rfl; all_goals intro _) | (apply WL.gB; exact rfl; exact rfl; all_goals intro _))
    | (show Z _ _ _ _ _; first | apply Z.tail | apply Z.then_normal | apply Z.block_normal | apply Z.then_exit | apply Z.block_exit | apply Z.then_ret | apply Z.block_ret | (apply Z.block_other; exact rfl))
    | (show W _ _ _ _ _ _; first | apply W.seq | apply W.region | apply W.block | apply W.skip | apply W.ret | apply W.exit | (apply W.condT; exact rfl) | (apply W.condF; exact rfl) | (apply W.condD; exact rfl; all_goals intro _) | (apply W.condN; exact rfl; all_goals intro _) | (apply W.condB; exact rfl; all_goals intro _)))
  clear hcb
  have hX5' := hX5
  refine W.loopW c.lat.2.2.length (fun k w' => k ≤ c.lat.2.2.length ∧ Ext wo w' ∧ w'.heap[g3]? = some (.cells (okV (b1 && (c.lat.2.2.take k).all okR)) 4 (0, 0))) (fun k => [(1, .pointer (some ⟨gc, 0, none⟩)), (3, .pointer (some ⟨g3, 0, none⟩)), (4, .slice ao c.t.own.length co), (47, rowVal c.lat), (48, .int .i64 (c.lat.2.2.length : Nat)), (49, .int .i64 k)]) ⟨Nat.zero_le _, hX5, by rw [List.take_zero]; simpa using hc5⟩ (fun k w' h => h.1) ⟨rfl, rfl, rfl, rfl, rfl, rfl, trivial⟩ ?_
  clear hc5 hX5 hX5'
  rintro k w5 ⟨hk, hX5, hc5⟩
  have hcb := (cells_heap hc5).1
  by_cases hlt : k < c.lat.2.2.length
  · obtain ⟨x, hx⟩ := getI c.lat.2.2 hlt
    have hso := all_snoc okR hx
    have hlt' : ((k : Nat) : Int) < (c.lat.2.2.length : Int) := by omega
    obtain ⟨bb, hbb⟩ : ∃ bb, (b1 && (c.lat.2.2.take k).all okR) = bb := ⟨_, rfl⟩
    have hso' : (b1 && (c.lat.2.2.take (k + 1)).all okR) = (bb && okR x) := by rw [hso, ← hbb, Bool.and_assoc]
    rw [hbb] at hcb hc5
    clear hso
    repeat' (first
      | (show WL _ _ _ _ _ _ _; first | apply WL.nil | (refine WL.au (k := ?_)) | (apply WL.index tOk; exact rfl; exact rfl; exact rfl; exact rfl; exact rfl; exact rfl; exact rfl; exact rfl; assumption; (exact extA); exact rfl; omega; assumption; intro b off h; have hcc := h; first | (obtain ⟨h1, h2, h3, h4, h5, h6, _⟩ := h) | (obtain ⟨h1, h2, h3, _⟩ := h) | (obtain ⟨h1, h2, _⟩ := h) | (obtain ⟨h1, _⟩ := h)) | (apply WL.guardF; exact rfl; exact rfl) | (apply WL.gD; exact rfl; exact rfl; all_goals intro _) | (apply WL.gN; exact rfl; exact rfl; all_goals intro _) | (apply WL.gB; exact rfl; exact rfl; all_goals intro _))
      | (show Z _ _ _ _ _; first | apply Z.tail | apply Z.then_normal | apply Z.block_normal | apply Z.then_exit | apply Z.block_exit | apply Z.then_ret | apply Z.block_ret | (apply Z.block_other; exact rfl))
      | (show W _ _ _ _ _ _; first | apply W.seq | apply W.region | apply W.block | apply W.skip | apply W.ret | apply W.exit))
    refine W.condKT rfl (dec_true hlt') ?_
    repeat' (first
      | (apply WL.alloc tOk; exact rfl; exact rfl; exact rfl; intro gb w' hb hge hx; (obtain ⟨g8, rfl⟩ : ∃ x, x = gb := ⟨_, rfl⟩; obtain ⟨w6, rfl⟩ : ∃ x, x = w' := ⟨_, rfl⟩; obtain ⟨hx6, rfl⟩ : ∃ x, x = hx := ⟨_, rfl⟩; obtain ⟨hb6, rfl⟩ : ∃ x, x = hb := ⟨_, rfl⟩; obtain ⟨hge6, rfl⟩ : ∃ x, x = hge := ⟨_, rfl⟩))
      | (apply WL.storeB (w0 := w5) tOk; exact rfl; exact rfl; exact rfl; exact rfl; assumption; (exact extA); exact rfl; exact rfl; exact rfl; (exact extA); (first | assumption | omega | (focus (apply Nat.le_trans; rotate_left; assumption; exact Below.size (by (exact extA)); done))); intro w' hb hc hX' hU; have hcc := hc; obtain ⟨h1, h2, _⟩ := hc; (obtain ⟨w7, rfl⟩ : ∃ x, x = w' := ⟨_, rfl⟩; obtain ⟨hX7, rfl⟩ : ∃ x, x = hX' := ⟨_, rfl⟩; obtain ⟨hb7, rfl⟩ : ∃ x, x = hb := ⟨_, rfl⟩; have hC7 := cells_heap hb7; obtain ⟨i0, i1, i2, _⟩ := hC7))
      | (show WL _ _ _ _ _ _ _; first | apply WL.nil | (refine WL.au (k := ?_)) | (apply WL.index tOk; exact rfl; exact rfl; exact rfl; exact rfl; exact rfl; exact rfl; exact rfl; exact rfl; assumption; (exact extA); exact rfl; omega; assumption; intro b off h; have hcc := h; first | (obtain ⟨h1, h2, h3, h4, h5, h6, _⟩ := h) | (obtain ⟨h1, h2, h3, _⟩ := h) | (obtain ⟨h1, h2, _⟩ := h) | (obtain ⟨h1, _⟩ := h)) | (apply WL.guardF; exact rfl; exact rfl) | (apply WL.gD; exact rfl; exact rfl; all_goals intro _) | (apply WL.gN; exact rfl; exact rfl; all_goals intro _) | (apply WL.gB; exact rfl; exact rfl; all_goals intro _))
      | (show Z _ _ _ _ _; first | apply Z.tail | apply Z.then_normal | apply Z.block_normal | apply Z.then_exit | apply Z.block_exit | apply Z.then_ret | apply Z.block_ret | (apply Z.block_other; exact rfl))
      | (show W _ _ _ _ _ _; first | apply W.seq | apply W.region | apply W.block | apply W.skip | apply W.ret | apply W.exit))
    all_goals
      repeat' (first
        | (apply WL.storeB (w0 := wo) tOk; exact rfl; exact rfl; exact rfl; exact rfl; assumption; (exact extA); exact rfl; exact rfl; exact rfl; (exact extA); (first | assumption | omega | (focus (apply Nat.le_trans; rotate_left; assumption; exact Below.size (by (exact extA)); done))); intro w' hb hc hX' hU; have hcc := hc; obtain ⟨h1, h2, _⟩ := hc)
        | (show WL _ _ _ _ _ _ _; first | apply WL.nil | (refine WL.au (k := ?_)) | (apply WL.index tOk; exact rfl; exact rfl; exact rfl; exact rfl; exact rfl; exact rfl; exact rfl; exact rfl; assumption; (exact extA); exact rfl; omega; assumption; intro b off h; have hcc := h; first | (obtain ⟨h1, h2, h3, h4, h5, h6, _⟩ := h) | (obtain ⟨h1, h2, h3, _⟩ := h) | (obtain ⟨h1, h2, _⟩ := h) | (obtain ⟨h1, _⟩ := h)) | (apply WL.guardF; exact rfl; exact rfl) | (apply WL.gD; exact rfl; exact rfl; all_goals intro _) | (apply WL.gN; exact rfl; exact rfl; all_goals intro _) | (apply WL.gB; exact rfl; exact rfl; all_goals intro _))
        | (show Z _ _ _ _ _; first | apply Z.tail | apply Z.then_normal | apply Z.block_normal | apply Z.then_exit | apply Z.block_exit | apply Z.then_ret | apply Z.block_ret | (apply Z.block_other; exact rfl))
        | (show W _ _ _ _ _ _; first | apply W.seq | apply W.region | apply W.block | apply W.skip | apply W.ret | apply W.exit))
      refine Z.againW ⟨by omega, (by (exact extA)), ?_⟩ ⟨rfl, rfl, rfl, rfl, rfl, rfl, trivial⟩
      rw [hso']
      clear hcells hcc hcb hc5 hC hz
      first
        | (rw [show (bb && okR x) = false by simp [okR, dec_true, dec_false, *]]; exact hb)
        | (rw [show (bb && okR x) = true by simp [okR, dec_true, dec_false, *]]; exact hb)
        | (rw [show (bb && okR x) = dec (x.2.2 = x.1) by simp [okR, dec_true, dec_false, *]]; exact hb)
  obtain rfl : k = c.lat.2.2.length := by omega
  rw [List.take_length] at hc5
  repeat' (first
    | (show WL _ _ _ _ _ _ _; first | apply WL.nil | (refine WL.au (k := ?_)) | (apply WL.index tOk; exact rfl; exact rfl; exact rfl; exact rfl; exact rfl; exact rfl; exact rfl; exact rfl; assumption; (exact extA); exact rfl; omega; assumption; intro b off h; have hcc := h; first | (obtain ⟨h1, h2, h3, h4, h5, h6, _⟩ := h) | (obtain ⟨h1, h2, h3, _⟩ := h) | (obtain ⟨h1, h2, _⟩ := h) | (obtain ⟨h1, _⟩ := h)) | (apply WL.guardF; exact rfl; exact rfl) | (apply WL.gD; exact rfl; exact rfl; all_goals intro _) | (apply WL.gN; exact rfl; exact rfl; all_goals intro _) | (apply WL.gB; exact rfl; exact rfl; all_goals intro _))
    | (show Z _ _ _ _ _; first | apply Z.tail | apply Z.then_normal | apply Z.block_normal | apply Z.then_exit | apply Z.block_exit | apply Z.then_ret | apply Z.block_ret | (apply Z.block_other; exact rfl))
    | (show W _ _ _ _ _ _; first | apply W.seq | apply W.region | apply W.block | apply W.skip | apply W.ret | apply W.exit))
  refine W.condKF rfl (dec_false (by omega)) ?_
  have hX5w : Ext wc w5 := (by (exact extA))
  have huse := circ_uses c wc w5 75 g3 [.pointer (some ⟨g3, 0, none⟩), .pointer (some ⟨gc, 0, none⟩)] (inR c.max) (b1 && c.lat.2.2.all okR) (hC.ext hxc) hz hX5w (Nat.le_trans (Below.size hXo) hlb) hc5 (fun x hx w9 b hbt hc9 => circ_Check1 w9 g3 gc c.max x b hc9 (But.cell hbt (Ext.cell hX5w y0) (fun he => by have h9 := Option.some.inj he; have h8 := Below.size hXo; simp only at h9; omega)) (by omega))
  repeat' (first
    | (((show WL _ _ _ (⟨_, .call ⟨.value (.func 74), _, _⟩, _, _, _, _⟩ :: _) _ _ _); apply WL.call; exact rfl; exact rfl; exact rfl; exact rfl; exact huse; rintro v' w6 ⟨rfl, hb6, hc6⟩))
    | (show WL _ _ _ _ _ _ _; first | apply WL.nil | (refine WL.au (k := ?_)) | (apply WL.index tOk; exact rfl; exact rfl; exact rfl; exact rfl; exact rfl; exact rfl; exact rfl; exact rfl; assumption; (exact extA); exact rfl; omega; assumption; intro b off h; have hcc := h; first | (obtain ⟨h1, h2, h3, h4, h5, h6, _⟩ := h) | (obtain ⟨h1, h2, h3, _⟩ := h) | (obtain ⟨h1, h2, _⟩ := h) | (obtain ⟨h1, _⟩ := h)) | (apply WL.guardF; exact rfl; exact rfl) | (apply WL.gD; exact rfl; exact rfl; all_goals intro _) | (apply WL.gN; exact rfl; exact rfl; all_goals intro _) | (apply WL.gB; exact rfl; exact rfl; all_goals intro _))
    | (show Z _ _ _ _ _; first | apply Z.tail | apply Z.then_normal | apply Z.block_normal | apply Z.then_exit | apply Z.block_exit | apply Z.then_ret | apply Z.block_ret | (apply Z.block_other; exact rfl))
    | (show W _ _ _ _ _ _; first | apply W.seq | apply W.region | apply W.block | apply W.skip | apply W.ret | apply W.exit))
  have hU6 : Upd g3 (some ⟨g3, 0, none⟩) w5 w6 := ⟨hb6, fun k hk => by have h9 : g3 = k := Option.some.inj hk; omega⟩
  have hX6 : Ext wo w6 := hU6.ext hX5 hlb
  have hcb := (cells_heap hc6).1
  have hbad := bad_iff (c := c.t) hmax
  rw [show c.t.own.all (okO c.t.max) = b1 from hb1] at hbad
  obtain ⟨b2, hb2⟩ : ∃ b2, (b1 && c.lat.2.2.all okR && c.t.used.all (inR c.max)) = b2 := ⟨_, rfl⟩
  rw [hb2] at hc6 hcb
  have hbad2 : b2 = true ↔ ¬ (BadMax c.t ∨ BadOwn c.t ∨ BadUse c.t ∨ BadRes c.t) := by rw [← hb2]; exact hbad
  clear hbad huse
  cases b2 with
  | false =>
    have h5 : BadMax c.t ∨ BadOwn c.t ∨ BadUse c.t ∨ BadRes c.t := Classical.byContradiction fun h => by have := hbad2.2 h; cases this
    repeat' (first
      | (show WL _ _ _ _ _ _ _; first | apply WL.nil | (refine WL.au (k := ?_)) | (apply WL.index tOk; exact rfl; exact rfl; exact rfl; exact rfl; exact rfl; exact rfl; exact rfl; exact rfl; assumption; (exact extA); exact rfl; omega; assumption; intro b off h; have hcc := h; first | (obtain ⟨h1, h2, h3, h4, h5, h6, _⟩ := h) | (obtain ⟨h1, h2, h3, _⟩ := h) | (obtain ⟨h1, h2, _⟩ := h) | (obtain ⟨h1, _⟩ := h)) | (apply WL.guardF; exact rfl; exact rfl) | (apply WL.gD; exact rfl; exact rfl; all_goals intro _) | (apply WL.gN; exact rfl; exact rfl; all_goals intro _) | (apply WL.gB; exact rfl; exact rfl; all_goals intro _))
      | (show Z _ _ _ _ _; first | apply Z.tail | apply Z.then_normal | apply Z.block_normal | apply Z.then_exit | apply Z.block_exit | apply Z.then_ret | apply Z.block_ret | (apply Z.block_other; exact rfl))
      | (show W _ _ _ _ _ _; first | apply W.seq | apply W.region | apply W.block | apply W.skip | apply W.ret | apply W.exit))
    refine W.condKT rfl rfl ?_
    repeat' (first
      | (show WL _ _ _ _ _ _ _; first | apply WL.nil | (refine WL.au (k := ?_)) | (apply WL.index tOk; exact rfl; exact rfl; exact rfl; exact rfl; exact rfl; exact rfl; exact rfl; exact rfl; assumption; (exact extA); exact rfl; omega; assumption; intro b off h; have hcc := h; first | (obtain ⟨h1, h2, h3, h4, h5, h6, _⟩ := h) | (obtain ⟨h1, h2, h3, _⟩ := h) | (obtain ⟨h1, h2, _⟩ := h) | (obtain ⟨h1, _⟩ := h)) | (apply WL.guardF; exact rfl; exact rfl) | (apply WL.gD; exact rfl; exact rfl; all_goals intro _) | (apply WL.gN; exact rfl; exact rfl; all_goals intro _) | (apply WL.gB; exact rfl; exact rfl; all_goals intro _))
      | (show Z _ _ _ _ _; first | apply Z.tail | apply Z.then_normal | apply Z.block_normal | apply Z.then_exit | apply Z.block_exit | apply Z.then_ret | apply Z.block_ret | (apply Z.block_other; exact rfl))
      | (show W _ _ _ _ _ _; first | apply W.seq | apply W.region | apply W.block | apply W.skip | apply W.ret | apply W.exit))
    exact Z.body1 Try.results29 rfl fun m => ⟨by rw [chk_5 h5], Ext.at (by (exact extA)) m⟩
  | true =>
    have h5 := hbad2.1 rfl
    have hown : ∀ x ∈ c.t.own, 2 ≤ x ∧ x % 2 = 0 ∧ x ≤ 2 * c.max := fun x hx => by
      have hn : ¬ (x < 2 ∨ x % 2 = 1 ∨ 2 * c.t.max < x) := fun hh => h5 (.inr (.inl ⟨x, hx, hh⟩))
      rw [hcm] at hn; omega
    have hused : ∀ x ∈ c.t.used, 0 ≤ x ∧ x ≤ 2 * c.max + 1 := fun x hx => by
      have hn : ¬ (x < 0 ∨ 2 * c.t.max + 1 < x) := fun hh => h5 (.inr (.inr (.inl ⟨x, hx, hh⟩)))
      rw [hcm] at hn; omega
    repeat' (first
      | (show WL _ _ _ _ _ _ _; first | apply WL.nil | (refine WL.au (k := ?_)) | (apply WL.index tOk; exact rfl; exact rfl; exact rfl; exact rfl; exact rfl; exact rfl; exact rfl; exact rfl; assumption; (exact extA); exact rfl; omega; assumption; intro b off h; have hcc := h; first | (obtain ⟨h1, h2, h3, h4, h5, h6, _⟩ := h) | (obtain ⟨h1, h2, h3, _⟩ := h) | (obtain ⟨h1, h2, _⟩ := h) | (obtain ⟨h1, _⟩ := h)) | (apply WL.guardF; exact rfl; exact rfl) | (apply WL.gD; exact rfl; exact rfl; all_goals intro _) | (apply WL.gN; exact rfl; exact rfl; all_goals intro _) | (apply WL.gB; exact rfl; exact rfl; all_goals intro _))
      | (show Z _ _ _ _ _; first | apply Z.tail | apply Z.then_normal | apply Z.block_normal | apply Z.then_exit | apply Z.block_exit | apply Z.then_ret | apply Z.block_ret | (apply Z.block_other; exact rfl))
      | (show W _ _ _ _ _ _; first | apply W.seq | apply W.region | apply W.block | apply W.skip | apply W.ret | apply W.exit))
    refine W.condKF rfl rfl ?_
    repeat' (first
      | ((apply WL.makeMap (kv := encK) (vv := isB); exact rfl; exact rfl; intro rm w7 hM7 hge7 hx7))
      | ((apply WL.insertF (B := 0) (w0 := w6) (vv := isB) tOk keyI; exact rfl; exact rfl; exact rfl; exact rfl; exact rfl; exact rfl; exact hM7; exact (by (exact extA)); exact hge7; intro w8 hM8 hX8 hU8))
      | (apply WL.alloc tOk; exact rfl; exact rfl; exact rfl; intro gb w' hb hge hx; (obtain ⟨g9, rfl⟩ : ∃ x, x = gb := ⟨_, rfl⟩; obtain ⟨w9, rfl⟩ : ∃ x, x = w' := ⟨_, rfl⟩; obtain ⟨hx9, rfl⟩ : ∃ x, x = hx := ⟨_, rfl⟩; obtain ⟨hb9, rfl⟩ : ∃ x, x = hb := ⟨_, rfl⟩; obtain ⟨hge9, rfl⟩ : ∃ x, x = hge := ⟨_, rfl⟩))
      | (apply WL.storeB (w0 := w8) tOk; exact rfl; exact rfl; exact rfl; exact rfl; assumption; (exact extA); exact rfl; exact rfl; exact rfl; (exact extA); (first | assumption | omega | (focus (apply Nat.le_trans; rotate_left; assumption; exact Below.size (by (exact extA)); done))); intro w' hb hc hX' hU; have hcc := hc; obtain ⟨h1, h2, _⟩ := hc; (obtain ⟨w10, rfl⟩ : ∃ x, x = w' := ⟨_, rfl⟩; obtain ⟨hb10, rfl⟩ : ∃ x, x = hb := ⟨_, rfl⟩; obtain ⟨hU10, rfl⟩ : ∃ x, x = hU := ⟨_, rfl⟩; obtain ⟨hX10, rfl⟩ : ∃ x, x = hX' := ⟨_, rfl⟩))
      | (show WL _ _ _ _ _ _ _; first | apply WL.nil | (refine WL.au (k := ?_)) | (apply WL.index tOk; exact rfl; exact rfl; exact rfl; exact rfl; exact rfl; exact rfl; exact rfl; exact rfl; assumption; (exact extA); exact rfl; omega; assumption; intro b off h; have hcc := h; first | (obtain ⟨h1, h2, h3, h4, h5, h6, _⟩ := h) | (obtain ⟨h1, h2, h3, _⟩ := h) | (obtain ⟨h1, h2, _⟩ := h) | (obtain ⟨h1, _⟩ := h)) | (apply WL.guardF; exact rfl; exact rfl) | (apply WL.gD; exact rfl; exact rfl; all_goals intro _) | (apply WL.gN; exact rfl; exact rfl; all_goals intro _) | (apply WL.gB; exact rfl; exact rfl; all_goals intro _))
      | (show Z _ _ _ _ _; first | apply Z.tail | apply Z.then_normal | apply Z.block_normal | apply Z.then_exit | apply Z.block_exit | apply Z.then_ret | apply Z.block_ret | (apply Z.block_other; exact rfl))
      | (show W _ _ _ _ _ _; first | apply W.seq | apply W.region | apply W.block | apply W.skip | apply W.ret | apply W.exit))
    have hS : Lt.Sep w6.heap.size w10 [pcell g9 #[.map (some rm)] 100, pmap encK isB rm (keysL true (0 :: (c.t.own.take 0).map (· / 2)))] := Sep.newCell (Sep.newMap Sep.none' hX8 hM8 hge7 (Nat.le_refl _)) hX10 hb10 hge9 (Below.size hX8)
    clear hM7 hM8 hb9 hb10 hU10 hU8 hcc h1 hx9
    have hX10w : Ext w6 w10 := (by (exact extA))
    have hXw6 : Ext wc w6 := (by (exact extA))
    have hev : ∀ k, ∀ y ∈ c.t.own.take k, y % 2 = 0 ∧ 2 ≤ y := fun k y hy => by have := hown y (List.mem_of_mem_take hy); omega
    clear hX10 hX8 hx7
    refine W.loopW c.t.own.length (fun k w' => k ≤ c.t.own.length ∧ Ext w6 w' ∧ Lt.Sep w6.heap.size w' [pcell g9 #[.map (some rm)] 100, pmap encK isB rm (keysL true (0 :: (c.t.own.take k).map (· / 2)))] ∧ ∀ i x, i < k → c.t.own[i]? = some x → x ∉ c.t.own.take i) (fun k => [(1, .pointer (some ⟨gc, 0, none⟩)), (3, .pointer (some ⟨g3, 0, none⟩)), (9, .pointer (some ⟨g9, 0, none⟩)), (79, .slice ao c.t.own.length co), (80, .int .i64 (c.t.own.length : Nat)), (81, .int .i64 k)]) ⟨Nat.zero_le _, hX10w, hS, fun i x h => absurd h (Nat.not_lt_zero _)⟩ (fun k w' h => h.1) ⟨rfl, rfl, rfl, rfl, rfl, rfl, trivial⟩ ?_
    clear hS hX10w
    rintro k w11 ⟨hk, hX11, hS, hno⟩
    have hg9 := (cells_heap (hS.cell (i := 0) rfl)).1
    have hMp := hS.map (i := 1) rfl
    have hrm := (hS.lt (i := 1) rfl rfl).1
    have hX11o : Ext wo w11 := (by (exact extA))
    by_cases hlt : k < c.t.own.length
    · obtain ⟨x, hx⟩ := getI c.t.own hlt
      have hxo := hown x (List.mem_of_getElem? hx)
      have hhm := half_mem (x := x) (hev k)
      rw [show x - x % 2 = x by omega] at hhm
      by_cases hin : x ∈ c.t.own.take k
      · have htw : Twice c.t := ⟨k, x, hx, hin⟩
        repeat' (first
          | ((apply WL.lookKeys tOk keyI; exact rfl; exact rfl; exact rfl; exact rfl; exact rfl; exact rfl; exact rfl; exact rfl; exact hMp))
          | (show WL _ _ _ _ _ _ _; first | apply WL.nil | (refine WL.au (k := ?_)) | (apply WL.index tOk; exact rfl; exact rfl; exact rfl; exact rfl; exact rfl; exact rfl; exact rfl; exact rfl; assumption; (exact extA); exact rfl; omega; assumption; intro b off h; have hcc := h; first | (obtain ⟨h1, h2, h3, h4, h5, h6, _⟩ := h) | (obtain ⟨h1, h2, h3, _⟩ := h) | (obtain ⟨h1, h2, _⟩ := h) | (obtain ⟨h1, _⟩ := h)) | (apply WL.guardF; exact rfl; exact rfl) | (apply WL.gD; exact rfl; exact rfl; all_goals intro _) | (apply WL.gN; exact rfl; exact rfl; all_goals intro _) | (apply WL.gB; exact rfl; exact rfl; all_goals intro _))
          | (show Z _ _ _ _ _; first | apply Z.tail | apply Z.then_normal | apply Z.block_normal | apply Z.then_exit | apply Z.block_exit | apply Z.then_ret | apply Z.block_ret | (apply Z.block_other; exact rfl))
          | (show W _ _ _ _ _ _; first | apply W.seq | apply W.region | apply W.block | apply W.skip | apply W.ret | apply W.exit))
        refine W.condKT rfl (dec_true (by omega)) ?_
        repeat' (first
          | ((apply WL.lookKeys tOk keyI; exact rfl; exact rfl; exact rfl; exact rfl; exact rfl; exact rfl; exact rfl; exact rfl; exact hMp))
          | (show WL _ _ _ _ _ _ _; first | apply WL.nil | (refine WL.au (k := ?_)) | (apply WL.index tOk; exact rfl; exact rfl; exact rfl; exact rfl; exact rfl; exact rfl; exact rfl; exact rfl; assumption; (exact extA); exact rfl; omega; assumption; intro b off h; have hcc := h; first | (obtain ⟨h1, h2, h3, h4, h5, h6, _⟩ := h) | (obtain ⟨h1, h2, h3, _⟩ := h) | (obtain ⟨h1, h2, _⟩ := h) | (obtain ⟨h1, _⟩ := h)) | (apply WL.guardF; exact rfl; exact rfl) | (apply WL.gD; exact rfl; exact rfl; all_goals intro _) | (apply WL.gN; exact rfl; exact rfl; all_goals intro _) | (apply WL.gB; exact rfl; exact rfl; all_goals intro _))
          | (show Z _ _ _ _ _; first | apply Z.tail | apply Z.then_normal | apply Z.block_normal | apply Z.then_exit | apply Z.block_exit | apply Z.then_ret | apply Z.block_ret | (apply Z.block_other; exact rfl))
          | (show W _ _ _ _ _ _; first | apply W.seq | apply W.region | apply W.block | apply W.skip | apply W.ret | apply W.exit))
        refine W.condKT rfl (dec_true (hhm.2 (.inr hin))) ?_
        repeat' (first
          | (show WL _ _ _ _ _ _ _; first | apply WL.nil | (refine WL.au (k := ?_)) | (apply WL.index tOk; exact rfl; exact rfl; exact rfl; exact rfl; exact rfl; exact rfl; exact rfl; exact rfl; assumption; (exact extA); exact rfl; omega; assumption; intro b off h; have hcc := h; first | (obtain ⟨h1, h2, h3, h4, h5, h6, _⟩ := h) | (obtain ⟨h1, h2, h3, _⟩ := h) | (obtain ⟨h1, h2, _⟩ := h) | (obtain ⟨h1, _⟩ := h)) | (apply WL.guardF; exact rfl; exact rfl) | (apply WL.gD; exact rfl; exact rfl; all_goals intro _) | (apply WL.gN; exact rfl; exact rfl; all_goals intro _) | (apply WL.gB; exact rfl; exact rfl; all_goals intro _))
          | (show Z _ _ _ _ _; first | apply Z.tail | apply Z.then_normal | apply Z.block_normal | apply Z.then_exit | apply Z.block_exit | apply Z.then_ret | apply Z.block_ret | (apply Z.block_other; exact rfl))
          | (show W _ _ _ _ _ _; first | apply W.seq | apply W.region | apply W.block | apply W.skip | apply W.ret | apply W.exit))
        exact Z.body1 Try.results29 rfl fun m => ⟨by rw [chk_7 h5 htw], Ext.at (by (exact extA)) m⟩
      · have hnm : ¬ x / 2 ∈ (0 :: (c.t.own.take k).map (· / 2) : List Int) := fun h => by
          rcases hhm.1 h with h | h
          · omega
          · exact hin h
        repeat' (first
          | (show WL _ _ _ _ _ _ _; first | apply WL.nil | (refine WL.au (k := ?_)) | (apply WL.index tOk; exact rfl; exact rfl; exact rfl; exact rfl; exact rfl; exact rfl; exact rfl; exact rfl; assumption; (exact extA); exact rfl; omega; assumption; intro b off h; have hcc := h; first | (obtain ⟨h1, h2, h3, h4, h5, h6, _⟩ := h) | (obtain ⟨h1, h2, h3, _⟩ := h) | (obtain ⟨h1, h2, _⟩ := h) | (obtain ⟨h1, _⟩ := h)) | (apply WL.guardF; exact rfl; exact rfl) | (apply WL.gD; exact rfl; exact rfl; all_goals intro _) | (apply WL.gN; exact rfl; exact rfl; all_goals intro _) | (apply WL.gB; exact rfl; exact rfl; all_goals intro _))
          | (show Z _ _ _ _ _; first | apply Z.tail | apply Z.then_normal | apply Z.block_normal | apply Z.then_exit | apply Z.block_exit | apply Z.then_ret | apply Z.block_ret | (apply Z.block_other; exact rfl))
          | (show W _ _ _ _ _ _; first | apply W.seq | apply W.region | apply W.block | apply W.skip | apply W.ret | apply W.exit))
        refine W.condKT rfl (dec_true (by omega)) ?_
        repeat' (first
          | ((apply WL.lookKeys tOk keyI; exact rfl; exact rfl; exact rfl; exact rfl; exact rfl; exact rfl; exact rfl; exact rfl; exact hMp))
          | (show WL _ _ _ _ _ _ _; first | apply WL.nil | (refine WL.au (k := ?_)) | (apply WL.index tOk; exact rfl; exact rfl; exact rfl; exact rfl; exact rfl; exact rfl; exact rfl; exact rfl; assumption; (exact extA); exact rfl; omega; assumption; intro b off h; have hcc := h; first | (obtain ⟨h1, h2, h3, h4, h5, h6, _⟩ := h) | (obtain ⟨h1, h2, h3, _⟩ := h) | (obtain ⟨h1, h2, _⟩ := h) | (obtain ⟨h1, _⟩ := h)) | (apply WL.guardF; exact rfl; exact rfl) | (apply WL.gD; exact rfl; exact rfl; all_goals intro _) | (apply WL.gN; exact rfl; exact rfl; all_goals intro _) | (apply WL.gB; exact rfl; exact rfl; all_goals intro _))
          | (show Z _ _ _ _ _; first | apply Z.tail | apply Z.then_normal | apply Z.block_normal | apply Z.then_exit | apply Z.block_exit | apply Z.then_ret | apply Z.block_ret | (apply Z.block_other; exact rfl))
          | (show W _ _ _ _ _ _; first | apply W.seq | apply W.region | apply W.block | apply W.skip | apply W.ret | apply W.exit))
        refine W.condKF rfl (dec_false hnm) ?_
        repeat' (first
          | ((apply WL.mapPutF (B := 0) (w0 := w6) (vv := isB) tOk keyI; exact rfl; exact rfl; exact rfl; exact rfl; exact rfl; exact rfl; exact hMp; exact (by (exact extA)); assumption; intro w' hM' hX' hU))
          | (show WL _ _ _ _ _ _ _; first | apply WL.nil | (refine WL.au (k := ?_)) | (apply WL.index tOk; exact rfl; exact rfl; exact rfl; exact rfl; exact rfl; exact rfl; exact rfl; exact rfl; assumption; (exact extA); exact rfl; omega; assumption; intro b off h; have hcc := h; first | (obtain ⟨h1, h2, h3, h4, h5, h6, _⟩ := h) | (obtain ⟨h1, h2, h3, _⟩ := h) | (obtain ⟨h1, h2, _⟩ := h) | (obtain ⟨h1, _⟩ := h)) | (apply WL.guardF; exact rfl; exact rfl) | (apply WL.gD; exact rfl; exact rfl; all_goals intro _) | (apply WL.gN; exact rfl; exact rfl; all_goals intro _) | (apply WL.gB; exact rfl; exact rfl; all_goals intro _))
          | (show Z _ _ _ _ _; first | apply Z.tail | apply Z.then_normal | apply Z.block_normal | apply Z.then_exit | apply Z.block_exit | apply Z.then_ret | apply Z.block_ret | (apply Z.block_other; exact rfl))
          | (show W _ _ _ _ _ _; first | apply W.seq | apply W.region | apply W.block | apply W.skip | apply W.ret | apply W.exit))
        rw [mget_keys, dec_false hnm] at hM'
        have hS4 := Sep.updMap (i := 1) rfl hU hM' hS (by (exact extA)) (Below.size (by (exact extA)))
        refine Z.againW ⟨by omega, (by (exact extA)), ?_, fun i z hi hz => ?_⟩ ⟨rfl, rfl, rfl, rfl, rfl, rfl, trivial⟩
        · rw [take_succ' hx, List.map_append, ← List.cons_append, List.map_singleton, keysL_snoc]; exact hS4
        · by_cases hik : i = k
          · subst hik; rw [hx] at hz; cases hz; exact hin
          · exact hno i z (by omega) hz
    obtain rfl : k = c.t.own.length := by omega
    rw [List.take_length] at hS hMp
    have h7 : ¬ Twice c.t := fun ⟨i, x, a1, a2⟩ => hno i x (lt_of_get a1) a1 a2
    repeat' (first
      | (show WL _ _ _ _ _ _ _; first | apply WL.nil | (refine WL.au (k := ?_)) | (apply WL.index tOk; exact rfl; exact rfl; exact rfl; exact rfl; exact rfl; exact rfl; exact rfl; exact rfl; assumption; (exact extA); exact rfl; omega; assumption; intro b off h; have hcc := h; first | (obtain ⟨h1, h2, h3, h4, h5, h6, _⟩ := h) | (obtain ⟨h1, h2, h3, _⟩ := h) | (obtain ⟨h1, h2, _⟩ := h) | (obtain ⟨h1, _⟩ := h)) | (apply WL.guardF; exact rfl; exact rfl) | (apply WL.gD; exact rfl; exact rfl; all_goals intro _) | (apply WL.gN; exact rfl; exact rfl; all_goals intro _) | (apply WL.gB; exact rfl; exact rfl; all_goals intro _))
      | (show Z _ _ _ _ _; first | apply Z.tail | apply Z.then_normal | apply Z.block_normal | apply Z.then_exit | apply Z.block_exit | apply Z.then_ret | apply Z.block_ret | (apply Z.block_other; exact rfl))
      | (show W _ _ _ _ _ _; first | apply W.seq | apply W.region | apply W.block | apply W.skip | apply W.ret | apply W.exit))
    refine W.condKF rfl (dec_false (by omega)) ?_
    have hc11 : w11.heap[g3]? = some (.cells (okV true) 4 (0, 0)) := by rw [hX11.block g3 (heap_lt hc6)]; exact hc6
    have hgm : ∀ g ∈ c.gates.2.2, g.1 ∈ c.t.own ∧ g.2.1 ∈ c.t.used ∧ g.2.2 ∈ c.t.used := fun g hg =>
      ⟨List.mem_append.2 (.inr (List.mem_map.2 ⟨g, hg, rfl⟩)), List.mem_append.2 (.inr (List.mem_flatMap.2 ⟨g, hg, by simp⟩)), List.mem_append.2 (.inr (List.mem_flatMap.2 ⟨g, hg, by simp⟩))⟩
    have hok : gsOk c.gates.2.2 := fun g hg => by
      obtain ⟨r1, r2, r3⟩ := hgm g hg
      have := hown _ r1
      have := hused _ r2
      have := hused _ r3
      omega
    have honce : Once c.gates.2.2 := once_of (c := c.t) h7 fun x hx => (hown x hx).2.1
    have hn9 := none_iff (c := c.t) hown hused
    obtain ⟨ks, hks⟩ : ∃ ks, (0 :: c.t.own.map (· / 2) : List Int) = ks := ⟨_, rfl⟩
    rw [hks] at hMp hn9
    have hXc11 : Ext wc w11 := (by (exact extA))
    have hne3 : g9 ≠ g3 := fun he => by have h1 := heap_lt hc6; have h2 := (hS.lt (i := 0) rfl rfl).1; omega
    have hne4 : rm ≠ g3 := fun he => by have h1 := heap_lt hc6; omega
    have huse := circ_uses c wc w11 76 g3 [.pointer (some ⟨g3, 0, none⟩), .pointer (some ⟨g9, 0, none⟩)] (inK ks) true (hC.ext hxc) hz hXc11 (Nat.le_trans (Below.size hXo) hlb) hc11 (fun x hx w9 b hbt hc9 => circ_Check2 w9 g3 g9 rm ks x b hc9 (But.cell hbt hg9 (fun he => hne3 (by have h9 := Option.some.inj he; simp only at h9; omega))) (hMp.keep (hbt.block rm hMp.lt (fun he => hne4 (by have h9 := Option.some.inj he; omega)))) (by have := hused x hx; omega))
    repeat' (first
      | (((show WL _ _ _ (⟨_, .call ⟨.value (.func 74), _, _⟩, _, _, _, _⟩ :: _) _ _ _); apply WL.call; exact rfl; exact rfl; exact rfl; exact rfl; exact huse; rintro v' w12 ⟨rfl, hb12, hc12⟩))
      | (show WL _ _ _ _ _ _ _; first | apply WL.nil | (refine WL.au (k := ?_)) | (apply WL.index tOk; exact rfl; exact rfl; exact rfl; exact rfl; exact rfl; exact rfl; exact rfl; exact rfl; assumption; (exact extA); exact rfl; omega; assumption; intro b off h; have hcc := h; first | (obtain ⟨h1, h2, h3, h4, h5, h6, _⟩ := h) | (obtain ⟨h1, h2, h3, _⟩ := h) | (obtain ⟨h1, h2, _⟩ := h) | (obtain ⟨h1, _⟩ := h)) | (apply WL.guardF; exact rfl; exact rfl) | (apply WL.gD; exact rfl; exact rfl; all_goals intro _) | (apply WL.gN; exact rfl; exact rfl; all_goals intro _) | (apply WL.gB; exact rfl; exact rfl; all_goals intro _))
      | (show Z _ _ _ _ _; first | apply Z.tail | apply Z.then_normal | apply Z.block_normal | apply Z.then_exit | apply Z.block_exit | apply Z.then_ret | apply Z.block_ret | (apply Z.block_other; exact rfl))
      | (show W _ _ _ _ _ _; first | apply W.seq | apply W.region | apply W.block | apply W.skip | apply W.ret | apply W.exit))
    have hU12 : Upd g3 (some ⟨g3, 0, none⟩) w11 w12 := ⟨hb12, fun k hk => by have h9 : g3 = k := Option.some.inj hk; omega⟩
    have hX12 : Ext wo w12 := hU12.ext hX11o hlb
    have hcb := (cells_heap hc12).1
    obtain ⟨b3, hb3⟩ : ∃ b3, (true && c.t.used.all (inK ks)) = b3 := ⟨_, rfl⟩
    rw [hb3] at hc12 hcb hn9
    cases b3 with
    | false =>
      have h9 : NoneC c.t := Classical.byContradiction fun h => by have := hn9.2 h; cases this
      repeat' (first
        | (show WL _ _ _ _ _ _ _; first | apply WL.nil | (refine WL.au (k := ?_)) | (apply WL.index tOk; exact rfl; exact rfl; exact rfl; exact rfl; exact rfl; exact rfl; exact rfl; exact rfl; assumption; (exact extA); exact rfl; omega; assumption; intro b off h; have hcc := h; first | (obtain ⟨h1, h2, h3, h4, h5, h6, _⟩ := h) | (obtain ⟨h1, h2, h3, _⟩ := h) | (obtain ⟨h1, h2, _⟩ := h) | (obtain ⟨h1, _⟩ := h)) | (apply WL.guardF; exact rfl; exact rfl) | (apply WL.gD; exact rfl; exact rfl; all_goals intro _) | (apply WL.gN; exact rfl; exact rfl; all_goals intro _) | (apply WL.gB; exact rfl; exact rfl; all_goals intro _))
        | (show Z _ _ _ _ _; first | apply Z.tail | apply Z.then_normal | apply Z.block_normal | apply Z.then_exit | apply Z.block_exit | apply Z.then_ret | apply Z.block_ret | (apply Z.block_other; exact rfl))
        | (show W _ _ _ _ _ _; first | apply W.seq | apply W.region | apply W.block | apply W.skip | apply W.ret | apply W.exit))
      refine W.condKT rfl rfl ?_
      repeat' (first
        | (show WL _ _ _ _ _ _ _; first | apply WL.nil | (refine WL.au (k := ?_)) | (apply WL.index tOk; exact rfl; exact rfl; exact rfl; exact rfl; exact rfl; exact rfl; exact rfl; exact rfl; assumption; (exact extA); exact rfl; omega; assumption; intro b off h; have hcc := h; first | (obtain ⟨h1, h2, h3, h4, h5, h6, _⟩ := h) | (obtain ⟨h1, h2, h3, _⟩ := h) | (obtain ⟨h1, h2, _⟩ := h) | (obtain ⟨h1, _⟩ := h)) | (apply WL.guardF; exact rfl; exact rfl) | (apply WL.gD; exact rfl; exact rfl; all_goals intro _) | (apply WL.gN; exact rfl; exact rfl; all_goals intro _) | (apply WL.gB; exact rfl; exact rfl; all_goals intro _))
        | (show Z _ _ _ _ _; first | apply Z.tail | apply Z.then_normal | apply Z.block_normal | apply Z.then_exit | apply Z.block_exit | apply Z.then_ret | apply Z.block_ret | (apply Z.block_other; exact rfl))
        | (show W _ _ _ _ _ _; first | apply W.seq | apply W.region | apply W.block | apply W.skip | apply W.ret | apply W.exit))
      exact Z.body1 Try.results29 rfl fun m => ⟨by rw [chk_9 h5 h7 h9], Ext.at (by (exact extA)) m⟩
    | true =>
      have h9 := hn9.1 rfl
      repeat' (first
        | (show WL _ _ _ _ _ _ _; first | apply WL.nil | (refine WL.au (k := ?_)) | (apply WL.index tOk; exact rfl; exact rfl; exact rfl; exact rfl; exact rfl; exact rfl; exact rfl; exact rfl; assumption; (exact extA); exact rfl; omega; assumption; intro b off h; have hcc := h; first | (obtain ⟨h1, h2, h3, h4, h5, h6, _⟩ := h) | (obtain ⟨h1, h2, h3, _⟩ := h) | (obtain ⟨h1, h2, _⟩ := h) | (obtain ⟨h1, _⟩ := h)) | (apply WL.guardF; exact rfl; exact rfl) | (apply WL.gD; exact rfl; exact rfl; all_goals intro _) | (apply WL.gN; exact rfl; exact rfl; all_goals intro _) | (apply WL.gB; exact rfl; exact rfl; all_goals intro _))
        | (show Z _ _ _ _ _; first | apply Z.tail | apply Z.then_normal | apply Z.block_normal | apply Z.then_exit | apply Z.block_exit | apply Z.then_ret | apply Z.block_ret | (apply Z.block_other; exact rfl))
        | (show W _ _ _ _ _ _; first | apply W.seq | apply W.region | apply W.block | apply W.skip | apply W.ret | apply W.exit))
      refine W.condKF rfl rfl ?_
      have hX12w : Ext w w12 := (by (exact extA))
      have Rg := hC.gates.row.ext hX12w
      have hcu := hcells.ext (show Ext wc w12 from (by (exact extA)))
      have x0 : Cells w12 gc 0 c.vals := hcu
      have x6 : w12.cell? ⟨gc, 0 + 1 + 1 + 1 + 1 + 1 + 1, none⟩ = some (rowVal c.gates) := hcu.2.2.2.2.2.2.1
      repeat' (first
        | (show W _ _ (.region 28 _ _) _ _ _; apply W.regionGX (.fl true 3 (.fl false 0 (.fl false 4 (.fl true 5 (.br 1 (.fl true 2 (.fl true 6 (.fl true 7 .done))) .stop))))) [1, 2, 4, 5, 6, 7] tMix; kernel_rfl)
        | ((show WL _ _ _ (⟨_, .call ⟨.value (.func 35), _, _⟩, _, _, _, _⟩ :: _) _ _ _); apply WL.call; exact rfl; exact rfl; exact rfl; exact rfl; exact circ_Order c _ (Rg.ext (by (exact extA))) hok (by omega) honce; rintro v' w' ⟨hx, a', cap', rfl, hO⟩; (obtain ⟨hOd, rfl⟩ : ∃ x, x = hO := ⟨_, rfl⟩; obtain ⟨hxd, rfl⟩ : ∃ x, x = hx := ⟨_, rfl⟩; obtain ⟨wd, rfl⟩ : ∃ x, x = w' := ⟨_, rfl⟩; obtain ⟨ad, rfl⟩ : ∃ x, x = a' := ⟨_, rfl⟩; obtain ⟨cd, rfl⟩ : ∃ x, x = cap' := ⟨_, rfl⟩))
        | (show WL _ _ _ _ _ _ _; first | apply WL.nil | (refine WL.au (k := ?_)) | (apply WL.index tOk; exact rfl; exact rfl; exact rfl; exact rfl; exact rfl; exact rfl; exact rfl; exact rfl; assumption; (exact extA); exact rfl; omega; assumption; intro b off h; have hcc := h; first | (obtain ⟨h1, h2, h3, h4, h5, h6, _⟩ := h) | (obtain ⟨h1, h2, h3, _⟩ := h) | (obtain ⟨h1, h2, _⟩ := h) | (obtain ⟨h1, _⟩ := h)) | (apply WL.guardF; exact rfl; exact rfl) | (apply WL.gD; exact rfl; exact rfl; all_goals intro _) | (apply WL.gN; exact rfl; exact rfl; all_goals intro _) | (apply WL.gB; exact rfl; exact rfl; all_goals intro _))
        | (show SG _ _ _ _ _ _ _ _ _; first | apply SG.done | apply SG.stop | (apply SG.fl0; exact rfl) | (apply SG.fl1; exact rfl; (focus ((intro m; first | assumption | (apply Ext.at; (exact extA)) | apply But.of_at; first | exact But.upd (by assumption) | exact But.ext (by (exact extA)) | (refine But.trans ?_ (But.upd (by assumption)); exact But.ext (by (exact extA))) | exact But.at _ _ _); done))) | (apply SG.br1; exact rfl) | (apply SG.br; exact rfl))
        | (show FL _ _ _ _ _ _ _ _; first | apply FL.nilS | (refine FL.au (k := ?_)) | (apply FL.loadG tOk; exact rfl; exact rfl; exact rfl; exact rfl; exact rfl; (first | assumption | (focus (apply Ext.cell; rotate_left; assumption; (exact extA); done))); (first | (focus (intro h; cases h; done)) | (focus (intro h; have h9 := hBC _ h; (try simp only at h9); omega)) | assumption | (focus (intro h; simp only [blk, Option.map_some, Option.some.injEq] at h; omega)))) | (apply FL.index tOk; exact rfl; exact rfl; exact rfl; exact rfl; exact rfl; exact rfl; exact rfl; exact rfl; assumption; (exact extA); exact rfl; omega; assumption; exact List.cons_ne_nil _ _; intro b off h hbl; have hcc := h; first | (obtain ⟨h1, h2, h3, h4, h5, h6, _⟩ := h) | (obtain ⟨h1, h2, h3, _⟩ := h) | (obtain ⟨h1, h2, _⟩ := h) | (obtain ⟨h1, _⟩ := h)) | (apply FL.loadAG tOk; exact rfl; exact rfl; exact rfl; exact rfl; exact rfl; (first | assumption | (focus (apply Cells.ext; rotate_left; assumption; (exact extA); done))); exact rfl; (first | (focus (intro h; cases h; done)) | (focus (intro h; have h9 := hBC _ h; (try simp only at h9); omega)) | assumption | (focus (intro h; simp only [blk, Option.map_some, Option.some.injEq] at h; omega)))) | (apply FL.guardF; exact rfl; exact rfl) | (apply FL.gD; exact rfl; exact rfl; all_goals intro _) | (apply FL.gN; exact rfl; exact rfl; all_goals intro _) | (apply FL.gB; exact rfl; exact rfl; all_goals intro _))
        | (show Z _ _ _ _ _; first | (apply Z.sgL; exact rfl) | (apply Z.sgE; (focus ((intro m; first | assumption | (apply Ext.at; (exact extA)) | apply But.of_at; first | exact But.upd (by assumption) | exact But.ext (by (exact extA)) | (refine But.trans ?_ (But.upd (by assumption)); exact But.ext (by (exact extA))) | exact But.at _ _ _); done))))
        | (show SX _ _ _ _ _ _ _ _ _; first | (apply SX.done; intro w' hx) | apply SX.stop | (apply SX.fl0; exact rfl) | (apply SX.fl1; exact rfl; (exact extA)) | (apply SX.br1; exact rfl; intro w' hx) | (apply SX.br; exact rfl; (intro w' hx)))
        | (show FL _ _ _ _ _ _ _ _; first | apply FL.nilX | (apply FL.loadE tOk; exact rfl; exact rfl; exact rfl; exact rfl; exact rfl; assumption) | (apply FL.loadAE tOk; exact rfl; exact rfl; exact rfl; exact rfl; exact rfl; assumption; exact rfl) | (apply FL.indexE tOk; exact rfl; exact rfl; exact rfl; exact rfl; exact rfl; exact rfl; exact rfl; exact rfl; assumption; exact rfl; omega; assumption; intro b off h; have hcc := h; first | (obtain ⟨h1, h2, h3, h4, h5, h6, _⟩ := h) | (obtain ⟨h1, h2, h3, _⟩ := h) | (obtain ⟨h1, h2, _⟩ := h) | (obtain ⟨h1, _⟩ := h)))
        | (show FL _ _ _ _ _ _ _ _; first | apply FL.nilX | (refine FL.au (k := ?_)) | (apply FL.loadG tOk; exact rfl; exact rfl; exact rfl; exact rfl; exact rfl; (first | assumption | (focus (apply Ext.cell; rotate_left; assumption; (exact extA); done))); (first | (focus (intro h; cases h; done)) | (focus (intro h; have h9 := hBC _ h; (try simp only at h9); omega)) | assumption | (focus (intro h; simp only [blk, Option.map_some, Option.some.injEq] at h; omega)))) | (apply FL.index tOk; exact rfl; exact rfl; exact rfl; exact rfl; exact rfl; exact rfl; exact rfl; exact rfl; assumption; (exact extA); exact rfl; omega; assumption; exact List.cons_ne_nil _ _; intro b off h hbl; have hcc := h; first | (obtain ⟨h1, h2, h3, h4, h5, h6, _⟩ := h) | (obtain ⟨h1, h2, h3, _⟩ := h) | (obtain ⟨h1, h2, _⟩ := h) | (obtain ⟨h1, _⟩ := h)) | (apply FL.loadAG tOk; exact rfl; exact rfl; exact rfl; exact rfl; exact rfl; (first | assumption | (focus (apply Cells.ext; rotate_left; assumption; (exact extA); done))); exact rfl; (first | (focus (intro h; cases h; done)) | (focus (intro h; have h9 := hBC _ h; (try simp only at h9); omega)) | assumption | (focus (intro h; simp only [blk, Option.map_some, Option.some.injEq] at h; omega)))) | (apply FL.guardF; exact rfl; exact rfl) | (apply FL.gD; exact rfl; exact rfl; all_goals intro _) | (apply FL.gN; exact rfl; exact rfl; all_goals intro _) | (apply FL.gB; exact rfl; exact rfl; all_goals intro _))
        | (show Z _ _ _ _ _; first | (apply Z.sxL; exact rfl) | (apply Z.sxE; (exact extA)))
        | (show Z _ _ _ _ _; first | apply Z.tail | apply Z.then_normal | apply Z.block_normal | apply Z.then_exit | apply Z.block_exit | apply Z.then_ret | apply Z.block_ret | (apply Z.block_other; exact rfl))
        | (show W _ _ _ _ _ _; first | apply W.seq | apply W.region | apply W.block | apply W.skip | apply W.ret | apply W.exit | (apply W.condT; exact rfl) | (apply W.condF; exact rfl) | (apply W.condD; exact rfl; all_goals intro _) | (apply W.condN; exact rfl; all_goals intro _) | (apply W.condB; exact rfl; all_goals intro _)))
      all_goals (rename_i hlen; rw [show (natI (ordL c.gates.2.2)).length = (ordL c.t.gates).length from List.length_map _] at hlen)
      · exact Z.body1 Try.results29 rfl fun m => ⟨by rw [chk_8 h5 h7 h9 (show (ordL c.t.gates).length < c.t.gates.length by have : c.t.gates = c.gates.2.2 := rfl; rw [this] at hlen ⊢; omega)], Ext.at (by (exact extA)) m⟩
      · exact Z.body1 Try.results29 rfl fun m => ⟨by rw [chk_0 h5 h7 h9 (show ¬ (ordL c.t.gates).length < c.t.gates.length by have : c.t.gates = c.gates.2.2 := rfl; rw [this] at hlen ⊢; omega)], Ext.at (by (exact extA)) m⟩
end Go.Proofs.Ytmaekaflpbenmaa
namespace Go.Proofs.Ytmaekaflpbenmaa
open Go Go.Lt Go.RowKit
set_option linter.unusedVariables false
set_option linter.unusedSimpArgs false
set_option maxRecDepth 20000

abbrev netP (B g4 g5 : Nat) (an : Option Addr) (cn : Nat) (aa : Option Addr) (ca : Nat) (s : NA) : List Piece :=
  [pcell g4 #[.slice an s.1.length cn] 22, pcell g5 #[.slice aa s.2.length ca] 23, prow 2 encN 56 B an cn s.1, prow 1 encI 3 B aa ca s.2]
theorem circ_Net2 (w : World) (g5 : Nat) (aa : Option Addr) (ca : Nat) (A : List Int) (l z : Int) (hc : w.cell? ⟨g5, 0, none⟩ = some (.slice aa A.length ca)) (R : Row 1 encI w aa A) (h0 : 0 ≤ l) (hl9 : l ≤ 4294967296) (hz : A[(l / 2).toNat]? = some z) (hz0 : 0 ≤ z ∧ z ≤ 4294967296) :
    Still Try.prog 80 [.int .i64 l, .pointer (some ⟨g5, 0, none⟩)] w (.int .i64 (litI A l)) := by
  have hlt := lt_of_get hz
  have hl := R.len
  have e0 : litI A l = xorI z (l % 2) := litI_some hz
  refine Spec.of _ Try.func80 rfl Try.ntmps80 (by kernel_rfl) rfl ?_
  repeat' (first
    | (apply WL.andA; exact rfl; exact rfl; exact rfl; exact rfl)
    | (apply WL.xorI; exact rfl; exact rfl; exact rfl; exact rfl; omega; omega)
    | (show WL _ _ _ _ _ _ _; first | apply WL.nil | (refine WL.au (k := ?_)) | (apply WL.index tOk; exact rfl; exact rfl; exact rfl; exact rfl; exact rfl; exact rfl; exact rfl; exact rfl; assumption; (exact extA); exact rfl; omega; assumption; intro b off h; have hcc := h; first | (obtain ⟨h1, h2, h3, h4, h5, h6, _⟩ := h) | (obtain ⟨h1, h2, h3, _⟩ := h) | (obtain ⟨h1, h2, _⟩ := h) | (obtain ⟨h1, _⟩ := h)) | (apply WL.guardF; exact rfl; exact rfl) | (apply WL.gD; exact rfl; exact rfl; all_goals intro _) | (apply WL.gN; exact rfl; exact rfl; all_goals intro _) | (apply WL.gB; exact rfl; exact rfl; all_goals intro _))
    | (show Z _ _ _ _ _; first | apply Z.tail | apply Z.then_normal | apply Z.block_normal | apply Z.then_exit | apply Z.block_exit | apply Z.then_ret | apply Z.block_ret | (apply Z.block_other; exact rfl))
    | (show W _ _ _ _ _ _; first | apply W.seq | apply W.region | apply W.block | apply W.skip | apply W.ret | apply W.exit | (apply W.condT; exact rfl) | (apply W.condF; exact rfl) | (apply W.condD; exact rfl; all_goals intro _) | (apply W.condN; exact rfl; all_goals intro _) | (apply W.condB; exact rfl; all_goals intro _)))
  exact Z.body1 Try.results80 rfl fun m => ⟨by rw [e0], m, rfl⟩
set_option maxHeartbeats 8000000 in
theorem circ_Net1 (w0 w : World) (g4 g5 : Nat) (an : Option Addr) (cn : Nat) (aa : Option Addr) (ca : Nat) (s : NA) (rest : List Piece) (l : Int) (x : Int × Int) (hX : Ext w0 w) (hS : Lt.Sep w0.heap.size w (netP w0.heap.size g4 g5 an cn aa ca s ++ rest)) (hl : 0 ≤ l ∧ (l / 2).toNat < s.2.length) (hl2 : l ≤ 4294967296) (hs : s.1.length ≤ 1000000) :
    Lt.Spec Try.prog 79 [.int .i64 l, .agg (encN x).toArray, .pointer (some ⟨g4, 0, none⟩), .pointer (some ⟨g5, 0, none⟩)] w (fun v w' => v = .tuple #[] ∧ Ext w0 w' ∧ ∃ an' cn', Lt.Sep w0.heap.size w' (netP w0.heap.size g4 g5 an' cn' aa ca (cput s l x) ++ rest)) := by
  obtain ⟨N, A⟩ := s
  dsimp only at hs hl
  have k0 := (cells_heap (hS.cell (i := 0) rfl)).1
  have k1 := (cells_heap (hS.cell (i := 1) rfl)).1
  have hg4 := (hS.lt (i := 0) rfl rfl).1
  have hN := hS.row (i := 2) rfl
  obtain ⟨zz, hzz⟩ := getI A hl.2
  refine Spec.of _ Try.func79 rfl Try.ntmps79 (by kernel_rfl) rfl ?_
  repeat' (first
    | (apply WL.box; exact rfl; exact rfl; exact rfl; intro gb w' hb hge hc hx; have hcc := hc; (first | (obtain ⟨h1, h2, h3, _⟩ := hc) | (obtain ⟨h1, h2, _⟩ := hc)); (have hcells := hcc; obtain ⟨y0, y1, _⟩ := hcc; obtain ⟨w1, rfl⟩ : ∃ x, x = w' := ⟨_, rfl⟩; obtain ⟨hx1, rfl⟩ : ∃ x, x = hx := ⟨_, rfl⟩))
    | (apply WL.lit tOk; exact rfl; exact rfl; exact rfl; exact rfl; exact rfl; exact rfl; (first | exact rfl | kernel_rfl | (simp [Instr.fill, catCells]; done)); exact rfl; intro gb w' hb hge hc hx; (obtain ⟨w2, rfl⟩ : ∃ x, x = w' := ⟨_, rfl⟩; obtain ⟨hx2, rfl⟩ : ∃ x, x = hx := ⟨_, rfl⟩))
    | (apply WL.append1 (z := (x)) tOk encN_ok; exact rfl; exact rfl; exact rfl; exact rfl; exact rfl; exact rfl; exact rfl; exact rfl; exact rfl; exact rfl; assumption; (exact extA); (first | exact rfl | (focus (simp only [List.length_set]; done)) | (focus (simp; done)) | (focus (simp [*]; done)) | omega | (focus (simp only [List.length_set]; omega))); assumption; exact rfl; exact rfl; (exact extA); (first | omega | (simp; omega) | (simp at *; omega)); intro a' cap' w' hO hX' hU hF)
    | (show WL _ _ _ _ _ _ _; first | apply WL.nil | (refine WL.au (k := ?_)) | (apply WL.index tOk; exact rfl; exact rfl; exact rfl; exact rfl; exact rfl; exact rfl; exact rfl; exact rfl; assumption; (exact extA); exact rfl; omega; assumption; intro b off h; have hcc := h; first | (obtain ⟨h1, h2, h3, h4, h5, h6, _⟩ := h) | (obtain ⟨h1, h2, h3, _⟩ := h) | (obtain ⟨h1, h2, _⟩ := h) | (obtain ⟨h1, _⟩ := h)) | (apply WL.guardF; exact rfl; exact rfl) | (apply WL.gD; exact rfl; exact rfl; all_goals intro _) | (apply WL.gN; exact rfl; exact rfl; all_goals intro _) | (apply WL.gB; exact rfl; exact rfl; all_goals intro _))
    | (show Z _ _ _ _ _; first | apply Z.tail | apply Z.then_normal | apply Z.block_normal | apply Z.then_exit | apply Z.block_exit | apply Z.then_ret | apply Z.block_ret | (apply Z.block_other; exact rfl))
    | (show W _ _ _ _ _ _; first | apply W.seq | apply W.region | apply W.block | apply W.skip | apply W.ret | apply W.exit | (apply W.condT; exact rfl) | (apply W.condF; exact rfl) | (apply W.condD; exact rfl; all_goals intro _) | (apply W.condN; exact rfl; all_goals intro _) | (apply W.condB; exact rfl; all_goals intro _)))
  obtain ⟨w3, rfl⟩ : ∃ x, x = w' := ⟨_, rfl⟩; obtain ⟨an2, rfl⟩ : ∃ x, x = a' := ⟨_, rfl⟩; obtain ⟨cn2, rfl⟩ : ∃ x, x = cap' := ⟨_, rfl⟩
  have hS1 : Lt.Sep w0.heap.size w3 ([pcell g4 #[.slice an N.length cn] 22, pcell g5 #[.slice aa A.length ca] 23, prow 2 encN 56 w0.heap.size an2 cn2 (N ++ [x]), prow 1 encI 3 w0.heap.size aa ca A] ++ rest) := Sep.updRow (i := 2) rfl hU hO hF hS (by (exact extA)) (Below.size (by (exact extA)))
  have hX3 : Ext w0 w3 := (by (exact extA))
  have hc4 := hS1.cell (i := 0) rfl
  repeat' (first
    | (apply WL.storeB (w0 := w0) tOk; exact rfl; exact rfl; exact rfl; exact rfl; assumption; (exact extA); exact rfl; exact rfl; exact rfl; (exact extA); (first | assumption | omega | (focus (apply Nat.le_trans; rotate_left; assumption; exact Below.size (by (exact extA)); done))); intro w' hb hc hX' hU; have hcc := hc; obtain ⟨h1, h2, _⟩ := hc; (obtain ⟨w4, rfl⟩ : ∃ x, x = w' := ⟨_, rfl⟩; obtain ⟨hb4, rfl⟩ : ∃ x, x = hb := ⟨_, rfl⟩; obtain ⟨hU4, rfl⟩ : ∃ x, x = hU := ⟨_, rfl⟩; obtain ⟨hX4, rfl⟩ : ∃ x, x = hX' := ⟨_, rfl⟩; have hS2 : Lt.Sep w0.heap.size w4 ([pcell g4 #[.slice an2 (N ++ [x]).length cn2] 22, pcell g5 #[.slice aa A.length ca] 23, prow 2 encN 56 w0.heap.size an2 cn2 (N ++ [x]), prow 1 encI 3 w0.heap.size aa ca A] ++ rest) := Sep.updCell (i := 0) rfl hU4 hb4 hS1 (Ext.refl _) (Below.size hX3); have p0 := (cells_heap (hS2.cell (i := 0) rfl)).1; have p1 := (cells_heap (hS2.cell (i := 1) rfl)).1; have hA4 := hS2.row (i := 3) rfl; have hnl : (N ++ [x]).length = N.length + 1 := by simp))
    | (apply WL.indexO tOk; exact rfl; exact rfl; exact rfl; exact rfl; exact rfl; exact rfl; exact rfl; exact rfl; assumption; (exact extA); exact encI_ok; (first | exact rfl | (focus (simp only [List.length_set]; done)) | (focus (simp; done)) | (focus (simp [*]; done)) | omega | (focus (simp only [List.length_set]; omega))); omega; assumption; intro gb ha hc; cases ha; have hcc := hc; first | (obtain ⟨h1, h2, h3, _⟩ := hc) | (obtain ⟨h1, h2, _⟩ := hc) | (obtain ⟨h1, _⟩ := hc))
    | (apply WL.storeO (z' := (2 * ((N ++ [x]).length : Int))) tOk; exact rfl; exact rfl; exact rfl; exact rfl; assumption; (exact extA); exact rfl; exact rfl; exact rfl; exact encI_ok; assumption; exact rfl; (exact extA); intro w' hO hX' hU)
    | (show WL _ _ _ _ _ _ _; first | apply WL.nil | (refine WL.au (k := ?_)) | (apply WL.index tOk; exact rfl; exact rfl; exact rfl; exact rfl; exact rfl; exact rfl; exact rfl; exact rfl; assumption; (exact extA); exact rfl; omega; assumption; intro b off h; have hcc := h; first | (obtain ⟨h1, h2, h3, h4, h5, h6, _⟩ := h) | (obtain ⟨h1, h2, h3, _⟩ := h) | (obtain ⟨h1, h2, _⟩ := h) | (obtain ⟨h1, _⟩ := h)) | (apply WL.guardF; exact rfl; exact rfl) | (apply WL.gD; exact rfl; exact rfl; all_goals intro _) | (apply WL.gN; exact rfl; exact rfl; all_goals intro _) | (apply WL.gB; exact rfl; exact rfl; all_goals intro _))
    | (show Z _ _ _ _ _; first | apply Z.tail | apply Z.then_normal | apply Z.block_normal | apply Z.then_exit | apply Z.block_exit | apply Z.then_ret | apply Z.block_ret | (apply Z.block_other; exact rfl))
    | (show W _ _ _ _ _ _; first | apply W.seq | apply W.region | apply W.block | apply W.skip | apply W.ret | apply W.exit | (apply W.condT; exact rfl) | (apply W.condF; exact rfl) | (apply W.condD; exact rfl; all_goals intro _) | (apply W.condN; exact rfl; all_goals intro _) | (apply W.condB; exact rfl; all_goals intro _)))
  refine Z.body0n Try.results79 fun m => ⟨rfl, hX'.at m, an2, cn2, ?_⟩
  have hS3 := Sep.updRow (i := 3) rfl hU hO (.inl rfl) hS2 (Ext.refl _) (Below.size hX4)
  have e1 : cput (N, A) l x = (N ++ [x], A.set (l / 2).toNat (2 * ((N ++ [x]).length : Int))) := by unfold cput; rw [hnl]; rfl
  rw [e1]
  refine Sep.ext (w := w') ?_ ((Ext.refl _).at m)
  show Lt.Sep _ _ ([pcell g4 #[.slice an2 (N ++ [x]).length cn2] 22, pcell g5 #[.slice _ (A.set (l / 2).toNat (2 * ((N ++ [x]).length : Int))).length ca] 23, prow 2 encN 56 w0.heap.size an2 cn2 (N ++ [x]), prow 1 encI 3 w0.heap.size _ ca (A.set (l / 2).toNat (2 * ((N ++ [x]).length : Int)))] ++ rest)
  rw [List.length_set]
  exact hS3
end Go.Proofs.Ytmaekaflpbenmaa
namespace Go.Proofs.Ytmaekaflpbenmaa
open Go Go.Lt Go.RowKit
set_option linter.unusedVariables false
set_option linter.unusedSimpArgs false
set_option maxRecDepth 20000

/-- Up to a place all is -1, behind the first. -/
structure AtK (m k : Nat) (A : List Int) : Prop where
  len : A.length = m + 1
  zero : A[0]? = some 0
  neg : ∀ u : Nat, 1 ≤ u → u < k → A[u]? = some (-1)
theorem AtK.all {m : Nat} {A : List Int} (h : AtK m (m + 1) A) : A = cAt0 (m : Int) := by
  apply List.ext_getElem?
  intro u
  have hr := PutOk.start m
  by_cases hu : u < m + 1
  · cases u with
    | zero => rw [h.zero]; exact hr.zero.symm
    | succ u => rw [h.neg (u + 1) (by omega) hu]; exact (hr.not (u + 1) (by omega) (by omega) (fun l hl => by cases hl)).symm
  · rw [List.getElem?_eq_none (by have := h.len; omega)]
    have h2 : (cAt0 (m : Int)).length = m + 1 := hr.len2
    exact (List.getElem?_eq_none (by omega)).symm
theorem Sep.perm4 {B : Nat} {w : World} {p q r s : Piece} (hS : Lt.Sep B w [p, q, r, s]) : Lt.Sep B w [r, p, s, q] := by
  refine hS.pick (fun i => match i with | 0 => 2 | 1 => 0 | 2 => 3 | _ => 1) (fun i x h => ?_) (fun i j hi hj hne => ?_)
  · match i, h with
    | 0, h => exact h
    | 1, h => exact h
    | 2, h => exact h
    | 3, h => exact h
  · have hi' : i < 4 := hi
    have hj' : j < 4 := hj
    match i, j, hi', hj', hne with
    | 0, 1, _, _, _ => decide
    | 0, 2, _, _, _ => decide
    | 0, 3, _, _, _ => decide
    | 1, 0, _, _, _ => decide
    | 1, 2, _, _, _ => decide
    | 1, 3, _, _, _ => decide
    | 2, 0, _, _, _ => decide
    | 2, 1, _, _, _ => decide
    | 2, 3, _, _, _ => decide
    | 3, 0, _, _, _ => decide
    | 3, 1, _, _, _ => decide
    | 3, 2, _, _, _ => decide
    | 0, 0, _, _, h => exact absurd rfl h
    | 1, 1, _, _, h => exact absurd rfl h
    | 2, 2, _, _, h => exact absurd rfl h
    | 3, 3, _, _, h => exact absurd rfl h
set_option maxHeartbeats 32000000 in
theorem circ_Net (c : Circ) (w : World) (hC : CAt w c) (hg : GoodC' c.t) (hz : SzC c.t 100000) :
    Lt.Spec Try.prog 33 [c.val] w (IsFresh2 2 encN 56 1 encI 3 w (cNet c.t).1 (cNet c.t).2) := by
  have z1 : c.ins.2.2.length ≤ 100000 := hz.1
  have z2 : c.lat.2.2.length ≤ 100000 := hz.2.1
  have z6 : c.gates.2.2.length ≤ 100000 := hz.2.2.2.2.2
  have hm : 0 ≤ c.max ∧ c.max ≤ 16777216 := hg.max
  have hcm : c.t.max = c.max := rfl
  obtain ⟨m, hmm⟩ : ∃ m : Nat, c.max = (m : Int) := ⟨c.max.toNat, by omega⟩
  have hmt : c.max.toNat = m := by omega
  have hown : ∀ x ∈ c.t.own, 2 ≤ x ∧ x % 2 = 0 ∧ x ≤ 2 * c.max := hg.own
  have hused : ∀ x ∈ c.t.used, 0 ≤ x ∧ x ≤ 2 * c.max + 1 := hg.used
  refine Spec.of _ Try.func33 rfl Try.ntmps33 (by kernel_rfl) rfl ?_
  repeat' (first
    | (apply WL.box; exact rfl; exact rfl; exact rfl; intro gb w' hb hge hc hx; have hcc := hc; (first | (obtain ⟨h1, h2, h3, _⟩ := hc) | (obtain ⟨h1, h2, _⟩ := hc)); (have hcells := hcc; obtain ⟨y0, y1, y2, y3, y4, y5, y6, _⟩ := hcc; obtain ⟨gc, rfl⟩ : ∃ x, x = gb := ⟨_, rfl⟩; obtain ⟨wc, rfl⟩ : ∃ x, x = w' := ⟨_, rfl⟩; obtain ⟨hxc, rfl⟩ : ∃ x, x = hx := ⟨_, rfl⟩; have hS : Lt.Sep wc.heap.size wc [prow 2 encN 56 wc.heap.size none 0 []] := Sep.newRow Sep.none' (Ext.refl _) Own.nil (fun k hk => by cases hk) (Nat.le_refl _)))
    | (apply WL.alloc tOk; exact rfl; exact rfl; exact rfl; intro gb w' hb hge hx; replace hS := Sep.newCell (Sep.ext hS (by (exact extA))) hx hb hge (by (first | exact Nat.le_refl _ | exact Below.size (by (exact extA)))); (try simp only [List.set_cons_zero, List.set_cons_succ] at hS); (try have hR0 := hS.row (i := 0) rfl); (try have hR1 := hS.row (i := 1) rfl); (try have hR2 := hS.row (i := 2) rfl); (try have hR3 := hS.row (i := 3) rfl); (try have hR4 := hS.row (i := 4) rfl); (try have hC0 := hS.cell (i := 0) rfl); (try have hD0 := (cells_heap hC0).1); (try have hE0 := (cells_heap hC0).2.1); (try have hF0 := (cells_heap hC0).2.2.1); (try have hG0 := (cells_heap hC0).2.2.2.1); (try have hC1 := hS.cell (i := 1) rfl); (try have hD1 := (cells_heap hC1).1); (try have hE1 := (cells_heap hC1).2.1); (try have hF1 := (cells_heap hC1).2.2.1); (try have hG1 := (cells_heap hC1).2.2.2.1); (try have hC2 := hS.cell (i := 2) rfl); (try have hD2 := (cells_heap hC2).1); (try have hE2 := (cells_heap hC2).2.1); (try have hF2 := (cells_heap hC2).2.2.1); (try have hG2 := (cells_heap hC2).2.2.2.1); (try have hC3 := hS.cell (i := 3) rfl); (try have hD3 := (cells_heap hC3).1); (try have hE3 := (cells_heap hC3).2.1); (try have hF3 := (cells_heap hC3).2.2.1); (try have hG3 := (cells_heap hC3).2.2.2.1); (try have hC4 := hS.cell (i := 4) rfl); (try have hD4 := (cells_heap hC4).1); (try have hE4 := (cells_heap hC4).2.1); (try have hF4 := (cells_heap hC4).2.2.1); (try have hG4 := (cells_heap hC4).2.2.2.1); (try have hM0 := hS.map (i := 0) rfl); (try have hM1 := hS.map (i := 1) rfl); (try have hM2 := hS.map (i := 2) rfl); (try have hM3 := hS.map (i := 3) rfl); (try have hM4 := hS.map (i := 4) rfl); (first | (have h_0 := g4; clear h_0) | (obtain ⟨g4, rfl⟩ : ∃ x, x = gb := ⟨_, rfl⟩)))
    | (apply WL.make (w0 := wc) (z := (0:Int)) tOk; exact rfl; exact rfl; exact rfl; exact rfl; exact rfl; exact rfl; exact rfl; exact rfl; exact rfl; exact encI_ok; exact rfl; exact rfl; (exact extA); (first | omega | (simp; omega) | (simp at *; omega)); intro gb w' hO hge hx; replace hS := Sep.newRow (Sep.ext hS (by (exact extA))) hx hO (fun k hk => by cases hk; exact hge) (by (first | exact Nat.le_refl _ | exact Below.size (by (exact extA)))); (try simp only [List.set_cons_zero, List.set_cons_succ] at hS); (try have hR0 := hS.row (i := 0) rfl); (try have hR1 := hS.row (i := 1) rfl); (try have hR2 := hS.row (i := 2) rfl); (try have hR3 := hS.row (i := 3) rfl); (try have hR4 := hS.row (i := 4) rfl); (try have hC0 := hS.cell (i := 0) rfl); (try have hD0 := (cells_heap hC0).1); (try have hE0 := (cells_heap hC0).2.1); (try have hF0 := (cells_heap hC0).2.2.1); (try have hG0 := (cells_heap hC0).2.2.2.1); (try have hC1 := hS.cell (i := 1) rfl); (try have hD1 := (cells_heap hC1).1); (try have hE1 := (cells_heap hC1).2.1); (try have hF1 := (cells_heap hC1).2.2.1); (try have hG1 := (cells_heap hC1).2.2.2.1); (try have hC2 := hS.cell (i := 2) rfl); (try have hD2 := (cells_heap hC2).1); (try have hE2 := (cells_heap hC2).2.1); (try have hF2 := (cells_heap hC2).2.2.1); (try have hG2 := (cells_heap hC2).2.2.2.1); (try have hC3 := hS.cell (i := 3) rfl); (try have hD3 := (cells_heap hC3).1); (try have hE3 := (cells_heap hC3).2.1); (try have hF3 := (cells_heap hC3).2.2.1); (try have hG3 := (cells_heap hC3).2.2.2.1); (try have hC4 := hS.cell (i := 4) rfl); (try have hD4 := (cells_heap hC4).1); (try have hE4 := (cells_heap hC4).2.1); (try have hF4 := (cells_heap hC4).2.2.1); (try have hG4 := (cells_heap hC4).2.2.2.1); (try have hM0 := hS.map (i := 0) rfl); (try have hM1 := hS.map (i := 1) rfl); (try have hM2 := hS.map (i := 2) rfl); (try have hM3 := hS.map (i := 3) rfl); (try have hM4 := hS.map (i := 4) rfl); (obtain ⟨ga, rfl⟩ : ∃ x, x = gb := ⟨_, rfl⟩))
    | (apply WL.storeB (w0 := wc) tOk; exact rfl; exact rfl; exact rfl; exact rfl; assumption; (exact extA); exact rfl; exact rfl; exact rfl; (exact extA); (first | assumption | omega | (focus (apply Nat.le_trans; rotate_left; assumption; exact Below.size (by (exact extA)); done))); intro w' hb hc hX' hU; have hcc := hc; obtain ⟨h1, h2, _⟩ := hc; (first | replace hS := Sep.updCell (i := 0) rfl hU hb hS (by (exact extA)) (by (first | exact Nat.le_refl _ | exact Below.size (by (exact extA)))) | replace hS := Sep.updCell (i := 1) rfl hU hb hS (by (exact extA)) (by (first | exact Nat.le_refl _ | exact Below.size (by (exact extA)))) | replace hS := Sep.updCell (i := 2) rfl hU hb hS (by (exact extA)) (by (first | exact Nat.le_refl _ | exact Below.size (by (exact extA)))) | replace hS := Sep.updCell (i := 3) rfl hU hb hS (by (exact extA)) (by (first | exact Nat.le_refl _ | exact Below.size (by (exact extA))))); (try simp only [List.set_cons_zero, List.set_cons_succ] at hS); (try have hR0 := hS.row (i := 0) rfl); (try have hR1 := hS.row (i := 1) rfl); (try have hR2 := hS.row (i := 2) rfl); (try have hR3 := hS.row (i := 3) rfl); (try have hR4 := hS.row (i := 4) rfl); (try have hC0 := hS.cell (i := 0) rfl); (try have hD0 := (cells_heap hC0).1); (try have hE0 := (cells_heap hC0).2.1); (try have hF0 := (cells_heap hC0).2.2.1); (try have hG0 := (cells_heap hC0).2.2.2.1); (try have hC1 := hS.cell (i := 1) rfl); (try have hD1 := (cells_heap hC1).1); (try have hE1 := (cells_heap hC1).2.1); (try have hF1 := (cells_heap hC1).2.2.1); (try have hG1 := (cells_heap hC1).2.2.2.1); (try have hC2 := hS.cell (i := 2) rfl); (try have hD2 := (cells_heap hC2).1); (try have hE2 := (cells_heap hC2).2.1); (try have hF2 := (cells_heap hC2).2.2.1); (try have hG2 := (cells_heap hC2).2.2.2.1); (try have hC3 := hS.cell (i := 3) rfl); (try have hD3 := (cells_heap hC3).1); (try have hE3 := (cells_heap hC3).2.1); (try have hF3 := (cells_heap hC3).2.2.1); (try have hG3 := (cells_heap hC3).2.2.2.1); (try have hC4 := hS.cell (i := 4) rfl); (try have hD4 := (cells_heap hC4).1); (try have hE4 := (cells_heap hC4).2.1); (try have hF4 := (cells_heap hC4).2.2.1); (try have hG4 := (cells_heap hC4).2.2.2.1); (try have hM0 := hS.map (i := 0) rfl); (try have hM1 := hS.map (i := 1) rfl); (try have hM2 := hS.map (i := 2) rfl); (try have hM3 := hS.map (i := 3) rfl); (try have hM4 := hS.map (i := 4) rfl))
    | (show WL _ _ _ _ _ _ _; first | apply WL.nil | (refine WL.au (k := ?_)) | (apply WL.index tOk; exact rfl; exact rfl; exact rfl; exact rfl; exact rfl; exact rfl; exact rfl; exact rfl; assumption; (exact extA); exact rfl; omega; assumption; intro b off h; have hcc := h; first | (obtain ⟨h1, h2, h3, h4, h5, h6, _⟩ := h) | (obtain ⟨h1, h2, h3, _⟩ := h) | (obtain ⟨h1, h2, _⟩ := h) | (obtain ⟨h1, _⟩ := h)) | (apply WL.guardF; exact rfl; exact rfl) | (apply WL.gD; exact rfl; exact rfl; all_goals intro _) | (apply WL.gN; exact rfl; exact rfl; all_goals intro _) | (apply WL.gB; exact rfl; exact rfl; all_goals intro _))
    | (show Z _ _ _ _ _; first | apply Z.tail | apply Z.then_normal | apply Z.block_normal | apply Z.then_exit | apply Z.block_exit | apply Z.then_ret | apply Z.block_ret | (apply Z.block_other; exact rfl))
    | (show W _ _ _ _ _ _; first | apply W.seq | apply W.region | apply W.block | apply W.skip | apply W.ret | apply W.exit))
  obtain ⟨g5, rfl⟩ : ∃ x, x = gb := ⟨_, rfl⟩
  have e1 : (c.max + 1).toNat = m + 1 := by omega
  rw [e1, List.length_replicate] at hS
  have hS2 : Lt.Sep wc.heap.size w' (netP wc.heap.size g4 g5 none 0 (some ⟨ga, 0, none⟩) (m + 1) ([], List.replicate (m + 1) 0)) := by
    have := Sep.perm4 hS
    unfold netP
    rw [List.length_replicate]
    exact this
  have hA0 : AtK m 1 (List.replicate (m + 1) 0) := ⟨by simp, rfl, fun u h1 h2 => by omega⟩
  have hX1 : Ext wc w' := (by (exact extA))
  refine W.loopW (m + 1) (fun k w' => k ≤ m ∧ Ext wc w' ∧ ∃ A, AtK m (k + 1) A ∧ Lt.Sep wc.heap.size w' (netP wc.heap.size g4 g5 none 0 (some ⟨ga, 0, none⟩) (m + 1) ([], A))) (fun k => [(1, .pointer (some ⟨gc, 0, none⟩)), (4, .pointer (some ⟨g4, 0, none⟩)), (5, .pointer (some ⟨g5, 0, none⟩)), (6, .int .i64 ((k : Int) + 1))]) ⟨Nat.zero_le _, hX1, _, hA0, hS2⟩ (fun k w' h => by have := h.1; omega) ⟨rfl, rfl, rfl, rfl, trivial⟩ ?_
  clear hS hS2 hA0 hX1
  rintro k w3 ⟨hk, hX3, A, hA, hS⟩
  have hlA := hA.len
  have hlA2 : (([], A) : NA).2.length = m + 1 := hA.len
  have k1 := (cells_heap (hS.cell (i := 1) rfl)).1
  have hAo := hS.row (i := 3) rfl
  by_cases hlt : k < m
  · obtain ⟨yv, hyv⟩ := getI A (show ((k : Int) + 1).toNat < A.length by omega)
    repeat' (first
      | (show WL _ _ _ _ _ _ _; first | apply WL.nil | (refine WL.au (k := ?_)) | (apply WL.index tOk; exact rfl; exact rfl; exact rfl; exact rfl; exact rfl; exact rfl; exact rfl; exact rfl; assumption; (exact extA); exact rfl; omega; assumption; intro b off h; have hcc := h; first | (obtain ⟨h1, h2, h3, h4, h5, h6, _⟩ := h) | (obtain ⟨h1, h2, h3, _⟩ := h) | (obtain ⟨h1, h2, _⟩ := h) | (obtain ⟨h1, _⟩ := h)) | (apply WL.guardF; exact rfl; exact rfl) | (apply WL.gD; exact rfl; exact rfl; all_goals intro _) | (apply WL.gN; exact rfl; exact rfl; all_goals intro _) | (apply WL.gB; exact rfl; exact rfl; all_goals intro _))
      | (show Z _ _ _ _ _; first | apply Z.tail | apply Z.then_normal | apply Z.block_normal | apply Z.then_exit | apply Z.block_exit | apply Z.then_ret | apply Z.block_ret | (apply Z.block_other; exact rfl))
      | (show W _ _ _ _ _ _; first | apply W.seq | apply W.region | apply W.block | apply W.skip | apply W.ret | apply W.exit))
    refine W.condKT rfl (dec_true (by omega)) ?_
    repeat' (first
      | (apply WL.indexO tOk; exact rfl; exact rfl; exact rfl; exact rfl; exact rfl; exact rfl; exact rfl; exact rfl; assumption; (exact extA); exact encI_ok; (first | exact rfl | (focus (simp only [List.length_set]; done)) | (focus (simp; done)) | (focus (simp [*]; done)) | omega | (focus (simp only [List.length_set]; omega))); omega; assumption; intro gb ha hc; cases ha; have hcc := hc; first | (obtain ⟨h1, h2, h3, _⟩ := hc) | (obtain ⟨h1, h2, _⟩ := hc) | (obtain ⟨h1, _⟩ := hc))
      | (apply WL.storeO (z' := ((-1 : Int))) tOk; exact rfl; exact rfl; exact rfl; exact rfl; assumption; (exact extA); exact rfl; exact rfl; exact rfl; exact encI_ok; assumption; exact rfl; (exact extA); intro w' hO hX' hU)
      | (show WL _ _ _ _ _ _ _; first | apply WL.nil | (refine WL.au (k := ?_)) | (apply WL.index tOk; exact rfl; exact rfl; exact rfl; exact rfl; exact rfl; exact rfl; exact rfl; exact rfl; assumption; (exact extA); exact rfl; omega; assumption; intro b off h; have hcc := h; first | (obtain ⟨h1, h2, h3, h4, h5, h6, _⟩ := h) | (obtain ⟨h1, h2, h3, _⟩ := h) | (obtain ⟨h1, h2, _⟩ := h) | (obtain ⟨h1, _⟩ := h)) | (apply WL.guardF; exact rfl; exact rfl) | (apply WL.gD; exact rfl; exact rfl; all_goals intro _) | (apply WL.gN; exact rfl; exact rfl; all_goals intro _) | (apply WL.gB; exact rfl; exact rfl; all_goals intro _))
      | (show Z _ _ _ _ _; first | apply Z.tail | apply Z.then_normal | apply Z.block_normal | apply Z.then_exit | apply Z.block_exit | apply Z.then_ret | apply Z.block_ret | (apply Z.block_other; exact rfl))
      | (show W _ _ _ _ _ _; first | apply W.seq | apply W.region | apply W.block | apply W.skip | apply W.ret | apply W.exit))
    have hS3 := Sep.updRow (i := 3) rfl hU hO (.inl rfl) hS (Ext.refl _) (Below.size hX3)
    refine Z.againW ⟨by omega, (by (exact extA)), A.set ((k : Int) + 1).toNat (-1), ⟨by simp [hlA], ?_, fun u h1 h2 => ?_⟩, ?_⟩ ⟨rfl, rfl, rfl, rfl, trivial⟩
    · rw [List.getElem?_set_ne (by omega)]; exact hA.zero
    · by_cases hu : u = k + 1
      · subst hu; rw [show ((k : Int) + 1).toNat = k + 1 by omega, List.getElem?_set_self (by omega)]
      · rw [List.getElem?_set_ne (by omega)]; exact hA.neg u h1 (by omega)
    · unfold netP
      rw [List.length_set]
      exact hS3
  obtain rfl : k = m := by omega
  obtain rfl := hA.all
  repeat' (first
    | (show WL _ _ _ _ _ _ _; first | apply WL.nil | (refine WL.au (k := ?_)) | (apply WL.index tOk; exact rfl; exact rfl; exact rfl; exact rfl; exact rfl; exact rfl; exact rfl; exact rfl; assumption; (exact extA); exact rfl; omega; assumption; intro b off h; have hcc := h; first | (obtain ⟨h1, h2, h3, h4, h5, h6, _⟩ := h) | (obtain ⟨h1, h2, h3, _⟩ := h) | (obtain ⟨h1, h2, _⟩ := h) | (obtain ⟨h1, _⟩ := h)) | (apply WL.guardF; exact rfl; exact rfl) | (apply WL.gD; exact rfl; exact rfl; all_goals intro _) | (apply WL.gN; exact rfl; exact rfl; all_goals intro _) | (apply WL.gB; exact rfl; exact rfl; all_goals intro _))
    | (show Z _ _ _ _ _; first | apply Z.tail | apply Z.then_normal | apply Z.block_normal | apply Z.then_exit | apply Z.block_exit | apply Z.then_ret | apply Z.block_ret | (apply Z.block_other; exact rfl))
    | (show W _ _ _ _ _ _; first | apply W.seq | apply W.region | apply W.block | apply W.skip | apply W.ret | apply W.exit))
  refine W.condKF rfl (dec_false (by omega)) ?_
  repeat' (first
    | (show WL _ _ _ _ _ _ _; first | apply WL.nil | (refine WL.au (k := ?_)) | (apply WL.index tOk; exact rfl; exact rfl; exact rfl; exact rfl; exact rfl; exact rfl; exact rfl; exact rfl; assumption; (exact extA); exact rfl; omega; assumption; intro b off h; have hcc := h; first | (obtain ⟨h1, h2, h3, h4, h5, h6, _⟩ := h) | (obtain ⟨h1, h2, h3, _⟩ := h) | (obtain ⟨h1, h2, _⟩ := h) | (obtain ⟨h1, _⟩ := h)) | (apply WL.guardF; exact rfl; exact rfl) | (apply WL.gD; exact rfl; exact rfl; all_goals intro _) | (apply WL.gN; exact rfl; exact rfl; all_goals intro _) | (apply WL.gB; exact rfl; exact rfl; all_goals intro _))
    | (show Z _ _ _ _ _; first | apply Z.tail | apply Z.then_normal | apply Z.block_normal | apply Z.then_exit | apply Z.block_exit | apply Z.then_ret | apply Z.block_ret | (apply Z.block_other; exact rfl))
    | (show W _ _ _ _ _ _; first | apply W.seq | apply W.region | apply W.block | apply W.skip | apply W.ret | apply W.exit))
  have Ri := hC.ins.row.ext hxc
  have Rl := hC.lat.row.ext hxc
  have Rg := hC.gates.row.ext hxc
  have hown1 : ∀ x ∈ c.ins.2.2, 2 ≤ x ∧ x % 2 = 0 ∧ x ≤ 2 * c.max := fun x hx => hown x (List.mem_append_left _ (List.mem_append_left _ hx))
  have hown2 : ∀ x ∈ c.lat.2.2, 2 ≤ x.1 ∧ x.1 % 2 = 0 ∧ x.1 ≤ 2 * c.max := fun x hx => hown x.1 (List.mem_append_left _ (List.mem_append_right _ (List.mem_map.2 ⟨x, hx, rfl⟩)))
  have e10 : cS1 c.t 0 = ([], cAt0 (k : Int)) := by rw [cS1_0, hcm, hmm]
  refine W.loopW c.ins.2.2.length (fun j w' => j ≤ c.ins.2.2.length ∧ Ext wc w' ∧ ∃ an cn, Lt.Sep wc.heap.size w' (netP wc.heap.size g4 g5 an cn (some ⟨ga, 0, none⟩) (k + 1) (cS1 c.t j) ++ [])) (fun j => [(1, .pointer (some ⟨gc, 0, none⟩)), (4, .pointer (some ⟨g4, 0, none⟩)), (5, .pointer (some ⟨g5, 0, none⟩)), (7, .func (.func 79) #[] #[.pointer (some ⟨g4, 0, none⟩), .pointer (some ⟨g5, 0, none⟩)]), (31, rowVal c.ins), (32, .int .i64 (c.ins.2.2.length : Nat)), (33, .int .i64 j)]) ⟨Nat.zero_le _, hX3, none, 0, by rw [e10]; exact hS⟩ (fun k w' h => h.1) ⟨rfl, rfl, rfl, rfl, rfl, rfl, rfl, trivial⟩ ?_
  clear hS hAo k1 hX3 hlA hlA2 hA
  rintro j w4 ⟨hj, hX4, an, cn, hS⟩
  have hl1 : (cS1 c.t j).1.length = j ∧ (cS1 c.t j).2.length = c.max.toNat + 1 := cS1_len c.t hj
  by_cases hlt : j < c.ins.2.2.length
  · obtain ⟨x, hgx⟩ := getI c.ins.2.2 hlt
    have hxo := hown1 x (List.mem_of_getElem? hgx)
    have e1 := cS1_s (c := c.t) hgx
    have hcall := circ_Net1 wc w4 g4 g5 an cn (some ⟨ga, 0, none⟩) (k + 1) (cS1 c.t j) [] x (-1, 0) hX4 hS (by omega) (by omega) (by omega)
    repeat' (first
      | (show WL _ _ _ _ _ _ _; first | apply WL.nil | (refine WL.au (k := ?_)) | (apply WL.index tOk; exact rfl; exact rfl; exact rfl; exact rfl; exact rfl; exact rfl; exact rfl; exact rfl; assumption; (exact extA); exact rfl; omega; assumption; intro b off h; have hcc := h; first | (obtain ⟨h1, h2, h3, h4, h5, h6, _⟩ := h) | (obtain ⟨h1, h2, h3, _⟩ := h) | (obtain ⟨h1, h2, _⟩ := h) | (obtain ⟨h1, _⟩ := h)) | (apply WL.guardF; exact rfl; exact rfl) | (apply WL.gD; exact rfl; exact rfl; all_goals intro _) | (apply WL.gN; exact rfl; exact rfl; all_goals intro _) | (apply WL.gB; exact rfl; exact rfl; all_goals intro _))
      | (show Z _ _ _ _ _; first | apply Z.tail | apply Z.then_normal | apply Z.block_normal | apply Z.then_exit | apply Z.block_exit | apply Z.then_ret | apply Z.block_ret | (apply Z.block_other; exact rfl))
      | (show W _ _ _ _ _ _; first | apply W.seq | apply W.region | apply W.block | apply W.skip | apply W.ret | apply W.exit))
    refine W.condKT rfl (dec_true (by omega)) ?_
    repeat' (first
      | (apply WL.build tOk; exact rfl; exact rfl; exact rfl; exact rfl; exact rfl; exact rfl; exact rfl; kernel_rfl)
      | ((show WL _ _ _ (⟨_, .call ⟨.value (.tmp _), _, _⟩, _, _, _, _⟩ :: _) _ _ _; apply WL.call; exact rfl; exact rfl; exact rfl; exact rfl; exact hcall; rintro v' w5 ⟨rfl, hX5, an2, cn2, hS5⟩))
      | (show WL _ _ _ _ _ _ _; first | apply WL.nil | (refine WL.au (k := ?_)) | (apply WL.index tOk; exact rfl; exact rfl; exact rfl; exact rfl; exact rfl; exact rfl; exact rfl; exact rfl; assumption; (exact extA); exact rfl; omega; assumption; intro b off h; have hcc := h; first | (obtain ⟨h1, h2, h3, h4, h5, h6, _⟩ := h) | (obtain ⟨h1, h2, h3, _⟩ := h) | (obtain ⟨h1, h2, _⟩ := h) | (obtain ⟨h1, _⟩ := h)) | (apply WL.guardF; exact rfl; exact rfl) | (apply WL.gD; exact rfl; exact rfl; all_goals intro _) | (apply WL.gN; exact rfl; exact rfl; all_goals intro _) | (apply WL.gB; exact rfl; exact rfl; all_goals intro _))
      | (show Z _ _ _ _ _; first | apply Z.tail | apply Z.then_normal | apply Z.block_normal | apply Z.then_exit | apply Z.block_exit | apply Z.then_ret | apply Z.block_ret | (apply Z.block_other; exact rfl))
      | (show W _ _ _ _ _ _; first | apply W.seq | apply W.region | apply W.block | apply W.skip | apply W.ret | apply W.exit))
    exact Z.againW ⟨by omega, hX5, an2, cn2, by rw [e1]; exact hS5⟩ ⟨rfl, rfl, rfl, rfl, rfl, rfl, rfl, trivial⟩
  obtain rfl : j = c.ins.2.2.length := by omega
  repeat' (first
    | (show WL _ _ _ _ _ _ _; first | apply WL.nil | (refine WL.au (k := ?_)) | (apply WL.index tOk; exact rfl; exact rfl; exact rfl; exact rfl; exact rfl; exact rfl; exact rfl; exact rfl; assumption; (exact extA); exact rfl; omega; assumption; intro b off h; have hcc := h; first | (obtain ⟨h1, h2, h3, h4, h5, h6, _⟩ := h) | (obtain ⟨h1, h2, h3, _⟩ := h) | (obtain ⟨h1, h2, _⟩ := h) | (obtain ⟨h1, _⟩ := h)) | (apply WL.guardF; exact rfl; exact rfl) | (apply WL.gD; exact rfl; exact rfl; all_goals intro _) | (apply WL.gN; exact rfl; exact rfl; all_goals intro _) | (apply WL.gB; exact rfl; exact rfl; all_goals intro _))
    | (show Z _ _ _ _ _; first | apply Z.tail | apply Z.then_normal | apply Z.block_normal | apply Z.then_exit | apply Z.block_exit | apply Z.then_ret | apply Z.block_ret | (apply Z.block_other; exact rfl))
    | (show W _ _ _ _ _ _; first | apply W.seq | apply W.region | apply W.block | apply W.skip | apply W.ret | apply W.exit))
  refine W.condKF rfl (dec_false (by omega)) ?_
  repeat' (first
    | (show WL _ _ _ _ _ _ _; first | apply WL.nil | (refine WL.au (k := ?_)) | (apply WL.index tOk; exact rfl; exact rfl; exact rfl; exact rfl; exact rfl; exact rfl; exact rfl; exact rfl; assumption; (exact extA); exact rfl; omega; assumption; intro b off h; have hcc := h; first | (obtain ⟨h1, h2, h3, h4, h5, h6, _⟩ := h) | (obtain ⟨h1, h2, h3, _⟩ := h) | (obtain ⟨h1, h2, _⟩ := h) | (obtain ⟨h1, _⟩ := h)) | (apply WL.guardF; exact rfl; exact rfl) | (apply WL.gD; exact rfl; exact rfl; all_goals intro _) | (apply WL.gN; exact rfl; exact rfl; all_goals intro _) | (apply WL.gB; exact rfl; exact rfl; all_goals intro _))
    | (show Z _ _ _ _ _; first | apply Z.tail | apply Z.then_normal | apply Z.block_normal | apply Z.then_exit | apply Z.block_exit | apply Z.then_ret | apply Z.block_ret | (apply Z.block_other; exact rfl))
    | (show W _ _ _ _ _ _; first | apply W.seq | apply W.region | apply W.block | apply W.skip | apply W.ret | apply W.exit))
  have e20 : cS2 c.t 0 = cS1 c.t c.ins.2.2.length := cS2_0 c.t
  refine W.loopW c.lat.2.2.length (fun j w' => j ≤ c.lat.2.2.length ∧ Ext wc w' ∧ ∃ an cn, Lt.Sep wc.heap.size w' (netP wc.heap.size g4 g5 an cn (some ⟨ga, 0, none⟩) (k + 1) (cS2 c.t j) ++ [])) (fun j => [(1, .pointer (some ⟨gc, 0, none⟩)), (4, .pointer (some ⟨g4, 0, none⟩)), (5, .pointer (some ⟨g5, 0, none⟩)), (7, .func (.func 79) #[] #[.pointer (some ⟨g4, 0, none⟩), .pointer (some ⟨g5, 0, none⟩)]), (43, rowVal c.lat), (44, .int .i64 (c.lat.2.2.length : Nat)), (45, .int .i64 j)]) ⟨Nat.zero_le _, hX4, an, cn, by rw [e20]; exact hS⟩ (fun k w' h => h.1) ⟨rfl, rfl, rfl, rfl, rfl, rfl, rfl, trivial⟩ ?_
  clear hS hX4 hl1 hj hlt
  rintro j w4 ⟨hj, hX4, an, cn, hS⟩
  have hl1 : (cS2 c.t j).1.length = c.ins.2.2.length + j ∧ (cS2 c.t j).2.length = c.max.toNat + 1 := cS2_len c.t hj
  by_cases hlt : j < c.lat.2.2.length
  · obtain ⟨x, hgx⟩ := getI c.lat.2.2 hlt
    have hxo := hown2 x (List.mem_of_getElem? hgx)
    have e1 := cS2_s (c := c.t) hgx
    have hcall := fun (w9 : World) (h9 : Ext w4 w9) => circ_Net1 wc w9 g4 g5 an cn (some ⟨ga, 0, none⟩) (k + 1) (cS2 c.t j) [] x.1 (-1, 0) (hX4.trans h9) (hS.ext h9) (by omega) (by omega) (by omega)
    repeat' (first
      | (show WL _ _ _ _ _ _ _; first | apply WL.nil | (refine WL.au (k := ?_)) | (apply WL.index tOk; exact rfl; exact rfl; exact rfl; exact rfl; exact rfl; exact rfl; exact rfl; exact rfl; assumption; (exact extA); exact rfl; omega; assumption; intro b off h; have hcc := h; first | (obtain ⟨h1, h2, h3, h4, h5, h6, _⟩ := h) | (obtain ⟨h1, h2, h3, _⟩ := h) | (obtain ⟨h1, h2, _⟩ := h) | (obtain ⟨h1, _⟩ := h)) | (apply WL.guardF; exact rfl; exact rfl) | (apply WL.gD; exact rfl; exact rfl; all_goals intro _) | (apply WL.gN; exact rfl; exact rfl; all_goals intro _) | (apply WL.gB; exact rfl; exact rfl; all_goals intro _))
      | (show Z _ _ _ _ _; first | apply Z.tail | apply Z.then_normal | apply Z.block_normal | apply Z.then_exit | apply Z.block_exit | apply Z.then_ret | apply Z.block_ret | (apply Z.block_other; exact rfl))
      | (show W _ _ _ _ _ _; first | apply W.seq | apply W.region | apply W.block | apply W.skip | apply W.ret | apply W.exit))
    refine W.condKT rfl (dec_true (by omega)) ?_
    repeat' (first
      | (apply WL.alloc tOk; exact rfl; exact rfl; exact rfl; intro gb w' hb hge hx)
      | (apply WL.storeB (w0 := w4) tOk; exact rfl; exact rfl; exact rfl; exact rfl; assumption; (exact extA); exact rfl; exact rfl; exact rfl; (exact extA); (first | assumption | omega | (focus (apply Nat.le_trans; rotate_left; assumption; exact Below.size (by (exact extA)); done))); intro w' hb hc hX' hU; have hcc := hc; obtain ⟨h1, h2, _⟩ := hc; (have hC8 := cells_heap hb; obtain ⟨i0, i1, i2, _⟩ := hC8))
      | (apply WL.build tOk; exact rfl; exact rfl; exact rfl; exact rfl; exact rfl; exact rfl; exact rfl; kernel_rfl)
      | ((show WL _ _ _ (⟨_, .call ⟨.value (.tmp _), _, _⟩, _, _, _, _⟩ :: _) _ _ _; apply WL.call; exact rfl; exact rfl; exact rfl; exact rfl; exact hcall _ (by (exact extA)); rintro v' w5 ⟨rfl, hX5, an2, cn2, hS5⟩))
      | (show WL _ _ _ _ _ _ _; first | apply WL.nil | (refine WL.au (k := ?_)) | (apply WL.index tOk; exact rfl; exact rfl; exact rfl; exact rfl; exact rfl; exact rfl; exact rfl; exact rfl; assumption; (exact extA); exact rfl; omega; assumption; intro b off h; have hcc := h; first | (obtain ⟨h1, h2, h3, h4, h5, h6, _⟩ := h) | (obtain ⟨h1, h2, h3, _⟩ := h) | (obtain ⟨h1, h2, _⟩ := h) | (obtain ⟨h1, _⟩ := h)) | (apply WL.guardF; exact rfl; exact rfl) | (apply WL.gD; exact rfl; exact rfl; all_goals intro _) | (apply WL.gN; exact rfl; exact rfl; all_goals intro _) | (apply WL.gB; exact rfl; exact rfl; all_goals intro _))
      | (show Z _ _ _ _ _; first | apply Z.tail | apply Z.then_normal | apply Z.block_normal | apply Z.then_exit | apply Z.block_exit | apply Z.then_ret | apply Z.block_ret | (apply Z.block_other; exact rfl))
      | (show W _ _ _ _ _ _; first | apply W.seq | apply W.region | apply W.block | apply W.skip | apply W.ret | apply W.exit))
    exact Z.againW ⟨by omega, hX5, an2, cn2, by rw [e1]; exact hS5⟩ ⟨rfl, rfl, rfl, rfl, rfl, rfl, rfl, trivial⟩
  obtain rfl : j = c.lat.2.2.length := by omega
  repeat' (first
    | (show WL _ _ _ _ _ _ _; first | apply WL.nil | (refine WL.au (k := ?_)) | (apply WL.index tOk; exact rfl; exact rfl; exact rfl; exact rfl; exact rfl; exact rfl; exact rfl; exact rfl; assumption; (exact extA); exact rfl; omega; assumption; intro b off h; have hcc := h; first | (obtain ⟨h1, h2, h3, h4, h5, h6, _⟩ := h) | (obtain ⟨h1, h2, h3, _⟩ := h) | (obtain ⟨h1, h2, _⟩ := h) | (obtain ⟨h1, _⟩ := h)) | (apply WL.guardF; exact rfl; exact rfl) | (apply WL.gD; exact rfl; exact rfl; all_goals intro _) | (apply WL.gN; exact rfl; exact rfl; all_goals intro _) | (apply WL.gB; exact rfl; exact rfl; all_goals intro _))
    | (show Z _ _ _ _ _; first | apply Z.tail | apply Z.then_normal | apply Z.block_normal | apply Z.then_exit | apply Z.block_exit | apply Z.then_ret | apply Z.block_ret | (apply Z.block_other; exact rfl))
    | (show W _ _ _ _ _ _; first | apply W.seq | apply W.region | apply W.block | apply W.skip | apply W.ret | apply W.exit))
  refine W.condKF rfl (dec_false (by omega)) ?_
  have hgm : ∀ g ∈ c.gates.2.2, g.1 ∈ c.t.own ∧ g.2.1 ∈ c.t.used ∧ g.2.2 ∈ c.t.used := fun g hg =>
    ⟨List.mem_append.2 (.inr (List.mem_map.2 ⟨g, hg, rfl⟩)), List.mem_append.2 (.inr (List.mem_flatMap.2 ⟨g, hg, by simp⟩)), List.mem_append.2 (.inr (List.mem_flatMap.2 ⟨g, hg, by simp⟩))⟩
  have hok : gsOk c.gates.2.2 := fun g hg => by
    obtain ⟨r1, r2, r3⟩ := hgm g hg
    have := hown _ r1
    have := hused _ r2
    have := hused _ r3
    omega
  have h7 : ¬ Twice c.t := fun ⟨i, x, a1, a2⟩ => by
    have h3 := List.pairwise_iff_getElem.1 (List.nodup_iff_pairwise_ne.1 hg.once)
    obtain ⟨j, hj, he⟩ := List.mem_take_iff_getElem.1 a2
    obtain ⟨hi, he2⟩ := List.getElem?_eq_some_iff.1 a1
    exact h3 j i (by omega) hi (by omega) (by rw [he, he2])
  have honce : Once c.gates.2.2 := once_of (c := c.t) h7 fun x hx => (hown x hx).2.1
  have hcells4 := hcells.ext hX4
  have x0 : Cells w4 gc 0 c.vals := hcells4
  repeat' (first
    | ((show WL _ _ _ (⟨_, .call ⟨.value (.func 35), _, _⟩, _, _, _, _⟩ :: _) _ _ _); apply WL.call; exact rfl; exact rfl; exact rfl; exact rfl; exact circ_Order c _ (Rg.ext (by (exact extA))) hok (by omega) honce; rintro v' w' ⟨hx, a', cap', rfl, hO⟩; (obtain ⟨hOd, rfl⟩ : ∃ x, x = hO := ⟨_, rfl⟩; obtain ⟨hxd, rfl⟩ : ∃ x, x = hx := ⟨_, rfl⟩; obtain ⟨wd, rfl⟩ : ∃ x, x = w' := ⟨_, rfl⟩; obtain ⟨ad, rfl⟩ : ∃ x, x = a' := ⟨_, rfl⟩; obtain ⟨cd, rfl⟩ : ∃ x, x = cap' := ⟨_, rfl⟩))
    | (show WL _ _ _ _ _ _ _; first | apply WL.nil | (refine WL.au (k := ?_)) | (apply WL.index tOk; exact rfl; exact rfl; exact rfl; exact rfl; exact rfl; exact rfl; exact rfl; exact rfl; assumption; (exact extA); exact rfl; omega; assumption; intro b off h; have hcc := h; first | (obtain ⟨h1, h2, h3, h4, h5, h6, _⟩ := h) | (obtain ⟨h1, h2, h3, _⟩ := h) | (obtain ⟨h1, h2, _⟩ := h) | (obtain ⟨h1, _⟩ := h)) | (apply WL.guardF; exact rfl; exact rfl) | (apply WL.gD; exact rfl; exact rfl; all_goals intro _) | (apply WL.gN; exact rfl; exact rfl; all_goals intro _) | (apply WL.gB; exact rfl; exact rfl; all_goals intro _))
    | (show Z _ _ _ _ _; first | apply Z.tail | apply Z.then_normal | apply Z.block_normal | apply Z.then_exit | apply Z.block_exit | apply Z.then_ret | apply Z.block_ret | (apply Z.block_other; exact rfl))
    | (show W _ _ _ _ _ _; first | apply W.seq | apply W.region | apply W.block | apply W.skip | apply W.ret | apply W.exit))
  have hS0 : Lt.Sep wc.heap.size wd (netP wc.heap.size g4 g5 an cn (some ⟨ga, 0, none⟩) (k + 1) (cS2 c.t c.lat.2.2.length) ++ [prow 1 encI 3 wc.heap.size ad cd (natI (ordL c.gates.2.2))]) := by
    have h1 := hS.newRow' hxd hOd (Below.size hX4)
    rw [List.append_nil] at h1
    exact Sep.comm (ps := [prow 1 encI 3 wc.heap.size ad cd (natI (ordL c.gates.2.2))]) h1
  have hXd : Ext wc wd := (by (exact extA))
  have e30 : cS3 c.t 0 = cS2 c.t c.lat.2.2.length := cS3_0 c.t
  have hnl : (natI (ordL c.gates.2.2)).length = (ordL c.gates.2.2).length := by simp [natI]
  have hol : (ordL c.gates.2.2).length ≤ c.gates.2.2.length := (ordL_is c.gates.2.2).1.le
  refine W.loopW (ordL c.gates.2.2).length (fun j w' => j ≤ (ordL c.gates.2.2).length ∧ Ext wc w' ∧ ∃ an cn, Lt.Sep wc.heap.size w' (netP wc.heap.size g4 g5 an cn (some ⟨ga, 0, none⟩) (k + 1) (cS3 c.t j) ++ [prow 1 encI 3 wc.heap.size ad cd (natI (ordL c.gates.2.2))])) (fun j => [(1, .pointer (some ⟨gc, 0, none⟩)), (4, .pointer (some ⟨g4, 0, none⟩)), (5, .pointer (some ⟨g5, 0, none⟩)), (7, .func (.func 79) #[] #[.pointer (some ⟨g4, 0, none⟩), .pointer (some ⟨g5, 0, none⟩)]), (12, .func (.func 80) #[] #[.pointer (some ⟨g5, 0, none⟩)]), (57, .slice ad (natI (ordL c.gates.2.2)).length cd), (58, .int .i64 (natI (ordL c.gates.2.2)).length), (59, .int .i64 j)]) ⟨Nat.zero_le _, hXd, an, cn, by rw [e30]; exact hS0⟩ (fun k w' h => h.1) ⟨rfl, rfl, rfl, rfl, rfl, rfl, rfl, rfl, trivial⟩ ?_
  clear hS hS0 hX4 hl1 hj hlt hcells4 x0 hXd
  rintro j w4 ⟨hj, hX4, an, cn, hS⟩
  have hl1 : (cS3 c.t j).1.length = c.ins.2.2.length + c.lat.2.2.length + j ∧ (cS3 c.t j).2.length = c.max.toNat + 1 := cS3_len c.t hj
  by_cases hlt : j < (ordL c.gates.2.2).length
  · obtain ⟨i, hi⟩ := getI (ordL c.gates.2.2) hlt
    obtain ⟨g, za, zb, hgg, hza, hzb, ka, kb⟩ := cS3_get hg (c := c.t) hi
    have hgg : c.gates.2.2[i]? = some g := hgg
    have hgi : c.gates.2.2[((i : Nat) : Int).toNat]? = some g := by rw [Int.toNat_natCast]; exact hgg
    have hgo := hok g (List.mem_of_getElem? hgg)
    have hgw := hown g.1 (hgm g (List.mem_of_getElem? hgg)).1
    have hgl := lt_of_get hgg
    have hni : (natI (ordL c.gates.2.2))[((j : Nat) : Int).toNat]? = some (i : Int) := by rw [Int.toNat_natCast, natI, List.getElem?_map, hi]; rfl
    have e1 : cS3 c.t (j + 1) = cput (cS3 c.t j) g.1 (litI (cS3 c.t j).2 g.2.1, litI (cS3 c.t j).2 g.2.2) := by rw [cS3_s (c := c.t) hi]; unfold cGate; rw [gAt_of hgg]
    have k1 := (cells_heap (hS.cell (i := 1) rfl)).1
    have RA := (hS.row (i := 3) rfl).row encI_ok
    have RO := (hS.row (i := 4) rfl).row encI_ok
    have hcall := fun (w9 : World) (h9 : Ext w4 w9) => circ_Net1 wc w9 g4 g5 an cn (some ⟨ga, 0, none⟩) (k + 1) (cS3 c.t j) [prow 1 encI 3 wc.heap.size ad cd (natI (ordL c.gates.2.2))] g.1 (litI (cS3 c.t j).2 g.2.1, litI (cS3 c.t j).2 g.2.2) (hX4.trans h9) (hS.ext h9) (by omega) (by omega) (by omega)
    repeat' (first
      | (show WL _ _ _ _ _ _ _; first | apply WL.nil | (refine WL.au (k := ?_)) | (apply WL.index tOk; exact rfl; exact rfl; exact rfl; exact rfl; exact rfl; exact rfl; exact rfl; exact rfl; assumption; (exact extA); exact rfl; omega; assumption; intro b off h; have hcc := h; first | (obtain ⟨h1, h2, h3, h4, h5, h6, _⟩ := h) | (obtain ⟨h1, h2, h3, _⟩ := h) | (obtain ⟨h1, h2, _⟩ := h) | (obtain ⟨h1, _⟩ := h)) | (apply WL.guardF; exact rfl; exact rfl) | (apply WL.gD; exact rfl; exact rfl; all_goals intro _) | (apply WL.gN; exact rfl; exact rfl; all_goals intro _) | (apply WL.gB; exact rfl; exact rfl; all_goals intro _))
      | (show Z _ _ _ _ _; first | apply Z.tail | apply Z.then_normal | apply Z.block_normal | apply Z.then_exit | apply Z.block_exit | apply Z.then_ret | apply Z.block_ret | (apply Z.block_other; exact rfl))
      | (show W _ _ _ _ _ _; first | apply W.seq | apply W.region | apply W.block | apply W.skip | apply W.ret | apply W.exit))
    refine W.condKT rfl (dec_true (by omega)) ?_
    repeat' (first
      | (apply WL.alloc tOk; exact rfl; exact rfl; exact rfl; intro gb w' hb hge hx)
      | (apply WL.storeB (w0 := w4) tOk; exact rfl; exact rfl; exact rfl; exact rfl; assumption; (exact extA); exact rfl; exact rfl; exact rfl; (exact extA); (first | assumption | omega | (focus (apply Nat.le_trans; rotate_left; assumption; exact Below.size (by (exact extA)); done))); intro w' hb hc hX' hU; have hcc := hc; obtain ⟨h1, h2, _⟩ := hc; (obtain ⟨w6, rfl⟩ : ∃ x, x = w' := ⟨_, rfl⟩; obtain ⟨hX6, rfl⟩ : ∃ x, x = hX' := ⟨_, rfl⟩; have hC8 := cells_heap hb; obtain ⟨i0, i1, i2, _⟩ := hC8))
      | (show WL _ _ _ _ _ _ _; first | apply WL.nil | (refine WL.au (k := ?_)) | (apply WL.index tOk; exact rfl; exact rfl; exact rfl; exact rfl; exact rfl; exact rfl; exact rfl; exact rfl; assumption; (exact extA); exact rfl; omega; assumption; intro b off h; have hcc := h; first | (obtain ⟨h1, h2, h3, h4, h5, h6, _⟩ := h) | (obtain ⟨h1, h2, h3, _⟩ := h) | (obtain ⟨h1, h2, _⟩ := h) | (obtain ⟨h1, _⟩ := h)) | (apply WL.guardF; exact rfl; exact rfl) | (apply WL.gD; exact rfl; exact rfl; all_goals intro _) | (apply WL.gN; exact rfl; exact rfl; all_goals intro _) | (apply WL.gB; exact rfl; exact rfl; all_goals intro _))
      | (show Z _ _ _ _ _; first | apply Z.tail | apply Z.then_normal | apply Z.block_normal | apply Z.then_exit | apply Z.block_exit | apply Z.then_ret | apply Z.block_ret | (apply Z.block_other; exact rfl))
      | (show W _ _ _ _ _ _; first | apply W.seq | apply W.region | apply W.block | apply W.skip | apply W.ret | apply W.exit))
    have k1' := hX6.cell k1
    have RA' := RA.ext hX6
    repeat' (first
      | (apply W.regionQS 12 tMix; kernel_rfl; exact rfl; kernel_rfl; kernel_rfl)
      | (apply WL.build tOk; exact rfl; exact rfl; exact rfl; exact rfl; exact rfl; exact rfl; exact rfl; kernel_rfl)
      | (apply QL.build tOk; exact rfl; exact rfl; exact rfl; exact rfl; exact rfl; exact rfl; exact rfl; kernel_rfl)
      | ((show WL _ _ _ (⟨_, .call ⟨.value (.tmp _), _, _⟩, _, _, _, _⟩ :: _) _ _ _); apply WL.callS; exact rfl; exact rfl; exact rfl; exact rfl; exact circ_Net2 _ g5 _ _ (cS3 c.t j).2 g.2.1 za k1' RA' (by omega) (by omega) hza (by omega))
      | ((show QL _ _ _ _ (⟨_, .call ⟨.value (.tmp _), _, _⟩, _, _, _, _⟩ :: _) _ _); apply QL.callS; exact rfl; exact rfl; exact rfl; exact rfl; exact circ_Net2 _ g5 _ _ (cS3 c.t j).2 g.2.1 za k1' RA' (by omega) (by omega) hza (by omega))
      | ((show WL _ _ _ (⟨_, .call ⟨.value (.tmp _), _, _⟩, _, _, _, _⟩ :: _) _ _ _); apply WL.callS; exact rfl; exact rfl; exact rfl; exact rfl; exact circ_Net2 _ g5 _ _ (cS3 c.t j).2 g.2.2 zb k1' RA' (by omega) (by omega) hzb (by omega))
      | ((show QL _ _ _ _ (⟨_, .call ⟨.value (.tmp _), _, _⟩, _, _, _, _⟩ :: _) _ _); apply QL.callS; exact rfl; exact rfl; exact rfl; exact rfl; exact circ_Net2 _ g5 _ _ (cS3 c.t j).2 g.2.2 zb k1' RA' (by omega) (by omega) hzb (by omega))
      | ((show WL _ _ _ (⟨_, .call ⟨.value (.tmp _), _, _⟩, _, _, _, _⟩ :: _) _ _ _; apply WL.call; exact rfl; exact rfl; exact rfl; exact rfl; exact hcall _ (by (exact extA)); rintro v' w5 ⟨rfl, hX5, an2, cn2, hS5⟩))
      | (show WL _ _ _ _ _ _ _; first | apply WL.nil | (refine WL.au (k := ?_)) | (apply WL.index tOk; exact rfl; exact rfl; exact rfl; exact rfl; exact rfl; exact rfl; exact rfl; exact rfl; assumption; (exact extA); exact rfl; omega; assumption; intro b off h; have hcc := h; first | (obtain ⟨h1, h2, h3, h4, h5, h6, _⟩ := h) | (obtain ⟨h1, h2, h3, _⟩ := h) | (obtain ⟨h1, h2, _⟩ := h) | (obtain ⟨h1, _⟩ := h)) | (apply WL.guardF; exact rfl; exact rfl) | (apply WL.gD; exact rfl; exact rfl; all_goals intro _) | (apply WL.gN; exact rfl; exact rfl; all_goals intro _) | (apply WL.gB; exact rfl; exact rfl; all_goals intro _))
      | (show QL _ _ _ _ _ _ _; first | apply QL.nil | (refine QL.au (k := ?_)) | (apply QL.index tOk; exact rfl; exact rfl; exact rfl; exact rfl; exact rfl; exact rfl; exact rfl; exact rfl; assumption; (exact extA); exact rfl; omega; assumption; intro b off h; have hcc := h; first | (obtain ⟨h1, h2, h3, h4, h5, h6, _⟩ := h) | (obtain ⟨h1, h2, h3, _⟩ := h) | (obtain ⟨h1, h2, _⟩ := h) | (obtain ⟨h1, _⟩ := h)) | (apply QL.guardF; exact rfl; exact rfl) | (apply QL.gD; exact rfl; exact rfl; all_goals intro _) | (apply QL.gN; exact rfl; exact rfl; all_goals intro _) | (apply QL.gB; exact rfl; exact rfl; all_goals intro _))
      | (show Z _ _ _ _ _; first | apply Z.tail | apply Z.then_normal | apply Z.block_normal | apply Z.then_exit | apply Z.block_exit | apply Z.then_ret | apply Z.block_ret | (apply Z.block_other; exact rfl))
      | (show W _ _ _ _ _ _; first | apply W.seq | apply W.region | apply W.block | apply W.skip | apply W.ret | apply W.exit | (apply W.condT; exact rfl) | (apply W.condF; exact rfl) | (apply W.condD; exact rfl; all_goals intro _) | (apply W.condN; exact rfl; all_goals intro _) | (apply W.condB; exact rfl; all_goals intro _) | (apply W.regionD tMix; kernel_rfl)))
    exact Z.againW ⟨by omega, hX5, an2, cn2, by rw [e1]; exact hS5⟩ ⟨rfl, rfl, rfl, rfl, rfl, rfl, rfl, rfl, trivial⟩
  obtain rfl : j = (ordL c.gates.2.2).length := by omega
  repeat' (first
    | (show WL _ _ _ _ _ _ _; first | apply WL.nil | (refine WL.au (k := ?_)) | (apply WL.index tOk; exact rfl; exact rfl; exact rfl; exact rfl; exact rfl; exact rfl; exact rfl; exact rfl; assumption; (exact extA); exact rfl; omega; assumption; intro b off h; have hcc := h; first | (obtain ⟨h1, h2, h3, h4, h5, h6, _⟩ := h) | (obtain ⟨h1, h2, h3, _⟩ := h) | (obtain ⟨h1, h2, _⟩ := h) | (obtain ⟨h1, _⟩ := h)) | (apply WL.guardF; exact rfl; exact rfl) | (apply WL.gD; exact rfl; exact rfl; all_goals intro _) | (apply WL.gN; exact rfl; exact rfl; all_goals intro _) | (apply WL.gB; exact rfl; exact rfl; all_goals intro _))
    | (show Z _ _ _ _ _; first | apply Z.tail | apply Z.then_normal | apply Z.block_normal | apply Z.then_exit | apply Z.block_exit | apply Z.then_ret | apply Z.block_ret | (apply Z.block_other; exact rfl))
    | (show W _ _ _ _ _ _; first | apply W.seq | apply W.region | apply W.block | apply W.skip | apply W.ret | apply W.exit))
  refine W.condKF rfl (dec_false (by omega)) ?_
  have e39 : cS3 c.t (ordL c.gates.2.2).length = cNet c.t := cS3_all c.t
  rw [e39] at hS
  have k0 := (cells_heap (hS.cell (i := 0) rfl)).1
  have k1 := (cells_heap (hS.cell (i := 1) rfl)).1
  have hwc := Below.size hxc
  repeat' (first
    | (show WL _ _ _ _ _ _ _; first | apply WL.nil | (refine WL.au (k := ?_)) | (apply WL.index tOk; exact rfl; exact rfl; exact rfl; exact rfl; exact rfl; exact rfl; exact rfl; exact rfl; assumption; (exact extA); exact rfl; omega; assumption; intro b off h; have hcc := h; first | (obtain ⟨h1, h2, h3, h4, h5, h6, _⟩ := h) | (obtain ⟨h1, h2, h3, _⟩ := h) | (obtain ⟨h1, h2, _⟩ := h) | (obtain ⟨h1, _⟩ := h)) | (apply WL.guardF; exact rfl; exact rfl) | (apply WL.gD; exact rfl; exact rfl; all_goals intro _) | (apply WL.gN; exact rfl; exact rfl; all_goals intro _) | (apply WL.gB; exact rfl; exact rfl; all_goals intro _))
    | (show QL _ _ _ _ _ _ _; first | apply QL.nil | (refine QL.au (k := ?_)) | (apply QL.index tOk; exact rfl; exact rfl; exact rfl; exact rfl; exact rfl; exact rfl; exact rfl; exact rfl; assumption; (exact extA); exact rfl; omega; assumption; intro b off h; have hcc := h; first | (obtain ⟨h1, h2, h3, h4, h5, h6, _⟩ := h) | (obtain ⟨h1, h2, h3, _⟩ := h) | (obtain ⟨h1, h2, _⟩ := h) | (obtain ⟨h1, _⟩ := h)) | (apply QL.guardF; exact rfl; exact rfl) | (apply QL.gD; exact rfl; exact rfl; all_goals intro _) | (apply QL.gN; exact rfl; exact rfl; all_goals intro _) | (apply QL.gB; exact rfl; exact rfl; all_goals intro _))
    | (show Z _ _ _ _ _; first | apply Z.tail | apply Z.then_normal | apply Z.block_normal | apply Z.then_exit | apply Z.block_exit | apply Z.then_ret | apply Z.block_ret | (apply Z.block_other; exact rfl))
    | (show W _ _ _ _ _ _; first | apply W.seq | apply W.region | apply W.block | apply W.skip | apply W.ret | apply W.exit | (apply W.condT; exact rfl) | (apply W.condF; exact rfl) | (apply W.condD; exact rfl; all_goals intro _) | (apply W.condN; exact rfl; all_goals intro _) | (apply W.condB; exact rfl; all_goals intro _) | (apply W.regionD tMix; kernel_rfl)))
  exact Z.body2 Try.results33 rfl rfl fun q => ⟨Ext.at (by (exact extA)) q, an, cn, some ⟨ga, 0, none⟩, k + 1, rfl, ((hS.row (i := 2) rfl).base hwc).ext ((Ext.refl _).at q), ((hS.row (i := 3) rfl).base hwc).ext ((Ext.refl _).at q)⟩
end Go.Proofs.Ytmaekaflpbenmaa
namespace Go.Proofs.Ytmaekaflpbenmaa
open Go Go.Lt Go.RowKit
set_option linter.unusedVariables false
set_option linter.unusedSimpArgs false
set_option maxRecDepth 20000

theorem ordL_nil : ordL [] = [] := (IsOrd.ord (gs := []) (L := []) ⟨PreOrd.nil _, fun i ⟨g, hg, _⟩ => by simp at hg⟩).symm
/-- The example. -/
abbrev exT : CirT := ⟨1, [], [(2, 3, 0)], [], [2], [], [], [], ⟨#[]⟩⟩
theorem exT_good : GoodC' exT := by
  refine ⟨by decide, fun x hx => ?_, fun x hx => ?_, fun x hx => ?_, ?_, fun x hx h => ?_, ?_⟩
  · have : x = 2 := by simpa using hx
    subst this; decide
  · have : x = 2 ∨ x = 3 := by simpa using hx
    rcases this with rfl | rfl <;> decide
  · have : x = (2, 3, 0) := by simpa using hx
    subst this; exact .inl rfl
  · simp
  · have : x = 2 ∨ x = 3 := by simpa using hx
    rcases this with rfl | rfl <;> simp
  · show (ordL []).length = 0
    rw [ordL_nil]; rfl
theorem exT_net : cNet exT = ([(-1, 0)], [0, 2]) := by
  unfold cNet
  rw [show exT.gates = [] from rfl, ordL_nil]
  rfl
set_option maxRecDepth 20000 in
set_option maxHeartbeats 16000000 in
theorem law11_lives (w : World) : Pure Try.prog 28 [] w (.bool true) := by
  refine Spec.of _ Try.func28 rfl Try.ntmps28 (by kernel_rfl) rfl ?_
  repeat' (first
    | ((show WL _ _ _ (⟨_, .build 45 _, _, _, _, _⟩ :: _) _ _ _; apply WL.build (cs := [.int .i64 1, .slice none 0 0, .slice (some ⟨g1, 0, none⟩) 1 1, .slice none 0 0, .slice (some ⟨g2, 0, none⟩) 1 1, .slice none 0 0, .slice none 0 0, .slice none 0 0, .string ⟨#[]⟩]) tOk; exact rfl; exact rfl; exact rfl; exact rfl; exact rfl; exact rfl; (first | kernel_rfl | exact rfl); kernel_rfl))
    | (apply WL.build tOk; exact rfl; exact rfl; exact rfl; exact rfl; exact rfl; exact rfl; exact rfl; kernel_rfl)
    | (apply WL.lit tOk; exact rfl; exact rfl; exact rfl; exact rfl; exact rfl; exact rfl; (first | exact rfl | kernel_rfl | (simp [Instr.fill, catCells]; done)); exact rfl; intro gb w' hb hge hc hx; have hO := Own.of_block ([((2, 3, 0) : T3)]) enc3_ok hb hge rfl; (obtain ⟨g1, rfl⟩ : ∃ x, x = gb := ⟨_, rfl⟩; obtain ⟨w1, rfl⟩ : ∃ x, x = w' := ⟨_, rfl⟩; obtain ⟨hx1, rfl⟩ : ∃ x, x = hx := ⟨_, rfl⟩; obtain ⟨hO1, rfl⟩ : ∃ x, x = hO := ⟨_, rfl⟩))
    | (apply WL.lit tOk; exact rfl; exact rfl; exact rfl; exact rfl; exact rfl; exact rfl; (first | exact rfl | kernel_rfl | (simp [Instr.fill, catCells]; done)); exact rfl; intro gb w' hb hge hc hx; have hO := Own.of_block ([(2 : Int)]) encI_ok hb hge rfl; (obtain ⟨g2, rfl⟩ : ∃ x, x = gb := ⟨_, rfl⟩; obtain ⟨w2, rfl⟩ : ∃ x, x = w' := ⟨_, rfl⟩; obtain ⟨hx2, rfl⟩ : ∃ x, x = hx := ⟨_, rfl⟩; obtain ⟨hO2, rfl⟩ : ∃ x, x = hO := ⟨_, rfl⟩))
    | (apply WL.alloc tOk; exact rfl; exact rfl; exact rfl; intro gb w' hb hge hx)
    | (apply WL.storeB (w0 := w2) tOk; exact rfl; exact rfl; exact rfl; exact rfl; assumption; (exact extA); exact rfl; exact rfl; exact rfl; (exact extA); (first | assumption | omega | (focus (apply Nat.le_trans; rotate_left; assumption; exact Below.size (by (exact extA)); done))); intro w' hb hc hX' hU; have hcc := hc; obtain ⟨h1, h2, _⟩ := hc; (obtain ⟨w3, rfl⟩ : ∃ x, x = w' := ⟨_, rfl⟩; obtain ⟨hb3, rfl⟩ : ∃ x, x = hb := ⟨_, rfl⟩; obtain ⟨hX3, rfl⟩ : ∃ x, x = hX' := ⟨_, rfl⟩; have hcs := cells_heap hb3))
    | (show WL _ _ _ _ _ _ _; first | apply WL.nil | (refine WL.au (k := ?_)) | (apply WL.index tOk; exact rfl; exact rfl; exact rfl; exact rfl; exact rfl; exact rfl; exact rfl; exact rfl; assumption; (exact extA); exact rfl; omega; assumption; intro b off h; have hcc := h; first | (obtain ⟨h1, h2, h3, h4, h5, h6, _⟩ := h) | (obtain ⟨h1, h2, h3, _⟩ := h) | (obtain ⟨h1, h2, _⟩ := h) | (obtain ⟨h1, _⟩ := h)) | (apply WL.guardF; exact rfl; exact rfl) | (apply WL.gD; exact rfl; exact rfl; all_goals intro _) | (apply WL.gN; exact rfl; exact rfl; all_goals intro _) | (apply WL.gB; exact rfl; exact rfl; all_goals intro _))
    | (show Z _ _ _ _ _; first | apply Z.tail | apply Z.then_normal | apply Z.block_normal | apply Z.then_exit | apply Z.block_exit | apply Z.then_ret | apply Z.block_ret | (apply Z.block_other; exact rfl))
    | (show W _ _ _ _ _ _; first | apply W.seq | apply W.region | apply W.block | apply W.skip | apply W.ret | apply W.exit))
  obtain ⟨c, hc⟩ : ∃ c : Circ, c = ⟨1, (none, 0, []), (some ⟨g1, 0, none⟩, 1, [(2, 3, 0)]), (none, 0, []), (some ⟨g2, 0, none⟩, 1, [2]), (none, 0, []), (none, 0, []), (none, 0, []), ⟨#[]⟩⟩ := ⟨_, rfl⟩
  have hct : c.t = exT := by rw [hc]
  have hX2 : Ext w1 w3 := (by (exact extA))
  have hX : Ext w w3 := (by (exact extA))
  have nilK : ∀ {α : Type} (s : Nat) (enc : α → List Value), RowK s enc w3 ((none, 0, []) : RowV α) := fun s enc => ⟨Row.nil _ _ _ _, Nat.le_refl _, fun _ => rfl⟩
  have hC : CAt w3 c := by
    rw [hc]
    exact ⟨nilK _ _, ⟨(hO1.row enc3_ok).ext hX2, Nat.le_refl _, fun h => by cases h⟩, nilK _ _, ⟨(hO2.row encI_ok).ext hX3, Nat.le_refl _, fun h => by cases h⟩, nilK _ _, nilK _ _, nilK _ _⟩
  have hg : GoodC' c.t := by rw [hct]; exact exT_good
  have hz : SzC c.t 100000 := by rw [hct]; unfold SzC; simp
  have hnet := fun (w9 : World) (h9 : Ext w3 w9) => circ_Net c w9 (hC.ext h9) hg hz
  have hchk := fun (w9 : World) (h9 : Ext w3 w9) => circ_Check c w9 (hC.ext h9) hz
  rw [hct, exT_net] at hnet
  rw [hct, chkC_good.2 exT_good] at hchk
  have hv : c.val = .agg #[.int .i64 1, .slice none 0 0, .slice (some ⟨g1, 0, none⟩) 1 1, .slice none 0 0, .slice (some ⟨g2, 0, none⟩) 1 1, .slice none 0 0, .slice none 0 0, .slice none 0 0, .string ⟨#[]⟩] := by rw [hc]; rfl
  rw [hv] at hnet hchk
  have hel : ([((-1 : Int), (0 : Int))] : List (Int × Int))[(0 : Int).toNat]? = some (-1, 0) := rfl
  repeat' (first
    | (apply WL.gT; exact rfl; exact rfl; (focus (exact dec_true rfl; done)))
    | (apply WL.gF; exact rfl; exact rfl; (focus (exact dec_true rfl; done)))
    | (((show WL _ _ _ (⟨_, .call ⟨.value (.func 33), _, _⟩, _, _, _, _⟩ :: _) _ _ _); apply WL.call; exact rfl; exact rfl; exact rfl; exact rfl; exact hnet _ (Ext.refl _); rintro v' w4 ⟨hx4, an, cn, aa, ca, rfl, hOn, hOa⟩; have Rn := hOn.row encN_ok; have Ra := hOa.row encI_ok))
    | (((show WL _ _ _ (⟨_, .call ⟨.value (.func 29), _, _⟩, _, _, _, _⟩ :: _) _ _ _); apply WL.callP; exact rfl; exact rfl; exact rfl; exact rfl; exact hchk _ hx4; intro w5 hx5))
    | (apply WL.lit tOk; exact rfl; exact rfl; exact rfl; exact rfl; exact rfl; exact rfl; (first | exact rfl | kernel_rfl | (simp [Instr.fill, catCells]; done)); exact rfl; intro gb w' hb hge hc hx; have hO := Own.of_block ([(0 : Int), 2]) encI_ok hb hge rfl; (obtain ⟨g8, rfl⟩ : ∃ x, x = gb := ⟨_, rfl⟩; obtain ⟨w8, rfl⟩ : ∃ x, x = w' := ⟨_, rfl⟩; obtain ⟨hx8, rfl⟩ : ∃ x, x = hx := ⟨_, rfl⟩; obtain ⟨hO8, rfl⟩ : ∃ x, x = hO := ⟨_, rfl⟩; have R8 := hO8.row encI_ok))
    | ((show WL _ _ _ (⟨_, .call ⟨.value (.func 22), _, _⟩, _, _, _, _⟩ :: _) _ _ _); apply WL.callS; exact rfl; exact rfl; exact rfl; exact rfl; exact ref_Ints _ _ _ _ [0, 2] [0, 2] _ (Ra.ext (by (exact extA))) R8)
    | (show WL _ _ _ _ _ _ _; first | apply WL.nil | (refine WL.au (k := ?_)) | (apply WL.index tOk; exact rfl; exact rfl; exact rfl; exact rfl; exact rfl; exact rfl; exact rfl; exact rfl; assumption; (exact extA); exact rfl; omega; assumption; intro b off h; have hcc := h; first | (obtain ⟨h1, h2, h3, h4, h5, h6, _⟩ := h) | (obtain ⟨h1, h2, h3, _⟩ := h) | (obtain ⟨h1, h2, _⟩ := h) | (obtain ⟨h1, _⟩ := h)) | (apply WL.guardF; exact rfl; exact rfl) | (apply WL.gD; exact rfl; exact rfl; all_goals intro _) | (apply WL.gN; exact rfl; exact rfl; all_goals intro _) | (apply WL.gB; exact rfl; exact rfl; all_goals intro _))
    | (show Z _ _ _ _ _; first | apply Z.tail | apply Z.then_normal | apply Z.block_normal | apply Z.then_exit | apply Z.block_exit | apply Z.then_ret | apply Z.block_ret | (apply Z.block_other; exact rfl))
    | (show W _ _ _ _ _ _; first | apply W.seq | apply W.region | apply W.block | apply W.skip | apply W.ret | apply W.exit))
  exact Z.body1 Try.results28 rfl fun m => ⟨congrArg Value.bool (dec_true rfl), Ext.at (by (exact extA)) m⟩
end Go.Proofs.Ytmaekaflpbenmaa
namespace Go.Proofs.Ytmaekaflpbenmaa
open Go Go.Lt Go.RowKit Go.ChangeShapes Go.WideShapes Go.ChangeAt Go.Deep
set_option linter.unusedVariables false
set_option linter.unusedSimpArgs false
set_option maxRecDepth 20000

set_option maxRecDepth 20000 in
theorem circ_of {H : Type} {en : TypeId × Value → H} {w : World} {base : Nat} {spare : Nat → Bool} {held : Bool} {r : Reach} {b0 : Nat} {v : Value} {d : DataW H} {ps : List MemPlace} (hval : Value.okWide Try.prog w r b0 45 v) (hd : DataW.Trod en Try.prog w base spare held 45 v d ps) : ∃ c : Circ, v = c.val ∧ CAt w c := by
  obtain ⟨⟨m, ins, lat, outs, bads, cons, gates, syms, com, _⟩, hv, _, ki, kl, ko, kb, kc, kg, ks, _⟩ := struct_of (reads_struct Try.underlying45 (by kernel_rfl) (by kernel_rfl) (readsF_cons (reads_int Try.underlying3) (readsF_cons (reads_row (s := 1) (reads_int Try.underlying3) (by kernel_rfl) Try.underlying23 (fun _ => rfl) (by decide)) (readsF_cons (reads_row (s := 3) (reads_triple' (s0 := 1) (s1 := 1) (s2 := 1) Try.underlying58 (reads_int Try.underlying3) (reads_int Try.underlying3) (reads_int Try.underlying3) (by kernel_rfl) rfl rfl rfl (by kernel_rfl) (by kernel_rfl) (by kernel_rfl)) (by kernel_rfl) Try.underlying41 (fun _ => rfl) (by decide)) (readsF_cons (reads_row (s := 1) (reads_int Try.underlying3) (by kernel_rfl) Try.underlying23 (fun _ => rfl) (by decide)) (readsF_cons (reads_row (s := 1) (reads_int Try.underlying3) (by kernel_rfl) Try.underlying23 (fun _ => rfl) (by decide)) (readsF_cons (reads_row (s := 1) (reads_int Try.underlying3) (by kernel_rfl) Try.underlying23 (fun _ => rfl) (by decide)) (readsF_cons (reads_row (s := 3) (reads_triple' (s0 := 1) (s1 := 1) (s2 := 1) Try.underlying60 (reads_int Try.underlying3) (reads_int Try.underlying3) (reads_int Try.underlying3) (by kernel_rfl) rfl rfl rfl (by kernel_rfl) (by kernel_rfl) (by kernel_rfl)) (by kernel_rfl) Try.underlying42 (fun _ => rfl) (by decide)) (readsF_cons (reads_row (s := 3) (reads_triple' (s0 := 1) (s1 := 1) (s2 := 1) Try.underlying109 (reads_int Try.underlying5) (reads_int Try.underlying3) (reads_string Try.underlying9) (by kernel_rfl) rfl rfl rfl (by kernel_rfl) (by kernel_rfl) (by kernel_rfl)) (by kernel_rfl) Try.underlying43 (fun _ => rfl) (by decide)) (readsF_cons (reads_string Try.underlying9) (readsF_nil _))))))))))) Try.underlying45 hval hd
  exact ⟨⟨m, ins, lat, outs, bads, cons, gates, syms, com⟩, hv, ⟨ki.1, ki.2.1, ki.2.2.2.1⟩, ⟨kl.1, kl.2.1, kl.2.2.2.1⟩, ⟨ko.1, ko.2.1, ko.2.2.2.1⟩, ⟨kb.1, kb.2.1, kb.2.2.2.1⟩, ⟨kc.1, kc.2.1, kc.2.2.2.1⟩, ⟨kg.1, kg.2.1, kg.2.2.2.1⟩, ⟨ks.1, ks.2.1, ks.2.2.2.1⟩⟩
end Go.Proofs.Ytmaekaflpbenmaa
namespace Go.Proofs.Ytmaekaflpbenmaa
open Go Go.Lt Go.RowKit
set_option linter.unusedVariables false
set_option linter.unusedSimpArgs false
set_option maxRecDepth 20000

theorem few_sz2 {c : CirT} {m : Int} (h : FewC c m) (hm : m ≤ 100000) : SzC c 100000 ∧ c.syms.length ≤ 100000 := by
  obtain ⟨h1, h2, h3, h4, h5, h6, h7, _⟩ := few_iff.1 h
  exact ⟨⟨by omega, by omega, by omega, by omega, by omega, by omega⟩, by omega⟩
end Go.Proofs.Ytmaekaflpbenmaa
