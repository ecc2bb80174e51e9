/- Part 5 of what the claim UnrollMeans needs: lemmas and contracts, printed from longer texts. No conditions. -/
import Derived.Test.YteidpnpbfagaeaaRows
import Derived.Lib.SmallJoins
import Derived.KernelRfl
import Derived.WalkKit
import Derived.ProofKit
import Derived.Deep.Quiet
import Derived.Deep.LoopGhost
import Derived.StillTail
import Derived.Test.YteidpnpbfagaeaaProg
import Derived.OpenShut
import Derived.ShutString
import Derived.ChangeOld
import Derived.Deep.Slices
import Derived.SizedLaws
import Derived.Laws.StructEq
import Derived.Laws.Externs
import Derived.MapKept
import Derived.JoinedCond
import Derived.Test.YteidpnpbfagaeaaUnrollMeansP4
namespace Go.Proofs.Yteidpnpbfagaeaa
open Go Go.Lt Go.RowKit
set_option linter.unusedVariables false
set_option linter.unusedSimpArgs false
set_option maxRecDepth 20000

set_option maxHeartbeats 32000000 in
theorem circ_Order (c : Circ) (w : World) (hG : Row 3 enc3 w c.gates.1 c.gates.2.2) (hok : gsOk c.gates.2.2) (hn : c.gates.2.2.length ≤ 1048576) (ho : Once c.gates.2.2) :
  Lt.Spec Try.prog 110 [c.val] w (IsFresh 1 encI 3 w (natI (ordL c.gates.2.2))) := by
 refine Spec.of _ Try.func110 rfl Try.ntmps110 (by kernel_rfl) rfl ?_
 repeat' (first
  | (apply WL.box; (iterate 3 exact rfl); intro gb w' hb hge hc hx; have hcc := hc; (first | (obtain ⟨h1, h2, h3, _⟩ := hc) | (obtain ⟨h1, h2, _⟩ := hc)); (have hcells := hcc; obtain ⟨y0, y1, y2, y3, y4, y5, y6, _⟩ := hcc; obtain ⟨gc, rfl⟩ : ∃ x, x = gb := ⟨_, rfl⟩; obtain ⟨wc, rfl⟩ : ∃ x, x = w' := ⟨_, rfl⟩; obtain ⟨hxc, rfl⟩ : ∃ x, x = hx := ⟨_, rfl⟩))
  | ((apply WL.makeMap (kv := encK) (vv := encK); exact rfl; exact rfl; intro rm w1 hM1 hge1 hx1))
  | (show WL _ _ _ _ _ _ _; first | apply WL.nil | (refine WL.au (k := ?_)))
  | (show Z _ _ _ _ _; apply Z.then_normal)
  | (show W _ _ _ _ _ _; first | apply W.seq | apply W.region | apply W.block)
  | fail)
 have Rg := hG.ext hxc
 have hwc := Below.size hxc
 have hS : Lt.Sep wc.heap.size w1 [pmap encK encK rm (plcM c.gates.2.2 0)] := Sep.newMap Sep.none' hx1 hM1 hge1 (Nat.le_refl _)
 refine W.loopW c.gates.2.2.length (fun k w' => k ≤ c.gates.2.2.length ∧ Ext wc w' ∧ Lt.Sep wc.heap.size w' [pmap encK encK rm (plcM c.gates.2.2 k)]) (fun k => [(1, .pointer (some ⟨gc, 0, none⟩)), (3, .map (some rm)), (22, rowVal c.gates), (23, .int .i64 (c.gates.2.2.length : Nat)), (24, .int .i64 k)]) ⟨Nat.zero_le _, hx1, hS⟩ (fun k w' h => h.1) ⟨rfl, rfl, rfl, rfl, rfl, trivial⟩ ?_
 clear hS
 rintro k w3 ⟨hk, hX3, hS⟩
 have hM3 := hS.map (i := 0) rfl
 have hrm := (hS.lt (i := 0) rfl rfl).1
 by_cases hlt : k < c.gates.2.2.length
 ·obtain ⟨g, hgg⟩ := getI c.gates.2.2 hlt
  have hgo := hok g (List.mem_of_getElem? hgg)
  have hnew := plcM_new ho hgg
  repeat' (first
   | (show WL _ _ _ _ _ _ _; first | apply WL.nil | (refine WL.au (k := ?_)))
   | (show Z _ _ _ _ _; apply Z.then_normal)
   | (show W _ _ _ _ _ _; first | apply W.seq | apply W.region)
   | fail)
  refine W.condKT rfl (dec_true (by omega)) ?_
  repeat' (first
   | (apply WL.alloc tOk; (iterate 3 exact rfl); intro gb w' hb hge hx)
   | (apply WL.storeB (w0 := w3) tOk; (iterate 4 exact rfl); assumption; (exact extA); (iterate 3 exact rfl); (exact extA); (first | assumption | omega | (focus (apply Nat.le_trans; rotate_left; assumption; exact Below.size extA; done))); intro w' hb hc hX' hU; have hcc := hc; obtain ⟨h1, h2, _⟩ := hc; (obtain ⟨w4, rfl⟩ : ∃ x, x = w' := ⟨_, rfl⟩; obtain ⟨hX4, rfl⟩ : ∃ x, x = hX' := ⟨_, rfl⟩; have hC4 := cells_heap hb; obtain ⟨i0, i1, i2, _⟩ := hC4))
   | ((apply WL.mapPutF (B := 0) (w0 := wc) (vv := encK) tOk keyI; (iterate 6 exact rfl); exact hM3.ext extA; exact extA; assumption; intro w' hM' hX' hU))
   | (show WL _ _ _ _ _ _ _; first | apply WL.nil | (refine WL.au (k := ?_)) | (apply WL.index tOk; (iterate 8 exact rfl); assumption; (exact extA); exact rfl; omega; assumption; intro b off h; have hcc := h; first | (obtain ⟨h1, h2, h3, h4, h5, h6, _⟩ := h) | (obtain ⟨h1, h2, h3, _⟩ := h) | (obtain ⟨h1, h2, _⟩ := h) | (obtain ⟨h1, _⟩ := h)))
   | (show Z _ _ _ _ _; first | apply Z.then_normal | apply Z.block_normal)
   | (show W _ _ _ _ _ _; first | apply W.seq | apply W.region | apply W.block | apply W.skip)
   | fail)
  rw [hnew] at hM'
  have hS4 := Sep.updMap (i := 0) rfl hU hM' hS extA (Below.size extA)
  exact Z.againW ⟨by omega, extA, by rw [plcM_s hgg]; exact hS4⟩ ⟨rfl, rfl, rfl, rfl, rfl, trivial⟩
 obtain rfl : k = c.gates.2.2.length := by omega
 repeat' (first
  | (show WL _ _ _ _ _ _ _; first | apply WL.nil | (refine WL.au (k := ?_)))
  | (show Z _ _ _ _ _; apply Z.then_normal)
  | (show W _ _ _ _ _ _; first | apply W.seq | apply W.region)
  | fail)
 refine W.condKF rfl (dec_false (by omega)) ?_
 repeat' (first
  | (show Z _ _ _ _ _; first | apply Z.then_normal | apply Z.then_exit | apply Z.block_exit)
  | (show W _ _ _ _ _ _; first | apply W.seq | apply W.exit)
  | fail)
 have y6w : w3.cell? ⟨gc, 0 + 1 + 1 + 1 + 1 + 1 + 1, none⟩ = some (rowVal c.gates) := (hcells.ext hX3).2.2.2.2.2.2.1
 have ei : ((c.gates.2.2.length : Nat) : Int).toNat = c.gates.2.2.length := by omega
 refine W.cutT (σ := Nat × Nat × World) (fun s => Ext wc s.2.2 ∧ Lt.Sep wc.heap.size s.2.2 [prow 1 encI 3 wc.heap.size (some ⟨s.1, 0, none⟩) c.gates.2.2.length (List.replicate c.gates.2.2.length 0), prow 1 encRow 22 wc.heap.size (some ⟨s.2.1, 0, none⟩) c.gates.2.2.length (List.replicate c.gates.2.2.length ((none, 0, []) : RowV Int)), pmap encK encK rm (plcM c.gates.2.2 c.gates.2.2.length)]) (fun s => [(1, .pointer (some ⟨gc, 0, none⟩)), (3, .map (some rm)), (6, .slice (some ⟨s.1, 0, none⟩) c.gates.2.2.length c.gates.2.2.length), (7, .slice (some ⟨s.2.1, 0, none⟩) c.gates.2.2.length c.gates.2.2.length)]) (fun s => s.2.2) ?_ ?_
 ·repeat' (first
   | (show W _ _ (.region 7 _ _) _ _ _; apply W.regionGX (.fl true 0 (.fl true 4 (.fl false 1 (.fl true 2 (.fl false 5 (.fl true 6 (.br 3 (.fl true 8 (.br 7 (.fl true 9 .done) .stop)) (.br 7 (.br 3 (.fl true 8 (.fl true 9 .done)) .stop) .stop)))))))) [3, 5, 6, 7, 8] tMix; kernel_rfl)
   | (apply WL.make (w0 := wc) (z := (0:Int)) tOk; (iterate 9 exact rfl); exact encI_ok; exact rfl; exact rfl; (exact extA); (first | omega | (simp; omega) | (simp at *; omega)); intro gb w' hO hge hx; replace hS := Sep.newRow (Sep.ext hS extA) hx hO (fun k hk => by cases hk; exact hge) (by (first | exact Nat.le_refl _ | exact Below.size extA)); (try simp only [List.set_cons_zero, List.set_cons_succ] at hS); (try have hR0 := hS.row (i := 0) rfl); (try have hR1 := hS.row (i := 1) rfl); (try have hR2 := hS.row (i := 2) rfl); (try have hR3 := hS.row (i := 3) rfl); (try have hR4 := hS.row (i := 4) rfl); (try have hC0 := hS.cell (i := 0) rfl); (try have hD0 := (cells_heap hC0).1); (try have hE0 := (cells_heap hC0).2.1); (try have hF0 := (cells_heap hC0).2.2.1); (try have hG0 := (cells_heap hC0).2.2.2.1); (try have hC1 := hS.cell (i := 1) rfl); (try have hD1 := (cells_heap hC1).1); (try have hE1 := (cells_heap hC1).2.1); (try have hF1 := (cells_heap hC1).2.2.1); (try have hG1 := (cells_heap hC1).2.2.2.1); (try have hC2 := hS.cell (i := 2) rfl); (try have hD2 := (cells_heap hC2).1); (try have hE2 := (cells_heap hC2).2.1); (try have hF2 := (cells_heap hC2).2.2.1); (try have hG2 := (cells_heap hC2).2.2.2.1); (try have hC3 := hS.cell (i := 3) rfl); (try have hD3 := (cells_heap hC3).1); (try have hE3 := (cells_heap hC3).2.1); (try have hF3 := (cells_heap hC3).2.2.1); (try have hG3 := (cells_heap hC3).2.2.2.1); (try have hC4 := hS.cell (i := 4) rfl); (try have hD4 := (cells_heap hC4).1); (try have hE4 := (cells_heap hC4).2.1); (try have hF4 := (cells_heap hC4).2.2.1); (try have hG4 := (cells_heap hC4).2.2.2.1); (try have hM0 := hS.map (i := 0) rfl); (try have hM1 := hS.map (i := 1) rfl); (try have hM2 := hS.map (i := 2) rfl); (try have hM3 := hS.map (i := 3) rfl); (try have hM4 := hS.map (i := 4) rfl))
   | (apply WL.make (w0 := wc) (z := nilR) tOk; (iterate 9 exact rfl); exact encRow_ok; exact rfl; exact rfl; (exact extA); (first | omega | (simp; omega) | (simp at *; omega)); intro gb w' hO hge hx; replace hS := Sep.newRow (Sep.ext hS extA) hx hO (fun k hk => by cases hk; exact hge) (by (first | exact Nat.le_refl _ | exact Below.size extA)); (try simp only [List.set_cons_zero, List.set_cons_succ] at hS); (try have hR0 := hS.row (i := 0) rfl); (try have hR1 := hS.row (i := 1) rfl); (try have hR2 := hS.row (i := 2) rfl); (try have hR3 := hS.row (i := 3) rfl); (try have hR4 := hS.row (i := 4) rfl); (try have hC0 := hS.cell (i := 0) rfl); (try have hD0 := (cells_heap hC0).1); (try have hE0 := (cells_heap hC0).2.1); (try have hF0 := (cells_heap hC0).2.2.1); (try have hG0 := (cells_heap hC0).2.2.2.1); (try have hC1 := hS.cell (i := 1) rfl); (try have hD1 := (cells_heap hC1).1); (try have hE1 := (cells_heap hC1).2.1); (try have hF1 := (cells_heap hC1).2.2.1); (try have hG1 := (cells_heap hC1).2.2.2.1); (try have hC2 := hS.cell (i := 2) rfl); (try have hD2 := (cells_heap hC2).1); (try have hE2 := (cells_heap hC2).2.1); (try have hF2 := (cells_heap hC2).2.2.1); (try have hG2 := (cells_heap hC2).2.2.2.1); (try have hC3 := hS.cell (i := 3) rfl); (try have hD3 := (cells_heap hC3).1); (try have hE3 := (cells_heap hC3).2.1); (try have hF3 := (cells_heap hC3).2.2.1); (try have hG3 := (cells_heap hC3).2.2.2.1); (try have hC4 := hS.cell (i := 4) rfl); (try have hD4 := (cells_heap hC4).1); (try have hE4 := (cells_heap hC4).2.1); (try have hF4 := (cells_heap hC4).2.2.1); (try have hG4 := (cells_heap hC4).2.2.2.1); (try have hM0 := hS.map (i := 0) rfl); (try have hM1 := hS.map (i := 1) rfl); (try have hM2 := hS.map (i := 2) rfl); (try have hM3 := hS.map (i := 3) rfl); (try have hM4 := hS.map (i := 4) rfl))
   | (show SX _ _ _ _ _ _ _ _ _; first | (apply SX.done; intro w' hx) | (apply SX.fl0; exact rfl) | (apply SX.fl1; exact rfl; (exact extA)) | (apply SX.br1; exact rfl; intro w' hx) | (apply SX.br; exact rfl; (intro w' hx)))
   | (show FL _ _ _ _ _ _ _ _; first | apply FL.nilX | (apply FL.loadE tOk; (iterate 5 exact rfl); (first | assumption | (focus (apply Ext.cell; rotate_left; assumption; exact extA; done)))))
   | (show FL _ _ _ _ _ _ _ _; (refine FL.au (k := ?_)))
   | (show Z _ _ _ _ _; (apply Z.sxE; (exact extA)))
   | (show WL _ _ _ _ _ _ _; apply WL.nil)
   | fail)
  all_goals (rw [ei] at hS; rw [ei]; rw [List.length_replicate, List.length_replicate])
  ·exact Z.cut (_, _, w') ⟨extA, (Sep.swap01 hS).ext extA⟩ ⟨rfl, rfl, rfl, rfl, trivial⟩ rfl
  ·exact Z.cut (_, _, w') ⟨extA, hS.ext extA⟩ ⟨rfl, rfl, rfl, rfl, trivial⟩ rfl
 clear hS hX3 hM3 y6w
 rintro ⟨gl, go, w4⟩ ⟨hX4, hS⟩
 dsimp only at hX4 hS
 obtain ⟨n, hnn⟩ : ∃ n, c.gates.2.2.length = n := ⟨_, rfl⟩
 have hS4 : Lt.Sep wc.heap.size w4 (rst wc.heap.size (some ⟨gl, 0, none⟩) n (List.replicate n 0) (some ⟨go, 0, none⟩) n (List.replicate n nilR) rm (plcM c.gates.2.2 n) none 0 [] nilR (List.replicate n nilR)) := by
  have := Sep.addNils hS (n + 2)
  rw [hnn] at this
  exact this
 repeat' (first
  | (((show WL _ _ _ (⟨_, .call ⟨.value (.func 150), _, _⟩, _, _, _, _⟩ :: _) _ _ _); apply WL.call; (iterate 4 exact rfl); exact heap_New c.gates.2.2.length hn _ wc _ extA (hS4.ext extA); rintro v' w5 ⟨gh, F, A, rfl, hFl, hB5⟩; have hX5 := HpB.ext hB5))
  | (show WL _ _ _ _ _ _ _; first | apply WL.nil | (refine WL.au (k := ?_)))
  | (show Z _ _ _ _ _; apply Z.then_normal)
  | (show W _ _ _ _ _ _; first | apply W.seq | apply W.region | apply W.block)
  | fail)
 have hFn : F.length = n := by omega
 refine W.loopW n (fun k w' => k ≤ n ∧ ∃ lk rs lit t A, HpB wc w' gh F (rst wc.heap.size (some ⟨gl, 0, none⟩) n lk (some ⟨go, 0, none⟩) n rs rm (plcM c.gates.2.2 n) none 0 [] lit rs) t A (pA k lk) ∧ StI c.gates.2.2 k lk rs) (fun k => [(1, .pointer (some ⟨gc, 0, none⟩)), (3, .map (some rm)), (6, .slice (some ⟨gl, 0, none⟩) n n), (7, .slice (some ⟨go, 0, none⟩) n n), (8, .pointer (some ⟨gh, 0, none⟩)), (48, rowVal c.gates), (49, .int .i64 (n : Nat)), (50, .int .i64 k)]) ⟨Nat.zero_le _, _, _, _, _, _, hB5.mono (fun x => ⟨fun h => h.elim, fun ⟨j, _, h, _⟩ => absurd h (Nat.not_lt_zero _)⟩), by rw [← hnn]; exact StI.first _⟩ (fun k w' h => h.1) (by rw [← hnn]; exact ⟨rfl, rfl, rfl, rfl, rfl, rfl, rfl, rfl, trivial⟩) ?_
 clear hS hS4 hB5 hX5 hX4
 rintro k w6 ⟨hk, lk, rs, lit, t, A, hB6, hI6⟩
 have hX6 := hB6.ext
 by_cases hlt : k < n
 ·obtain ⟨g, hgg⟩ := getI c.gates.2.2 (show k < c.gates.2.2.length by omega)
  have hgo := hok g (List.mem_of_getElem? hgg)
  repeat' (first
   | (show WL _ _ _ _ _ _ _; first | apply WL.nil | (refine WL.au (k := ?_)))
   | (show Z _ _ _ _ _; apply Z.then_normal)
   | (show W _ _ _ _ _ _; first | apply W.seq | apply W.region)
   | fail)
  refine W.condKT rfl (dec_true (by omega)) ?_
  repeat' (first
   | (apply WL.alloc tOk; (iterate 3 exact rfl); intro gb w' hb hge hx)
   | (apply WL.storeB (w0 := w6) tOk; (iterate 4 exact rfl); assumption; (exact extA); (iterate 3 exact rfl); (exact extA); (first | assumption | omega | (focus (apply Nat.le_trans; rotate_left; assumption; exact Below.size extA; done))); intro w' hb hc hX' hU; have hcc := hc; obtain ⟨h1, h2, _⟩ := hc; (obtain ⟨w7, rfl⟩ : ∃ x, x = w' := ⟨_, rfl⟩; obtain ⟨hX7, rfl⟩ : ∃ x, x = hX' := ⟨_, rfl⟩; have hC7 := cells_heap hb; obtain ⟨i0, i1, i2, _⟩ := hC7))
   | (apply WL.lit tOk; (iterate 6 exact rfl); (first | exact rfl | kernel_rfl | (simp [Instr.fill, catCells]; done)); exact rfl; intro gb w' hb hge hc hx; have hO := Own.of_block ([g.2.1, g.2.2]) encI_ok hb hge rfl; (obtain ⟨gt, rfl⟩ : ∃ x, x = gb := ⟨_, rfl⟩; obtain ⟨w8, rfl⟩ : ∃ x, x = w' := ⟨_, rfl⟩; obtain ⟨hx8, rfl⟩ : ∃ x, x = hx := ⟨_, rfl⟩; obtain ⟨hO8, rfl⟩ : ∃ x, x = hO := ⟨_, rfl⟩; obtain ⟨hge8, rfl⟩ : ∃ x, x = hge := ⟨_, rfl⟩))
   | (show WL _ _ _ _ _ _ _; first | apply WL.nil | (refine WL.au (k := ?_)) | (apply WL.index tOk; (iterate 8 exact rfl); assumption; (exact extA); exact rfl; omega; assumption; intro b off h; have hcc := h; first | (obtain ⟨h1, h2, h3, h4, h5, h6, _⟩ := h) | (obtain ⟨h1, h2, h3, _⟩ := h) | (obtain ⟨h1, h2, _⟩ := h) | (obtain ⟨h1, _⟩ := h)))
   | (show Z _ _ _ _ _; apply Z.then_normal)
   | (show W _ _ _ _ _ _; first | apply W.seq | apply W.region | apply W.block | apply W.skip)
   | fail)
  have hB8 := hB6.setLit (show Ext w6 w8 from extA) (hO8.base (Nat.le_trans (Below.size hX6) (Below.size hX7))) (Nat.le_trans (Below.size hX7) hge8)
  have hA8 := hI6.enter hgg
  refine W.loopW 2 (fun j w' => j ≤ 2 ∧ ∃ lk rs t A, HpB wc w' gh F (rst wc.heap.size (some ⟨gl, 0, none⟩) n lk (some ⟨go, 0, none⟩) n rs rm (plcM c.gates.2.2 n) none 0 [] (some ⟨gt, 0, none⟩, 2, [g.2.1, g.2.2]) rs) t A (pA k lk) ∧ StA c.gates.2.2 k g j lk rs) (fun j => [(1, .pointer (some ⟨gc, 0, none⟩)), (3, .map (some rm)), (6, .slice (some ⟨gl, 0, none⟩) n n), (7, .slice (some ⟨go, 0, none⟩) n n), (8, .pointer (some ⟨gh, 0, none⟩)), (9, .int .i64 k), (48, rowVal c.gates), (49, .int .i64 (n : Nat)), (50, .int .i64 k), (59, .slice (some ⟨gt, 0, none⟩) 2 2), (60, .int .i64 2), (61, .int .i64 j)]) ⟨Nat.zero_le _, _, _, _, _, hB8, hA8⟩ (fun k w' h => h.1) ⟨rfl, rfl, rfl, rfl, rfl, rfl, rfl, rfl, rfl, rfl, rfl, rfl, trivial⟩ ?_
  clear hB8 hA8 hB6 hI6 hX6
  rintro j w9 ⟨hj, lk, rs, t, A, hB9, hA9⟩
  have hX9 := hB9.ext
  by_cases hjl : j < 2
  ·obtain ⟨l, hl⟩ : ∃ l, litJ g j = l := ⟨_, rfl⟩
   have hll : ([g.2.1, g.2.2] : List Int)[((j : Nat) : Int).toNat]? = some l := by
    rw [Int.toNat_natCast, ← hl]
    match j, hjl with
    | 0, _ => rfl
    | 1, _ => rfl
   have hl0 : 0 ≤ l ∧ l ≤ 33554433 := by
    rw [← hl]
    match j, hjl with
    | 0, _ => exact hgo.2.1
    | 1, _ => exact hgo.2.2
   obtain ⟨hX9, ⟨hat, hze, as_, cs, tr, ct, ap, cp, hS⟩, hO9, hm9⟩ := hB9
   have hMp := hS.map (i := 6) rfl
   have hLo := hS.row (i := 4) rfl
   have RL := (hS.row (i := 8) rfl).row encI_ok
   have hll3 := hA9.llen
   have hrl3 := hA9.rlen
   have hLn : lk.length = n := by omega
   have hRn : rs.length = n := by omega
   cases hmg : mget (l / 2) (plcM c.gates.2.2 n) with
   | none =>
    repeat' (first
     | (show WL _ _ _ _ _ _ _; first | apply WL.nil | (refine WL.au (k := ?_)))
     | (show Z _ _ _ _ _; apply Z.then_normal)
     | (show W _ _ _ _ _ _; first | apply W.seq | apply W.region)
     | fail)
    refine W.condKT rfl (dec_true (by omega)) ?_
    repeat' (first
     | ((apply WL.lookNoneF tOk keyI; (iterate 7 exact rfl); exact hMp; exact hmg))
     | (show WL _ _ _ _ _ _ _; first | apply WL.nil | (refine WL.au (k := ?_)) | (apply WL.index tOk; (iterate 8 exact rfl); assumption; (exact extA); exact rfl; omega; assumption; intro b off h; have hcc := h; first | (obtain ⟨h1, h2, h3, h4, h5, h6, _⟩ := h) | (obtain ⟨h1, h2, h3, _⟩ := h) | (obtain ⟨h1, h2, _⟩ := h) | (obtain ⟨h1, _⟩ := h)))
     | (show Z _ _ _ _ _; apply Z.then_normal)
     | (show W _ _ _ _ _ _; first | apply W.seq | apply W.region | apply W.block | apply W.skip)
     | fail)
    refine W.condKF rfl rfl ?_
    repeat' (first
     | (show WL _ _ _ _ _ _ _; first | apply WL.nil | (refine WL.au (k := ?_)))
     | (show Z _ _ _ _ _; first | apply Z.then_normal | apply Z.block_normal)
     | (show W _ _ _ _ _ _; first | apply W.region | apply W.skip)
     | fail)
    refine Z.againW ⟨by omega, lk, rs, t, A, ⟨extA, ⟨hat, hze, as_, cs, tr, ct, ap, cp, hS⟩, hO9, hm9⟩, hA9.skip fun q y hy he => ?_⟩ ⟨rfl, rfl, rfl, rfl, rfl, rfl, rfl, rfl, rfl, rfl, rfl, rfl, trivial⟩
    rw [← hnn] at hmg
    exact plcM_none hmg q y hy (by rw [← hl, he])
   | some v =>
    have hmg' := hmg
    rw [← hnn] at hmg'
    obtain ⟨kk, y, hy, hyl, rfl⟩ := plcM_some hmg'
    have hkk := lt_of_get hy
    obtain ⟨r, hr, hrv⟩ := hA9.row kk y hy
    have hnow := hA9.now
    have hLk : lk[((k : Nat) : Int).toNat]? = some (lackJ c.gates.2.2 g j : Int) := by rw [Int.toNat_natCast]; exact hnow
    have hRk : rs[((kk : Nat) : Int).toNat]? = some r := by rw [Int.toNat_natCast]; exact hr
    have hlj := lackJ_le c.gates.2.2 g j
    repeat' (first
     | (show WL _ _ _ _ _ _ _; first | apply WL.nil | (refine WL.au (k := ?_)))
     | (show Z _ _ _ _ _; apply Z.then_normal)
     | (show W _ _ _ _ _ _; first | apply W.seq | apply W.region)
     | fail)
    refine W.condKT rfl (dec_true (by omega)) ?_
    repeat' (first
     | ((apply WL.lookSomeF tOk keyI; (iterate 7 exact rfl); exact hMp; exact hmg))
     | (show WL _ _ _ _ _ _ _; first | apply WL.nil | (refine WL.au (k := ?_)) | (apply WL.index tOk; (iterate 8 exact rfl); assumption; (exact extA); exact rfl; omega; assumption; intro b off h; have hcc := h; first | (obtain ⟨h1, h2, h3, h4, h5, h6, _⟩ := h) | (obtain ⟨h1, h2, h3, _⟩ := h) | (obtain ⟨h1, h2, _⟩ := h) | (obtain ⟨h1, _⟩ := h)))
     | (show Z _ _ _ _ _; apply Z.then_normal)
     | (show W _ _ _ _ _ _; first | apply W.seq | apply W.region | apply W.block | apply W.skip)
     | fail)
    refine W.condKT rfl rfl ?_
    repeat' (first
     | (apply WL.indexO tOk; (iterate 8 exact rfl); assumption; (exact extA); exact encI_ok; (first | exact rfl | (focus (simp only [List.length_set]; done)) | (focus (simp; done)) | (focus (simp [*]; done)) | omega | (focus (simp only [List.length_set]; omega))); omega; assumption; intro gb ha hc; cases ha; have hcc := hc; first | (obtain ⟨h1, h2, h3, _⟩ := hc) | (obtain ⟨h1, h2, _⟩ := hc) | (obtain ⟨h1, _⟩ := hc))
     | (apply WL.storeO (z' := (((lackJ c.gates.2.2 g j : Nat) : Int) + 1)) tOk; (iterate 4 exact rfl); assumption; (exact extA); (iterate 3 exact rfl); exact encI_ok; assumption; exact rfl; (exact extA); intro w' hO hX' hU)
     | (show WL _ _ _ _ _ _ _; first | apply WL.nil | (refine WL.au (k := ?_)))
     | (show Z _ _ _ _ _; apply Z.then_normal)
     | (show W _ _ _ _ _ _; first | apply W.seq | apply W.region)
     | fail)
    obtain ⟨w10, rfl⟩ : ∃ x, x = w' := ⟨_, rfl⟩
    have hS1 : Lt.Sep wc.heap.size w10 (hpP wc.heap.size gh as_ cs F tr ct t.length t ap cp A ++ rst wc.heap.size (some ⟨gl, 0, none⟩) n (lk.set ((k : Nat) : Int).toNat (((lackJ c.gates.2.2 g j : Nat) : Int) + 1)) (some ⟨go, 0, none⟩) n rs rm (plcM c.gates.2.2 n) none 0 [] (some ⟨gt, 0, none⟩, 2, [g.2.1, g.2.2]) rs) := Sep.updRow (i := 4) rfl hU hO (.inl rfl) hS (Ext.refl _) (Below.size hX9)
    have hOu := hS1.row (i := 5) rfl
    have hIn := hS1.row (rst_in hr _ rfl)
    have hX10 : Ext wc w10 := extA
    have hrl : r.2.2.length ≤ 2 * n + 2 := by
     have q1 := abv_len c.gates.2.2 y k
     have q2 := hangsJ_le g y j
     rw [hrv, List.length_append, List.length_replicate]; omega
    repeat' (first
     | (apply WL.indexO tOk; (iterate 8 exact rfl); assumption; (exact extA); exact encRow_ok; (first | exact rfl | (focus (simp only [List.length_set]; done)) | (focus (simp; done)) | (focus (simp [*]; done)) | omega | (focus (simp only [List.length_set]; omega))); omega; assumption; intro gb ha hc; cases ha; have hcc := hc; first | (obtain ⟨h1, h2, h3, _⟩ := hc) | (obtain ⟨h1, h2, _⟩ := hc) | (obtain ⟨h1, _⟩ := hc))
     | (apply WL.lit tOk; (iterate 6 exact rfl); (first | exact rfl | kernel_rfl | (simp [Instr.fill, catCells]; done)); exact rfl; intro gb w' hb hge hc hx)
     | (apply WL.append1 (z := (((k : Nat) : Int))) tOk encI_ok; (iterate 10 exact rfl); assumption; (exact extA); (first | exact rfl | (focus (simp only [List.length_set]; done)) | (focus (simp; done)) | (focus (simp [*]; done)) | omega | (focus (simp only [List.length_set]; omega))); (first | assumption | (refine Cells.ext ?_ (by assumption); exact extA)); exact rfl; exact rfl; (exact extA); (first | omega | (simp; omega) | (simp at *; omega)); intro a' cap' w' hO hX' hU hF)
     | (show WL _ _ _ _ _ _ _; (refine WL.au (k := ?_)))
     | fail)
    obtain ⟨w12, rfl⟩ : ∃ x, x = w' := ⟨_, rfl⟩; obtain ⟨a2, rfl⟩ : ∃ x, x = a' := ⟨_, rfl⟩; obtain ⟨cp2, rfl⟩ : ∃ x, x = cap' := ⟨_, rfl⟩
    have hS2 := Sep.updRow (rst_in hr _ rfl) hU hO hF hS1 extA (Below.size extA)
    rw [show prow 1 encI 3 wc.heap.size a2 cp2 (r.2.2 ++ [((k : Nat) : Int)]) = pI wc.heap.size (a2, cp2, r.2.2 ++ [((k : Nat) : Int)]) from rfl, rst_set _ rfl] at hS2
    have hOu2 := hS2.row (i := 5) rfl
    have hX12 : Ext wc w12 := extA
    repeat' (first
     | (apply WL.indexO tOk; (iterate 8 exact rfl); assumption; (exact extA); exact encRow_ok; (first | exact rfl | (focus (simp only [List.length_set]; done)) | (focus (simp; done)) | (focus (simp [*]; done)) | omega | (focus (simp only [List.length_set]; omega))); omega; assumption; intro gb ha hc; cases ha; have hcc := hc; first | (obtain ⟨h1, h2, h3, _⟩ := hc) | (obtain ⟨h1, h2, _⟩ := hc) | (obtain ⟨h1, _⟩ := hc))
     | (apply WL.storeO (z' := (((a2, cp2, r.2.2 ++ [((k : Nat) : Int)]) : RowV Int))) tOk; (iterate 4 exact rfl); assumption; (exact extA); (iterate 3 exact rfl); exact encRow_ok; assumption; exact rfl; (exact extA); intro w' hO hX' hU)
     | (show WL _ _ _ _ _ _ _; first | apply WL.nil | (refine WL.au (k := ?_)))
     | (show Z _ _ _ _ _; first | apply Z.then_normal | apply Z.block_normal)
     | (show W _ _ _ _ _ _; apply W.region)
     | fail)
    have hS3 : Lt.Sep wc.heap.size w' (hpP wc.heap.size gh as_ cs F tr ct t.length t ap cp A ++ rst wc.heap.size (some ⟨gl, 0, none⟩) n (lk.set ((k : Nat) : Int).toNat (((lackJ c.gates.2.2 g j : Nat) : Int) + 1)) (some ⟨go, 0, none⟩) n (rs.set ((kk : Nat) : Int).toNat (a2, cp2, r.2.2 ++ [((k : Nat) : Int)])) rm (plcM c.gates.2.2 n) none 0 [] (some ⟨gt, 0, none⟩, 2, [g.2.1, g.2.2]) (rs.set kk (a2, cp2, r.2.2 ++ [((k : Nat) : Int)]))) := Sep.updRow (i := 5) rfl hU hO (.inl rfl) hS2 (Ext.refl _) (Below.size hX12)
    rw [Int.toNat_natCast, Int.toNat_natCast] at hS3
    exact Z.againW ⟨by omega, _, _, t, A, ⟨extA, ⟨hat, hze, as_, cs, tr, ct, ap, cp, hS3⟩, hO9, fun x => (hm9 x).trans (pA_set x).symm⟩, hA9.take ho hy (by rw [hyl, hl]) hr⟩ ⟨rfl, rfl, rfl, rfl, rfl, rfl, rfl, rfl, rfl, rfl, rfl, rfl, trivial⟩
  obtain rfl : j = 2 := by omega
  have hI9 := hA9.leave hgg
  have hnow : lk[k]? = some (lackG c.gates.2.2 [] g : Int) := by rw [hA9.now, lackJ2]
  have hll3 := hA9.llen
  have hB9' := hB9
  obtain ⟨hX9, ⟨hat, hze, as_, cs, tr, ct, ap, cp, hS⟩, hO9, hm9⟩ := hB9'
  have hLo := hS.row (i := 4) rfl
  have hLn : lk.length = n := by omega
  have hLk : lk[((k : Nat) : Int).toNat]? = some (lackG c.gates.2.2 [] g : Int) := by rw [Int.toNat_natCast]; exact hnow
  repeat' (first
   | (show WL _ _ _ _ _ _ _; first | apply WL.nil | (refine WL.au (k := ?_)))
   | (show Z _ _ _ _ _; apply Z.then_normal)
   | (show W _ _ _ _ _ _; first | apply W.seq | apply W.region)
   | fail)
  refine W.condKF rfl (dec_false (by omega)) ?_
  repeat' (first
   | (apply WL.indexO tOk; (iterate 8 exact rfl); assumption; (exact extA); exact encI_ok; (first | exact rfl | (focus (simp only [List.length_set]; done)) | (focus (simp; done)) | (focus (simp [*]; done)) | omega | (focus (simp only [List.length_set]; omega))); omega; assumption; intro gb ha hc; cases ha; have hcc := hc; first | (obtain ⟨h1, h2, h3, _⟩ := hc) | (obtain ⟨h1, h2, _⟩ := hc) | (obtain ⟨h1, _⟩ := hc))
   | (show WL _ _ _ _ _ _ _; first | apply WL.nil | (refine WL.au (k := ?_)))
   | (show Z _ _ _ _ _; first | apply Z.then_normal | apply Z.then_exit | apply Z.block_exit)
   | (show W _ _ _ _ _ _; first | apply W.seq | apply W.region | apply W.exit)
   | fail)
  by_cases h0 : lackG c.gates.2.2 [] g = 0
  ·refine W.condKT rfl (dec_true (by omega)) ?_
   have hnp : ¬ pA k lk (k : Int) := fun ⟨q, q1, q2, q3⟩ => by omega
   repeat' (first
    | (((show WL _ _ _ (⟨_, .call ⟨.value (.func 151), _, _⟩, _, _, _, _⟩ :: _) _ _ _); apply WL.call; (iterate 4 exact rfl); exact heap_Push w9 wc gh F t A _ (pA k lk) hB9 (by omega) k (by omega) hnp; rintro v' w10 ⟨rfl, t1, A1, hB10⟩))
    | (show WL _ _ _ _ _ _ _; first | apply WL.nil | (refine WL.au (k := ?_)))
    | (show Z _ _ _ _ _; first | apply Z.then_normal | apply Z.block_normal)
    | (show W _ _ _ _ _ _; apply W.region)
    | fail)
   exact Z.againW ⟨by omega, _, _, _, t1, A1, hB10.mono (fun x => pA_push (by rw [hnow, h0]; rfl) x), hI9⟩ ⟨rfl, rfl, rfl, rfl, rfl, rfl, rfl, rfl, trivial⟩
  ·refine W.condKF rfl (dec_false (by omega)) ?_
   repeat' (first
    | (show WL _ _ _ _ _ _ _; first | apply WL.nil | (refine WL.au (k := ?_)))
    | (show Z _ _ _ _ _; first | apply Z.then_normal | apply Z.block_normal)
    | (show W _ _ _ _ _ _; first | apply W.region | apply W.skip)
    | fail)
   exact Z.againW ⟨by omega, _, _, _, t, A, hB9.mono (fun x => pA_next hnow (by omega) x), hI9⟩ ⟨rfl, rfl, rfl, rfl, rfl, rfl, rfl, rfl, trivial⟩
 obtain rfl : k = n := by omega
 repeat' (first
  | (show WL _ _ _ _ _ _ _; first | apply WL.nil | (refine WL.au (k := ?_)))
  | (show Z _ _ _ _ _; apply Z.then_normal)
  | (show W _ _ _ _ _ _; first | apply W.seq | apply W.region)
  | fail)
 refine W.condKF rfl (dec_false (by omega)) ?_
 have hll6 := hI6.llen
 have hB7 := hB6.mono (fun x => pA_all (show lk.length = k by omega) x)
 have hSB : StB c.gates.2.2 [] [] lk := ⟨hI6.llen, fun q x hx => by rw [hI6.old q x hx (by have := lt_of_get hx; omega)]; simp⟩
 have hrows : ∀ (q : Nat) (y : G3), c.gates.2.2[q]? = some y → ∃ r, rs[q]? = some r ∧ r.2.2 = abv c.gates.2.2 y c.gates.2.2.length := by
  rw [hnn]; exact hI6.row
 have hrl6 := hI6.rlen
 have start : ∀ (L : List Nat) (lk : List Int) (ya : Int), StB c.gates.2.2 L [] lk → pH L lk ya → (∀ x, pH L lk x → ya ≤ x) → ∃ i : Nat, ya = (i : Int) ∧ Least c.gates.2.2 L i := fun L lk ya hS hp hm => by
  obtain ⟨i, rfl, hr⟩ := (hS.rdy ya).1 hp
  exact ⟨i, rfl, hr, fun j hj => by have := hm (j : Int) ((hS.rdy _).2 ⟨j, rfl, hj⟩); omega⟩
 repeat' (first
  | (((show WL _ _ _ (⟨_, .call ⟨.value (.func 152), _, _⟩, _, _, _, _⟩ :: _) _ _ _); apply WL.call; (iterate 4 exact rfl); exact heap_PopO w6 wc gh F t A _ (pH [] lk) hB7 (by omega); rintro v' w7 ⟨nx, rfl, hnx1, hnx2, t1, A1, hB8⟩))
  | (show WL _ _ _ _ _ _ _; first | apply WL.nil | (refine WL.au (k := ?_)))
  | (show Z _ _ _ _ _; first | apply Z.then_normal | apply Z.then_exit | apply Z.block_exit)
  | (show W _ _ _ _ _ _; first | apply W.seq | apply W.region | apply W.block | apply W.exit)
  | fail)
 refine W.loop (σ := List Nat × Option Int × Option Addr × Nat × World) (fun s => PreOrd c.gates.2.2 s.1 ∧ ∃ lk t A, HpB wc s.2.2.2.2 gh F (rst wc.heap.size (some ⟨gl, 0, none⟩) k lk (some ⟨go, 0, none⟩) k rs rm (plcM c.gates.2.2 k) s.2.2.1 s.2.2.2.1 (natI s.1) lit rs) t A (fun x => pH s.1 lk x ∧ ∀ y, s.2.1 = some y → x ≠ y) ∧ StB c.gates.2.2 s.1 [] lk ∧ (∀ y, s.2.1 = some y → pH s.1 lk y ∧ ∀ x, pH s.1 lk x → y ≤ x) ∧ (s.2.1 = none → ∀ x, ¬ pH s.1 lk x)) (fun s => [(6, .slice (some ⟨gl, 0, none⟩) k k), (7, .slice (some ⟨go, 0, none⟩) k k), (8, .pointer (some ⟨gh, 0, none⟩)), (15, .slice s.2.2.1 (natI s.1).length s.2.2.2.1), (16, .int .i64 (s.2.1.getD 0)), (17, .bool s.2.1.isSome)]) (fun s => s.2.2.2.2) (fun s => c.gates.2.2.length + 1 - s.1.length) ([], nx, none, 0, w7) ⟨PreOrd.nil _, lk, t1, A1, hB8, hSB, hnx1, hnx2⟩ ⟨rfl, rfl, rfl, rfl, rfl, rfl, trivial⟩ rfl ?_
 clear hB7 hB8 hSB hnx1 hnx2 hB6 hI6 hX6 hll6
 rintro ⟨L, nx, ou, cu, w8⟩ ⟨hP, lk, t, A, hB8, hSB, hn1, hn2⟩
 dsimp only at hP hB8 hSB hn1 hn2 ⊢
 have hX8 := hB8.ext
 have hLle := hP.le
 cases nx with
 | none =>
  repeat' (first
   | (show WL _ _ _ _ _ _ _; first | apply WL.nil | (refine WL.au (k := ?_)))
   | (show Z _ _ _ _ _; apply Z.then_normal)
   | (show W _ _ _ _ _ _; first | apply W.seq | apply W.region)
   | fail)
  refine W.condKF rfl rfl ?_
  repeat' (first
   | (show WL _ _ _ _ _ _ _; first | apply WL.nil | (refine WL.au (k := ?_)))
   | (show Z _ _ _ _ _; first | apply Z.then_normal | apply Z.then_exit | apply Z.block_exit)
   | (show W _ _ _ _ _ _; first | apply W.seq | apply W.region | apply W.ret | apply W.exit)
   | fail)
  obtain ⟨hX9, ⟨hat, hze, as_, cs, tr, ct, ap, cp, hS⟩, hO9, hm9⟩ := hB8
  have hOut := hS.row (i := 7) rfl
  have hLo : L = ordL c.gates.2.2 := IsOrd.ord ⟨hP, fun q hq => hn2 rfl (q : Int) ((hSB.rdy _).2 ⟨q, rfl, hq⟩)⟩
  exact Z.body1 Try.results110 rfl fun m => ⟨hxc.trans (Ext.at hX8 m), ou, cu, by rw [← hLo], by rw [← hLo]; exact (hOut.base hwc).ext ((Ext.refl _).at m)⟩
 | some ya =>
  obtain ⟨i, rfl, hle⟩ := start L lk ya hSB (hn1 ya rfl).1 (hn1 ya rfl).2
  obtain ⟨y, hy, hiL, hself⟩ := hle.1
  have hself := rdy_self hle.1 hy
  have hik := lt_of_get hy
  obtain ⟨r, hr, hrv⟩ := hrows i y hy
  repeat' (first
   | (show WL _ _ _ _ _ _ _; first | apply WL.nil | (refine WL.au (k := ?_)))
   | (show Z _ _ _ _ _; apply Z.then_normal)
   | (show W _ _ _ _ _ _; first | apply W.seq | apply W.region)
   | fail)
  refine W.condKT rfl rfl ?_
  refine W.sub [(6, .slice (some ⟨gl, 0, none⟩) k k), (7, .slice (some ⟨go, 0, none⟩) k k), (8, .pointer (some ⟨gh, 0, none⟩)), (15, .slice ou (natI L).length cu), (16, .int .i64 ((i : Nat) : Int))] ⟨rfl, rfl, rfl, rfl, rfl, trivial⟩ ?_
  obtain ⟨hX9, ⟨hat, hze, as_, cs, tr, ct, ap, cp, hS⟩, hO9, hm9⟩ := hB8
  have hOut := hS.row (i := 7) rfl
  have hnl : (natI L).length = L.length := List.length_map _
  repeat' (first
   | (apply WL.lit tOk; (iterate 6 exact rfl); (first | exact rfl | kernel_rfl | (simp [Instr.fill, catCells]; done)); exact rfl; intro gb w' hb hge hc hx)
   | (apply WL.append1 (z := (((i : Nat) : Int))) tOk encI_ok; (iterate 10 exact rfl); assumption; (exact extA); (first | exact rfl | (focus (simp only [List.length_set]; done)) | (focus (simp; done)) | (focus (simp [*]; done)) | omega | (focus (simp only [List.length_set]; omega))); (first | assumption | (refine Cells.ext ?_ (by assumption); exact extA)); exact rfl; exact rfl; (exact extA); (first | omega | (simp; omega) | (simp at *; omega)); intro a' cap' w' hO hX' hU hF)
   | (show WL _ _ _ _ _ _ _; first | apply WL.nil | (refine WL.au (k := ?_)))
   | (show Z _ _ _ _ _; apply Z.then_normal)
   | (show W _ _ _ _ _ _; first | apply W.seq | apply W.region | apply W.block | apply W.skip)
   | fail)
  obtain ⟨w9, rfl⟩ : ∃ x, x = w' := ⟨_, rfl⟩; obtain ⟨ou2, rfl⟩ : ∃ x, x = a' := ⟨_, rfl⟩; obtain ⟨cu2, rfl⟩ : ∃ x, x = cap' := ⟨_, rfl⟩
  have hnat : natI L ++ [((i : Nat) : Int)] = natI (L ++ [i]) := by simp [natI]
  have hS1 : Lt.Sep wc.heap.size w9 (hpP wc.heap.size gh as_ cs F tr ct t.length t ap cp A ++ rst wc.heap.size (some ⟨gl, 0, none⟩) k lk (some ⟨go, 0, none⟩) k rs rm (plcM c.gates.2.2 k) ou2 cu2 (natI (L ++ [i])) lit rs) := by
   rw [← hnat]; exact Sep.updRow (i := 7) rfl hU hO hF hS extA (Below.size extA)
  have hX9' : Ext wc w9 := extA
  have hOu := hS1.row (i := 5) rfl
  have hRk : rs[((i : Nat) : Int).toNat]? = some r := by rw [Int.toNat_natCast]; exact hr
  rw [hnat]
  have hrl6' : rs.length = k := by omega
  repeat' (first
   | (apply WL.indexO tOk; (iterate 8 exact rfl); assumption; (exact extA); exact encRow_ok; (first | exact rfl | (focus (simp only [List.length_set]; done)) | (focus (simp; done)) | (focus (simp [*]; done)) | omega | (focus (simp only [List.length_set]; omega))); omega; assumption; intro gb ha hc; cases ha; have hcc := hc; first | (obtain ⟨h1, h2, h3, _⟩ := hc) | (obtain ⟨h1, h2, _⟩ := hc) | (obtain ⟨h1, _⟩ := hc))
   | (show WL _ _ _ _ _ _ _; first | apply WL.nil | (refine WL.au (k := ?_)))
   | (show Z _ _ _ _ _; apply Z.then_normal)
   | (show W _ _ _ _ _ _; apply W.block)
   | fail)
  have hYl : r.2.2.length ≤ 2 * k := by rw [hrv, hnn]; exact abv_len _ _ _
  have hm9' : ∀ x, x ∈ t ↔ pH (L ++ [i]) lk x := fun x => ((hm9 x).trans ⟨fun ⟨h1, h2⟩ => ⟨h1, h2 _ rfl⟩, fun ⟨h1, h2⟩ => ⟨h1, fun y hy => by cases hy; exact h2⟩⟩).trans (pH_out x)
  refine W.loopW r.2.2.length (fun m w' => m ≤ r.2.2.length ∧ ∃ lk t A, HpB wc w' gh F (rst wc.heap.size (some ⟨gl, 0, none⟩) k lk (some ⟨go, 0, none⟩) k rs rm (plcM c.gates.2.2 k) ou2 cu2 (natI (L ++ [i])) lit rs) t A (pH (L ++ [i]) lk) ∧ StB c.gates.2.2 L (r.2.2.take m) lk) (fun m => [(6, .slice (some ⟨gl, 0, none⟩) k k), (7, .slice (some ⟨go, 0, none⟩) k k), (8, .pointer (some ⟨gh, 0, none⟩)), (15, .slice ou2 (natI (L ++ [i])).length cu2), (117, .slice r.1 r.2.2.length r.2.1), (118, .int .i64 (r.2.2.length : Nat)), (119, .int .i64 m)]) ⟨Nat.zero_le _, lk, t, A, ⟨hX9', ⟨hat, hze, as_, cs, tr, ct, ap, cp, hS1⟩, hO9, hm9'⟩, by rw [List.take_zero]; exact hSB⟩ (fun m w' h => h.1) ⟨rfl, rfl, rfl, rfl, rfl, rfl, rfl, trivial⟩ ?_
  have hPi := hP.push hle
  clear hSB hS hS1 hO9 hm9 hm9' hat hze hOut hOu hO hX9 hX9' hn1 hn2
  rintro m w10 ⟨hm, lk, t, A, hB10, hSB⟩
  have hX10 := hB10.ext
  by_cases hml : m < r.2.2.length
  ·obtain ⟨z, hgz⟩ := getI r.2.2 hml
   have hgz' := hgz
   rw [hrv] at hgz'
   obtain ⟨kk, g, rfl, hkk, hg, hh⟩ := abv_mem (List.mem_of_getElem? hgz')
   rw [hrv] at hSB
   obtain ⟨v, hv, hv1, hv2, hSB2⟩ := hSB.step ho hy hiL hg hgz'
   rw [← hrv] at hSB2
   have hkL : kk ∉ L ++ [i] := fun hm2 => by
    rcases List.mem_append.1 hm2 with h | h
    ·exact not_told hP hy hg hh hiL h
    ·obtain rfl := List.mem_singleton.1 h
     rw [hy] at hg; cases hg; omega
   have hB10' := hB10
   obtain ⟨_, ⟨hat, hze, as_, cs, tr, ct, ap, cp, hS⟩, hO9, hm9⟩ := hB10'
   have RL := (hS.row (rst_in hr _ rfl)).row encI_ok
   have hLo := hS.row (i := 4) rfl
   have hlk3 := hSB.llen
   have hLn : lk.length = k := by omega
   have hvk : lk[((kk : Nat) : Int).toNat]? = some v := by rw [Int.toNat_natCast]; exact hv
   have hvs : (lk.set ((kk : Nat) : Int).toNat (v - 1))[((kk : Nat) : Int).toNat]? = some (v - 1) := List.getElem?_set_self (by rw [Int.toNat_natCast]; omega)
   repeat' (first
    | (show WL _ _ _ _ _ _ _; first | apply WL.nil | (refine WL.au (k := ?_)))
    | (show Z _ _ _ _ _; apply Z.then_normal)
    | (show W _ _ _ _ _ _; first | apply W.seq | apply W.region)
    | fail)
   refine W.condKT rfl (dec_true (by omega)) ?_
   repeat' (first
    | (apply WL.indexO tOk; (iterate 8 exact rfl); assumption; (exact extA); exact encI_ok; (first | exact rfl | (focus (simp only [List.length_set]; done)) | (focus (simp; done)) | (focus (simp [*]; done)) | omega | (focus (simp only [List.length_set]; omega))); omega; assumption; intro gb ha hc; cases ha; have hcc := hc; first | (obtain ⟨h1, h2, h3, _⟩ := hc) | (obtain ⟨h1, h2, _⟩ := hc) | (obtain ⟨h1, _⟩ := hc))
    | (apply WL.storeO (z' := (v - 1)) tOk; (iterate 4 exact rfl); assumption; (exact extA); (iterate 3 exact rfl); exact encI_ok; assumption; exact rfl; (exact extA); intro w' hO hX' hU)
    | (show WL _ _ _ _ _ _ _; first | apply WL.nil | (refine WL.au (k := ?_)) | (apply WL.index tOk; (iterate 8 exact rfl); assumption; (exact extA); exact rfl; omega; assumption; intro b off h; have hcc := h; first | (obtain ⟨h1, h2, h3, h4, h5, h6, _⟩ := h) | (obtain ⟨h1, h2, h3, _⟩ := h) | (obtain ⟨h1, h2, _⟩ := h) | (obtain ⟨h1, _⟩ := h)))
    | (show Z _ _ _ _ _; apply Z.then_normal)
    | (show W _ _ _ _ _ _; first | apply W.seq | apply W.region | apply W.block | apply W.skip)
    | fail)
   obtain ⟨w11, rfl⟩ : ∃ x, x = w' := ⟨_, rfl⟩
   have hS2 : Lt.Sep wc.heap.size w11 (hpP wc.heap.size gh as_ cs F tr ct t.length t ap cp A ++ rst wc.heap.size (some ⟨gl, 0, none⟩) k (lk.set ((kk : Nat) : Int).toNat (v - 1)) (some ⟨go, 0, none⟩) k rs rm (plcM c.gates.2.2 k) ou2 cu2 (natI (L ++ [i])) lit rs) := Sep.updRow (i := 4) rfl hU hO (.inl rfl) hS (Ext.refl _) (Below.size hX10)
   rw [Int.toNat_natCast] at hS2
   by_cases hv0 : v - 1 = 0
   ·refine W.condKT rfl (dec_true hv0) ?_
    repeat' (first
     | (((show WL _ _ _ (⟨_, .call ⟨.value (.func 151), _, _⟩, _, _, _, _⟩ :: _) _ _ _); apply WL.call; (iterate 4 exact rfl); exact heap_Push w11 wc gh F t A _ (pH (L ++ [i]) lk) ⟨hX', ⟨hat, hze, as_, cs, tr, ct, ap, cp, hS2⟩, hO9, hm9⟩ (by omega) kk (by omega) (pH_no hv hv1); rintro v' w12 ⟨rfl, t2, A2, hB12⟩))
     | (show WL _ _ _ _ _ _ _; first | apply WL.nil | (refine WL.au (k := ?_)))
     | (show Z _ _ _ _ _; first | apply Z.then_normal | apply Z.block_normal)
     | (show W _ _ _ _ _ _; apply W.region)
     | fail)
    exact Z.againW ⟨by omega, _, t2, A2, hB12.mono (fun x => pH_zero hv hv1 hv0 hkL x), hSB2⟩ ⟨rfl, rfl, rfl, rfl, rfl, rfl, rfl, trivial⟩
   ·refine W.condKF rfl (dec_false hv0) ?_
    repeat' (first
     | (show WL _ _ _ _ _ _ _; first | apply WL.nil | (refine WL.au (k := ?_)))
     | (show Z _ _ _ _ _; first | apply Z.then_normal | apply Z.block_normal)
     | (show W _ _ _ _ _ _; first | apply W.region | apply W.skip)
     | fail)
    exact Z.againW ⟨by omega, _, t, A, ⟨hX', ⟨hat, hze, as_, cs, tr, ct, ap, cp, hS2⟩, hO9, fun x => (hm9 x).trans (pH_dec hv hv1 hv0 x)⟩, hSB2⟩ ⟨rfl, rfl, rfl, rfl, rfl, rfl, rfl, trivial⟩
  obtain rfl : m = r.2.2.length := by omega
  rw [List.take_length, hrv] at hSB
  have hSB2 := hSB.next ho hy hiL
  repeat' (first
   | (show WL _ _ _ _ _ _ _; first | apply WL.nil | (refine WL.au (k := ?_)))
   | (show Z _ _ _ _ _; apply Z.then_normal)
   | (show W _ _ _ _ _ _; first | apply W.seq | apply W.region)
   | fail)
  refine W.condKF rfl (dec_false (by omega)) ?_
  repeat' (first
   | (((show WL _ _ _ (⟨_, .call ⟨.value (.func 152), _, _⟩, _, _, _, _⟩ :: _) _ _ _); apply WL.call; (iterate 4 exact rfl); exact heap_PopO w10 wc gh F t A _ (pH (L ++ [i]) lk) hB10 (by omega); rintro v' w11 ⟨nx, rfl, hnx1, hnx2, t1, A1, hB11⟩))
   | (show WL _ _ _ _ _ _ _; first | apply WL.nil | (refine WL.au (k := ?_)))
   | (show Z _ _ _ _ _; first | apply Z.then_normal | apply Z.block_normal | apply Z.then_exit | apply Z.block_exit)
   | (show W _ _ _ _ _ _; first | apply W.region | apply W.exit)
   | fail)
  exact Z.again (L ++ [i], nx, ou2, cu2, w11) ⟨hPi, lk, t1, A1, hB11, hSB2, hnx1, hnx2⟩ (by have := hPi.le; simp only [List.length_append, List.length_singleton] at this ⊢; omega) ⟨rfl, rfl, rfl, rfl, rfl, rfl, trivial⟩ rfl
end Go.Proofs.Yteidpnpbfagaeaa
namespace Go.Proofs.Yteidpnpbfagaeaa
open Go Go.Lt Go.RowKit
set_option linter.unusedVariables false
set_option linter.unusedSimpArgs false
set_option maxRecDepth 20000

noncomputable abbrev okO (m x : Int) : Bool := dec (1 < x) && dec (x % 2 = 0) && dec (x ≤ 2 * m)
noncomputable abbrev okR (x : T3) : Bool := dec (x.2.2 = 0) || dec (x.2.2 = 1) || dec (x.2.2 = x.1)
theorem all_snoc {α : Type} {l : List α} {k : Nat} {x : α} (p : α → Bool) (h : l[k]? = some x) : (l.take (k + 1)).all p = ((l.take k).all p && p x) := by rw [take_succ' h, List.all_append]; simp
theorem bad_iff {c : CirT} (hm : ¬ BadMax c) : (c.own.all (okO c.max) && c.lat.all okR && c.used.all (inR c.max)) = true ↔ ¬ (BadMax c ∨ BadOwn c ∨ BadUse c ∨ BadRes c) := by
 simp only [Bool.and_eq_true, List.all_eq_true]
 constructor
 ·rintro ⟨⟨h1, h2⟩, h3⟩ (h | ⟨x, hx, h⟩ | ⟨x, hx, h⟩ | ⟨x, hx, h⟩)
  ·exact hm h
  ·have := h1 x hx
   have h4 := of_dec this.1.1; have h5 := of_dec this.1.2; have h6 := of_dec this.2; omega
  ·have := h3 x hx
   have h4 := of_dec this.1; have h5 := of_dec this.2; omega
  ·have := h2 x hx
   simp only [Bool.or_eq_true] at this
   rcases this with (h4 | h4) | h4 <;> have h5 := of_dec h4 <;> omega
 ·intro h
  refine ⟨⟨fun x hx => ?_, fun x hx => ?_⟩, fun x hx => ?_⟩
  ·have hn : ¬ (x < 2 ∨ x % 2 = 1 ∨ 2 * c.max < x) := fun hh => h (.inr (.inl ⟨x, hx, hh⟩))
   exact ⟨⟨dec_true (by omega), dec_true (by omega)⟩, dec_true (by omega)⟩
  ·have hn : ¬ (x.2.2 ≠ 0 ∧ x.2.2 ≠ 1 ∧ x.2.2 ≠ x.1) := fun hh => h (.inr (.inr (.inr ⟨x, hx, hh⟩)))
   unfold okR
   by_cases q1 : x.2.2 = 0
   ·rw [dec_true q1]; rfl
   ·by_cases q2 : x.2.2 = 1
    ·rw [dec_true q2]; simp
    ·rw [dec_true (show x.2.2 = x.1 from Classical.byContradiction fun q3 => hn ⟨q1, q2, q3⟩)]; simp
  ·have hn : ¬ (x < 0 ∨ 2 * c.max + 1 < x) := fun hh => h (.inr (.inr (.inl ⟨x, hx, hh⟩)))
   exact ⟨dec_true (by omega), dec_true (by omega)⟩
theorem half_mem {l : List Int} {x : Int} (hl : ∀ y ∈ l, y % 2 = 0 ∧ 2 ≤ y) : x / 2 ∈ (0 :: l.map (· / 2) : List Int) ↔ (x / 2 = 0 ∨ x - x % 2 ∈ l) := by
 constructor
 ·intro h
  rcases List.mem_cons.1 h with h | h
  ·exact .inl h
  ·obtain ⟨y, hy, he⟩ := List.mem_map.1 h
   have := hl y hy
   exact .inr (by rw [show x - x % 2 = y by omega]; exact hy)
 ·rintro (h | h)
  ·rw [h]; simp
  ·exact List.mem_cons_of_mem _ (List.mem_map.2 ⟨_, h, by omega⟩)
theorem none_iff {c : CirT} {m : Int} (hown : ∀ x ∈ c.own, 2 ≤ x ∧ x % 2 = 0 ∧ x ≤ 2 * m) (hused : ∀ x ∈ c.used, 0 ≤ x ∧ x ≤ 2 * m + 1) : (true && c.used.all (inK (0 :: c.own.map (· / 2)))) = true ↔ ¬ NoneC c := by
 rw [Bool.true_and, List.all_eq_true]
 have hev : ∀ y ∈ c.own, y % 2 = 0 ∧ 2 ≤ y := fun y hy => by have := hown y hy; omega
 constructor
 ·rintro h ⟨x, hx, h1, h2⟩
  have := of_dec (h x hx)
  rcases (half_mem hev).1 this with h3 | h3
  ·omega
  ·exact h2 h3
 ·intro h x hx
  refine dec_true ((half_mem hev).2 ?_)
  by_cases h1 : 1 < x
  ·exact .inr (Classical.byContradiction fun h2 => h ⟨x, hx, h1, h2⟩)
  ·have := hused x hx; exact .inl (by omega)
theorem once_of {c : CirT} (h : ¬ Twice c) (hown : ∀ x ∈ c.own, x % 2 = 0) : Once c.gates := by
 have hn : c.own.Nodup := nodup_take fun i x hx hm => h ⟨i, x, hx, hm⟩
 rw [List.nodup_append] at hn
 have hp := List.pairwise_iff_getElem.1 (List.nodup_iff_pairwise_ne.1 hn.2.1)
 intro i j x y hi hj he
 have h1 := hown x.1 (List.mem_append_right _ (List.mem_map.2 ⟨x, List.mem_of_getElem? hi, rfl⟩))
 have h2 := hown y.1 (List.mem_append_right _ (List.mem_map.2 ⟨y, List.mem_of_getElem? hj, rfl⟩))
 have ei : (c.gates.map (·.1))[i]? = some x.1 := by rw [List.getElem?_map, hi]; rfl
 have ej : (c.gates.map (·.1))[j]? = some y.1 := by rw [List.getElem?_map, hj]; rfl
 obtain ⟨li, gi⟩ := List.getElem?_eq_some_iff.1 ei
 obtain ⟨lj, gj⟩ := List.getElem?_eq_some_iff.1 ej
 refine Classical.byContradiction fun hne => ?_
 rcases Nat.lt_or_gt_of_ne hne with h3 | h3
 ·exact hp i j li lj h3 (by rw [gi, gj]; omega)
 ·exact hp j i lj li h3 (by rw [gi, gj]; omega)
set_option maxHeartbeats 32000000 in
theorem circ_Check (c : Circ) (w : World) (hC : CAt w c) (hz : SzC c.t 100000) :
  Pure Try.prog 88 [c.val] w (.int .i64 (chkC c.t)) := by
 have hcm : c.t.max = c.max := rfl
 have z1 : c.ins.2.2.length ≤ 100000 := hz.1
 have z2 : c.lat.2.2.length ≤ 100000 := hz.2.1
 have z6 : c.gates.2.2.length ≤ 100000 := hz.2.2.2.2.2
 have hol : c.t.own.length ≤ 300000 := by
  show (c.ins.2.2 ++ c.lat.2.2.map (·.1) ++ c.gates.2.2.map (·.1)).length ≤ _
  simp; omega
 by_cases hmax : BadMax c.t
 ·rw [chk_5 (.inl hmax)]
  have hmax' : c.max < 0 ∨ 16777216 < c.max := hmax
  refine Spec.of _ Try.func88 rfl Try.ntmps88 (by kernel_rfl) rfl ?_
  repeat' (first
   | (apply WL.box; (iterate 3 exact rfl); intro gb w' hb hge hc hx; have hcc := hc; (first | (obtain ⟨h1, h2, h3, _⟩ := hc) | (obtain ⟨h1, h2, _⟩ := hc)); (obtain ⟨y0, _⟩ := hcc; obtain ⟨gc, rfl⟩ : ∃ x, x = gb := ⟨_, rfl⟩; obtain ⟨wc, rfl⟩ : ∃ x, x = w' := ⟨_, rfl⟩; obtain ⟨hxc, rfl⟩ : ∃ x, x = hx := ⟨_, rfl⟩))
   | (show WL _ _ _ _ _ _ _; first | apply WL.nil | (refine WL.au (k := ?_)) | (apply WL.guardF; exact rfl; exact rfl) | (apply WL.gD; exact rfl; exact rfl; all_goals intro _))
   | (show Z _ _ _ _ _; first | apply Z.then_normal | apply Z.then_ret)
   | (show W _ _ _ _ _ _; first | apply W.seq | apply W.region | apply W.skip | apply W.ret | (apply W.condT; exact rfl) | (apply W.condD; exact rfl; all_goals intro _))
   | fail)
  all_goals first
   | exact Z.body1 Try.results88 rfl fun m => ⟨rfl, Ext.at extA m⟩
   | (exfalso; omega)
   | skip
 have hm0 : ¬ (c.max < 0 ∨ 16777216 < c.max) := hmax
 refine Spec.of _ Try.func88 rfl Try.ntmps88 (by kernel_rfl) rfl ?_
 repeat' (first
  | (apply WL.box; (iterate 3 exact rfl); intro gb w' hb hge hc hx; have hcc := hc; (first | (obtain ⟨h1, h2, h3, _⟩ := hc) | (obtain ⟨h1, h2, _⟩ := hc)); (have hcells := hcc; obtain ⟨y0, y1, y2, y3, y4, y5, y6, _⟩ := hcc; obtain ⟨gc, rfl⟩ : ∃ x, x = gb := ⟨_, rfl⟩; obtain ⟨wc, rfl⟩ : ∃ x, x = w' := ⟨_, rfl⟩; obtain ⟨hxc, rfl⟩ : ∃ x, x = hx := ⟨_, rfl⟩))
  | (apply WL.gF; exact rfl; exact rfl; (focus (exact dec_false (by omega); done)))
  | (show WL _ _ _ _ _ _ _; first | apply WL.nil | (refine WL.au (k := ?_)))
  | (show Z _ _ _ _ _; apply Z.then_normal)
  | (show W _ _ _ _ _ _; first | apply W.seq | apply W.region)
  | fail)
 have hgc := heap_lt hb
 refine W.condKF rfl (dec_false (by omega)) ?_
 repeat' (first
  | ((show WL _ _ _ (⟨_, .call ⟨.value (.func 136), _, _⟩, _, _, _, _⟩ :: _) _ _ _); apply WL.call; (iterate 4 exact rfl); exact circ_defined c _ (hC.ext extA) hz; rintro v' w' ⟨hx, a', cap', rfl, hO⟩; (obtain ⟨hOo, rfl⟩ : ∃ x, x = hO := ⟨_, rfl⟩; obtain ⟨hxo, rfl⟩ : ∃ x, x = hx := ⟨_, rfl⟩; obtain ⟨wo, rfl⟩ : ∃ x, x = w' := ⟨_, rfl⟩; obtain ⟨ao, rfl⟩ : ∃ x, x = a' := ⟨_, rfl⟩; obtain ⟨co, rfl⟩ : ∃ x, x = cap' := ⟨_, rfl⟩))
  | (apply WL.alloc tOk; (iterate 3 exact rfl); intro gb w' hb hge hx; (obtain ⟨g3, rfl⟩ : ∃ x, x = gb := ⟨_, rfl⟩; obtain ⟨w3, rfl⟩ : ∃ x, x = w' := ⟨_, rfl⟩; obtain ⟨hx3, rfl⟩ : ∃ x, x = hx := ⟨_, rfl⟩; obtain ⟨hb3, rfl⟩ : ∃ x, x = hb := ⟨_, rfl⟩; obtain ⟨hge3, rfl⟩ : ∃ x, x = hge := ⟨_, rfl⟩))
  | (apply WL.storeB (w0 := wo) tOk; (iterate 4 exact rfl); assumption; (exact extA); (iterate 3 exact rfl); (exact extA); (first | assumption | omega | (focus (apply Nat.le_trans; rotate_left; assumption; exact Below.size extA; done))); intro w' hb hc hX' hU; have hcc := hc; obtain ⟨h1, h2, _⟩ := hc; (obtain ⟨w4, rfl⟩ : ∃ x, x = w' := ⟨_, rfl⟩; obtain ⟨hb4, rfl⟩ : ∃ x, x = hb := ⟨_, rfl⟩; obtain ⟨hU4, rfl⟩ : ∃ x, x = hU := ⟨_, rfl⟩; obtain ⟨hX4, rfl⟩ : ∃ x, x = hX' := ⟨_, rfl⟩))
  | (show WL _ _ _ _ _ _ _; first | apply WL.nil | (refine WL.au (k := ?_)))
  | (show Z _ _ _ _ _; apply Z.then_normal)
  | (show W _ _ _ _ _ _; first | apply W.seq | apply W.region | apply W.block | apply W.skip)
  | fail)
 have Ro := Own.row encI_ok hOo
 have hXo : Ext wc wo := hxo
 have hlb : wo.heap.size ≤ g3 := hge3
 refine W.loopW c.t.own.length (fun k w' => k ≤ c.t.own.length ∧ Ext wo w' ∧ w'.heap[g3]? = some (.cells (okV ((c.t.own.take k).all (okO c.max))) 4 (0, 0))) (fun k => [(1, .pointer (some ⟨gc, 0, none⟩)), (3, .pointer (some ⟨g3, 0, none⟩)), (4, .slice ao c.t.own.length co), (22, .slice ao c.t.own.length co), (23, .int .i64 (c.t.own.length : Nat)), (24, .int .i64 k)]) ⟨Nat.zero_le _, hX4, hb4⟩ (fun k w' h => h.1) ⟨rfl, rfl, rfl, rfl, rfl, rfl, trivial⟩ ?_
 clear hb4 hX4 hU4 hcc h1 hb3 hx3
 rintro k w5 ⟨hk, hX5, hc5⟩
 have hcb := (cells_heap hc5).1
 by_cases hlt : k < c.t.own.length
 ·obtain ⟨x, hx⟩ := getI c.t.own hlt
  have hso := all_snoc (okO c.max) hx
  obtain ⟨bb, hbb⟩ : ∃ bb, (c.t.own.take k).all (okO c.max) = bb := ⟨_, rfl⟩
  rw [hbb] at hcb hc5 hso
  cases bb with
  | false =>
   repeat' (first
    | (apply W.condKT; exact rfl; (focus (exact dec_true (by omega); done)))
    | (apply WL.storeB (w0 := wo) tOk; (iterate 4 exact rfl); assumption; (exact extA); (iterate 3 exact rfl); (exact extA); (first | assumption | omega | (focus (apply Nat.le_trans; rotate_left; assumption; exact Below.size extA; done))); intro w' hb hc hX' hU; have hcc := hc; obtain ⟨h1, h2, _⟩ := hc)
    | (show WL _ _ _ _ _ _ _; first | apply WL.nil | (refine WL.au (k := ?_)) | (apply WL.index tOk; (iterate 8 exact rfl); assumption; (exact extA); exact rfl; omega; assumption; intro b off h; have hcc := h; first | (obtain ⟨h1, h2, h3, h4, h5, h6, _⟩ := h) | (obtain ⟨h1, h2, h3, _⟩ := h) | (obtain ⟨h1, h2, _⟩ := h) | (obtain ⟨h1, _⟩ := h)) | (apply WL.guardF; exact rfl; exact rfl))
    | (show Z _ _ _ _ _; first | apply Z.then_normal | apply Z.block_normal)
    | (show W _ _ _ _ _ _; first | apply W.seq | apply W.region | apply W.block | apply W.skip)
    | fail)
   exact Z.againW ⟨by omega, extA, by rw [hso]; exact hb⟩ ⟨rfl, rfl, rfl, rfl, rfl, rfl, trivial⟩
  | true =>
   have hlt' : ((k : Nat) : Int) < (c.t.own.length : Int) := by omega
   by_cases f1 : 1 < x
   rotate_left
   ·skip
    have e : okO c.max x = false := by unfold okO; rw [dec_false f1]; rfl
    rw [e] at hso
    repeat' (first
     | (apply WL.gF; exact rfl; exact rfl; (focus (first | exact dec_true hlt' | exact dec_false f1; done)))
     | (apply W.condKT; exact rfl; (focus (first | exact dec_true hlt' | exact dec_false f1; done)))
     | (apply WL.storeB (w0 := wo) tOk; (iterate 4 exact rfl); assumption; (exact extA); (iterate 3 exact rfl); (exact extA); (first | assumption | omega | (focus (apply Nat.le_trans; rotate_left; assumption; exact Below.size extA; done))); intro w' hb hc hX' hU; have hcc := hc; obtain ⟨h1, h2, _⟩ := hc)
     | (show WL _ _ _ _ _ _ _; first | apply WL.nil | (refine WL.au (k := ?_)) | (apply WL.index tOk; (iterate 8 exact rfl); assumption; (exact extA); exact rfl; omega; assumption; intro b off h; have hcc := h; first | (obtain ⟨h1, h2, h3, h4, h5, h6, _⟩ := h) | (obtain ⟨h1, h2, h3, _⟩ := h) | (obtain ⟨h1, h2, _⟩ := h) | (obtain ⟨h1, _⟩ := h)) | (apply WL.guardF; exact rfl; exact rfl))
     | (show Z _ _ _ _ _; first | apply Z.then_normal | apply Z.block_normal)
     | (show W _ _ _ _ _ _; first | apply W.seq | apply W.region | apply W.block | apply W.skip)
     | fail)
    exact Z.againW ⟨by omega, extA, by rw [hso]; exact hb⟩ ⟨rfl, rfl, rfl, rfl, rfl, rfl, trivial⟩
   by_cases f2 : x % 2 = 0
   rotate_left
   ·skip
    have e : okO c.max x = false := by unfold okO; rw [dec_false f2]; simp
    rw [e] at hso
    repeat' (first
     | (apply WL.gT; exact rfl; exact rfl; (focus (first | exact dec_true hlt' | exact dec_true f1 | exact dec_false f2; done)))
     | (apply WL.gF; exact rfl; exact rfl; (focus (first | exact dec_true hlt' | exact dec_true f1 | exact dec_false f2; done)))
     | (apply W.condKT; exact rfl; (focus (first | exact dec_true hlt' | exact dec_true f1 | exact dec_false f2; done)))
     | (apply WL.andA; (iterate 4 exact rfl))
     | (apply WL.storeB (w0 := wo) tOk; (iterate 4 exact rfl); assumption; (exact extA); (iterate 3 exact rfl); (exact extA); (first | assumption | omega | (focus (apply Nat.le_trans; rotate_left; assumption; exact Below.size extA; done))); intro w' hb hc hX' hU; have hcc := hc; obtain ⟨h1, h2, _⟩ := hc)
     | (show WL _ _ _ _ _ _ _; first | apply WL.nil | (refine WL.au (k := ?_)) | (apply WL.index tOk; (iterate 8 exact rfl); assumption; (exact extA); exact rfl; omega; assumption; intro b off h; have hcc := h; first | (obtain ⟨h1, h2, h3, h4, h5, h6, _⟩ := h) | (obtain ⟨h1, h2, h3, _⟩ := h) | (obtain ⟨h1, h2, _⟩ := h) | (obtain ⟨h1, _⟩ := h)) | (apply WL.guardF; exact rfl; exact rfl))
     | (show Z _ _ _ _ _; first | apply Z.then_normal | apply Z.block_normal)
     | (show W _ _ _ _ _ _; first | apply W.seq | apply W.region | apply W.block | apply W.skip)
     | fail)
    exact Z.againW ⟨by omega, extA, by rw [hso]; exact hb⟩ ⟨rfl, rfl, rfl, rfl, rfl, rfl, trivial⟩
   have e : okO c.max x = dec (x ≤ 2 * c.max) := by unfold okO; rw [dec_true f1, dec_true f2]; rfl
   rw [e] at hso
   repeat' (first
    | (apply WL.gT; exact rfl; exact rfl; (focus (first | exact dec_true hlt' | exact dec_true f1 | exact dec_true f2; done)))
    | (apply W.condKT; exact rfl; (focus (first | exact dec_true hlt' | exact dec_true f1 | exact dec_true f2; done)))
    | (apply WL.andA; (iterate 4 exact rfl))
    | (apply WL.storeB (w0 := wo) tOk; (iterate 4 exact rfl); assumption; (exact extA); (iterate 3 exact rfl); (exact extA); (first | assumption | omega | (focus (apply Nat.le_trans; rotate_left; assumption; exact Below.size extA; done))); intro w' hb hc hX' hU; have hcc := hc; obtain ⟨h1, h2, _⟩ := hc)
    | (show WL _ _ _ _ _ _ _; first | apply WL.nil | (refine WL.au (k := ?_)) | (apply WL.index tOk; (iterate 8 exact rfl); assumption; (exact extA); exact rfl; omega; assumption; intro b off h; have hcc := h; first | (obtain ⟨h1, h2, h3, h4, h5, h6, _⟩ := h) | (obtain ⟨h1, h2, h3, _⟩ := h) | (obtain ⟨h1, h2, _⟩ := h) | (obtain ⟨h1, _⟩ := h)))
    | (show Z _ _ _ _ _; first | apply Z.then_normal | apply Z.block_normal)
    | (show W _ _ _ _ _ _; first | apply W.seq | apply W.region | apply W.block | apply W.skip)
    | fail)
   exact Z.againW ⟨by omega, extA, by rw [hso]; exact hb⟩ ⟨rfl, rfl, rfl, rfl, rfl, rfl, trivial⟩
 obtain rfl : k = c.t.own.length := by omega
 rw [List.take_length] at hc5
 obtain ⟨b1, hb1⟩ : ∃ b1, c.t.own.all (okO c.max) = b1 := ⟨_, rfl⟩
 rw [hb1] at hc5
 have Rl := hC.lat.row.ext hxc
 repeat' (first
  | (apply W.condKF; exact rfl; (focus (exact dec_false (by omega); done)))
  | (show WL _ _ _ _ _ _ _; first | apply WL.nil | (refine WL.au (k := ?_)))
  | (show Z _ _ _ _ _; first | apply Z.then_normal | apply Z.then_exit | apply Z.block_exit)
  | (show W _ _ _ _ _ _; first | apply W.seq | apply W.region | apply W.block | apply W.exit)
  | fail)
 clear hcb
 have hX5' := hX5
 refine W.loopW c.lat.2.2.length (fun k w' => k ≤ c.lat.2.2.length ∧ Ext wo w' ∧ w'.heap[g3]? = some (.cells (okV (b1 && (c.lat.2.2.take k).all okR)) 4 (0, 0))) (fun k => [(1, .pointer (some ⟨gc, 0, none⟩)), (3, .pointer (some ⟨g3, 0, none⟩)), (4, .slice ao c.t.own.length co), (47, rowVal c.lat), (48, .int .i64 (c.lat.2.2.length : Nat)), (49, .int .i64 k)]) ⟨Nat.zero_le _, hX5, by rw [List.take_zero]; simpa using hc5⟩ (fun k w' h => h.1) ⟨rfl, rfl, rfl, rfl, rfl, rfl, trivial⟩ ?_
 clear hc5 hX5 hX5'
 rintro k w5 ⟨hk, hX5, hc5⟩
 have hcb := (cells_heap hc5).1
 by_cases hlt : k < c.lat.2.2.length
 ·obtain ⟨x, hx⟩ := getI c.lat.2.2 hlt
  have hso := all_snoc okR hx
  have hlt' : ((k : Nat) : Int) < (c.lat.2.2.length : Int) := by omega
  obtain ⟨bb, hbb⟩ : ∃ bb, (b1 && (c.lat.2.2.take k).all okR) = bb := ⟨_, rfl⟩
  have hso' : (b1 && (c.lat.2.2.take (k + 1)).all okR) = (bb && okR x) := by rw [hso, ← hbb, Bool.and_assoc]
  rw [hbb] at hcb hc5
  clear hso
  repeat' (first
   | (show WL _ _ _ _ _ _ _; first | apply WL.nil | (refine WL.au (k := ?_)))
   | (show Z _ _ _ _ _; apply Z.then_normal)
   | (show W _ _ _ _ _ _; first | apply W.seq | apply W.region)
   | fail)
  refine W.condKT rfl (dec_true hlt') ?_
  repeat' (first
   | (apply WL.alloc tOk; (iterate 3 exact rfl); intro gb w' hb hge hx; (obtain ⟨g8, rfl⟩ : ∃ x, x = gb := ⟨_, rfl⟩; obtain ⟨w6, rfl⟩ : ∃ x, x = w' := ⟨_, rfl⟩; obtain ⟨hx6, rfl⟩ : ∃ x, x = hx := ⟨_, rfl⟩; obtain ⟨hb6, rfl⟩ : ∃ x, x = hb := ⟨_, rfl⟩; obtain ⟨hge6, rfl⟩ : ∃ x, x = hge := ⟨_, rfl⟩))
   | (apply WL.storeB (w0 := w5) tOk; (iterate 4 exact rfl); assumption; (exact extA); (iterate 3 exact rfl); (exact extA); (first | assumption | omega | (focus (apply Nat.le_trans; rotate_left; assumption; exact Below.size extA; done))); intro w' hb hc hX' hU; have hcc := hc; obtain ⟨h1, h2, _⟩ := hc; (obtain ⟨w7, rfl⟩ : ∃ x, x = w' := ⟨_, rfl⟩; obtain ⟨hX7, rfl⟩ : ∃ x, x = hX' := ⟨_, rfl⟩; obtain ⟨hb7, rfl⟩ : ∃ x, x = hb := ⟨_, rfl⟩; have hC7 := cells_heap hb7; obtain ⟨i0, i1, i2, _⟩ := hC7))
   | (show WL _ _ _ _ _ _ _; first | apply WL.nil | (refine WL.au (k := ?_)) | (apply WL.index tOk; (iterate 8 exact rfl); assumption; (exact extA); exact rfl; omega; assumption; intro b off h; have hcc := h; first | (obtain ⟨h1, h2, h3, h4, h5, h6, _⟩ := h) | (obtain ⟨h1, h2, h3, _⟩ := h) | (obtain ⟨h1, h2, _⟩ := h) | (obtain ⟨h1, _⟩ := h)) | (apply WL.guardF; exact rfl; exact rfl) | (apply WL.gD; exact rfl; exact rfl; all_goals intro _) | (apply WL.gB; exact rfl; exact rfl; all_goals (intro h_9; fail_if_success (cases h_9; done))))
   | (show Z _ _ _ _ _; apply Z.then_normal)
   | (show W _ _ _ _ _ _; first | apply W.seq | apply W.region | apply W.block | apply W.skip)
   | fail)
  all_goals
   repeat' (first
    | (apply WL.storeB (w0 := wo) tOk; (iterate 4 exact rfl); assumption; (exact extA); (iterate 3 exact rfl); (exact extA); (first | assumption | omega | (focus (apply Nat.le_trans; rotate_left; assumption; exact Below.size extA; done))); intro w' hb hc hX' hU; have hcc := hc; obtain ⟨h1, h2, _⟩ := hc)
    | (show WL _ _ _ _ _ _ _; first | apply WL.nil | (refine WL.au (k := ?_)))
    | (show Z _ _ _ _ _; first | apply Z.then_normal | apply Z.block_normal)
    | (show W _ _ _ _ _ _; apply W.region)
    | fail)
   refine Z.againW ⟨by omega, extA, ?_⟩ ⟨rfl, rfl, rfl, rfl, rfl, rfl, trivial⟩
   rw [hso']
   clear hcells hcc hcb hc5 hC hz
   first
    | (rw [show (bb && okR x) = false by simp [okR, dec_true, dec_false, *]]; exact hb)
    | (rw [show (bb && okR x) = true by simp [okR, dec_true, dec_false, *]]; exact hb)
    | (rw [show (bb && okR x) = dec (x.2.2 = x.1) by simp [okR, dec_true, dec_false, *]]; exact hb)
 obtain rfl : k = c.lat.2.2.length := by omega
 rw [List.take_length] at hc5
 repeat' (first
  | (show WL _ _ _ _ _ _ _; first | apply WL.nil | (refine WL.au (k := ?_)))
  | (show Z _ _ _ _ _; apply Z.then_normal)
  | (show W _ _ _ _ _ _; first | apply W.seq | apply W.region)
  | fail)
 refine W.condKF rfl (dec_false (by omega)) ?_
 have hX5w : Ext wc w5 := extA
 have huse := circ_uses c wc w5 138 g3 [.pointer (some ⟨g3, 0, none⟩), .pointer (some ⟨gc, 0, none⟩)] (inR c.max) (b1 && c.lat.2.2.all okR) (hC.ext hxc) hz hX5w (Nat.le_trans (Below.size hXo) hlb) hc5 (fun x hx w9 b hbt hc9 => circ_Check1 w9 g3 gc c.max x b hc9 (But.cell hbt (Ext.cell hX5w y0) (fun he => by have h9 := Option.some.inj he; have h8 := Below.size hXo; simp only at h9; omega)) (by omega))
 repeat' (first
  | (((show WL _ _ _ (⟨_, .call ⟨.value (.func 137), _, _⟩, _, _, _, _⟩ :: _) _ _ _); apply WL.call; (iterate 4 exact rfl); exact huse; rintro v' w6 ⟨rfl, hb6, hc6⟩))
  | (show WL _ _ _ _ _ _ _; first | apply WL.nil | (refine WL.au (k := ?_)))
  | (show Z _ _ _ _ _; first | apply Z.then_normal | apply Z.then_exit | apply Z.block_exit)
  | (show W _ _ _ _ _ _; first | apply W.seq | apply W.region | apply W.exit)
  | fail)
 have hU6 : Upd g3 (some ⟨g3, 0, none⟩) w5 w6 := ⟨hb6, fun k hk => by have h9 : g3 = k := Option.some.inj hk; omega⟩
 have hX6 : Ext wo w6 := hU6.ext hX5 hlb
 have hcb := (cells_heap hc6).1
 have hbad := bad_iff (c := c.t) hmax
 rw [show c.t.own.all (okO c.t.max) = b1 from hb1] at hbad
 obtain ⟨b2, hb2⟩ : ∃ b2, (b1 && c.lat.2.2.all okR && c.t.used.all (inR c.max)) = b2 := ⟨_, rfl⟩
 rw [hb2] at hc6 hcb
 have hbad2 : b2 = true ↔ ¬ (BadMax c.t ∨ BadOwn c.t ∨ BadUse c.t ∨ BadRes c.t) := by rw [← hb2]; exact hbad
 clear hbad huse
 cases b2 with
 | false =>
  have h5 : BadMax c.t ∨ BadOwn c.t ∨ BadUse c.t ∨ BadRes c.t := Classical.byContradiction fun h => by have := hbad2.2 h; cases this
  repeat' (first
   | (show WL _ _ _ _ _ _ _; first | apply WL.nil | (refine WL.au (k := ?_)))
   | (show Z _ _ _ _ _; apply Z.then_normal)
   | fail)
  refine W.condKT rfl rfl ?_
  repeat' (first
   | (show WL _ _ _ _ _ _ _; first | apply WL.nil | (refine WL.au (k := ?_)))
   | (show Z _ _ _ _ _; first | apply Z.then_normal | apply Z.then_ret)
   | (show W _ _ _ _ _ _; first | apply W.seq | apply W.region | apply W.ret)
   | fail)
  exact Z.body1 Try.results88 rfl fun m => ⟨by rw [chk_5 h5], Ext.at extA m⟩
 | true =>
  have h5 := hbad2.1 rfl
  have hown : ∀ x ∈ c.t.own, 2 ≤ x ∧ x % 2 = 0 ∧ x ≤ 2 * c.max := fun x hx => by
   have hn : ¬ (x < 2 ∨ x % 2 = 1 ∨ 2 * c.t.max < x) := fun hh => h5 (.inr (.inl ⟨x, hx, hh⟩))
   rw [hcm] at hn; omega
  have hused : ∀ x ∈ c.t.used, 0 ≤ x ∧ x ≤ 2 * c.max + 1 := fun x hx => by
   have hn : ¬ (x < 0 ∨ 2 * c.t.max + 1 < x) := fun hh => h5 (.inr (.inr (.inl ⟨x, hx, hh⟩)))
   rw [hcm] at hn; omega
  repeat' (first
   | (show WL _ _ _ _ _ _ _; first | apply WL.nil | (refine WL.au (k := ?_)))
   | (show Z _ _ _ _ _; apply Z.then_normal)
   | fail)
  refine W.condKF rfl rfl ?_
  repeat' (first
   | ((apply WL.makeMap (kv := encK) (vv := isB); exact rfl; exact rfl; intro rm w7 hM7 hge7 hx7))
   | ((apply WL.insertF (B := 0) (w0 := w6) (vv := isB) tOk keyI; (iterate 6 exact rfl); exact hM7; exact extA; exact hge7; intro w8 hM8 hX8 hU8))
   | (apply WL.alloc tOk; (iterate 3 exact rfl); intro gb w' hb hge hx; (obtain ⟨g9, rfl⟩ : ∃ x, x = gb := ⟨_, rfl⟩; obtain ⟨w9, rfl⟩ : ∃ x, x = w' := ⟨_, rfl⟩; obtain ⟨hx9, rfl⟩ : ∃ x, x = hx := ⟨_, rfl⟩; obtain ⟨hb9, rfl⟩ : ∃ x, x = hb := ⟨_, rfl⟩; obtain ⟨hge9, rfl⟩ : ∃ x, x = hge := ⟨_, rfl⟩))
   | (apply WL.storeB (w0 := w8) tOk; (iterate 4 exact rfl); assumption; (exact extA); (iterate 3 exact rfl); (exact extA); (first | assumption | omega | (focus (apply Nat.le_trans; rotate_left; assumption; exact Below.size extA; done))); intro w' hb hc hX' hU; have hcc := hc; obtain ⟨h1, h2, _⟩ := hc; (obtain ⟨w10, rfl⟩ : ∃ x, x = w' := ⟨_, rfl⟩; obtain ⟨hb10, rfl⟩ : ∃ x, x = hb := ⟨_, rfl⟩; obtain ⟨hU10, rfl⟩ : ∃ x, x = hU := ⟨_, rfl⟩; obtain ⟨hX10, rfl⟩ : ∃ x, x = hX' := ⟨_, rfl⟩))
   | (show WL _ _ _ _ _ _ _; first | apply WL.nil | (refine WL.au (k := ?_)))
   | (show Z _ _ _ _ _; apply Z.then_normal)
   | (show W _ _ _ _ _ _; first | apply W.seq | apply W.region | apply W.block | apply W.skip)
   | fail)
  have hS : Lt.Sep w6.heap.size w10 [pcell g9 #[.map (some rm)] 152, pmap encK isB rm (keysL true (0 :: (c.t.own.take 0).map (· / 2)))] := Sep.newCell (Sep.newMap Sep.none' hX8 hM8 hge7 (Nat.le_refl _)) hX10 hb10 hge9 (Below.size hX8)
  clear hM7 hM8 hb9 hb10 hU10 hU8 hcc h1 hx9
  have hX10w : Ext w6 w10 := extA
  have hXw6 : Ext wc w6 := extA
  have hev : ∀ k, ∀ y ∈ c.t.own.take k, y % 2 = 0 ∧ 2 ≤ y := fun k y hy => by have := hown y (List.mem_of_mem_take hy); omega
  clear hX10 hX8 hx7
  refine W.loopW c.t.own.length (fun k w' => k ≤ c.t.own.length ∧ Ext w6 w' ∧ Lt.Sep w6.heap.size w' [pcell g9 #[.map (some rm)] 152, pmap encK isB rm (keysL true (0 :: (c.t.own.take k).map (· / 2)))] ∧ ∀ i x, i < k → c.t.own[i]? = some x → x ∉ c.t.own.take i) (fun k => [(1, .pointer (some ⟨gc, 0, none⟩)), (3, .pointer (some ⟨g3, 0, none⟩)), (9, .pointer (some ⟨g9, 0, none⟩)), (79, .slice ao c.t.own.length co), (80, .int .i64 (c.t.own.length : Nat)), (81, .int .i64 k)]) ⟨Nat.zero_le _, hX10w, hS, fun i x h => absurd h (Nat.not_lt_zero _)⟩ (fun k w' h => h.1) ⟨rfl, rfl, rfl, rfl, rfl, rfl, trivial⟩ ?_
  clear hS hX10w
  rintro k w11 ⟨hk, hX11, hS, hno⟩
  have hg9 := (cells_heap (hS.cell (i := 0) rfl)).1
  have hMp := hS.map (i := 1) rfl
  have hrm := (hS.lt (i := 1) rfl rfl).1
  have hX11o : Ext wo w11 := extA
  by_cases hlt : k < c.t.own.length
  ·obtain ⟨x, hx⟩ := getI c.t.own hlt
   have hxo := hown x (List.mem_of_getElem? hx)
   have hhm := half_mem (x := x) (hev k)
   rw [show x - x % 2 = x by omega] at hhm
   by_cases hin : x ∈ c.t.own.take k
   ·have htw : Twice c.t := ⟨k, x, hx, hin⟩
    repeat' (first
     | (show WL _ _ _ _ _ _ _; first | apply WL.nil | (refine WL.au (k := ?_)))
     | (show Z _ _ _ _ _; apply Z.then_normal)
     | (show W _ _ _ _ _ _; first | apply W.seq | apply W.region)
     | fail)
    refine W.condKT rfl (dec_true (by omega)) ?_
    repeat' (first
     | ((apply WL.lookKeys tOk keyI; (iterate 8 exact rfl); exact hMp))
     | (show WL _ _ _ _ _ _ _; first | apply WL.nil | (refine WL.au (k := ?_)) | (apply WL.index tOk; (iterate 8 exact rfl); assumption; (exact extA); exact rfl; omega; assumption; intro b off h; have hcc := h; first | (obtain ⟨h1, h2, h3, h4, h5, h6, _⟩ := h) | (obtain ⟨h1, h2, h3, _⟩ := h) | (obtain ⟨h1, h2, _⟩ := h) | (obtain ⟨h1, _⟩ := h)))
     | (show Z _ _ _ _ _; apply Z.then_normal)
     | (show W _ _ _ _ _ _; first | apply W.seq | apply W.region | apply W.block | apply W.skip)
     | fail)
    refine W.condKT rfl (dec_true (hhm.2 (.inr hin))) ?_
    repeat' (first
     | (show WL _ _ _ _ _ _ _; first | apply WL.nil | (refine WL.au (k := ?_)))
     | (show Z _ _ _ _ _; first | apply Z.then_normal | apply Z.then_ret | apply Z.block_ret)
     | (show W _ _ _ _ _ _; first | apply W.seq | apply W.region | apply W.ret)
     | fail)
    exact Z.body1 Try.results88 rfl fun m => ⟨by rw [chk_7 h5 htw], Ext.at extA m⟩
   ·have hnm : ¬ x / 2 ∈ (0 :: (c.t.own.take k).map (· / 2) : List Int) := fun h => by
     rcases hhm.1 h with h | h
     ·omega
     ·exact hin h
    repeat' (first
     | (show WL _ _ _ _ _ _ _; first | apply WL.nil | (refine WL.au (k := ?_)))
     | (show Z _ _ _ _ _; apply Z.then_normal)
     | (show W _ _ _ _ _ _; first | apply W.seq | apply W.region)
     | fail)
    refine W.condKT rfl (dec_true (by omega)) ?_
    repeat' (first
     | ((apply WL.lookKeys tOk keyI; (iterate 8 exact rfl); exact hMp))
     | (show WL _ _ _ _ _ _ _; first | apply WL.nil | (refine WL.au (k := ?_)) | (apply WL.index tOk; (iterate 8 exact rfl); assumption; (exact extA); exact rfl; omega; assumption; intro b off h; have hcc := h; first | (obtain ⟨h1, h2, h3, h4, h5, h6, _⟩ := h) | (obtain ⟨h1, h2, h3, _⟩ := h) | (obtain ⟨h1, h2, _⟩ := h) | (obtain ⟨h1, _⟩ := h)))
     | (show Z _ _ _ _ _; apply Z.then_normal)
     | (show W _ _ _ _ _ _; first | apply W.seq | apply W.region | apply W.block | apply W.skip)
     | fail)
    refine W.condKF rfl (dec_false hnm) ?_
    repeat' (first
     | ((apply WL.mapPutF (B := 0) (w0 := w6) (vv := isB) tOk keyI; (iterate 6 exact rfl); exact hMp; exact extA; assumption; intro w' hM' hX' hU))
     | (show WL _ _ _ _ _ _ _; first | apply WL.nil | (refine WL.au (k := ?_)))
     | (show Z _ _ _ _ _; first | apply Z.then_normal | apply Z.block_normal)
     | (show W _ _ _ _ _ _; first | apply W.region | apply W.skip)
     | fail)
    rw [mget_keys, dec_false hnm] at hM'
    have hS4 := Sep.updMap (i := 1) rfl hU hM' hS extA (Below.size extA)
    refine Z.againW ⟨by omega, extA, ?_, fun i z hi hz => ?_⟩ ⟨rfl, rfl, rfl, rfl, rfl, rfl, trivial⟩
    ·rw [take_succ' hx, List.map_append, ← List.cons_append, List.map_singleton, keysL_snoc]; exact hS4
    ·by_cases hik : i = k
     ·subst hik; rw [hx] at hz; cases hz; exact hin
     ·exact hno i z (by omega) hz
  obtain rfl : k = c.t.own.length := by omega
  rw [List.take_length] at hS hMp
  have h7 : ¬ Twice c.t := fun ⟨i, x, a1, a2⟩ => hno i x (lt_of_get a1) a1 a2
  repeat' (first
   | (show WL _ _ _ _ _ _ _; first | apply WL.nil | (refine WL.au (k := ?_)))
   | (show Z _ _ _ _ _; apply Z.then_normal)
   | (show W _ _ _ _ _ _; first | apply W.seq | apply W.region)
   | fail)
  refine W.condKF rfl (dec_false (by omega)) ?_
  have hc11 : w11.heap[g3]? = some (.cells (okV true) 4 (0, 0)) := by rw [hX11.block g3 (heap_lt hc6)]; exact hc6
  have hgm : ∀ g ∈ c.gates.2.2, g.1 ∈ c.t.own ∧ g.2.1 ∈ c.t.used ∧ g.2.2 ∈ c.t.used := fun g hg =>
   ⟨List.mem_append.2 (.inr (List.mem_map.2 ⟨g, hg, rfl⟩)), List.mem_append.2 (.inr (List.mem_flatMap.2 ⟨g, hg, by simp⟩)), List.mem_append.2 (.inr (List.mem_flatMap.2 ⟨g, hg, by simp⟩))⟩
  have hok : gsOk c.gates.2.2 := fun g hg => by
   obtain ⟨r1, r2, r3⟩ := hgm g hg
   have := hown _ r1
   have := hused _ r2
   have := hused _ r3
   omega
  have honce : Once c.gates.2.2 := once_of (c := c.t) h7 fun x hx => (hown x hx).2.1
  have hn9 := none_iff (c := c.t) hown hused
  obtain ⟨ks, hks⟩ : ∃ ks, (0 :: c.t.own.map (· / 2) : List Int) = ks := ⟨_, rfl⟩
  rw [hks] at hMp hn9
  have hXc11 : Ext wc w11 := extA
  have hne3 : g9 ≠ g3 := fun he => by have h1 := heap_lt hc6; have h2 := (hS.lt (i := 0) rfl rfl).1; omega
  have hne4 : rm ≠ g3 := fun he => by have h1 := heap_lt hc6; omega
  have huse := circ_uses c wc w11 139 g3 [.pointer (some ⟨g3, 0, none⟩), .pointer (some ⟨g9, 0, none⟩)] (inK ks) true (hC.ext hxc) hz hXc11 (Nat.le_trans (Below.size hXo) hlb) hc11 (fun x hx w9 b hbt hc9 => circ_Check2 w9 g3 g9 rm ks x b hc9 (But.cell hbt hg9 (fun he => hne3 (by have h9 := Option.some.inj he; simp only at h9; omega))) (hMp.keep (hbt.block rm hMp.lt (fun he => hne4 (by have h9 := Option.some.inj he; omega)))) (by have := hused x hx; omega))
  repeat' (first
   | (((show WL _ _ _ (⟨_, .call ⟨.value (.func 137), _, _⟩, _, _, _, _⟩ :: _) _ _ _); apply WL.call; (iterate 4 exact rfl); exact huse; rintro v' w12 ⟨rfl, hb12, hc12⟩))
   | (show WL _ _ _ _ _ _ _; first | apply WL.nil | (refine WL.au (k := ?_)))
   | (show Z _ _ _ _ _; first | apply Z.then_normal | apply Z.then_exit | apply Z.block_exit)
   | (show W _ _ _ _ _ _; first | apply W.seq | apply W.region | apply W.block | apply W.exit)
   | fail)
  have hU12 : Upd g3 (some ⟨g3, 0, none⟩) w11 w12 := ⟨hb12, fun k hk => by have h9 : g3 = k := Option.some.inj hk; omega⟩
  have hX12 : Ext wo w12 := hU12.ext hX11o hlb
  have hcb := (cells_heap hc12).1
  obtain ⟨b3, hb3⟩ : ∃ b3, (true && c.t.used.all (inK ks)) = b3 := ⟨_, rfl⟩
  rw [hb3] at hc12 hcb hn9
  cases b3 with
  | false =>
   have h9 : NoneC c.t := Classical.byContradiction fun h => by have := hn9.2 h; cases this
   repeat' (first
    | (show WL _ _ _ _ _ _ _; first | apply WL.nil | (refine WL.au (k := ?_)))
    | (show Z _ _ _ _ _; apply Z.then_normal)
    | fail)
   refine W.condKT rfl rfl ?_
   repeat' (first
    | (show WL _ _ _ _ _ _ _; first | apply WL.nil | (refine WL.au (k := ?_)))
    | (show Z _ _ _ _ _; first | apply Z.then_normal | apply Z.then_ret | apply Z.block_ret)
    | (show W _ _ _ _ _ _; first | apply W.seq | apply W.region | apply W.ret)
    | fail)
   exact Z.body1 Try.results88 rfl fun m => ⟨by rw [chk_9 h5 h7 h9], Ext.at extA m⟩
  | true =>
   have h9 := hn9.1 rfl
   repeat' (first
    | (show WL _ _ _ _ _ _ _; first | apply WL.nil | (refine WL.au (k := ?_)))
    | (show Z _ _ _ _ _; apply Z.then_normal)
    | fail)
   refine W.condKF rfl rfl ?_
   have hX12w : Ext w w12 := extA
   have Rg := hC.gates.row.ext hX12w
   have hcu := hcells.ext (show Ext wc w12 from extA)
   have x0 : Cells w12 gc 0 c.vals := hcu
   have x6 : w12.cell? ⟨gc, 0 + 1 + 1 + 1 + 1 + 1 + 1, none⟩ = some (rowVal c.gates) := hcu.2.2.2.2.2.2.1
   repeat' (first
    | (show W _ _ (.region 28 _ _) _ _ _; apply W.regionGX (.fl true 3 (.fl false 0 (.fl false 4 (.fl true 5 (.br 1 (.fl true 2 (.fl true 6 (.fl true 7 .done))) .stop))))) [1, 2, 4, 5, 6, 7] tMix; kernel_rfl)
    | ((show WL _ _ _ (⟨_, .call ⟨.value (.func 110), _, _⟩, _, _, _, _⟩ :: _) _ _ _); apply WL.call; (iterate 4 exact rfl); exact circ_Order c _ (Rg.ext extA) hok (by omega) honce; rintro v' w' ⟨hx, a', cap', rfl, hO⟩; (obtain ⟨hOd, rfl⟩ : ∃ x, x = hO := ⟨_, rfl⟩; obtain ⟨hxd, rfl⟩ : ∃ x, x = hx := ⟨_, rfl⟩; obtain ⟨wd, rfl⟩ : ∃ x, x = w' := ⟨_, rfl⟩; obtain ⟨ad, rfl⟩ : ∃ x, x = a' := ⟨_, rfl⟩; obtain ⟨cd, rfl⟩ : ∃ x, x = cap' := ⟨_, rfl⟩))
    | (show SX _ _ _ _ _ _ _ _ _; first | (apply SX.done; intro w' hx) | (apply SX.fl0; exact rfl) | (apply SX.fl1; exact rfl; (exact extA)) | (apply SX.br1; exact rfl; intro w' hx))
    | (show FL _ _ _ _ _ _ _ _; first | apply FL.nilX | (apply FL.loadE tOk; (iterate 5 exact rfl); (first | assumption | (focus (apply Ext.cell; rotate_left; assumption; exact extA; done)))) | (apply FL.loadAE tOk; (iterate 5 exact rfl); assumption; exact rfl))
    | (show FL _ _ _ _ _ _ _ _; (refine FL.au (k := ?_)))
    | (show Z _ _ _ _ _; (apply Z.sxE; (exact extA)))
    | (show WL _ _ _ _ _ _ _; first | apply WL.nil | (refine WL.au (k := ?_)))
    | (show Z _ _ _ _ _; first | apply Z.then_normal | apply Z.block_normal | apply Z.then_ret | apply Z.block_ret)
    | (show W _ _ _ _ _ _; first | apply W.seq | apply W.region | apply W.skip | apply W.ret | (apply W.condD; exact rfl; all_goals intro _))
    | fail)
   all_goals (rename_i hlen; rw [show (natI (ordL c.gates.2.2)).length = (ordL c.t.gates).length from List.length_map _] at hlen)
   ·exact Z.body1 Try.results88 rfl fun m => ⟨by rw [chk_8 h5 h7 h9 (show (ordL c.t.gates).length < c.t.gates.length by have : c.t.gates = c.gates.2.2 := rfl; rw [this] at hlen ⊢; omega)], Ext.at extA m⟩
   ·exact Z.body1 Try.results88 rfl fun m => ⟨by rw [chk_0 h5 h7 h9 (show ¬ (ordL c.t.gates).length < c.t.gates.length by have : c.t.gates = c.gates.2.2 := rfl; rw [this] at hlen ⊢; omega)], Ext.at extA m⟩
end Go.Proofs.Yteidpnpbfagaeaa
namespace Go.Proofs.Yteidpnpbfagaeaa
open Go Go.Lt Go.RowKit
set_option linter.unusedVariables false
set_option linter.unusedSimpArgs false
set_option maxRecDepth 20000

abbrev netP (B g4 g5 : Nat) (an : Option Addr) (cn : Nat) (aa : Option Addr) (ca : Nat) (s : NA) : List Piece :=
 [pcell g4 #[.slice an s.1.length cn] 35, pcell g5 #[.slice aa s.2.length ca] 22, prow 2 encN 105 B an cn s.1, prow 1 encI 3 B aa ca s.2]
theorem circ_Net2 (w : World) (g5 : Nat) (aa : Option Addr) (ca : Nat) (A : List Int) (l z : Int) (hc : w.cell? ⟨g5, 0, none⟩ = some (.slice aa A.length ca)) (R : Row 1 encI w aa A) (h0 : 0 ≤ l) (hl9 : l ≤ 4294967296) (hz : A[(l / 2).toNat]? = some z) (hz0 : 0 ≤ z ∧ z ≤ 4294967296) :
  Still Try.prog 109 [.int .i64 l, .pointer (some ⟨g5, 0, none⟩)] w (.int .i64 (litI A l)) := by
 have hlt := lt_of_get hz
 have hl := R.len
 have e0 : litI A l = xorI z (l % 2) := litI_some hz
 refine Spec.of _ Try.func109 rfl Try.ntmps109 (by kernel_rfl) rfl ?_
 repeat' (first
  | (apply WL.andA; (iterate 4 exact rfl))
  | (apply WL.xorI; (iterate 4 exact rfl); omega; omega)
  | (show WL _ _ _ _ _ _ _; first | apply WL.nil | (refine WL.au (k := ?_)) | (apply WL.index tOk; (iterate 8 exact rfl); assumption; (exact extA); exact rfl; omega; assumption; intro b off h; have hcc := h; first | (obtain ⟨h1, h2, h3, h4, h5, h6, _⟩ := h) | (obtain ⟨h1, h2, h3, _⟩ := h) | (obtain ⟨h1, h2, _⟩ := h) | (obtain ⟨h1, _⟩ := h)))
  | (show Z _ _ _ _ _; apply Z.then_normal)
  | (show W _ _ _ _ _ _; first | apply W.seq | apply W.region | apply W.ret)
  | fail)
 exact Z.body1 Try.results109 rfl fun m => ⟨by rw [e0], m, rfl⟩
set_option maxHeartbeats 8000000 in
theorem circ_Net1 (w0 w : World) (g4 g5 : Nat) (an : Option Addr) (cn : Nat) (aa : Option Addr) (ca : Nat) (s : NA) (rest : List Piece) (l : Int) (x : Int × Int) (hX : Ext w0 w) (hS : Lt.Sep w0.heap.size w (netP w0.heap.size g4 g5 an cn aa ca s ++ rest)) (hl : 0 ≤ l ∧ (l / 2).toNat < s.2.length) (hl2 : l ≤ 4294967296) (hs : s.1.length ≤ 1000000) :
  Lt.Spec Try.prog 108 [.int .i64 l, .agg (encN x).toArray, .pointer (some ⟨g4, 0, none⟩), .pointer (some ⟨g5, 0, none⟩)] w (fun v w' => v = .tuple #[] ∧ Ext w0 w' ∧ ∃ an' cn', Lt.Sep w0.heap.size w' (netP w0.heap.size g4 g5 an' cn' aa ca (cput s l x) ++ rest)) := by
 obtain ⟨N, A⟩ := s
 dsimp only at hs hl
 have k0 := (cells_heap (hS.cell (i := 0) rfl)).1
 have k1 := (cells_heap (hS.cell (i := 1) rfl)).1
 have hg4 := (hS.lt (i := 0) rfl rfl).1
 have hN := hS.row (i := 2) rfl
 obtain ⟨zz, hzz⟩ := getI A hl.2
 refine Spec.of _ Try.func108 rfl Try.ntmps108 (by kernel_rfl) rfl ?_
 repeat' (first
  | (apply WL.box; (iterate 3 exact rfl); intro gb w' hb hge hc hx; have hcc := hc; (first | (obtain ⟨h1, h2, h3, _⟩ := hc) | (obtain ⟨h1, h2, _⟩ := hc)); (have hcells := hcc; obtain ⟨y0, y1, _⟩ := hcc; obtain ⟨w1, rfl⟩ : ∃ x, x = w' := ⟨_, rfl⟩; obtain ⟨hx1, rfl⟩ : ∃ x, x = hx := ⟨_, rfl⟩))
  | (apply WL.lit tOk; (iterate 6 exact rfl); (first | exact rfl | kernel_rfl | (simp [Instr.fill, catCells]; done)); exact rfl; intro gb w' hb hge hc hx; (obtain ⟨w2, rfl⟩ : ∃ x, x = w' := ⟨_, rfl⟩; obtain ⟨hx2, rfl⟩ : ∃ x, x = hx := ⟨_, rfl⟩))
  | (apply WL.append1 (z := (x)) tOk encN_ok; (iterate 10 exact rfl); assumption; (exact extA); (first | exact rfl | (focus (simp only [List.length_set]; done)) | (focus (simp; done)) | (focus (simp [*]; done)) | omega | (focus (simp only [List.length_set]; omega))); (first | assumption | (refine Cells.ext ?_ (by assumption); exact extA)); exact rfl; exact rfl; (exact extA); (first | omega | (simp; omega) | (simp at *; omega)); intro a' cap' w' hO hX' hU hF)
  | (show WL _ _ _ _ _ _ _; first | apply WL.nil | (refine WL.au (k := ?_)))
  | (show Z _ _ _ _ _; apply Z.then_normal)
  | (show W _ _ _ _ _ _; first | apply W.seq | apply W.region)
  | fail)
 obtain ⟨w3, rfl⟩ : ∃ x, x = w' := ⟨_, rfl⟩; obtain ⟨an2, rfl⟩ : ∃ x, x = a' := ⟨_, rfl⟩; obtain ⟨cn2, rfl⟩ : ∃ x, x = cap' := ⟨_, rfl⟩
 have hS1 : Lt.Sep w0.heap.size w3 ([pcell g4 #[.slice an N.length cn] 35, pcell g5 #[.slice aa A.length ca] 22, prow 2 encN 105 w0.heap.size an2 cn2 (N ++ [x]), prow 1 encI 3 w0.heap.size aa ca A] ++ rest) := Sep.updRow (i := 2) rfl hU hO hF hS extA (Below.size extA)
 have hX3 : Ext w0 w3 := extA
 have hc4 := hS1.cell (i := 0) rfl
 repeat' (first
  | (apply WL.storeB (w0 := w0) tOk; (iterate 4 exact rfl); assumption; (exact extA); (iterate 3 exact rfl); (exact extA); (first | assumption | omega | (focus (apply Nat.le_trans; rotate_left; assumption; exact Below.size extA; done))); intro w' hb hc hX' hU; have hcc := hc; obtain ⟨h1, h2, _⟩ := hc; (obtain ⟨w4, rfl⟩ : ∃ x, x = w' := ⟨_, rfl⟩; obtain ⟨hb4, rfl⟩ : ∃ x, x = hb := ⟨_, rfl⟩; obtain ⟨hU4, rfl⟩ : ∃ x, x = hU := ⟨_, rfl⟩; obtain ⟨hX4, rfl⟩ : ∃ x, x = hX' := ⟨_, rfl⟩; have hS2 : Lt.Sep w0.heap.size w4 ([pcell g4 #[.slice an2 (N ++ [x]).length cn2] 35, pcell g5 #[.slice aa A.length ca] 22, prow 2 encN 105 w0.heap.size an2 cn2 (N ++ [x]), prow 1 encI 3 w0.heap.size aa ca A] ++ rest) := Sep.updCell (i := 0) rfl hU4 hb4 hS1 (Ext.refl _) (Below.size hX3); have p0 := (cells_heap (hS2.cell (i := 0) rfl)).1; have p1 := (cells_heap (hS2.cell (i := 1) rfl)).1; have hA4 := hS2.row (i := 3) rfl; have hnl : (N ++ [x]).length = N.length + 1 := by simp))
  | (apply WL.indexO tOk; (iterate 8 exact rfl); assumption; (exact extA); exact encI_ok; (first | exact rfl | (focus (simp only [List.length_set]; done)) | (focus (simp; done)) | (focus (simp [*]; done)) | omega | (focus (simp only [List.length_set]; omega))); omega; assumption; intro gb ha hc; cases ha; have hcc := hc; first | (obtain ⟨h1, h2, h3, _⟩ := hc) | (obtain ⟨h1, h2, _⟩ := hc) | (obtain ⟨h1, _⟩ := hc))
  | (apply WL.storeO (z' := (2 * ((N ++ [x]).length : Int))) tOk; (iterate 4 exact rfl); assumption; (exact extA); (iterate 3 exact rfl); exact encI_ok; assumption; exact rfl; (exact extA); intro w' hO hX' hU)
  | (show WL _ _ _ _ _ _ _; first | apply WL.nil | (refine WL.au (k := ?_)))
  | (show Z _ _ _ _ _; apply Z.then_normal)
  | (show W _ _ _ _ _ _; apply W.region)
  | fail)
 refine Z.body0n Try.results108 fun m => ⟨rfl, hX'.at m, an2, cn2, ?_⟩
 have hS3 := Sep.updRow (i := 3) rfl hU hO (.inl rfl) hS2 (Ext.refl _) (Below.size hX4)
 have e1 : cput (N, A) l x = (N ++ [x], A.set (l / 2).toNat (2 * ((N ++ [x]).length : Int))) := by unfold cput; rw [hnl]; rfl
 rw [e1]
 refine Sep.ext (w := w') ?_ ((Ext.refl _).at m)
 show Lt.Sep _ _ ([pcell g4 #[.slice an2 (N ++ [x]).length cn2] 35, pcell g5 #[.slice _ (A.set (l / 2).toNat (2 * ((N ++ [x]).length : Int))).length ca] 22, prow 2 encN 105 w0.heap.size an2 cn2 (N ++ [x]), prow 1 encI 3 w0.heap.size _ ca (A.set (l / 2).toNat (2 * ((N ++ [x]).length : Int)))] ++ rest)
 rw [List.length_set]
 exact hS3
end Go.Proofs.Yteidpnpbfagaeaa
namespace Go.Proofs.Yteidpnpbfagaeaa
open Go Go.Lt Go.RowKit
set_option linter.unusedVariables false
set_option linter.unusedSimpArgs false
set_option maxRecDepth 20000

structure AtK (m k : Nat) (A : List Int) : Prop where
 len : A.length = m + 1
 zero : A[0]? = some 0
 neg : ∀ u : Nat, 1 ≤ u → u < k → A[u]? = some (-1)
theorem AtK.all {m : Nat} {A : List Int} (h : AtK m (m + 1) A) : A = cAt0 (m : Int) := by
 apply List.ext_getElem?
 intro u
 have hr := PutOk.start m
 by_cases hu : u < m + 1
 ·cases u with
  | zero => rw [h.zero]; exact hr.zero.symm
  | succ u => rw [h.neg (u + 1) (by omega) hu]; exact (hr.not (u + 1) (by omega) (by omega) (fun l hl => by cases hl)).symm
 ·rw [List.getElem?_eq_none (by have := h.len; omega)]
  have h2 : (cAt0 (m : Int)).length = m + 1 := hr.len2
  exact (List.getElem?_eq_none (by omega)).symm
theorem Sep.perm4 {B : Nat} {w : World} {p q r s : Piece} (hS : Lt.Sep B w [p, q, r, s]) : Lt.Sep B w [r, p, s, q] := by
 refine hS.pick (fun i => match i with | 0 => 2 | 1 => 0 | 2 => 3 | _ => 1) (fun i x h => ?_) (fun i j hi hj hne => ?_)
 ·match i, h with
  | 0, h => exact h
  | 1, h => exact h
  | 2, h => exact h
  | 3, h => exact h
 ·have hi' : i < 4 := hi
  have hj' : j < 4 := hj
  match i, j, hi', hj', hne with
  | 0, 1, _, _, _ => decide
  | 0, 2, _, _, _ => decide
  | 0, 3, _, _, _ => decide
  | 1, 0, _, _, _ => decide
  | 1, 2, _, _, _ => decide
  | 1, 3, _, _, _ => decide
  | 2, 0, _, _, _ => decide
  | 2, 1, _, _, _ => decide
  | 2, 3, _, _, _ => decide
  | 3, 0, _, _, _ => decide
  | 3, 1, _, _, _ => decide
  | 3, 2, _, _, _ => decide
  | 0, 0, _, _, h => exact absurd rfl h
  | 1, 1, _, _, h => exact absurd rfl h
  | 2, 2, _, _, h => exact absurd rfl h
  | 3, 3, _, _, h => exact absurd rfl h
set_option maxHeartbeats 32000000 in
theorem circ_Net (c : Circ) (w : World) (hC : CAt w c) (hg : GoodC' c.t) (hz : SzC c.t 100000) :
  Lt.Spec Try.prog 53 [c.val] w (IsFresh2 2 encN 105 1 encI 3 w (cNet c.t).1 (cNet c.t).2) := by
 have z1 : c.ins.2.2.length ≤ 100000 := hz.1
 have z2 : c.lat.2.2.length ≤ 100000 := hz.2.1
 have z6 : c.gates.2.2.length ≤ 100000 := hz.2.2.2.2.2
 have hm : 0 ≤ c.max ∧ c.max ≤ 16777216 := hg.max
 have hcm : c.t.max = c.max := rfl
 obtain ⟨m, hmm⟩ : ∃ m : Nat, c.max = (m : Int) := ⟨c.max.toNat, by omega⟩
 have hmt : c.max.toNat = m := by omega
 have hown : ∀ x ∈ c.t.own, 2 ≤ x ∧ x % 2 = 0 ∧ x ≤ 2 * c.max := hg.own
 have hused : ∀ x ∈ c.t.used, 0 ≤ x ∧ x ≤ 2 * c.max + 1 := hg.used
 refine Spec.of _ Try.func53 rfl Try.ntmps53 (by kernel_rfl) rfl ?_
 repeat' (first
  | (apply WL.box; (iterate 3 exact rfl); intro gb w' hb hge hc hx; have hcc := hc; (first | (obtain ⟨h1, h2, h3, _⟩ := hc) | (obtain ⟨h1, h2, _⟩ := hc)); (have hcells := hcc; obtain ⟨y0, y1, y2, y3, y4, y5, y6, _⟩ := hcc; obtain ⟨gc, rfl⟩ : ∃ x, x = gb := ⟨_, rfl⟩; obtain ⟨wc, rfl⟩ : ∃ x, x = w' := ⟨_, rfl⟩; obtain ⟨hxc, rfl⟩ : ∃ x, x = hx := ⟨_, rfl⟩; have hS : Lt.Sep wc.heap.size wc [prow 2 encN 105 wc.heap.size none 0 []] := Sep.newRow Sep.none' (Ext.refl _) Own.nil (fun k hk => by cases hk) (Nat.le_refl _)))
  | (apply WL.alloc tOk; (iterate 3 exact rfl); intro gb w' hb hge hx; replace hS := Sep.newCell (Sep.ext hS extA) hx hb hge (by (first | exact Nat.le_refl _ | exact Below.size extA)); (try simp only [List.set_cons_zero, List.set_cons_succ] at hS); (try have hR0 := hS.row (i := 0) rfl); (try have hR1 := hS.row (i := 1) rfl); (try have hR2 := hS.row (i := 2) rfl); (try have hR3 := hS.row (i := 3) rfl); (try have hR4 := hS.row (i := 4) rfl); (try have hC0 := hS.cell (i := 0) rfl); (try have hD0 := (cells_heap hC0).1); (try have hE0 := (cells_heap hC0).2.1); (try have hF0 := (cells_heap hC0).2.2.1); (try have hG0 := (cells_heap hC0).2.2.2.1); (try have hC1 := hS.cell (i := 1) rfl); (try have hD1 := (cells_heap hC1).1); (try have hE1 := (cells_heap hC1).2.1); (try have hF1 := (cells_heap hC1).2.2.1); (try have hG1 := (cells_heap hC1).2.2.2.1); (try have hC2 := hS.cell (i := 2) rfl); (try have hD2 := (cells_heap hC2).1); (try have hE2 := (cells_heap hC2).2.1); (try have hF2 := (cells_heap hC2).2.2.1); (try have hG2 := (cells_heap hC2).2.2.2.1); (try have hC3 := hS.cell (i := 3) rfl); (try have hD3 := (cells_heap hC3).1); (try have hE3 := (cells_heap hC3).2.1); (try have hF3 := (cells_heap hC3).2.2.1); (try have hG3 := (cells_heap hC3).2.2.2.1); (try have hC4 := hS.cell (i := 4) rfl); (try have hD4 := (cells_heap hC4).1); (try have hE4 := (cells_heap hC4).2.1); (try have hF4 := (cells_heap hC4).2.2.1); (try have hG4 := (cells_heap hC4).2.2.2.1); (try have hM0 := hS.map (i := 0) rfl); (try have hM1 := hS.map (i := 1) rfl); (try have hM2 := hS.map (i := 2) rfl); (try have hM3 := hS.map (i := 3) rfl); (try have hM4 := hS.map (i := 4) rfl); (first | (have h_0 := g4; clear h_0) | (obtain ⟨g4, rfl⟩ : ∃ x, x = gb := ⟨_, rfl⟩)))
  | (apply WL.make (w0 := wc) (z := (0:Int)) tOk; (iterate 9 exact rfl); exact encI_ok; exact rfl; exact rfl; (exact extA); (first | omega | (simp; omega) | (simp at *; omega)); intro gb w' hO hge hx; replace hS := Sep.newRow (Sep.ext hS extA) hx hO (fun k hk => by cases hk; exact hge) (by (first | exact Nat.le_refl _ | exact Below.size extA)); (try simp only [List.set_cons_zero, List.set_cons_succ] at hS); (try have hR0 := hS.row (i := 0) rfl); (try have hR1 := hS.row (i := 1) rfl); (try have hR2 := hS.row (i := 2) rfl); (try have hR3 := hS.row (i := 3) rfl); (try have hR4 := hS.row (i := 4) rfl); (try have hC0 := hS.cell (i := 0) rfl); (try have hD0 := (cells_heap hC0).1); (try have hE0 := (cells_heap hC0).2.1); (try have hF0 := (cells_heap hC0).2.2.1); (try have hG0 := (cells_heap hC0).2.2.2.1); (try have hC1 := hS.cell (i := 1) rfl); (try have hD1 := (cells_heap hC1).1); (try have hE1 := (cells_heap hC1).2.1); (try have hF1 := (cells_heap hC1).2.2.1); (try have hG1 := (cells_heap hC1).2.2.2.1); (try have hC2 := hS.cell (i := 2) rfl); (try have hD2 := (cells_heap hC2).1); (try have hE2 := (cells_heap hC2).2.1); (try have hF2 := (cells_heap hC2).2.2.1); (try have hG2 := (cells_heap hC2).2.2.2.1); (try have hC3 := hS.cell (i := 3) rfl); (try have hD3 := (cells_heap hC3).1); (try have hE3 := (cells_heap hC3).2.1); (try have hF3 := (cells_heap hC3).2.2.1); (try have hG3 := (cells_heap hC3).2.2.2.1); (try have hC4 := hS.cell (i := 4) rfl); (try have hD4 := (cells_heap hC4).1); (try have hE4 := (cells_heap hC4).2.1); (try have hF4 := (cells_heap hC4).2.2.1); (try have hG4 := (cells_heap hC4).2.2.2.1); (try have hM0 := hS.map (i := 0) rfl); (try have hM1 := hS.map (i := 1) rfl); (try have hM2 := hS.map (i := 2) rfl); (try have hM3 := hS.map (i := 3) rfl); (try have hM4 := hS.map (i := 4) rfl); (obtain ⟨ga, rfl⟩ : ∃ x, x = gb := ⟨_, rfl⟩))
  | (apply WL.storeB (w0 := wc) tOk; (iterate 4 exact rfl); assumption; (exact extA); (iterate 3 exact rfl); (exact extA); (first | assumption | omega | (focus (apply Nat.le_trans; rotate_left; assumption; exact Below.size extA; done))); intro w' hb hc hX' hU; have hcc := hc; obtain ⟨h1, h2, _⟩ := hc; (first | replace hS := Sep.updCell (i := 0) rfl hU hb hS extA (by (first | exact Nat.le_refl _ | exact Below.size extA)) | replace hS := Sep.updCell (i := 1) rfl hU hb hS extA (by (first | exact Nat.le_refl _ | exact Below.size extA)) | replace hS := Sep.updCell (i := 2) rfl hU hb hS extA (by (first | exact Nat.le_refl _ | exact Below.size extA)) | replace hS := Sep.updCell (i := 3) rfl hU hb hS extA (by (first | exact Nat.le_refl _ | exact Below.size extA))); (try simp only [List.set_cons_zero, List.set_cons_succ] at hS); (try have hR0 := hS.row (i := 0) rfl); (try have hR1 := hS.row (i := 1) rfl); (try have hR2 := hS.row (i := 2) rfl); (try have hR3 := hS.row (i := 3) rfl); (try have hR4 := hS.row (i := 4) rfl); (try have hC0 := hS.cell (i := 0) rfl); (try have hD0 := (cells_heap hC0).1); (try have hE0 := (cells_heap hC0).2.1); (try have hF0 := (cells_heap hC0).2.2.1); (try have hG0 := (cells_heap hC0).2.2.2.1); (try have hC1 := hS.cell (i := 1) rfl); (try have hD1 := (cells_heap hC1).1); (try have hE1 := (cells_heap hC1).2.1); (try have hF1 := (cells_heap hC1).2.2.1); (try have hG1 := (cells_heap hC1).2.2.2.1); (try have hC2 := hS.cell (i := 2) rfl); (try have hD2 := (cells_heap hC2).1); (try have hE2 := (cells_heap hC2).2.1); (try have hF2 := (cells_heap hC2).2.2.1); (try have hG2 := (cells_heap hC2).2.2.2.1); (try have hC3 := hS.cell (i := 3) rfl); (try have hD3 := (cells_heap hC3).1); (try have hE3 := (cells_heap hC3).2.1); (try have hF3 := (cells_heap hC3).2.2.1); (try have hG3 := (cells_heap hC3).2.2.2.1); (try have hC4 := hS.cell (i := 4) rfl); (try have hD4 := (cells_heap hC4).1); (try have hE4 := (cells_heap hC4).2.1); (try have hF4 := (cells_heap hC4).2.2.1); (try have hG4 := (cells_heap hC4).2.2.2.1); (try have hM0 := hS.map (i := 0) rfl); (try have hM1 := hS.map (i := 1) rfl); (try have hM2 := hS.map (i := 2) rfl); (try have hM3 := hS.map (i := 3) rfl); (try have hM4 := hS.map (i := 4) rfl))
  | (show WL _ _ _ _ _ _ _; first | apply WL.nil | (refine WL.au (k := ?_)))
  | (show Z _ _ _ _ _; apply Z.then_normal)
  | (show W _ _ _ _ _ _; first | apply W.seq | apply W.region | apply W.block)
  | fail)
 obtain ⟨g5, rfl⟩ : ∃ x, x = gb := ⟨_, rfl⟩
 have e1 : (c.max + 1).toNat = m + 1 := by omega
 rw [e1, List.length_replicate] at hS
 have hS2 : Lt.Sep wc.heap.size w' (netP wc.heap.size g4 g5 none 0 (some ⟨ga, 0, none⟩) (m + 1) ([], List.replicate (m + 1) 0)) := by
  have := Sep.perm4 hS
  unfold netP
  rw [List.length_replicate]
  exact this
 have hA0 : AtK m 1 (List.replicate (m + 1) 0) := ⟨by simp, rfl, fun u h1 h2 => by omega⟩
 have hX1 : Ext wc w' := extA
 refine W.loopW (m + 1) (fun k w' => k ≤ m ∧ Ext wc w' ∧ ∃ A, AtK m (k + 1) A ∧ Lt.Sep wc.heap.size w' (netP wc.heap.size g4 g5 none 0 (some ⟨ga, 0, none⟩) (m + 1) ([], A))) (fun k => [(1, .pointer (some ⟨gc, 0, none⟩)), (4, .pointer (some ⟨g4, 0, none⟩)), (5, .pointer (some ⟨g5, 0, none⟩)), (6, .int .i64 ((k : Int) + 1))]) ⟨Nat.zero_le _, hX1, _, hA0, hS2⟩ (fun k w' h => by have := h.1; omega) ⟨rfl, rfl, rfl, rfl, trivial⟩ ?_
 clear hS hS2 hA0 hX1
 rintro k w3 ⟨hk, hX3, A, hA, hS⟩
 have hlA := hA.len
 have hlA2 : (([], A) : NA).2.length = m + 1 := hA.len
 have k1 := (cells_heap (hS.cell (i := 1) rfl)).1
 have hAo := hS.row (i := 3) rfl
 by_cases hlt : k < m
 ·obtain ⟨yv, hyv⟩ := getI A (show ((k : Int) + 1).toNat < A.length by omega)
  repeat' (first
   | (show WL _ _ _ _ _ _ _; first | apply WL.nil | (refine WL.au (k := ?_)))
   | (show Z _ _ _ _ _; apply Z.then_normal)
   | (show W _ _ _ _ _ _; first | apply W.seq | apply W.region)
   | fail)
  refine W.condKT rfl (dec_true (by omega)) ?_
  repeat' (first
   | (apply WL.indexO tOk; (iterate 8 exact rfl); assumption; (exact extA); exact encI_ok; (first | exact rfl | (focus (simp only [List.length_set]; done)) | (focus (simp; done)) | (focus (simp [*]; done)) | omega | (focus (simp only [List.length_set]; omega))); omega; assumption; intro gb ha hc; cases ha; have hcc := hc; first | (obtain ⟨h1, h2, h3, _⟩ := hc) | (obtain ⟨h1, h2, _⟩ := hc) | (obtain ⟨h1, _⟩ := hc))
   | (apply WL.storeO (z' := ((-1 : Int))) tOk; (iterate 4 exact rfl); assumption; (exact extA); (iterate 3 exact rfl); exact encI_ok; assumption; exact rfl; (exact extA); intro w' hO hX' hU)
   | (show WL _ _ _ _ _ _ _; first | apply WL.nil | (refine WL.au (k := ?_)))
   | (show Z _ _ _ _ _; first | apply Z.then_normal | apply Z.block_normal)
   | (show W _ _ _ _ _ _; first | apply W.seq | apply W.region | apply W.block | apply W.skip)
   | fail)
  have hS3 := Sep.updRow (i := 3) rfl hU hO (.inl rfl) hS (Ext.refl _) (Below.size hX3)
  refine Z.againW ⟨by omega, extA, A.set ((k : Int) + 1).toNat (-1), ⟨by simp [hlA], ?_, fun u h1 h2 => ?_⟩, ?_⟩ ⟨rfl, rfl, rfl, rfl, trivial⟩
  ·rw [List.getElem?_set_ne (by omega)]; exact hA.zero
  ·by_cases hu : u = k + 1
   ·subst hu; rw [show ((k : Int) + 1).toNat = k + 1 by omega, List.getElem?_set_self (by omega)]
   ·rw [List.getElem?_set_ne (by omega)]; exact hA.neg u h1 (by omega)
  ·unfold netP
   rw [List.length_set]
   exact hS3
 obtain rfl : k = m := by omega
 obtain rfl := hA.all
 repeat' (first
  | (show WL _ _ _ _ _ _ _; first | apply WL.nil | (refine WL.au (k := ?_)))
  | (show Z _ _ _ _ _; apply Z.then_normal)
  | (show W _ _ _ _ _ _; first | apply W.seq | apply W.region)
  | fail)
 refine W.condKF rfl (dec_false (by omega)) ?_
 repeat' (first
  | (show WL _ _ _ _ _ _ _; first | apply WL.nil | (refine WL.au (k := ?_)))
  | (show Z _ _ _ _ _; first | apply Z.then_normal | apply Z.then_exit | apply Z.block_exit)
  | (show W _ _ _ _ _ _; first | apply W.seq | apply W.region | apply W.block | apply W.exit)
  | fail)
 have Ri := hC.ins.row.ext hxc
 have Rl := hC.lat.row.ext hxc
 have Rg := hC.gates.row.ext hxc
 have hown1 : ∀ x ∈ c.ins.2.2, 2 ≤ x ∧ x % 2 = 0 ∧ x ≤ 2 * c.max := fun x hx => hown x (List.mem_append_left _ (List.mem_append_left _ hx))
 have hown2 : ∀ x ∈ c.lat.2.2, 2 ≤ x.1 ∧ x.1 % 2 = 0 ∧ x.1 ≤ 2 * c.max := fun x hx => hown x.1 (List.mem_append_left _ (List.mem_append_right _ (List.mem_map.2 ⟨x, hx, rfl⟩)))
 have e10 : cS1 c.t 0 = ([], cAt0 (k : Int)) := by rw [cS1_0, hcm, hmm]
 refine W.loopW c.ins.2.2.length (fun j w' => j ≤ c.ins.2.2.length ∧ Ext wc w' ∧ ∃ an cn, Lt.Sep wc.heap.size w' (netP wc.heap.size g4 g5 an cn (some ⟨ga, 0, none⟩) (k + 1) (cS1 c.t j) ++ [])) (fun j => [(1, .pointer (some ⟨gc, 0, none⟩)), (4, .pointer (some ⟨g4, 0, none⟩)), (5, .pointer (some ⟨g5, 0, none⟩)), (7, .func (.func 108) #[] #[.pointer (some ⟨g4, 0, none⟩), .pointer (some ⟨g5, 0, none⟩)]), (31, rowVal c.ins), (32, .int .i64 (c.ins.2.2.length : Nat)), (33, .int .i64 j)]) ⟨Nat.zero_le _, hX3, none, 0, by rw [e10]; exact hS⟩ (fun k w' h => h.1) ⟨rfl, rfl, rfl, rfl, rfl, rfl, rfl, trivial⟩ ?_
 clear hS hAo k1 hX3 hlA hlA2 hA
 rintro j w4 ⟨hj, hX4, an, cn, hS⟩
 have hl1 : (cS1 c.t j).1.length = j ∧ (cS1 c.t j).2.length = c.max.toNat + 1 := cS1_len c.t hj
 by_cases hlt : j < c.ins.2.2.length
 ·obtain ⟨x, hgx⟩ := getI c.ins.2.2 hlt
  have hxo := hown1 x (List.mem_of_getElem? hgx)
  have e1 := cS1_s (c := c.t) hgx
  have hcall := circ_Net1 wc w4 g4 g5 an cn (some ⟨ga, 0, none⟩) (k + 1) (cS1 c.t j) [] x (-1, 0) hX4 hS (by omega) (by omega) (by omega)
  repeat' (first
   | (show WL _ _ _ _ _ _ _; first | apply WL.nil | (refine WL.au (k := ?_)))
   | (show Z _ _ _ _ _; apply Z.then_normal)
   | (show W _ _ _ _ _ _; first | apply W.seq | apply W.region)
   | fail)
  refine W.condKT rfl (dec_true (by omega)) ?_
  repeat' (first
   | (apply WL.build tOk; (iterate 7 exact rfl); kernel_rfl)
   | ((show WL _ _ _ (⟨_, .call ⟨.value (.tmp _), _, _⟩, _, _, _, _⟩ :: _) _ _ _; apply WL.call; (iterate 4 exact rfl); exact hcall; rintro v' w5 ⟨rfl, hX5, an2, cn2, hS5⟩))
   | (show WL _ _ _ _ _ _ _; first | apply WL.nil | (refine WL.au (k := ?_)) | (apply WL.index tOk; (iterate 8 exact rfl); assumption; (exact extA); exact rfl; omega; assumption; intro b off h; have hcc := h; first | (obtain ⟨h1, h2, h3, h4, h5, h6, _⟩ := h) | (obtain ⟨h1, h2, h3, _⟩ := h) | (obtain ⟨h1, h2, _⟩ := h) | (obtain ⟨h1, _⟩ := h)))
   | (show Z _ _ _ _ _; first | apply Z.then_normal | apply Z.block_normal)
   | (show W _ _ _ _ _ _; first | apply W.seq | apply W.region | apply W.block | apply W.skip)
   | fail)
  exact Z.againW ⟨by omega, hX5, an2, cn2, by rw [e1]; exact hS5⟩ ⟨rfl, rfl, rfl, rfl, rfl, rfl, rfl, trivial⟩
 obtain rfl : j = c.ins.2.2.length := by omega
 repeat' (first
  | (show WL _ _ _ _ _ _ _; first | apply WL.nil | (refine WL.au (k := ?_)))
  | (show Z _ _ _ _ _; apply Z.then_normal)
  | (show W _ _ _ _ _ _; first | apply W.seq | apply W.region)
  | fail)
 refine W.condKF rfl (dec_false (by omega)) ?_
 repeat' (first
  | (show WL _ _ _ _ _ _ _; first | apply WL.nil | (refine WL.au (k := ?_)))
  | (show Z _ _ _ _ _; first | apply Z.then_normal | apply Z.then_exit | apply Z.block_exit)
  | (show W _ _ _ _ _ _; first | apply W.seq | apply W.region | apply W.block | apply W.exit)
  | fail)
 have e20 : cS2 c.t 0 = cS1 c.t c.ins.2.2.length := cS2_0 c.t
 refine W.loopW c.lat.2.2.length (fun j w' => j ≤ c.lat.2.2.length ∧ Ext wc w' ∧ ∃ an cn, Lt.Sep wc.heap.size w' (netP wc.heap.size g4 g5 an cn (some ⟨ga, 0, none⟩) (k + 1) (cS2 c.t j) ++ [])) (fun j => [(1, .pointer (some ⟨gc, 0, none⟩)), (4, .pointer (some ⟨g4, 0, none⟩)), (5, .pointer (some ⟨g5, 0, none⟩)), (7, .func (.func 108) #[] #[.pointer (some ⟨g4, 0, none⟩), .pointer (some ⟨g5, 0, none⟩)]), (43, rowVal c.lat), (44, .int .i64 (c.lat.2.2.length : Nat)), (45, .int .i64 j)]) ⟨Nat.zero_le _, hX4, an, cn, by rw [e20]; exact hS⟩ (fun k w' h => h.1) ⟨rfl, rfl, rfl, rfl, rfl, rfl, rfl, trivial⟩ ?_
 clear hS hX4 hl1 hj hlt
 rintro j w4 ⟨hj, hX4, an, cn, hS⟩
 have hl1 : (cS2 c.t j).1.length = c.ins.2.2.length + j ∧ (cS2 c.t j).2.length = c.max.toNat + 1 := cS2_len c.t hj
 by_cases hlt : j < c.lat.2.2.length
 ·obtain ⟨x, hgx⟩ := getI c.lat.2.2 hlt
  have hxo := hown2 x (List.mem_of_getElem? hgx)
  have e1 := cS2_s (c := c.t) hgx
  have hcall := fun (w9 : World) (h9 : Ext w4 w9) => circ_Net1 wc w9 g4 g5 an cn (some ⟨ga, 0, none⟩) (k + 1) (cS2 c.t j) [] x.1 (-1, 0) (hX4.trans h9) (hS.ext h9) (by omega) (by omega) (by omega)
  repeat' (first
   | (show WL _ _ _ _ _ _ _; first | apply WL.nil | (refine WL.au (k := ?_)))
   | (show Z _ _ _ _ _; apply Z.then_normal)
   | (show W _ _ _ _ _ _; first | apply W.seq | apply W.region)
   | fail)
  refine W.condKT rfl (dec_true (by omega)) ?_
  repeat' (first
   | (apply WL.alloc tOk; (iterate 3 exact rfl); intro gb w' hb hge hx)
   | (apply WL.storeB (w0 := w4) tOk; (iterate 4 exact rfl); assumption; (exact extA); (iterate 3 exact rfl); (exact extA); (first | assumption | omega | (focus (apply Nat.le_trans; rotate_left; assumption; exact Below.size extA; done))); intro w' hb hc hX' hU; have hcc := hc; obtain ⟨h1, h2, _⟩ := hc; (have hC8 := cells_heap hb; obtain ⟨i0, i1, i2, _⟩ := hC8))
   | (apply WL.build tOk; (iterate 7 exact rfl); kernel_rfl)
   | ((show WL _ _ _ (⟨_, .call ⟨.value (.tmp _), _, _⟩, _, _, _, _⟩ :: _) _ _ _; apply WL.call; (iterate 4 exact rfl); exact hcall _ extA; rintro v' w5 ⟨rfl, hX5, an2, cn2, hS5⟩))
   | (show WL _ _ _ _ _ _ _; first | apply WL.nil | (refine WL.au (k := ?_)) | (apply WL.index tOk; (iterate 8 exact rfl); assumption; (exact extA); exact rfl; omega; assumption; intro b off h; have hcc := h; first | (obtain ⟨h1, h2, h3, h4, h5, h6, _⟩ := h) | (obtain ⟨h1, h2, h3, _⟩ := h) | (obtain ⟨h1, h2, _⟩ := h) | (obtain ⟨h1, _⟩ := h)))
   | (show Z _ _ _ _ _; first | apply Z.then_normal | apply Z.block_normal)
   | (show W _ _ _ _ _ _; first | apply W.seq | apply W.region | apply W.block | apply W.skip)
   | fail)
  exact Z.againW ⟨by omega, hX5, an2, cn2, by rw [e1]; exact hS5⟩ ⟨rfl, rfl, rfl, rfl, rfl, rfl, rfl, trivial⟩
 obtain rfl : j = c.lat.2.2.length := by omega
 repeat' (first
  | (show WL _ _ _ _ _ _ _; first | apply WL.nil | (refine WL.au (k := ?_)))
  | (show Z _ _ _ _ _; apply Z.then_normal)
  | (show W _ _ _ _ _ _; first | apply W.seq | apply W.region)
  | fail)
 refine W.condKF rfl (dec_false (by omega)) ?_
 have hgm : ∀ g ∈ c.gates.2.2, g.1 ∈ c.t.own ∧ g.2.1 ∈ c.t.used ∧ g.2.2 ∈ c.t.used := fun g hg =>
  ⟨List.mem_append.2 (.inr (List.mem_map.2 ⟨g, hg, rfl⟩)), List.mem_append.2 (.inr (List.mem_flatMap.2 ⟨g, hg, by simp⟩)), List.mem_append.2 (.inr (List.mem_flatMap.2 ⟨g, hg, by simp⟩))⟩
 have hok : gsOk c.gates.2.2 := fun g hg => by
  obtain ⟨r1, r2, r3⟩ := hgm g hg
  have := hown _ r1
  have := hused _ r2
  have := hused _ r3
  omega
 have h7 : ¬ Twice c.t := fun ⟨i, x, a1, a2⟩ => by
  have h3 := List.pairwise_iff_getElem.1 (List.nodup_iff_pairwise_ne.1 hg.once)
  obtain ⟨j, hj, he⟩ := List.mem_take_iff_getElem.1 a2
  obtain ⟨hi, he2⟩ := List.getElem?_eq_some_iff.1 a1
  exact h3 j i (by omega) hi (by omega) (by rw [he, he2])
 have honce : Once c.gates.2.2 := once_of (c := c.t) h7 fun x hx => (hown x hx).2.1
 have hcells4 := hcells.ext hX4
 have x0 : Cells w4 gc 0 c.vals := hcells4
 repeat' (first
  | ((show WL _ _ _ (⟨_, .call ⟨.value (.func 110), _, _⟩, _, _, _, _⟩ :: _) _ _ _); apply WL.call; (iterate 4 exact rfl); exact circ_Order c _ (Rg.ext extA) hok (by omega) honce; rintro v' w' ⟨hx, a', cap', rfl, hO⟩; (obtain ⟨hOd, rfl⟩ : ∃ x, x = hO := ⟨_, rfl⟩; obtain ⟨hxd, rfl⟩ : ∃ x, x = hx := ⟨_, rfl⟩; obtain ⟨wd, rfl⟩ : ∃ x, x = w' := ⟨_, rfl⟩; obtain ⟨ad, rfl⟩ : ∃ x, x = a' := ⟨_, rfl⟩; obtain ⟨cd, rfl⟩ : ∃ x, x = cap' := ⟨_, rfl⟩))
  | (show WL _ _ _ _ _ _ _; first | apply WL.nil | (refine WL.au (k := ?_)))
  | (show Z _ _ _ _ _; first | apply Z.then_normal | apply Z.then_exit | apply Z.block_exit)
  | (show W _ _ _ _ _ _; first | apply W.seq | apply W.region | apply W.block | apply W.exit)
  | fail)
 have hS0 : Lt.Sep wc.heap.size wd (netP wc.heap.size g4 g5 an cn (some ⟨ga, 0, none⟩) (k + 1) (cS2 c.t c.lat.2.2.length) ++ [prow 1 encI 3 wc.heap.size ad cd (natI (ordL c.gates.2.2))]) := by
  have h1 := hS.newRow' hxd hOd (Below.size hX4)
  rw [List.append_nil] at h1
  exact Sep.comm (ps := [prow 1 encI 3 wc.heap.size ad cd (natI (ordL c.gates.2.2))]) h1
 have hXd : Ext wc wd := extA
 have e30 : cS3 c.t 0 = cS2 c.t c.lat.2.2.length := cS3_0 c.t
 have hnl : (natI (ordL c.gates.2.2)).length = (ordL c.gates.2.2).length := by simp [natI]
 have hol : (ordL c.gates.2.2).length ≤ c.gates.2.2.length := (ordL_is c.gates.2.2).1.le
 refine W.loopW (ordL c.gates.2.2).length (fun j w' => j ≤ (ordL c.gates.2.2).length ∧ Ext wc w' ∧ ∃ an cn, Lt.Sep wc.heap.size w' (netP wc.heap.size g4 g5 an cn (some ⟨ga, 0, none⟩) (k + 1) (cS3 c.t j) ++ [prow 1 encI 3 wc.heap.size ad cd (natI (ordL c.gates.2.2))])) (fun j => [(1, .pointer (some ⟨gc, 0, none⟩)), (4, .pointer (some ⟨g4, 0, none⟩)), (5, .pointer (some ⟨g5, 0, none⟩)), (7, .func (.func 108) #[] #[.pointer (some ⟨g4, 0, none⟩), .pointer (some ⟨g5, 0, none⟩)]), (12, .func (.func 109) #[] #[.pointer (some ⟨g5, 0, none⟩)]), (57, .slice ad (natI (ordL c.gates.2.2)).length cd), (58, .int .i64 (natI (ordL c.gates.2.2)).length), (59, .int .i64 j)]) ⟨Nat.zero_le _, hXd, an, cn, by rw [e30]; exact hS0⟩ (fun k w' h => h.1) ⟨rfl, rfl, rfl, rfl, rfl, rfl, rfl, rfl, trivial⟩ ?_
 clear hS hS0 hX4 hl1 hj hlt hcells4 x0 hXd
 rintro j w4 ⟨hj, hX4, an, cn, hS⟩
 have hl1 : (cS3 c.t j).1.length = c.ins.2.2.length + c.lat.2.2.length + j ∧ (cS3 c.t j).2.length = c.max.toNat + 1 := cS3_len c.t hj
 by_cases hlt : j < (ordL c.gates.2.2).length
 ·obtain ⟨i, hi⟩ := getI (ordL c.gates.2.2) hlt
  obtain ⟨g, za, zb, hgg, hza, hzb, ka, kb⟩ := cS3_get hg (c := c.t) hi
  have hgg : c.gates.2.2[i]? = some g := hgg
  have hgi : c.gates.2.2[((i : Nat) : Int).toNat]? = some g := by rw [Int.toNat_natCast]; exact hgg
  have hgo := hok g (List.mem_of_getElem? hgg)
  have hgw := hown g.1 (hgm g (List.mem_of_getElem? hgg)).1
  have hgl := lt_of_get hgg
  have hni : (natI (ordL c.gates.2.2))[((j : Nat) : Int).toNat]? = some (i : Int) := by rw [Int.toNat_natCast, natI, List.getElem?_map, hi]; rfl
  have e1 : cS3 c.t (j + 1) = cput (cS3 c.t j) g.1 (litI (cS3 c.t j).2 g.2.1, litI (cS3 c.t j).2 g.2.2) := by rw [cS3_s (c := c.t) hi]; unfold cGate; rw [gAt_of hgg]
  have k1 := (cells_heap (hS.cell (i := 1) rfl)).1
  have RA := (hS.row (i := 3) rfl).row encI_ok
  have RO := (hS.row (i := 4) rfl).row encI_ok
  have hcall := fun (w9 : World) (h9 : Ext w4 w9) => circ_Net1 wc w9 g4 g5 an cn (some ⟨ga, 0, none⟩) (k + 1) (cS3 c.t j) [prow 1 encI 3 wc.heap.size ad cd (natI (ordL c.gates.2.2))] g.1 (litI (cS3 c.t j).2 g.2.1, litI (cS3 c.t j).2 g.2.2) (hX4.trans h9) (hS.ext h9) (by omega) (by omega) (by omega)
  repeat' (first
   | (show WL _ _ _ _ _ _ _; first | apply WL.nil | (refine WL.au (k := ?_)))
   | (show Z _ _ _ _ _; apply Z.then_normal)
   | (show W _ _ _ _ _ _; first | apply W.seq | apply W.region)
   | fail)
  refine W.condKT rfl (dec_true (by omega)) ?_
  repeat' (first
   | (apply WL.alloc tOk; (iterate 3 exact rfl); intro gb w' hb hge hx)
   | (apply WL.storeB (w0 := w4) tOk; (iterate 4 exact rfl); assumption; (exact extA); (iterate 3 exact rfl); (exact extA); (first | assumption | omega | (focus (apply Nat.le_trans; rotate_left; assumption; exact Below.size extA; done))); intro w' hb hc hX' hU; have hcc := hc; obtain ⟨h1, h2, _⟩ := hc; (obtain ⟨w6, rfl⟩ : ∃ x, x = w' := ⟨_, rfl⟩; obtain ⟨hX6, rfl⟩ : ∃ x, x = hX' := ⟨_, rfl⟩; have hC8 := cells_heap hb; obtain ⟨i0, i1, i2, _⟩ := hC8))
   | (show WL _ _ _ _ _ _ _; first | apply WL.nil | (refine WL.au (k := ?_)) | (apply WL.index tOk; (iterate 8 exact rfl); assumption; (exact extA); exact rfl; omega; assumption; intro b off h; have hcc := h; first | (obtain ⟨h1, h2, h3, h4, h5, h6, _⟩ := h) | (obtain ⟨h1, h2, h3, _⟩ := h) | (obtain ⟨h1, h2, _⟩ := h) | (obtain ⟨h1, _⟩ := h)))
   | (show Z _ _ _ _ _; apply Z.then_normal)
   | (show W _ _ _ _ _ _; first | apply W.seq | apply W.region | apply W.block | apply W.skip)
   | fail)
  have k1' := hX6.cell k1
  have RA' := RA.ext hX6
  repeat' (first
   | (apply W.regionQS 12 tMix; kernel_rfl; exact rfl; kernel_rfl; kernel_rfl)
   | (apply QL.build tOk; (iterate 7 exact rfl); kernel_rfl)
   | ((show QL _ _ _ _ (⟨_, .call ⟨.value (.tmp _), _, _⟩, _, _, _, _⟩ :: _) _ _); apply QL.callS; (iterate 4 exact rfl); exact circ_Net2 _ g5 _ _ (cS3 c.t j).2 g.2.1 za k1' RA' (by omega) (by omega) hza (by omega))
   | ((show QL _ _ _ _ (⟨_, .call ⟨.value (.tmp _), _, _⟩, _, _, _, _⟩ :: _) _ _); apply QL.callS; (iterate 4 exact rfl); exact circ_Net2 _ g5 _ _ (cS3 c.t j).2 g.2.2 zb k1' RA' (by omega) (by omega) hzb (by omega))
   | ((show WL _ _ _ (⟨_, .call ⟨.value (.tmp _), _, _⟩, _, _, _, _⟩ :: _) _ _ _; apply WL.call; (iterate 4 exact rfl); exact hcall _ extA; rintro v' w5 ⟨rfl, hX5, an2, cn2, hS5⟩))
   | (show WL _ _ _ _ _ _ _; first | apply WL.nil | (refine WL.au (k := ?_)))
   | (show QL _ _ _ _ _ _ _; first | apply QL.nil | (refine QL.au (k := ?_)))
   | (show Z _ _ _ _ _; first | apply Z.tail | apply Z.then_normal | apply Z.block_normal)
   | (show W _ _ _ _ _ _; apply W.region)
   | fail)
  exact Z.againW ⟨by omega, hX5, an2, cn2, by rw [e1]; exact hS5⟩ ⟨rfl, rfl, rfl, rfl, rfl, rfl, rfl, rfl, trivial⟩
 obtain rfl : j = (ordL c.gates.2.2).length := by omega
 repeat' (first
  | (show WL _ _ _ _ _ _ _; first | apply WL.nil | (refine WL.au (k := ?_)))
  | (show Z _ _ _ _ _; apply Z.then_normal)
  | (show W _ _ _ _ _ _; first | apply W.seq | apply W.region)
  | fail)
 refine W.condKF rfl (dec_false (by omega)) ?_
 have e39 : cS3 c.t (ordL c.gates.2.2).length = cNet c.t := cS3_all c.t
 rw [e39] at hS
 have k0 := (cells_heap (hS.cell (i := 0) rfl)).1
 have k1 := (cells_heap (hS.cell (i := 1) rfl)).1
 have hwc := Below.size hxc
 repeat' (first
  | (show QL _ _ _ _ _ _ _; first | apply QL.nil | (refine QL.au (k := ?_)))
  | (show Z _ _ _ _ _; first | apply Z.then_normal | apply Z.then_exit | apply Z.block_exit)
  | (show W _ _ _ _ _ _; first | apply W.seq | apply W.ret | apply W.exit | (apply W.regionD tMix; kernel_rfl))
  | fail)
 exact Z.body2 Try.results53 rfl rfl fun q => ⟨Ext.at extA q, an, cn, some ⟨ga, 0, none⟩, k + 1, rfl, ((hS.row (i := 2) rfl).base hwc).ext ((Ext.refl _).at q), ((hS.row (i := 3) rfl).base hwc).ext ((Ext.refl _).at q)⟩
end Go.Proofs.Yteidpnpbfagaeaa
namespace Go.Proofs.Yteidpnpbfagaeaa
open Go Go.Lt Go.RowKit
set_option linter.unusedVariables false
set_option linter.unusedSimpArgs false
set_option maxRecDepth 20000

theorem ordL_nil : ordL [] = [] := (IsOrd.ord (gs := []) (L := []) ⟨PreOrd.nil _, fun i ⟨g, hg, _⟩ => by simp at hg⟩).symm
end Go.Proofs.Yteidpnpbfagaeaa
namespace Go.Proofs.Yteidpnpbfagaeaa
open Go Go.Lt Go.RowKit
set_option linter.unusedVariables false
set_option linter.unusedSimpArgs false
set_option maxRecDepth 20000

theorem few_sz2 {c : CirT} {m : Int} (h : FewC c m) (hm : m ≤ 100000) : SzC c 100000 ∧ c.syms.length ≤ 100000 := by
 obtain ⟨h1, h2, h3, h4, h5, h6, h7, _⟩ := few_iff.1 h
 exact ⟨⟨by omega, by omega, by omega, by omega, by omega, by omega⟩, by omega⟩
end Go.Proofs.Yteidpnpbfagaeaa
namespace Go.Proofs.Yteidpnpbfagaeaa
open Go Go.Lt Go.RowKit
set_option linter.unusedVariables false
set_option linter.unusedSimpArgs false
set_option maxRecDepth 20000

theorem clone_L (a : Option Addr) (cap : Nat) (l : List T3) (w : World) (R : Row 3 enc3 w a l) (hna : a = none → cap = 0) (hl : l.length ≤ 1048576) :
  Lt.Spec Try.prog 140 [.slice a l.length cap] w (IsFresh 3 enc3 87 w l) := by
 by_cases ha : a = none
 ·subst ha
  have hl0 : l = [] := by
   cases l with
   | nil => rfl
   | cons x r => obtain ⟨b, off, h1, _⟩ := R.elem 0 x rfl; cases h1
  subst hl0
  refine Spec.of _ Try.func140 rfl Try.ntmps140 (by kernel_rfl) rfl ?_
  repeat' (first
   | (apply WL.eqSl tOk; (iterate 6 exact rfl))
   | (apply W.condKT; exact rfl; (focus (exact dec_true rfl; done)))
   | (show WL _ _ _ _ _ _ _; first | apply WL.nil | (refine WL.au (k := ?_)))
   | (show Z _ _ _ _ _; first | apply Z.then_normal | apply Z.then_ret)
   | (show W _ _ _ _ _ _; first | apply W.seq | apply W.region | apply W.ret)
   | fail)
  exact Z.body1 Try.results140 rfl fun m => ⟨(Ext.refl _).at m, none, 0, rfl, Own.nil⟩
 ·refine Spec.of _ Try.func140 rfl Try.ntmps140 (by kernel_rfl) rfl ?_
  repeat' (first
   | (apply WL.eqSl tOk; (iterate 6 exact rfl))
   | (apply W.condKF; exact rfl; (focus (exact dec_false ha; done)))
   | (apply WL.lit (len := 0) tOk; (iterate 6 exact rfl); (first | exact rfl | kernel_rfl | (simp [Instr.fill, catCells]; done)); exact rfl; intro gb w' hb hge hc hx; have hO0 := Own.of_block0 (enc := enc3) (s := 3) hb hge)
   | (apply WL.appendS tOk enc3_ok; (iterate 10 exact rfl); assumption; (exact extA); (first | exact rfl | (focus (simp only [List.length_set]; done)) | (focus (simp; done)) | (focus (simp [*]; done)) | omega | (focus (simp only [List.length_set]; omega))); assumption; (exact extA); (first | exact rfl | (focus (simp only [List.length_set]; done)) | (focus (simp; done)) | (focus (simp [*]; done)) | omega | (focus (simp only [List.length_set]; omega))); (first | assumption | (intro h; cases h) | exact Own.noneCap (by assumption)); exact rfl; (exact extA); (first | omega | (simp; omega) | (simp at *; omega)); intro a' cap' w' hO hX' hU hF)
   | (show WL _ _ _ _ _ _ _; first | apply WL.nil | (refine WL.au (k := ?_)))
   | (show Z _ _ _ _ _; apply Z.then_normal)
   | (show W _ _ _ _ _ _; first | apply W.seq | apply W.region | apply W.skip | apply W.ret)
   | fail)
  exact Z.body1 Try.results140 rfl fun m => ⟨Ext.at extA m, a', cap', by rw [List.nil_append], by rw [List.nil_append] at hO; exact hO⟩
theorem clone_G (a : Option Addr) (cap : Nat) (l : List T3) (w : World) (R : Row 3 enc3 w a l) (hna : a = none → cap = 0) (hl : l.length ≤ 1048576) :
  Lt.Spec Try.prog 141 [.slice a l.length cap] w (IsFresh 3 enc3 89 w l) := by
 by_cases ha : a = none
 ·subst ha
  have hl0 : l = [] := by
   cases l with
   | nil => rfl
   | cons x r => obtain ⟨b, off, h1, _⟩ := R.elem 0 x rfl; cases h1
  subst hl0
  refine Spec.of _ Try.func141 rfl Try.ntmps141 (by kernel_rfl) rfl ?_
  repeat' (first
   | (apply WL.eqSl tOk; (iterate 6 exact rfl))
   | (apply W.condKT; exact rfl; (focus (exact dec_true rfl; done)))
   | (show WL _ _ _ _ _ _ _; first | apply WL.nil | (refine WL.au (k := ?_)))
   | (show Z _ _ _ _ _; first | apply Z.then_normal | apply Z.then_ret)
   | (show W _ _ _ _ _ _; first | apply W.seq | apply W.region | apply W.ret)
   | fail)
  exact Z.body1 Try.results141 rfl fun m => ⟨(Ext.refl _).at m, none, 0, rfl, Own.nil⟩
 ·refine Spec.of _ Try.func141 rfl Try.ntmps141 (by kernel_rfl) rfl ?_
  repeat' (first
   | (apply WL.eqSl tOk; (iterate 6 exact rfl))
   | (apply W.condKF; exact rfl; (focus (exact dec_false ha; done)))
   | (apply WL.lit (len := 0) tOk; (iterate 6 exact rfl); (first | exact rfl | kernel_rfl | (simp [Instr.fill, catCells]; done)); exact rfl; intro gb w' hb hge hc hx; have hO0 := Own.of_block0 (enc := enc3) (s := 3) hb hge)
   | (apply WL.appendS tOk enc3_ok; (iterate 10 exact rfl); assumption; (exact extA); (first | exact rfl | (focus (simp only [List.length_set]; done)) | (focus (simp; done)) | (focus (simp [*]; done)) | omega | (focus (simp only [List.length_set]; omega))); assumption; (exact extA); (first | exact rfl | (focus (simp only [List.length_set]; done)) | (focus (simp; done)) | (focus (simp [*]; done)) | omega | (focus (simp only [List.length_set]; omega))); (first | assumption | (intro h; cases h) | exact Own.noneCap (by assumption)); exact rfl; (exact extA); (first | omega | (simp; omega) | (simp at *; omega)); intro a' cap' w' hO hX' hU hF)
   | (show WL _ _ _ _ _ _ _; first | apply WL.nil | (refine WL.au (k := ?_)))
   | (show Z _ _ _ _ _; apply Z.then_normal)
   | (show W _ _ _ _ _ _; first | apply W.seq | apply W.region | apply W.skip | apply W.ret)
   | fail)
  exact Z.body1 Try.results141 rfl fun m => ⟨Ext.at extA m, a', cap', by rw [List.nil_append], by rw [List.nil_append] at hO; exact hO⟩
theorem clone_Y (a : Option Addr) (cap : Nat) (l : List Sy) (w : World) (R : Row 3 encY w a l) (hna : a = none → cap = 0) (hl : l.length ≤ 1048576) :
  Lt.Spec Try.prog 142 [.slice a l.length cap] w (IsFresh 3 encY 150 w l) := by
 by_cases ha : a = none
 ·subst ha
  have hl0 : l = [] := by
   cases l with
   | nil => rfl
   | cons x r => obtain ⟨b, off, h1, _⟩ := R.elem 0 x rfl; cases h1
  subst hl0
  refine Spec.of _ Try.func142 rfl Try.ntmps142 (by kernel_rfl) rfl ?_
  repeat' (first
   | (apply WL.eqSl tOk; (iterate 6 exact rfl))
   | (apply W.condKT; exact rfl; (focus (exact dec_true rfl; done)))
   | (show WL _ _ _ _ _ _ _; first | apply WL.nil | (refine WL.au (k := ?_)))
   | (show Z _ _ _ _ _; first | apply Z.then_normal | apply Z.then_ret)
   | (show W _ _ _ _ _ _; first | apply W.seq | apply W.region | apply W.ret)
   | fail)
  exact Z.body1 Try.results142 rfl fun m => ⟨(Ext.refl _).at m, none, 0, rfl, Own.nil⟩
 ·refine Spec.of _ Try.func142 rfl Try.ntmps142 (by kernel_rfl) rfl ?_
  repeat' (first
   | (apply WL.eqSl tOk; (iterate 6 exact rfl))
   | (apply W.condKF; exact rfl; (focus (exact dec_false ha; done)))
   | (apply WL.lit (len := 0) tOk; (iterate 6 exact rfl); (first | exact rfl | kernel_rfl | (simp [Instr.fill, catCells]; done)); exact rfl; intro gb w' hb hge hc hx; have hO0 := Own.of_block0 (enc := encY) (s := 3) hb hge)
   | (apply WL.appendS tOk encY_ok; (iterate 10 exact rfl); assumption; (exact extA); (first | exact rfl | (focus (simp only [List.length_set]; done)) | (focus (simp; done)) | (focus (simp [*]; done)) | omega | (focus (simp only [List.length_set]; omega))); assumption; (exact extA); (first | exact rfl | (focus (simp only [List.length_set]; done)) | (focus (simp; done)) | (focus (simp [*]; done)) | omega | (focus (simp only [List.length_set]; omega))); (first | assumption | (intro h; cases h) | exact Own.noneCap (by assumption)); exact rfl; (exact extA); (first | omega | (simp; omega) | (simp at *; omega)); intro a' cap' w' hO hX' hU hF)
   | (show WL _ _ _ _ _ _ _; first | apply WL.nil | (refine WL.au (k := ?_)))
   | (show Z _ _ _ _ _; apply Z.then_normal)
   | (show W _ _ _ _ _ _; first | apply W.seq | apply W.region | apply W.skip | apply W.ret)
   | fail)
  exact Z.body1 Try.results142 rfl fun m => ⟨Ext.at extA m, a', cap', by rw [List.nil_append], by rw [List.nil_append] at hO; exact hO⟩
end Go.Proofs.Yteidpnpbfagaeaa
namespace Go.Lt
open Go.RowKit
set_option linter.unusedVariables false
theorem Z.invFresh {N : Nat} {α : Type} {s : Nat} {enc : α → List Value} {d el B cap : Nat} {l : List α} {a : Option Addr} {w w' : World} {E : Env} (hx : Ext w w') (hB : B ≤ w.heap.size) (hO : Own s enc el w.heap.size w' a cap l) :
  Z N (postI N d (prRow s enc el B l) w E) .normal ((d, .slice a l.length cap) :: E) w' :=
 Z.invRow hx (hO.base hB) (.inr fun k hk => (hO.blk_lt k hk).1)
end Go.Lt
namespace Go.Proofs.Yteidpnpbfagaeaa
open Go Go.Lt Go.RowKit
set_option linter.unusedVariables false
set_option linter.unusedSimpArgs false
set_option maxRecDepth 20000

theorem Sep.perm7 {B : Nat} {w : World} {a b c d e f g : Piece} {rest : List Piece} (hS : Lt.Sep B w (a :: b :: c :: d :: e :: f :: g :: rest)) : Lt.Sep B w [d, e, f, a, b, c, g] := by
 refine hS.pick (fun i => if i < 3 then i + 3 else if i < 6 then i - 3 else i) (fun i x h => ?_) (fun i j hi hj hne => ?_)
 ·match i, h with
  | 0, h => exact h
  | 1, h => exact h
  | 2, h => exact h
  | 3, h => exact h
  | 4, h => exact h
  | 5, h => exact h
  | 6, h => exact h
 ·show (if i < 3 then i + 3 else if i < 6 then i - 3 else i) ≠ (if j < 3 then j + 3 else if j < 6 then j - 3 else j)
  have hi' : i < 7 := hi
  have hj' : j < 7 := hj
  repeat' split
  all_goals omega
set_option maxHeartbeats 16000000 in
theorem circ_Clone (c : Circ) (w : World) (hC : CAt w c) (hz : SzC c.t 100000) (hz2 : c.t.syms.length ≤ 100000) :
  Lt.Spec Try.prog 89 [c.val] w (fun v w' => Ext w w' ∧ ∃ d : Circ, v = d.val ∧ d.t = c.t ∧ OwnC w.heap.size w' d) := by
 have z1 : c.ins.2.2.length ≤ 100000 := hz.1
 have z2 : c.lat.2.2.length ≤ 100000 := hz.2.1
 have z3 : c.outs.2.2.length ≤ 100000 := hz.2.2.1
 have z4 : c.bads.2.2.length ≤ 100000 := hz.2.2.2.1
 have z5 : c.cons.2.2.length ≤ 100000 := hz.2.2.2.2.1
 have z6 : c.gates.2.2.length ≤ 100000 := hz.2.2.2.2.2
 have z7 : c.syms.2.2.length ≤ 100000 := hz2
 have Ri := hC.ins.row
 have Ro := hC.outs.row
 have Rb := hC.bads.row
 have Rn := hC.cons.row
 have Rl := hC.lat.row
 have Rg := hC.gates.row
 have Ry := hC.syms.row
 have ni := hC.ins.none
 have no := hC.outs.none
 have nb := hC.bads.none
 have nn := hC.cons.none
 have nl := hC.lat.none
 have ng := hC.gates.none
 have ny := hC.syms.none
 refine Spec.of _ Try.func89 rfl Try.ntmps89 (by kernel_rfl) rfl ?_
 repeat' (first
  | (apply WL.box; (iterate 3 exact rfl); intro gb w' hb hge hc hx; have hcc := hc; (first | (obtain ⟨h1, h2, h3, _⟩ := hc) | (obtain ⟨h1, h2, _⟩ := hc)); (obtain ⟨gc, rfl⟩ : ∃ x, x = gb := ⟨_, rfl⟩; obtain ⟨wc, rfl⟩ : ∃ x, x = w' := ⟨_, rfl⟩; obtain ⟨hxc, rfl⟩ : ∃ x, x = hx := ⟨_, rfl⟩; have hS : Lt.Sep w.heap.size wc [pcell gc c.vals.toArray 27] := Sep.newCell Sep.none' hxc hb hge (Nat.le_refl _)))
  | (apply WL.alloc tOk; (iterate 3 exact rfl); intro gb w' hb hge hx; replace hS := Sep.newCell (Sep.ext hS extA) hx hb hge (by (first | exact Nat.le_refl _ | exact Below.size extA)); (try simp only [List.set_cons_zero, List.set_cons_succ] at hS); (try have hR0 := hS.row (i := 0) rfl); (try have hR1 := hS.row (i := 1) rfl); (try have hR2 := hS.row (i := 2) rfl); (try have hR3 := hS.row (i := 3) rfl); (try have hR4 := hS.row (i := 4) rfl); (try have hC0 := hS.cell (i := 0) rfl); (try have hD0 := (cells_heap hC0).1); (try have hE0 := (cells_heap hC0).2.1); (try have hF0 := (cells_heap hC0).2.2.1); (try have hG0 := (cells_heap hC0).2.2.2.1); (try have hC1 := hS.cell (i := 1) rfl); (try have hD1 := (cells_heap hC1).1); (try have hE1 := (cells_heap hC1).2.1); (try have hF1 := (cells_heap hC1).2.2.1); (try have hG1 := (cells_heap hC1).2.2.2.1); (try have hC2 := hS.cell (i := 2) rfl); (try have hD2 := (cells_heap hC2).1); (try have hE2 := (cells_heap hC2).2.1); (try have hF2 := (cells_heap hC2).2.2.1); (try have hG2 := (cells_heap hC2).2.2.2.1); (try have hC3 := hS.cell (i := 3) rfl); (try have hD3 := (cells_heap hC3).1); (try have hE3 := (cells_heap hC3).2.1); (try have hF3 := (cells_heap hC3).2.2.1); (try have hG3 := (cells_heap hC3).2.2.2.1); (try have hC4 := hS.cell (i := 4) rfl); (try have hD4 := (cells_heap hC4).1); (try have hE4 := (cells_heap hC4).2.1); (try have hF4 := (cells_heap hC4).2.2.1); (try have hG4 := (cells_heap hC4).2.2.2.1); (try have hM0 := hS.map (i := 0) rfl); (try have hM1 := hS.map (i := 1) rfl); (try have hM2 := hS.map (i := 2) rfl); (try have hM3 := hS.map (i := 3) rfl); (try have hM4 := hS.map (i := 4) rfl))
  | (show WL _ _ _ _ _ _ _; apply WL.nil)
  | (show Z _ _ _ _ _; apply Z.then_normal)
  | (show W _ _ _ _ _ _; first | apply W.seq | apply W.region)
  | fail)
 obtain ⟨w1, rfl⟩ : ∃ x, x = w' := ⟨_, rfl⟩; obtain ⟨g2, rfl⟩ : ∃ x, x = gb := ⟨_, rfl⟩
 have hX2 : Ext w w1 := extA
 have hw1 : w.heap.size ≤ w1.heap.size := Below.size hX2
 have hgc : w.heap.size ≤ gc := (hS.lt (i := 1) rfl rfl).1
 have hcl := cells_heap (hS.cell (i := 1) rfl)
 obtain ⟨y0, y1, y2, y3, y4, y5, y6, y7, y8, _⟩ := hcl
 repeat' (first
  | (show W _ _ (.region 1 _ _) _ _ _; apply W.regionI 13 [.is (.pointer (some ⟨gc, 0 + 1, none⟩)), .is (rowVal c.ins), prRow 1 encI 3 w1.heap.size c.ins.2.2, .is (.pointer (some ⟨gc, 0 + 1 + 1, none⟩)), .is (rowVal c.lat), prRow 3 enc3 87 w1.heap.size c.lat.2.2, .is (.pointer (some ⟨gc, 0 + 1 + 1 + 1 + 1 + 1 + 1, none⟩)), .is (rowVal c.gates), prRow 3 enc3 89 w1.heap.size c.gates.2.2, .is (.pointer (some ⟨gc, 0 + 1 + 1 + 1 + 1 + 1 + 1 + 1, none⟩)), .is (rowVal c.syms), prRow 3 encY 150 w1.heap.size c.syms.2.2, .is (.pointer (some ⟨gc, 0 + 1, none⟩))] tMix; kernel_rfl; exact rfl; kernel_rfl; kernel_rfl; exact rfl; exact rfl)
  | (show OBL _ _ _ _ _ _ _ _; apply OBL.nil)
  | (show OBL _ _ _ _ _ _ 0 _; apply OBL.cons (ds := []); (iterate 3 exact rfl); kernel_rfl; intro w8 hw8 rest8)
  | (show OBL _ _ _ _ _ _ 1 _; apply OBL.cons (ds := [0]); (iterate 3 exact rfl); kernel_rfl; intro w8 hw8 rest8)
  | (show OBL _ _ _ _ _ _ 2 _; apply OBL.cons (ds := [1]); (iterate 3 exact rfl); kernel_rfl; intro w8 hw8 rest8)
  | (show OBL _ _ _ _ _ _ 3 _; apply OBL.cons (ds := []); (iterate 3 exact rfl); kernel_rfl; intro w8 hw8 rest8)
  | (show OBL _ _ _ _ _ _ 4 _; apply OBL.cons (ds := [3]); (iterate 3 exact rfl); kernel_rfl; intro w8 hw8 rest8)
  | (show OBL _ _ _ _ _ _ 5 _; apply OBL.cons (ds := [4, 2]); (iterate 3 exact rfl); kernel_rfl; intro w8 hw8 rest8)
  | (show OBL _ _ _ _ _ _ 6 _; apply OBL.cons (ds := []); (iterate 3 exact rfl); kernel_rfl; intro w8 hw8 rest8)
  | (show OBL _ _ _ _ _ _ 7 _; apply OBL.cons (ds := [6]); (iterate 3 exact rfl); kernel_rfl; intro w8 hw8 rest8)
  | (show OBL _ _ _ _ _ _ 8 _; apply OBL.cons (ds := [7, 5]); (iterate 3 exact rfl); kernel_rfl; intro w8 hw8 rest8)
  | (show OBL _ _ _ _ _ _ 9 _; apply OBL.cons (ds := []); (iterate 3 exact rfl); kernel_rfl; intro w8 hw8 rest8)
  | (show OBL _ _ _ _ _ _ 10 _; apply OBL.cons (ds := [9]); (iterate 3 exact rfl); kernel_rfl; intro w8 hw8 rest8)
  | (show OBL _ _ _ _ _ _ 11 _; apply OBL.cons (ds := [10, 8]); (iterate 3 exact rfl); kernel_rfl; intro w8 hw8 rest8)
  | (show OBL _ _ _ _ _ _ 12 _; apply OBL.cons (ds := [0, 1, 2, 3, 4, 6, 7, 9, 10]); (iterate 3 exact rfl); kernel_rfl; intro w8 hw8 rest8)
  | (show NO _ _ _ _ _ _ _ _ _ _; first | apply NO.nil | (apply NO.is; exact rfl; exact rfl) | (apply NO.ex; exact rfl; exact rfl; (first | (rintro _ ⟨gl, rfl, hlb, hlge⟩) | (rintro _ ⟨ar, cr, rfl, hOr⟩))))
  | (intro w8 hw8; show NF _ _ _ _ _ _ _ _ _)
  | (show NF _ _ _ _ _ _ _ _ _; first | (apply NF.nilT; intro hap; replace hS := Sep.news [prowZ 3 encY 150 w.heap.size ar1_11 cr1_11 c.syms.2.2, prowZ 3 enc3 89 w.heap.size ar1_8 cr1_8 c.gates.2.2, prowZ 3 enc3 87 w.heap.size ar1_5 cr1_5 c.lat.2.2, prowZ 1 encI 3 w.heap.size ar1_2 cr1_2 c.ins.2.2] hS hw8 (by rintro q hq; simp only [List.mem_cons, List.not_mem_nil, or_false] at hq; rcases hq with rfl | rfl | rfl | rfl <;> exact prowZ_new (by assumption) hw1) (apartS hap) hw1; simp only [List.cons_append, List.nil_append] at hS; (try simp only [List.set_cons_zero, List.set_cons_succ] at hS); (try have hR0 := hS.row (i := 0) rfl); (try have hR1 := hS.row (i := 1) rfl); (try have hR2 := hS.row (i := 2) rfl); (try have hR3 := hS.row (i := 3) rfl); (try have hR4 := hS.row (i := 4) rfl); (try have hC0 := hS.cell (i := 0) rfl); (try have hD0 := (cells_heap hC0).1); (try have hE0 := (cells_heap hC0).2.1); (try have hF0 := (cells_heap hC0).2.2.1); (try have hG0 := (cells_heap hC0).2.2.2.1); (try have hC1 := hS.cell (i := 1) rfl); (try have hD1 := (cells_heap hC1).1); (try have hE1 := (cells_heap hC1).2.1); (try have hF1 := (cells_heap hC1).2.2.1); (try have hG1 := (cells_heap hC1).2.2.2.1); (try have hC2 := hS.cell (i := 2) rfl); (try have hD2 := (cells_heap hC2).1); (try have hE2 := (cells_heap hC2).2.1); (try have hF2 := (cells_heap hC2).2.2.1); (try have hG2 := (cells_heap hC2).2.2.2.1); (try have hC3 := hS.cell (i := 3) rfl); (try have hD3 := (cells_heap hC3).1); (try have hE3 := (cells_heap hC3).2.1); (try have hF3 := (cells_heap hC3).2.2.1); (try have hG3 := (cells_heap hC3).2.2.2.1); (try have hC4 := hS.cell (i := 4) rfl); (try have hD4 := (cells_heap hC4).1); (try have hE4 := (cells_heap hC4).2.1); (try have hF4 := (cells_heap hC4).2.2.1); (try have hG4 := (cells_heap hC4).2.2.2.1); (try have hM0 := hS.map (i := 0) rfl); (try have hM1 := hS.map (i := 1) rfl); (try have hM2 := hS.map (i := 2) rfl); (try have hM3 := hS.map (i := 3) rfl); (try have hM4 := hS.map (i := 4) rfl) ; have hC5 := hS.cell (i := 5) rfl) | (apply NF.is; exact rfl; exact rfl))
  | (show NF _ _ _ _ _ _ (2 :: _) _ _; apply NF.ex; exact rfl; exact rfl; rintro _ ⟨ar1_2, cr1_2, rfl, hOr1_2⟩)
  | (show NF _ _ _ _ _ _ (5 :: _) _ _; apply NF.ex; exact rfl; exact rfl; rintro _ ⟨ar1_5, cr1_5, rfl, hOr1_5⟩)
  | (show NF _ _ _ _ _ _ (8 :: _) _ _; apply NF.ex; exact rfl; exact rfl; rintro _ ⟨ar1_8, cr1_8, rfl, hOr1_8⟩)
  | (show NF _ _ _ _ _ _ (11 :: _) _ _; apply NF.ex; exact rfl; exact rfl; rintro _ ⟨ar1_11, cr1_11, rfl, hOr1_11⟩)
  | (show Z _ _ _ _ _; first | (apply Z.invIs; (exact extA)) | (apply Z.invFresh; (exact extA); (first | omega | exact Below.size extA); assumption))
  | ((show WL _ _ _ (⟨_, .call ⟨.value (.func 78), _, _⟩, _, _, _, _⟩ :: _) _ _ _); apply WL.call; (iterate 4 exact rfl); exact slices_CloneI _ _ c.ins.2.2 _ (Ri.ext extA) ni (by omega); rintro v' w' ⟨hx, a', cap', rfl, hO⟩)
  | ((show WL _ _ _ (⟨_, .call ⟨.value (.func 140), _, _⟩, _, _, _, _⟩ :: _) _ _ _); apply WL.call; (iterate 4 exact rfl); exact clone_L _ _ c.lat.2.2 _ (Rl.ext extA) nl (by omega); rintro v' w' ⟨hx, a', cap', rfl, hO⟩)
  | ((show WL _ _ _ (⟨_, .call ⟨.value (.func 141), _, _⟩, _, _, _, _⟩ :: _) _ _ _); apply WL.call; (iterate 4 exact rfl); exact clone_G _ _ c.gates.2.2 _ (Rg.ext extA) ng (by omega); rintro v' w' ⟨hx, a', cap', rfl, hO⟩)
  | ((show WL _ _ _ (⟨_, .call ⟨.value (.func 142), _, _⟩, _, _, _, _⟩ :: _) _ _ _); apply WL.call; (iterate 4 exact rfl); exact clone_Y _ _ c.syms.2.2 _ (Ry.ext extA) ny (by omega); rintro v' w' ⟨hx, a', cap', rfl, hO⟩)
  | (apply WL.storeF (w0 := w) tOk; (iterate 4 exact rfl); assumption; (exact extA); (iterate 4 exact rfl); (exact extA); (first | assumption | omega | (focus (apply Nat.le_trans; rotate_left; assumption; exact Below.size extA))); intro w' hb hX' hU; replace hS := Sep.updCell (i := 5) rfl hU hb hS extA (by (first | exact Nat.le_refl _ | exact Below.size extA)); (try simp only [List.set_cons_zero, List.set_cons_succ] at hS); (try have hR0 := hS.row (i := 0) rfl); (try have hR1 := hS.row (i := 1) rfl); (try have hR2 := hS.row (i := 2) rfl); (try have hR3 := hS.row (i := 3) rfl); (try have hR4 := hS.row (i := 4) rfl); (try have hC0 := hS.cell (i := 0) rfl); (try have hD0 := (cells_heap hC0).1); (try have hE0 := (cells_heap hC0).2.1); (try have hF0 := (cells_heap hC0).2.2.1); (try have hG0 := (cells_heap hC0).2.2.2.1); (try have hC1 := hS.cell (i := 1) rfl); (try have hD1 := (cells_heap hC1).1); (try have hE1 := (cells_heap hC1).2.1); (try have hF1 := (cells_heap hC1).2.2.1); (try have hG1 := (cells_heap hC1).2.2.2.1); (try have hC2 := hS.cell (i := 2) rfl); (try have hD2 := (cells_heap hC2).1); (try have hE2 := (cells_heap hC2).2.1); (try have hF2 := (cells_heap hC2).2.2.1); (try have hG2 := (cells_heap hC2).2.2.2.1); (try have hC3 := hS.cell (i := 3) rfl); (try have hD3 := (cells_heap hC3).1); (try have hE3 := (cells_heap hC3).2.1); (try have hF3 := (cells_heap hC3).2.2.1); (try have hG3 := (cells_heap hC3).2.2.2.1); (try have hC4 := hS.cell (i := 4) rfl); (try have hD4 := (cells_heap hC4).1); (try have hE4 := (cells_heap hC4).2.1); (try have hF4 := (cells_heap hC4).2.2.1); (try have hG4 := (cells_heap hC4).2.2.2.1); (try have hM0 := hS.map (i := 0) rfl); (try have hM1 := hS.map (i := 1) rfl); (try have hM2 := hS.map (i := 2) rfl); (try have hM3 := hS.map (i := 3) rfl); (try have hM4 := hS.map (i := 4) rfl))
  | (show WL _ _ _ _ _ _ _; first | apply WL.nil | (refine WL.au (k := ?_)))
  | (show Z _ _ _ _ _; apply Z.then_normal)
  | (show W _ _ _ _ _ _; apply W.seq)
  | fail)
 obtain ⟨w2, rfl⟩ : ∃ x, x = w' := ⟨_, rfl⟩
 have hX3 : Ext w w2 := extA
 have hw2 : w.heap.size ≤ w2.heap.size := Below.size hX3
 replace hS : Lt.Sep w.heap.size w2 [prowZ 3 encY 150 w.heap.size ar1_11 cr1_11 c.syms.2.2, prowZ 3 enc3 89 w.heap.size ar1_8 cr1_8 c.gates.2.2, prowZ 3 enc3 87 w.heap.size ar1_5 cr1_5 c.lat.2.2, prowZ 1 encI 3 w.heap.size ar1_2 cr1_2 c.ins.2.2, pcell g2 (Value.cells (.agg #[.int .i64 0, .slice none 0 0, .slice none 0 0, .slice none 0 0, .slice none 0 0, .slice none 0 0, .slice none 0 0, .slice none 0 0, .string ⟨#[]⟩])) 27, pcell gc ([.int .i64 c.max, .slice ar1_2 c.ins.2.2.length cr1_2, .slice ar1_5 c.lat.2.2.length cr1_5, rowVal c.outs, rowVal c.bads, rowVal c.cons, .slice ar1_8 c.gates.2.2.length cr1_8, .slice ar1_11 c.syms.2.2.length cr1_11, .string c.com] : List Value).toArray 27] := hS
 have hcl := cells_heap (hS.cell (i := 5) rfl)
 clear y0 y1 y2 y3 y4 y5 y6 y7 y8
 obtain ⟨y0, y1, y2, y3, y4, y5, y6, y7, y8, _⟩ := hcl
 repeat' (first
  | (show W _ _ (.region 2 _ _) _ _ _; apply W.regionI 10 [.is (.pointer (some ⟨gc, 0 + 1 + 1 + 1, none⟩)), .is (rowVal c.outs), prRow 1 encI 3 w2.heap.size c.outs.2.2, .is (.pointer (some ⟨gc, 0 + 1 + 1 + 1 + 1, none⟩)), .is (rowVal c.bads), prRow 1 encI 3 w2.heap.size c.bads.2.2, .is (.pointer (some ⟨gc, 0 + 1 + 1 + 1 + 1 + 1, none⟩)), .is (rowVal c.cons), prRow 1 encI 3 w2.heap.size c.cons.2.2, .is (.pointer (some ⟨gc, 0 + 1 + 1 + 1, none⟩))] tMix; kernel_rfl; exact rfl; kernel_rfl; kernel_rfl; exact rfl; exact rfl)
  | (show OBL _ _ _ _ _ _ _ _; apply OBL.nil)
  | (show OBL _ _ _ _ _ _ 0 _; apply OBL.cons (ds := []); (iterate 3 exact rfl); kernel_rfl; intro w8 hw8 rest8)
  | (show OBL _ _ _ _ _ _ 1 _; apply OBL.cons (ds := [0]); (iterate 3 exact rfl); kernel_rfl; intro w8 hw8 rest8)
  | (show OBL _ _ _ _ _ _ 2 _; apply OBL.cons (ds := [1]); (iterate 3 exact rfl); kernel_rfl; intro w8 hw8 rest8)
  | (show OBL _ _ _ _ _ _ 3 _; apply OBL.cons (ds := []); (iterate 3 exact rfl); kernel_rfl; intro w8 hw8 rest8)
  | (show OBL _ _ _ _ _ _ 4 _; apply OBL.cons (ds := [3]); (iterate 3 exact rfl); kernel_rfl; intro w8 hw8 rest8)
  | (show OBL _ _ _ _ _ _ 5 _; apply OBL.cons (ds := [4, 2]); (iterate 3 exact rfl); kernel_rfl; intro w8 hw8 rest8)
  | (show OBL _ _ _ _ _ _ 6 _; apply OBL.cons (ds := []); (iterate 3 exact rfl); kernel_rfl; intro w8 hw8 rest8)
  | (show OBL _ _ _ _ _ _ 7 _; apply OBL.cons (ds := [6]); (iterate 3 exact rfl); kernel_rfl; intro w8 hw8 rest8)
  | (show OBL _ _ _ _ _ _ 8 _; apply OBL.cons (ds := [7, 5]); (iterate 3 exact rfl); kernel_rfl; intro w8 hw8 rest8)
  | (show OBL _ _ _ _ _ _ 9 _; apply OBL.cons (ds := [0, 1, 2, 3, 4, 6, 7]); (iterate 3 exact rfl); kernel_rfl; intro w8 hw8 rest8)
  | (show NO _ _ _ _ _ _ _ _ _ _; first | apply NO.nil | (apply NO.is; exact rfl; exact rfl) | (apply NO.ex; exact rfl; exact rfl; (first | (rintro _ ⟨gl, rfl, hlb, hlge⟩) | (rintro _ ⟨ar, cr, rfl, hOr⟩))))
  | (intro w8 hw8; show NF _ _ _ _ _ _ _ _ _)
  | (show NF _ _ _ _ _ _ _ _ _; first | (apply NF.nilT; intro hap; replace hS := Sep.news [prowZ 1 encI 3 w.heap.size ar2_8 cr2_8 c.cons.2.2, prowZ 1 encI 3 w.heap.size ar2_5 cr2_5 c.bads.2.2, prowZ 1 encI 3 w.heap.size ar2_2 cr2_2 c.outs.2.2] hS hw8 (by rintro q hq; simp only [List.mem_cons, List.not_mem_nil, or_false] at hq; rcases hq with rfl | rfl | rfl <;> exact prowZ_new (by assumption) hw2) (apartS hap) hw2; simp only [List.cons_append, List.nil_append] at hS; have hC8 := hS.cell (i := 8) rfl) | (apply NF.is; exact rfl; exact rfl))
  | (show NF _ _ _ _ _ _ (2 :: _) _ _; apply NF.ex; exact rfl; exact rfl; rintro _ ⟨ar2_2, cr2_2, rfl, hOr2_2⟩)
  | (show NF _ _ _ _ _ _ (5 :: _) _ _; apply NF.ex; exact rfl; exact rfl; rintro _ ⟨ar2_5, cr2_5, rfl, hOr2_5⟩)
  | (show NF _ _ _ _ _ _ (8 :: _) _ _; apply NF.ex; exact rfl; exact rfl; rintro _ ⟨ar2_8, cr2_8, rfl, hOr2_8⟩)
  | (show Z _ _ _ _ _; first | (apply Z.invIs; (exact extA)) | (apply Z.invFresh; (exact extA); (first | omega | exact Below.size extA); assumption))
  | ((show WL _ _ _ (⟨_, .call ⟨.value (.func 78), _, _⟩, _, _, _, _⟩ :: _) _ _ _); apply WL.call; (iterate 4 exact rfl); exact slices_CloneI _ _ c.outs.2.2 _ (Ro.ext extA) no (by omega); rintro v' w' ⟨hx, a', cap', rfl, hO⟩)
  | ((show WL _ _ _ (⟨_, .call ⟨.value (.func 78), _, _⟩, _, _, _, _⟩ :: _) _ _ _); apply WL.call; (iterate 4 exact rfl); exact slices_CloneI _ _ c.bads.2.2 _ (Rb.ext extA) nb (by omega); rintro v' w' ⟨hx, a', cap', rfl, hO⟩)
  | ((show WL _ _ _ (⟨_, .call ⟨.value (.func 78), _, _⟩, _, _, _, _⟩ :: _) _ _ _); apply WL.call; (iterate 4 exact rfl); exact slices_CloneI _ _ c.cons.2.2 _ (Rn.ext extA) nn (by omega); rintro v' w' ⟨hx, a', cap', rfl, hO⟩)
  | (apply WL.storeF (w0 := w) tOk; (iterate 4 exact rfl); assumption; (exact extA); (iterate 4 exact rfl); (exact extA); (first | assumption | omega | (focus (apply Nat.le_trans; rotate_left; assumption; exact Below.size extA))); intro w' hb hX' hU; replace hS := Sep.updCell (i := 8) rfl hU hb hS extA (by (first | exact Nat.le_refl _ | exact Below.size extA)); (try simp only [List.set_cons_zero, List.set_cons_succ] at hS); (try have hR0 := hS.row (i := 0) rfl); (try have hR1 := hS.row (i := 1) rfl); (try have hR2 := hS.row (i := 2) rfl); (try have hR3 := hS.row (i := 3) rfl); (try have hR4 := hS.row (i := 4) rfl); (try have hC0 := hS.cell (i := 0) rfl); (try have hD0 := (cells_heap hC0).1); (try have hE0 := (cells_heap hC0).2.1); (try have hF0 := (cells_heap hC0).2.2.1); (try have hG0 := (cells_heap hC0).2.2.2.1); (try have hC1 := hS.cell (i := 1) rfl); (try have hD1 := (cells_heap hC1).1); (try have hE1 := (cells_heap hC1).2.1); (try have hF1 := (cells_heap hC1).2.2.1); (try have hG1 := (cells_heap hC1).2.2.2.1); (try have hC2 := hS.cell (i := 2) rfl); (try have hD2 := (cells_heap hC2).1); (try have hE2 := (cells_heap hC2).2.1); (try have hF2 := (cells_heap hC2).2.2.1); (try have hG2 := (cells_heap hC2).2.2.2.1); (try have hC3 := hS.cell (i := 3) rfl); (try have hD3 := (cells_heap hC3).1); (try have hE3 := (cells_heap hC3).2.1); (try have hF3 := (cells_heap hC3).2.2.1); (try have hG3 := (cells_heap hC3).2.2.2.1); (try have hC4 := hS.cell (i := 4) rfl); (try have hD4 := (cells_heap hC4).1); (try have hE4 := (cells_heap hC4).2.1); (try have hF4 := (cells_heap hC4).2.2.1); (try have hG4 := (cells_heap hC4).2.2.2.1); (try have hM0 := hS.map (i := 0) rfl); (try have hM1 := hS.map (i := 1) rfl); (try have hM2 := hS.map (i := 2) rfl); (try have hM3 := hS.map (i := 3) rfl); (try have hM4 := hS.map (i := 4) rfl))
  | (show WL _ _ _ _ _ _ _; first | apply WL.nil | (refine WL.au (k := ?_)))
  | (show Z _ _ _ _ _; apply Z.then_normal)
  | (show W _ _ _ _ _ _; first | apply W.seq | apply W.region)
  | fail)
 obtain ⟨w3, rfl⟩ : ∃ x, x = w' := ⟨_, rfl⟩
 obtain ⟨d, hd⟩ : ∃ d : Circ, d = ⟨c.max, (ar1_2, cr1_2, c.ins.2.2), (ar1_5, cr1_5, c.lat.2.2), (ar2_2, cr2_2, c.outs.2.2), (ar2_5, cr2_5, c.bads.2.2), (ar2_8, cr2_8, c.cons.2.2), (ar1_8, cr1_8, c.gates.2.2), (ar1_11, cr1_11, c.syms.2.2), c.com⟩ := ⟨_, rfl⟩
 have hS' : Lt.Sep w.heap.size w3 ([prowZ 1 encI 3 w.heap.size ar2_8 cr2_8 c.cons.2.2, prowZ 1 encI 3 w.heap.size ar2_5 cr2_5 c.bads.2.2, prowZ 1 encI 3 w.heap.size ar2_2 cr2_2 c.outs.2.2, prowZ 3 encY 150 w.heap.size ar1_11 cr1_11 c.syms.2.2, prowZ 3 enc3 89 w.heap.size ar1_8 cr1_8 c.gates.2.2, prowZ 3 enc3 87 w.heap.size ar1_5 cr1_5 c.lat.2.2, prowZ 1 encI 3 w.heap.size ar1_2 cr1_2 c.ins.2.2, pcell g2 (Value.cells (.agg #[.int .i64 0, .slice none 0 0, .slice none 0 0, .slice none 0 0, .slice none 0 0, .slice none 0 0, .slice none 0 0, .slice none 0 0, .string ⟨#[]⟩])) 27, pcell gc d.vals.toArray 27]) := by rw [hd]; exact hS
 have hps : d.ps w.heap.size = [prowZ 3 encY 150 w.heap.size ar1_11 cr1_11 c.syms.2.2, prowZ 3 enc3 89 w.heap.size ar1_8 cr1_8 c.gates.2.2, prowZ 3 enc3 87 w.heap.size ar1_5 cr1_5 c.lat.2.2, prowZ 1 encI 3 w.heap.size ar2_8 cr2_8 c.cons.2.2, prowZ 1 encI 3 w.heap.size ar2_5 cr2_5 c.bads.2.2, prowZ 1 encI 3 w.heap.size ar2_2 cr2_2 c.outs.2.2, prowZ 1 encI 3 w.heap.size ar1_2 cr1_2 c.ins.2.2] := by rw [hd]; rfl
 have hcap : CapC d := by
  rw [hd]
  exact ⟨⟨hOr1_2.capLe, hOr1_2.noneCap⟩, ⟨hOr1_5.capLe, hOr1_5.noneCap⟩, ⟨hOr2_2.capLe, hOr2_2.noneCap⟩, ⟨hOr2_5.capLe, hOr2_5.noneCap⟩, ⟨hOr2_8.capLe, hOr2_8.noneCap⟩, ⟨hOr1_8.capLe, hOr1_8.noneCap⟩, ⟨hOr1_11.capLe, hOr1_11.noneCap⟩⟩
 have hdt : d.t = c.t := by rw [hd]
 have hcd : Cells w3 gc 0 d.vals := cells_heap (hS'.cell (i := 8) rfl)
 have hc7 := hS'.cell (i := 7) rfl
 have hg2 : w.heap.size ≤ g2 := (hS'.lt (i := 7) rfl rfl).1
 have hX4 : Ext w w3 := extA
 clear hd
 repeat' (first
  | (apply WL.storeB (w0 := w) tOk; (iterate 4 exact rfl); assumption; (exact extA); (iterate 3 exact rfl); (exact extA); (first | assumption | omega | (focus (apply Nat.le_trans; rotate_left; assumption; exact Below.size extA; done))); intro w' hb hc hX' hU; have hcc := hc; obtain ⟨h1, h2, _⟩ := hc)
  | (show WL _ _ _ _ _ _ _; first | apply WL.nil | (refine WL.au (k := ?_)))
  | (show Z _ _ _ _ _; apply Z.then_normal)
  | (show W _ _ _ _ _ _; apply W.ret)
  | fail)
 refine Z.bodyC tOk Try.results89 rfl rfl rfl rfl (cells_heap hb) fun m => ⟨Ext.at extA m, d, rfl, hdt, ⟨?_, hcap⟩⟩
 have hS5 := hS'.updCell (i := 7) rfl hU hb (Ext.refl _) (Below.size hX4)
 rw [hps]
 exact (Sep.perm7 hS5).ext ((Ext.refl _).at m)
end Go.Proofs.Yteidpnpbfagaeaa
namespace Go.Proofs.Yteidpnpbfagaeaa
open Go Go.Lt Go.RowKit
set_option linter.unusedVariables false
set_option linter.unusedSimpArgs false
set_option maxRecDepth 20000

theorem fill_setU {l : List Int} {k L : Nat} (hl : l.length = k) (hk : k < L) (z : Int) : (l ++ List.replicate (L - k) 0).set k z = l ++ [z] ++ List.replicate (L - (k + 1)) 0 := by
 rw [show L - k = (L - (k + 1)) + 1 by omega, List.replicate_succ, List.set_append_right _ _ (by omega), hl, Nat.sub_self]; simp
theorem fill_setU2 {l r : List Int} {k : Nat} (hl : l.length = k) (y z : Int) : (l ++ [y] ++ r).set k z = l ++ [z] ++ r := by
 rw [List.append_assoc, List.set_append_right _ _ (by omega), hl, Nat.sub_self]; simp
theorem Known.frz {α : Type} {s : Nat} {enc : α → List Value} {el b cap : Nat} {w0 w2 : World} {a : Option Addr} {l : List α} (hE : Enc s enc) (h : Own s enc el b w2 a cap l) : Known w0 (frz b w2) (fun w => Row s enc w a l) := fun w _ hR => by
 refine (h.row hE).keep fun k hk => ?_
 obtain ⟨h1, h2⟩ := h.blk_lt k hk
 have hm : pfro k (w2.heap[k]?) ∈ Lt.frz b w2 := by
  unfold Lt.frz
  exact List.mem_map.2 ⟨k - b, List.mem_range.2 (by omega), by simp only [show b + (k - b) = k by omega]⟩
 exact hR _ hm
theorem Sep.unOrd {B : Nat} {w : World} {pf ps s0 s1 s2 : Piece} {rs : List Piece} (hS : Lt.Sep B w (ps :: pf :: s0 :: s1 :: s2 :: rs)) : Lt.Sep B w (s0 :: s1 :: s2 :: pf :: ps :: rs) :=
 Sep.ofPerm (by
  refine (List.Perm.append_right rs (l₁ := [ps, pf, s0, s1, s2]) (l₂ := [s0, s1, s2, pf, ps]) ?_)
  exact (List.perm_append_comm (l₁ := [ps, pf]) (l₂ := [s0, s1, s2])).trans (List.Perm.append_left [s0, s1, s2] (List.Perm.swap pf ps []))) hS
theorem Sep.unOrd2 {B : Nat} {w : World} {e st s0 s1 s2 pf : Piece} {rs : List Piece} (hS : Lt.Sep B w (e :: st :: s0 :: s1 :: s2 :: pf :: rs)) : Lt.Sep B w (s0 :: s1 :: s2 :: pf :: e :: st :: rs) :=
 Sep.ofPerm (List.Perm.append_right rs (l₁ := [e, st, s0, s1, s2, pf]) (l₂ := [s0, s1, s2, pf, e, st]) (List.perm_append_comm (l₁ := [e, st]) (l₂ := [s0, s1, s2, pf]))) hS
abbrev unV0 (d : Circ) (v9 v10 v11 v12 v13 : Value) : List Value := [.int .i64 d.max, rowVal d.ins, rowVal d.lat, rowVal d.outs, rowVal d.bads, rowVal d.cons, rowVal d.gates, rowVal d.syms, .string d.com, v9, v10, v11, v12, v13]
set_option maxHeartbeats 16000000 in
theorem un_New (c : Circ) (free : Bool) (w : World) (hC : CAt w c) (hg : GoodC' c.t) (hz : SzC c.t 100000) (hz2 : c.t.syms.length ≤ 100000) :
  Lt.Spec Try.prog 33 [c.val, .bool free] w (fun v w' => ∃ w0 m x, Ext w w0 ∧ v = .tuple #[.pointer (some ⟨m.gf, 0, none⟩), .int .i64 0] ∧ m.d.t = c.t ∧ UAt w0 w' m (newU c.t free) x []) := by
 have z2 : c.lat.2.2.length ≤ 100000 := hz.2.1
 have hck : chkC c.t = 0 := chkC_good.2 hg
 have hcp := fun (w9 : World) (h9 : Ext w w9) => circ_Check c w9 (hC.ext h9) hz
 rw [hck] at hcp
 refine Spec.of _ Try.func33 rfl Try.ntmps33 (by kernel_rfl) rfl ?_
 repeat' (first
  | (apply WL.box; (iterate 3 exact rfl); intro gb w' hb hge hc hx; have hcc := hc; (first | (obtain ⟨h1, h2, h3, _⟩ := hc) | (obtain ⟨h1, h2, _⟩ := hc)); (first | (have h_0 := hcells; clear h_0; obtain ⟨gf, rfl⟩ : ∃ x, x = gb := ⟨_, rfl⟩; obtain ⟨w4, rfl⟩ : ∃ x, x = w' := ⟨_, rfl⟩; obtain ⟨hx4, rfl⟩ : ∃ x, x = hx := ⟨_, rfl⟩; obtain ⟨hge4, rfl⟩ : ∃ x, x = hge := ⟨_, rfl⟩; have hb4 : w4.heap[gf]? = some (.cells (unV0 d (.slice none 0 0) (.slice none 0 0) (.pointer (some ⟨gs, 0, none⟩)) (.slice none 0 0) (.slice none 0 0)).toArray 126 (0, 0)) := hb; clear hb hcc h1 h2 h3) | (obtain ⟨gc, rfl⟩ : ∃ x, x = gb := ⟨_, rfl⟩; obtain ⟨wc, rfl⟩ : ∃ x, x = w' := ⟨_, rfl⟩; obtain ⟨hxc, rfl⟩ : ∃ x, x = hx := ⟨_, rfl⟩; have hcells : Cells wc gc 0 c.vals := hcc)))
  | (apply WL.callP; (iterate 4 exact rfl); exact hcp _ extA; intro w' hx)
  | (apply W.condKF; exact rfl; (focus (exact dec_false (show ¬ (0 : Int) ≠ 0 from fun h => h rfl); done)))
  | (((show WL _ _ _ (⟨_, .call ⟨.value (.func 89), _, _⟩, _, _, _, _⟩ :: _) _ _ _); apply WL.call; (iterate 4 exact rfl); exact circ_Clone c _ (hC.ext extA) hz hz2; rintro v' w2 ⟨hx2, d, rfl, hdt, hOC⟩))
  | (((show WL _ _ _ (⟨_, .call ⟨.value (.func 54), _, _⟩, _, _, _, _⟩ :: _) _ _ _); apply WL.call; (iterate 4 exact rfl); exact aig_NewV w2 w2 [] (Ext.refl _) Sep.none'; rintro v' w3 ⟨hx3, gs, r, rfl, hS⟩))
  | (apply WL.build tOk; (iterate 7 exact rfl); kernel_rfl)
  | (((show WL _ _ _ (⟨_, .call ⟨.value (.func 53), _, _⟩, _, _, _, _⟩ :: _) _ _ _); apply WL.call; (iterate 4 exact rfl); exact circ_Net c _ (hC.ext extA) hg hz; rintro v' w5 ⟨hx5, aN, cN, aA, cA, rfl, hON, hOA⟩; have hgf : w2.heap.size ≤ gf := Nat.le_trans (Below.size hx3) hge4; have hS4 := Sep.newCell hS hx4 hb4 hge4 (Below.size hx3); have hS5 := Sep.freeze hS4 hx5 (Below.size (hx3.trans hx4)); have hb5 := hS5.cell (i := 0) rfl))
  | (apply WL.nilc; (iterate 3 exact rfl))
  | ((first | (have h_0 := hU6; clear h_0; apply WL.storeF (w0 := w2) tOk; (iterate 4 exact rfl); exact hb6; exact Ext.refl _; (iterate 4 exact rfl); exact extA; exact hgf; intro w7 hb7 hX7 hU7) | (apply WL.storeF (w0 := w2) tOk; (iterate 4 exact rfl); exact hb5; exact Ext.refl _; (iterate 4 exact rfl); exact extA; exact hgf; intro w6 hb6 hX6 hU6)))
  | (apply WL.makeC (w0 := w2) (z := (0:Int)) tOk; (iterate 9 exact rfl); exact encI_ok; exact rfl; exact rfl; (exact extA); (first | omega | (simp; omega) | (simp at *; omega)); intro gb w' hO hge hx; (obtain ⟨gl, rfl⟩ : ∃ x, x = gb := ⟨_, rfl⟩; obtain ⟨w8, rfl⟩ : ∃ x, x = w' := ⟨_, rfl⟩; obtain ⟨hOL, rfl⟩ : ∃ x, x = hO := ⟨_, rfl⟩; obtain ⟨hgeL, rfl⟩ : ∃ x, x = hge := ⟨_, rfl⟩; obtain ⟨hxL, rfl⟩ : ∃ x, x = hx := ⟨_, rfl⟩))
  | (show WL _ _ _ _ _ _ _; first | apply WL.nil | (refine WL.au (k := ?_)))
  | (show Z _ _ _ _ _; apply Z.then_normal)
  | (show W _ _ _ _ _ _; first | apply W.seq | apply W.region | apply W.block | apply W.skip)
  | fail)
 have hlt2 : (c.lat.2.2.length : Int).toNat = c.lat.2.2.length := Int.toNat_natCast _
 have hlt3 : (List.replicate (c.lat.2.2.length : Int).toNat (0 : Int)).length = c.lat.2.2.length := by rw [List.length_replicate, hlt2]
 have hdn : cNet c.t = cNet d.t := by rw [hdt]
 have hdl : d.t.lat = c.lat.2.2 := congrArg CirT.lat hdt
 obtain ⟨m, hm⟩ : ∃ m : UM, m = ⟨gf, gs, r, d, aN, cN, aA, cA⟩ := ⟨_, rfl⟩
 have hX27 : Ext w2 w7 := hX7
 have hX8 : Ext w2 w8 := hX27.trans hxL
 have hS6 := Sep.updCell (i := 0) rfl hU6 hb6 hS5 (Ext.refl _) (Below.size ((hx3.trans hx4).trans hx5))
 have hS7 := Sep.updCell (i := 0) rfl hU7 hb7 hS6 (Ext.refl _) (Below.size hX6)
 have hS8 := Sep.newRow hS7 hxL (hOL.base (Nat.le_refl _)) (fun k hk => by cases hk; exact hgeL) (Below.size hX27)
 have hS8' : Lt.Sep w2.heap.size w8 (stN w2.heap.size gs none 0 r [] ++ (pcell gf (m.vals none 0 0 none 0 0).toArray 126 :: prow 1 encI 3 w2.heap.size (some ⟨gl, 0, none⟩) c.lat.2.2.length (List.replicate c.lat.2.2.length 0) :: Lt.frz w4.heap.size w5)) := by
  have e : m.vals none 0 0 none 0 0 = unV0 d (.slice aN (cNet c.t).1.length cN) (.slice aA (cNet c.t).2.length cA) (.pointer (some ⟨gs, 0, none⟩)) (.slice none 0 0) (.slice none 0 0) := by rw [hm, hdn]
  rw [e]
  have hS9 := Sep.unOrd hS8
  rw [hlt2] at hS9
  exact hS9
 have hgc := hC.lat.row
 have e00 : firstTo c.t free 0 = ([], []) := rfl
 have hcl : ∀ x ∈ c.lat.2.2, x.2.2 = 0 ∨ x.2.2 = 1 ∨ x.2.2 = x.1 := hg.res
 refine W.loopO c.lat.2.2.length (fun k a cp w' => k ≤ c.lat.2.2.length ∧ Ext w2 w' ∧ Lt.Sep w2.heap.size w' (stN w2.heap.size gs a cp r (firstTo c.t free k).2 ++ (pcell gf (m.vals none 0 0 none 0 0).toArray 126 :: prow 1 encI 3 w2.heap.size (some ⟨gl, 0, none⟩) c.lat.2.2.length ((firstTo c.t free k).1 ++ List.replicate (c.lat.2.2.length - k) 0) :: Lt.frz w4.heap.size w5)))
  (fun k a cp => [(1, .bool free), (7, .pointer (some ⟨gf, 0, none⟩)), (8, .slice (some ⟨gl, 0, none⟩) c.lat.2.2.length c.lat.2.2.length), (37, rowVal c.lat), (38, .int .i64 c.lat.2.2.length), (39, .int .i64 k)]) none 0 ⟨Nat.zero_le _, hX8, by rw [e00]; exact hS8'⟩ (fun k a cp w' h => h.1) (by repeat' first | exact trivial | (refine And.intro ?_ ?_) | exact rfl | (rw [hlt3]; exact rfl)) ?_
 clear hS hS4 hS5 hS6 hS7 hS8 hS8' hb4 hb5 hb6 hb7 hU6 hU7 hOL hX6 hX7 hcells
 have hst9 : ∀ (w9 : World) (ps : List Piece), Lt.Sep w2.heap.size w9 ps → ps[3]? = some (pcell gf (m.vals none 0 0 none 0 0).toArray 126) → w9.cell? ⟨gf, 0 + 11, none⟩ = some (.pointer (some ⟨gs, 0, none⟩)) := fun w9 ps h1 h2 => by
  have h3 := (UC.of (m := m) (cells_heap (by rw [show m.gf = gf by rw [hm]]; exact h1.cell h2))).store
  rw [hm] at h3; exact h3
 rintro k a cp w9 ⟨hk, hX9, hS⟩
 obtain ⟨f1, f2, _, _⟩ := firstTo_inv hg free k hk
 have hgl9 : gl < w9.heap.size := (hS.lt (i := 4) rfl rfl).2
 by_cases hlt : k < c.lat.2.2.length
 ·obtain ⟨t, ht⟩ := getI c.lat.2.2 hlt
  have RL := hgc.ext ((((hxc.trans hx).trans hx2).trans hX9))
  have hs := firstTo_succ (c := c.t) (free := free) ht
  have hll : ((firstTo c.t free k).1 ++ List.replicate (c.lat.2.2.length - k) (0 : Int)).length = c.lat.2.2.length := by rw [List.length_append, f1, List.length_replicate]; omega
  obtain ⟨y, hy⟩ := getI ((firstTo c.t free k).1 ++ List.replicate (c.lat.2.2.length - k) (0 : Int)) (show k < _ by omega)
  have hy2 : (((firstTo c.t free k).1 ++ List.replicate (c.lat.2.2.length - k) (0 : Int)).set (k : Int).toNat t.2.2)[(k : Int).toNat]? = some t.2.2 := by rw [Int.toNat_natCast, List.getElem?_set_self (by omega)]
  (try simp only [List.set_cons_zero, List.set_cons_succ] at hS); (try have hR0 := hS.row (i := 0) rfl); (try have hR1 := hS.row (i := 1) rfl); (try have hR2 := hS.row (i := 2) rfl); (try have hR3 := hS.row (i := 3) rfl); (try have hR4 := hS.row (i := 4) rfl); (try have hC0 := hS.cell (i := 0) rfl); (try have hD0 := (cells_heap hC0).1); (try have hE0 := (cells_heap hC0).2.1); (try have hF0 := (cells_heap hC0).2.2.1); (try have hG0 := (cells_heap hC0).2.2.2.1); (try have hC1 := hS.cell (i := 1) rfl); (try have hD1 := (cells_heap hC1).1); (try have hE1 := (cells_heap hC1).2.1); (try have hF1 := (cells_heap hC1).2.2.1); (try have hG1 := (cells_heap hC1).2.2.2.1); (try have hC2 := hS.cell (i := 2) rfl); (try have hD2 := (cells_heap hC2).1); (try have hE2 := (cells_heap hC2).2.1); (try have hF2 := (cells_heap hC2).2.2.1); (try have hG2 := (cells_heap hC2).2.2.2.1); (try have hC3 := hS.cell (i := 3) rfl); (try have hD3 := (cells_heap hC3).1); (try have hE3 := (cells_heap hC3).2.1); (try have hF3 := (cells_heap hC3).2.2.1); (try have hG3 := (cells_heap hC3).2.2.2.1); (try have hC4 := hS.cell (i := 4) rfl); (try have hD4 := (cells_heap hC4).1); (try have hE4 := (cells_heap hC4).2.1); (try have hF4 := (cells_heap hC4).2.2.1); (try have hG4 := (cells_heap hC4).2.2.2.1); (try have hM0 := hS.map (i := 0) rfl); (try have hM1 := hS.map (i := 1) rfl); (try have hM2 := hS.map (i := 2) rfl); (try have hM3 := hS.map (i := 3) rfl); (try have hM4 := hS.map (i := 4) rfl)
  rcases (show (free = true) ∨ (free = false ∧ 1 < t.2.2) ∨ (free = false ∧ ¬ 1 < t.2.2) by cases free <;> by_cases h : 1 < t.2.2 <;> simp [h]) with q0 | ⟨q0, q1⟩ | ⟨q0, q1⟩
  ·have e1 : firstTo c.t free (k + 1) = _ := hs.trans (fstep_in (.inl q0))
   repeat' (first
    | (apply WL.gT; exact rfl; exact rfl; (focus (first | exact dec_true (by omega) | exact q0; done)))
    | (apply W.condKT; exact rfl; (focus (first | exact dec_true (by omega) | exact q0; done)))
    | (apply WL.alloc tOk; (iterate 3 exact rfl); intro gb w' hb hge hx)
    | (apply WL.storeB (w0 := w2) tOk; (iterate 4 exact rfl); assumption; (exact extA); (iterate 3 exact rfl); (exact extA); (first | assumption | omega | (focus (apply Nat.le_trans; rotate_left; assumption; exact Below.size extA; done))); intro w' hb hc hX' hU; have hcc := hc; obtain ⟨h1, h2, _⟩ := hc; (first | replace hS := Sep.updNew hS extA hU (by first | assumption | omega)); (try simp only [List.set_cons_zero, List.set_cons_succ] at hS); (try have hR0 := hS.row (i := 0) rfl); (try have hR1 := hS.row (i := 1) rfl); (try have hR2 := hS.row (i := 2) rfl); (try have hR3 := hS.row (i := 3) rfl); (try have hR4 := hS.row (i := 4) rfl); (try have hC0 := hS.cell (i := 0) rfl); (try have hD0 := (cells_heap hC0).1); (try have hE0 := (cells_heap hC0).2.1); (try have hF0 := (cells_heap hC0).2.2.1); (try have hG0 := (cells_heap hC0).2.2.2.1); (try have hC1 := hS.cell (i := 1) rfl); (try have hD1 := (cells_heap hC1).1); (try have hE1 := (cells_heap hC1).2.1); (try have hF1 := (cells_heap hC1).2.2.1); (try have hG1 := (cells_heap hC1).2.2.2.1); (try have hC2 := hS.cell (i := 2) rfl); (try have hD2 := (cells_heap hC2).1); (try have hE2 := (cells_heap hC2).2.1); (try have hF2 := (cells_heap hC2).2.2.1); (try have hG2 := (cells_heap hC2).2.2.2.1); (try have hC3 := hS.cell (i := 3) rfl); (try have hD3 := (cells_heap hC3).1); (try have hE3 := (cells_heap hC3).2.1); (try have hF3 := (cells_heap hC3).2.2.1); (try have hG3 := (cells_heap hC3).2.2.2.1); (try have hC4 := hS.cell (i := 4) rfl); (try have hD4 := (cells_heap hC4).1); (try have hE4 := (cells_heap hC4).2.1); (try have hF4 := (cells_heap hC4).2.2.1); (try have hG4 := (cells_heap hC4).2.2.2.1); (try have hM0 := hS.map (i := 0) rfl); (try have hM1 := hS.map (i := 1) rfl); (try have hM2 := hS.map (i := 2) rfl); (try have hM3 := hS.map (i := 3) rfl); (try have hM4 := hS.map (i := 4) rfl); (obtain ⟨e1', e2', e3', _⟩ := hcc; have hb10 := hb; have hne10 : gb ≠ gl := by omega))
    | (apply WL.nilc; (iterate 3 exact rfl))
    | (apply WL.indexO tOk; (iterate 8 exact rfl); assumption; (exact extA); exact encI_ok; (first | exact rfl | (focus (simp only [List.length_set]; done)) | (focus (simp; done)) | (focus (simp [*]; done)) | omega | (focus (simp only [List.length_set]; omega))); omega; assumption; intro gb ha hc; cases ha; have hcc := hc; first | (obtain ⟨h1, h2, h3, _⟩ := hc) | (obtain ⟨h1, h2, _⟩ := hc) | (obtain ⟨h1, _⟩ := hc))
    | (apply WL.storeO tOk; (iterate 4 exact rfl); assumption; (exact extA); (iterate 3 exact rfl); exact encI_ok; assumption; exact rfl; (exact extA); intro w' hO hX' hU; (first | replace hS := Sep.updRow (i := 0) rfl hU hO (.inl rfl) hS extA (by (first | exact Nat.le_refl _ | exact Below.size extA)) | replace hS := Sep.updRow (i := 1) rfl hU hO (.inl rfl) hS extA (by (first | exact Nat.le_refl _ | exact Below.size extA)) | replace hS := Sep.updRow (i := 2) rfl hU hO (.inl rfl) hS extA (by (first | exact Nat.le_refl _ | exact Below.size extA)) | replace hS := Sep.updRow (i := 3) rfl hU hO (.inl rfl) hS extA (by (first | exact Nat.le_refl _ | exact Below.size extA)) | replace hS := Sep.updRow (i := 4) rfl hU hO (.inl rfl) hS extA (by (first | exact Nat.le_refl _ | exact Below.size extA)) | replace hS := Sep.updRow (i := 5) rfl hU hO (.inl rfl) hS extA (by (first | exact Nat.le_refl _ | exact Below.size extA))); (try simp only [List.set_cons_zero, List.set_cons_succ] at hS); (try have hR0 := hS.row (i := 0) rfl); (try have hR1 := hS.row (i := 1) rfl); (try have hR2 := hS.row (i := 2) rfl); (try have hR3 := hS.row (i := 3) rfl); (try have hR4 := hS.row (i := 4) rfl); (try have hC0 := hS.cell (i := 0) rfl); (try have hD0 := (cells_heap hC0).1); (try have hE0 := (cells_heap hC0).2.1); (try have hF0 := (cells_heap hC0).2.2.1); (try have hG0 := (cells_heap hC0).2.2.2.1); (try have hC1 := hS.cell (i := 1) rfl); (try have hD1 := (cells_heap hC1).1); (try have hE1 := (cells_heap hC1).2.1); (try have hF1 := (cells_heap hC1).2.2.1); (try have hG1 := (cells_heap hC1).2.2.2.1); (try have hC2 := hS.cell (i := 2) rfl); (try have hD2 := (cells_heap hC2).1); (try have hE2 := (cells_heap hC2).2.1); (try have hF2 := (cells_heap hC2).2.2.1); (try have hG2 := (cells_heap hC2).2.2.2.1); (try have hC3 := hS.cell (i := 3) rfl); (try have hD3 := (cells_heap hC3).1); (try have hE3 := (cells_heap hC3).2.1); (try have hF3 := (cells_heap hC3).2.2.1); (try have hG3 := (cells_heap hC3).2.2.2.1); (try have hC4 := hS.cell (i := 4) rfl); (try have hD4 := (cells_heap hC4).1); (try have hE4 := (cells_heap hC4).2.1); (try have hF4 := (cells_heap hC4).2.2.1); (try have hG4 := (cells_heap hC4).2.2.2.1); (try have hM0 := hS.map (i := 0) rfl); (try have hM1 := hS.map (i := 1) rfl); (try have hM2 := hS.map (i := 2) rfl); (try have hM3 := hS.map (i := 3) rfl); (try have hM4 := hS.map (i := 4) rfl); (first | (have h10 := hU.heap hb10 hne10; obtain ⟨e1', e2', e3', _⟩ := cells_heap h10) | skip))
    | ((show WL _ _ _ (⟨_, .load 94 _, _, _, _, _⟩ :: _) _ _ _; apply WL.load tOk; (iterate 5 exact rfl); exact hst9 _ _ hS rfl))
    | (((show WL _ _ _ (⟨_, .call ⟨.value (.func 90), _, _⟩, _, _, _, _⟩ :: _) _ _ _); apply WL.call; (iterate 4 exact rfl); exact aig_InputV gs r _ _ (firstTo c.t free k).2 _ _ w2 (by assumption) hS (by omega); rintro v' w8 ⟨hX8', a8, cap8, rfl, hS⟩; (try simp only [List.set_cons_zero, List.set_cons_succ] at hS); (try have hR0 := hS.row (i := 0) rfl); (try have hR1 := hS.row (i := 1) rfl); (try have hR2 := hS.row (i := 2) rfl); (try have hR3 := hS.row (i := 3) rfl); (try have hR4 := hS.row (i := 4) rfl); (try have hC0 := hS.cell (i := 0) rfl); (try have hD0 := (cells_heap hC0).1); (try have hE0 := (cells_heap hC0).2.1); (try have hF0 := (cells_heap hC0).2.2.1); (try have hG0 := (cells_heap hC0).2.2.2.1); (try have hC1 := hS.cell (i := 1) rfl); (try have hD1 := (cells_heap hC1).1); (try have hE1 := (cells_heap hC1).2.1); (try have hF1 := (cells_heap hC1).2.2.1); (try have hG1 := (cells_heap hC1).2.2.2.1); (try have hC2 := hS.cell (i := 2) rfl); (try have hD2 := (cells_heap hC2).1); (try have hE2 := (cells_heap hC2).2.1); (try have hF2 := (cells_heap hC2).2.2.1); (try have hG2 := (cells_heap hC2).2.2.2.1); (try have hC3 := hS.cell (i := 3) rfl); (try have hD3 := (cells_heap hC3).1); (try have hE3 := (cells_heap hC3).2.1); (try have hF3 := (cells_heap hC3).2.2.1); (try have hG3 := (cells_heap hC3).2.2.2.1); (try have hC4 := hS.cell (i := 4) rfl); (try have hD4 := (cells_heap hC4).1); (try have hE4 := (cells_heap hC4).2.1); (try have hF4 := (cells_heap hC4).2.2.1); (try have hG4 := (cells_heap hC4).2.2.2.1); (try have hM0 := hS.map (i := 0) rfl); (try have hM1 := hS.map (i := 1) rfl); (try have hM2 := hS.map (i := 2) rfl); (try have hM3 := hS.map (i := 3) rfl); (try have hM4 := hS.map (i := 4) rfl)))
    | (show WL _ _ _ _ _ _ _; first | apply WL.nil | (refine WL.au (k := ?_)) | (apply WL.index tOk; (iterate 8 exact rfl); assumption; (exact extA); exact rfl; omega; assumption; intro b off h; have hcc := h; first | (obtain ⟨h1, h2, h3, h4, h5, h6, _⟩ := h) | (obtain ⟨h1, h2, h3, _⟩ := h) | (obtain ⟨h1, h2, _⟩ := h) | (obtain ⟨h1, _⟩ := h)) | (apply WL.guardF; exact rfl; exact rfl))
    | (show Z _ _ _ _ _; first | apply Z.then_normal | apply Z.block_normal)
    | (show W _ _ _ _ _ _; first | apply W.seq | apply W.region | apply W.block | apply W.skip | (apply W.condT; exact rfl))
    | fail)
   rw [Int.toNat_natCast, fill_setU f1 hlt, fill_setU2 f1] at hS
   exact Z.againO a8 cap8 ⟨by omega, by assumption, by rw [e1]; exact hS⟩ (by repeat' first | exact trivial | (refine And.intro ?_ ?_) | exact rfl)
  ·subst q0
   have e1 : firstTo c.t false (k + 1) = _ := hs.trans (fstep_in (.inr q1))
   repeat' (first
    | (apply W.condKT; exact rfl; (focus (first | exact dec_true (by omega) | exact dec_true q1; done)))
    | (apply WL.alloc tOk; (iterate 3 exact rfl); intro gb w' hb hge hx)
    | (apply WL.storeB (w0 := w2) tOk; (iterate 4 exact rfl); assumption; (exact extA); (iterate 3 exact rfl); (exact extA); (first | assumption | omega | (focus (apply Nat.le_trans; rotate_left; assumption; exact Below.size extA; done))); intro w' hb hc hX' hU; have hcc := hc; obtain ⟨h1, h2, _⟩ := hc; (first | replace hS := Sep.updNew hS extA hU (by first | assumption | omega)); (try simp only [List.set_cons_zero, List.set_cons_succ] at hS); (try have hR0 := hS.row (i := 0) rfl); (try have hR1 := hS.row (i := 1) rfl); (try have hR2 := hS.row (i := 2) rfl); (try have hR3 := hS.row (i := 3) rfl); (try have hR4 := hS.row (i := 4) rfl); (try have hC0 := hS.cell (i := 0) rfl); (try have hD0 := (cells_heap hC0).1); (try have hE0 := (cells_heap hC0).2.1); (try have hF0 := (cells_heap hC0).2.2.1); (try have hG0 := (cells_heap hC0).2.2.2.1); (try have hC1 := hS.cell (i := 1) rfl); (try have hD1 := (cells_heap hC1).1); (try have hE1 := (cells_heap hC1).2.1); (try have hF1 := (cells_heap hC1).2.2.1); (try have hG1 := (cells_heap hC1).2.2.2.1); (try have hC2 := hS.cell (i := 2) rfl); (try have hD2 := (cells_heap hC2).1); (try have hE2 := (cells_heap hC2).2.1); (try have hF2 := (cells_heap hC2).2.2.1); (try have hG2 := (cells_heap hC2).2.2.2.1); (try have hC3 := hS.cell (i := 3) rfl); (try have hD3 := (cells_heap hC3).1); (try have hE3 := (cells_heap hC3).2.1); (try have hF3 := (cells_heap hC3).2.2.1); (try have hG3 := (cells_heap hC3).2.2.2.1); (try have hC4 := hS.cell (i := 4) rfl); (try have hD4 := (cells_heap hC4).1); (try have hE4 := (cells_heap hC4).2.1); (try have hF4 := (cells_heap hC4).2.2.1); (try have hG4 := (cells_heap hC4).2.2.2.1); (try have hM0 := hS.map (i := 0) rfl); (try have hM1 := hS.map (i := 1) rfl); (try have hM2 := hS.map (i := 2) rfl); (try have hM3 := hS.map (i := 3) rfl); (try have hM4 := hS.map (i := 4) rfl); (obtain ⟨e1', e2', e3', _⟩ := hcc; have hb10 := hb; have hne10 : gb ≠ gl := by omega))
    | (apply WL.nilc; (iterate 3 exact rfl))
    | (apply WL.indexO tOk; (iterate 8 exact rfl); assumption; (exact extA); exact encI_ok; (first | exact rfl | (focus (simp only [List.length_set]; done)) | (focus (simp; done)) | (focus (simp [*]; done)) | omega | (focus (simp only [List.length_set]; omega))); omega; assumption; intro gb ha hc; cases ha; have hcc := hc; first | (obtain ⟨h1, h2, h3, _⟩ := hc) | (obtain ⟨h1, h2, _⟩ := hc) | (obtain ⟨h1, _⟩ := hc))
    | (apply WL.storeO tOk; (iterate 4 exact rfl); assumption; (exact extA); (iterate 3 exact rfl); exact encI_ok; assumption; exact rfl; (exact extA); intro w' hO hX' hU; (first | replace hS := Sep.updRow (i := 0) rfl hU hO (.inl rfl) hS extA (by (first | exact Nat.le_refl _ | exact Below.size extA)) | replace hS := Sep.updRow (i := 1) rfl hU hO (.inl rfl) hS extA (by (first | exact Nat.le_refl _ | exact Below.size extA)) | replace hS := Sep.updRow (i := 2) rfl hU hO (.inl rfl) hS extA (by (first | exact Nat.le_refl _ | exact Below.size extA)) | replace hS := Sep.updRow (i := 3) rfl hU hO (.inl rfl) hS extA (by (first | exact Nat.le_refl _ | exact Below.size extA)) | replace hS := Sep.updRow (i := 4) rfl hU hO (.inl rfl) hS extA (by (first | exact Nat.le_refl _ | exact Below.size extA)) | replace hS := Sep.updRow (i := 5) rfl hU hO (.inl rfl) hS extA (by (first | exact Nat.le_refl _ | exact Below.size extA))); (try simp only [List.set_cons_zero, List.set_cons_succ] at hS); (try have hR0 := hS.row (i := 0) rfl); (try have hR1 := hS.row (i := 1) rfl); (try have hR2 := hS.row (i := 2) rfl); (try have hR3 := hS.row (i := 3) rfl); (try have hR4 := hS.row (i := 4) rfl); (try have hC0 := hS.cell (i := 0) rfl); (try have hD0 := (cells_heap hC0).1); (try have hE0 := (cells_heap hC0).2.1); (try have hF0 := (cells_heap hC0).2.2.1); (try have hG0 := (cells_heap hC0).2.2.2.1); (try have hC1 := hS.cell (i := 1) rfl); (try have hD1 := (cells_heap hC1).1); (try have hE1 := (cells_heap hC1).2.1); (try have hF1 := (cells_heap hC1).2.2.1); (try have hG1 := (cells_heap hC1).2.2.2.1); (try have hC2 := hS.cell (i := 2) rfl); (try have hD2 := (cells_heap hC2).1); (try have hE2 := (cells_heap hC2).2.1); (try have hF2 := (cells_heap hC2).2.2.1); (try have hG2 := (cells_heap hC2).2.2.2.1); (try have hC3 := hS.cell (i := 3) rfl); (try have hD3 := (cells_heap hC3).1); (try have hE3 := (cells_heap hC3).2.1); (try have hF3 := (cells_heap hC3).2.2.1); (try have hG3 := (cells_heap hC3).2.2.2.1); (try have hC4 := hS.cell (i := 4) rfl); (try have hD4 := (cells_heap hC4).1); (try have hE4 := (cells_heap hC4).2.1); (try have hF4 := (cells_heap hC4).2.2.1); (try have hG4 := (cells_heap hC4).2.2.2.1); (try have hM0 := hS.map (i := 0) rfl); (try have hM1 := hS.map (i := 1) rfl); (try have hM2 := hS.map (i := 2) rfl); (try have hM3 := hS.map (i := 3) rfl); (try have hM4 := hS.map (i := 4) rfl); (first | (have h10 := hU.heap hb10 hne10; obtain ⟨e1', e2', e3', _⟩ := cells_heap h10) | skip))
    | ((show WL _ _ _ (⟨_, .load 94 _, _, _, _, _⟩ :: _) _ _ _; apply WL.load tOk; (iterate 5 exact rfl); exact hst9 _ _ hS rfl))
    | (((show WL _ _ _ (⟨_, .call ⟨.value (.func 90), _, _⟩, _, _, _, _⟩ :: _) _ _ _); apply WL.call; (iterate 4 exact rfl); exact aig_InputV gs r _ _ (firstTo c.t false k).2 _ _ w2 (by assumption) hS (by omega); rintro v' w8 ⟨hX8', a8, cap8, rfl, hS⟩; (try simp only [List.set_cons_zero, List.set_cons_succ] at hS); (try have hR0 := hS.row (i := 0) rfl); (try have hR1 := hS.row (i := 1) rfl); (try have hR2 := hS.row (i := 2) rfl); (try have hR3 := hS.row (i := 3) rfl); (try have hR4 := hS.row (i := 4) rfl); (try have hC0 := hS.cell (i := 0) rfl); (try have hD0 := (cells_heap hC0).1); (try have hE0 := (cells_heap hC0).2.1); (try have hF0 := (cells_heap hC0).2.2.1); (try have hG0 := (cells_heap hC0).2.2.2.1); (try have hC1 := hS.cell (i := 1) rfl); (try have hD1 := (cells_heap hC1).1); (try have hE1 := (cells_heap hC1).2.1); (try have hF1 := (cells_heap hC1).2.2.1); (try have hG1 := (cells_heap hC1).2.2.2.1); (try have hC2 := hS.cell (i := 2) rfl); (try have hD2 := (cells_heap hC2).1); (try have hE2 := (cells_heap hC2).2.1); (try have hF2 := (cells_heap hC2).2.2.1); (try have hG2 := (cells_heap hC2).2.2.2.1); (try have hC3 := hS.cell (i := 3) rfl); (try have hD3 := (cells_heap hC3).1); (try have hE3 := (cells_heap hC3).2.1); (try have hF3 := (cells_heap hC3).2.2.1); (try have hG3 := (cells_heap hC3).2.2.2.1); (try have hC4 := hS.cell (i := 4) rfl); (try have hD4 := (cells_heap hC4).1); (try have hE4 := (cells_heap hC4).2.1); (try have hF4 := (cells_heap hC4).2.2.1); (try have hG4 := (cells_heap hC4).2.2.2.1); (try have hM0 := hS.map (i := 0) rfl); (try have hM1 := hS.map (i := 1) rfl); (try have hM2 := hS.map (i := 2) rfl); (try have hM3 := hS.map (i := 3) rfl); (try have hM4 := hS.map (i := 4) rfl)))
    | (show WL _ _ _ _ _ _ _; first | apply WL.nil | (refine WL.au (k := ?_)) | (apply WL.index tOk; (iterate 8 exact rfl); assumption; (exact extA); exact rfl; omega; assumption; intro b off h; have hcc := h; first | (obtain ⟨h1, h2, h3, h4, h5, h6, _⟩ := h) | (obtain ⟨h1, h2, h3, _⟩ := h) | (obtain ⟨h1, h2, _⟩ := h) | (obtain ⟨h1, _⟩ := h)))
    | (show Z _ _ _ _ _; first | apply Z.then_normal | apply Z.block_normal)
    | (show W _ _ _ _ _ _; first | apply W.seq | apply W.region | apply W.block | apply W.skip)
    | fail)
   rw [Int.toNat_natCast, fill_setU f1 hlt, fill_setU2 f1] at hS
   exact Z.againO a8 cap8 ⟨by omega, by assumption, by rw [e1]; exact hS⟩ (by repeat' first | exact trivial | (refine And.intro ?_ ?_) | exact rfl)
  ·subst q0
   have e1 : firstTo c.t false (k + 1) = _ := hs.trans (fstep_no (fun hh => hh.elim (fun h => by cases h) q1))
   repeat' (first
    | (apply W.condKT; exact rfl; (focus (first | exact dec_true (by omega) | exact dec_false q1; done)))
    | (apply W.condKF; exact rfl; (focus (first | exact dec_true (by omega) | exact dec_false q1; done)))
    | (apply WL.alloc tOk; (iterate 3 exact rfl); intro gb w' hb hge hx)
    | (apply WL.storeB (w0 := w2) tOk; (iterate 4 exact rfl); assumption; (exact extA); (iterate 3 exact rfl); (exact extA); (first | assumption | omega | (focus (apply Nat.le_trans; rotate_left; assumption; exact Below.size extA; done))); intro w' hb hc hX' hU; have hcc := hc; obtain ⟨h1, h2, _⟩ := hc; (first | replace hS := Sep.updNew hS extA hU (by first | assumption | omega)); (try simp only [List.set_cons_zero, List.set_cons_succ] at hS); (try have hR0 := hS.row (i := 0) rfl); (try have hR1 := hS.row (i := 1) rfl); (try have hR2 := hS.row (i := 2) rfl); (try have hR3 := hS.row (i := 3) rfl); (try have hR4 := hS.row (i := 4) rfl); (try have hC0 := hS.cell (i := 0) rfl); (try have hD0 := (cells_heap hC0).1); (try have hE0 := (cells_heap hC0).2.1); (try have hF0 := (cells_heap hC0).2.2.1); (try have hG0 := (cells_heap hC0).2.2.2.1); (try have hC1 := hS.cell (i := 1) rfl); (try have hD1 := (cells_heap hC1).1); (try have hE1 := (cells_heap hC1).2.1); (try have hF1 := (cells_heap hC1).2.2.1); (try have hG1 := (cells_heap hC1).2.2.2.1); (try have hC2 := hS.cell (i := 2) rfl); (try have hD2 := (cells_heap hC2).1); (try have hE2 := (cells_heap hC2).2.1); (try have hF2 := (cells_heap hC2).2.2.1); (try have hG2 := (cells_heap hC2).2.2.2.1); (try have hC3 := hS.cell (i := 3) rfl); (try have hD3 := (cells_heap hC3).1); (try have hE3 := (cells_heap hC3).2.1); (try have hF3 := (cells_heap hC3).2.2.1); (try have hG3 := (cells_heap hC3).2.2.2.1); (try have hC4 := hS.cell (i := 4) rfl); (try have hD4 := (cells_heap hC4).1); (try have hE4 := (cells_heap hC4).2.1); (try have hF4 := (cells_heap hC4).2.2.1); (try have hG4 := (cells_heap hC4).2.2.2.1); (try have hM0 := hS.map (i := 0) rfl); (try have hM1 := hS.map (i := 1) rfl); (try have hM2 := hS.map (i := 2) rfl); (try have hM3 := hS.map (i := 3) rfl); (try have hM4 := hS.map (i := 4) rfl); (obtain ⟨e1', e2', e3', _⟩ := hcc; have hb10 := hb; have hne10 : gb ≠ gl := by omega))
    | (apply WL.indexO tOk; (iterate 8 exact rfl); assumption; (exact extA); exact encI_ok; (first | exact rfl | (focus (simp only [List.length_set]; done)) | (focus (simp; done)) | (focus (simp [*]; done)) | omega | (focus (simp only [List.length_set]; omega))); omega; assumption; intro gb ha hc; cases ha; have hcc := hc; first | (obtain ⟨h1, h2, h3, _⟩ := hc) | (obtain ⟨h1, h2, _⟩ := hc) | (obtain ⟨h1, _⟩ := hc))
    | (apply WL.storeO tOk; (iterate 4 exact rfl); assumption; (exact extA); (iterate 3 exact rfl); exact encI_ok; assumption; exact rfl; (exact extA); intro w' hO hX' hU; (first | replace hS := Sep.updRow (i := 0) rfl hU hO (.inl rfl) hS extA (by (first | exact Nat.le_refl _ | exact Below.size extA)) | replace hS := Sep.updRow (i := 1) rfl hU hO (.inl rfl) hS extA (by (first | exact Nat.le_refl _ | exact Below.size extA)) | replace hS := Sep.updRow (i := 2) rfl hU hO (.inl rfl) hS extA (by (first | exact Nat.le_refl _ | exact Below.size extA)) | replace hS := Sep.updRow (i := 3) rfl hU hO (.inl rfl) hS extA (by (first | exact Nat.le_refl _ | exact Below.size extA)) | replace hS := Sep.updRow (i := 4) rfl hU hO (.inl rfl) hS extA (by (first | exact Nat.le_refl _ | exact Below.size extA)) | replace hS := Sep.updRow (i := 5) rfl hU hO (.inl rfl) hS extA (by (first | exact Nat.le_refl _ | exact Below.size extA))); (try simp only [List.set_cons_zero, List.set_cons_succ] at hS); (try have hR0 := hS.row (i := 0) rfl); (try have hR1 := hS.row (i := 1) rfl); (try have hR2 := hS.row (i := 2) rfl); (try have hR3 := hS.row (i := 3) rfl); (try have hR4 := hS.row (i := 4) rfl); (try have hC0 := hS.cell (i := 0) rfl); (try have hD0 := (cells_heap hC0).1); (try have hE0 := (cells_heap hC0).2.1); (try have hF0 := (cells_heap hC0).2.2.1); (try have hG0 := (cells_heap hC0).2.2.2.1); (try have hC1 := hS.cell (i := 1) rfl); (try have hD1 := (cells_heap hC1).1); (try have hE1 := (cells_heap hC1).2.1); (try have hF1 := (cells_heap hC1).2.2.1); (try have hG1 := (cells_heap hC1).2.2.2.1); (try have hC2 := hS.cell (i := 2) rfl); (try have hD2 := (cells_heap hC2).1); (try have hE2 := (cells_heap hC2).2.1); (try have hF2 := (cells_heap hC2).2.2.1); (try have hG2 := (cells_heap hC2).2.2.2.1); (try have hC3 := hS.cell (i := 3) rfl); (try have hD3 := (cells_heap hC3).1); (try have hE3 := (cells_heap hC3).2.1); (try have hF3 := (cells_heap hC3).2.2.1); (try have hG3 := (cells_heap hC3).2.2.2.1); (try have hC4 := hS.cell (i := 4) rfl); (try have hD4 := (cells_heap hC4).1); (try have hE4 := (cells_heap hC4).2.1); (try have hF4 := (cells_heap hC4).2.2.1); (try have hG4 := (cells_heap hC4).2.2.2.1); (try have hM0 := hS.map (i := 0) rfl); (try have hM1 := hS.map (i := 1) rfl); (try have hM2 := hS.map (i := 2) rfl); (try have hM3 := hS.map (i := 3) rfl); (try have hM4 := hS.map (i := 4) rfl); (first | (have h10 := hU.heap hb10 hne10; obtain ⟨e1', e2', e3', _⟩ := cells_heap h10) | skip))
    | (show WL _ _ _ _ _ _ _; first | apply WL.nil | (refine WL.au (k := ?_)) | (apply WL.index tOk; (iterate 8 exact rfl); assumption; (exact extA); exact rfl; omega; assumption; intro b off h; have hcc := h; first | (obtain ⟨h1, h2, h3, h4, h5, h6, _⟩ := h) | (obtain ⟨h1, h2, h3, _⟩ := h) | (obtain ⟨h1, h2, _⟩ := h) | (obtain ⟨h1, _⟩ := h)))
    | (show Z _ _ _ _ _; first | apply Z.then_normal | apply Z.block_normal)
    | (show W _ _ _ _ _ _; first | apply W.seq | apply W.region | apply W.block | apply W.skip)
    | fail)
   rw [Int.toNat_natCast, fill_setU f1 hlt] at hS
   exact Z.againO a cp ⟨by omega, by assumption, by rw [e1]; exact hS⟩ (by repeat' first | exact trivial | (refine And.intro ?_ ?_) | exact rfl)
 ·obtain rfl : k = c.lat.2.2.length := by omega
  obtain ⟨F, hF⟩ : ∃ F, F = firstTo c.t free c.lat.2.2.length := ⟨_, rfl⟩
  rw [← hF] at hS f1 f2
  have e9 : F.1 ++ List.replicate (c.lat.2.2.length - c.lat.2.2.length) (0 : Int) = F.1 := by rw [Nat.sub_self, List.replicate_zero, List.append_nil]
  rw [e9] at hS
  have hb9 := hS.cell (i := 3) (gb := gf) (cs := (m.vals none 0 0 none 0 0).toArray) (t := 126) rfl
  refine W.sub [(7, .pointer (some ⟨gf, 0, none⟩)), (8, .slice (some ⟨gl, 0, none⟩) F.1.length c.lat.2.2.length), (38, .int .i64 c.lat.2.2.length), (39, .int .i64 c.lat.2.2.length)] ⟨rfl, by rw [f1]; rfl, rfl, rfl, trivial⟩ ?_
  repeat' (first
   | (apply W.condKF; exact rfl; (focus (exact dec_false (by omega); done)))
   | (apply WL.lit tOk; (iterate 6 exact rfl); (first | exact rfl | kernel_rfl | (simp [Instr.fill, catCells]; done)); exact rfl; intro gb w' hb hge hc hx; have hO := Own.of_block ([((some ⟨gl, 0, none⟩, c.lat.2.2.length, F.1) : RowV Int)]) encRow_ok hb hge rfl; (obtain ⟨gz, rfl⟩ : ∃ x, x = gb := ⟨_, rfl⟩; obtain ⟨wz, rfl⟩ : ∃ x, x = w' := ⟨_, rfl⟩; obtain ⟨hxz, rfl⟩ : ∃ x, x = hx := ⟨_, rfl⟩; obtain ⟨hOz, rfl⟩ : ∃ x, x = hO := ⟨_, rfl⟩; obtain ⟨hgez, rfl⟩ : ∃ x, x = hge := ⟨_, rfl⟩))
   | (apply WL.nilc; (iterate 3 exact rfl))
   | ((apply WL.storeF (w0 := w2) tOk; (iterate 4 exact rfl); exact hb9; exact extA; (iterate 4 exact rfl); exact extA; exact hgf; intro w10 hb10 hX10 hU10))
   | (show WL _ _ _ _ _ _ _; first | apply WL.nil | (refine WL.au (k := ?_)))
   | (show Z _ _ _ _ _; first | apply Z.then_normal | apply Z.then_exit | apply Z.block_exit)
   | (show W _ _ _ _ _ _; first | apply W.seq | apply W.region | apply W.ret | apply W.exit)
   | fail)
  have hdm : m.d = d := by rw [hm]
  have hS1 := Sep.newRow (s := 1) (enc := encRow) (el := 22) hS hxz (hOz.base (Below.size hX9)) (fun k hk => by cases hk; exact hgez) (Below.size hX9)
  have hS2 := Sep.updCell (i := 4) rfl hU10 hb10 hS1 (Ext.refl _) (Below.size (hX9.trans hxz))
  have hS3 := Sep.newRow (s := 2) (enc := encUF) (el := 129) (a := none) (cap := 0) (l := []) hS2 (Ext.refl _) Own.nil (fun k hk => by cases hk) (Below.size hX10)
  have hS4 : Lt.Sep w2.heap.size w10 (unP w2.heap.size m F.2 a cp none 0 [] (some ⟨gz, 0, none⟩) 1 [(some ⟨gl, 0, none⟩, c.lat.2.2.length, F.1)] (prow 1 encI 3 w2.heap.size (some ⟨gl, 0, none⟩) c.lat.2.2.length F.1 :: Lt.frz w4.heap.size w5) ++ []) := by
   have h9 := Sep.unOrd2 hS3
   rw [List.append_nil, hm]
   rw [hm] at h9
   exact h9
  have hkn : UKn w2 m (newU c.t free) [] [(some ⟨gl, 0, none⟩, c.lat.2.2.length, F.1)] (prow 1 encI 3 w2.heap.size (some ⟨gl, 0, none⟩) c.lat.2.2.length F.1 :: Lt.frz w4.heap.size w5) := by
   refine ⟨rfl, rfl, by rw [hF]; rfl, fun s hs hn => (by rw [List.mem_singleton.1 hs] at hn; cases hn), fun w9' hX' hR => ?_⟩
   have k1 := (Known.frz (w0 := w2) encN_ok hON).more (prow 1 encI 3 w2.heap.size (some ⟨gl, 0, none⟩) c.lat.2.2.length F.1) w9' hX' hR
   have k2 := (Known.frz (w0 := w2) encI_ok hOA).more (prow 1 encI 3 w2.heap.size (some ⟨gl, 0, none⟩) c.lat.2.2.length F.1) w9' hX' hR
   have k3 : Own 1 encI 3 w2.heap.size w9' (some ⟨gl, 0, none⟩) c.lat.2.2.length F.1 := hR _ (List.mem_cons_self ..)
   rw [hdn] at k1 k2
   exact ⟨by rw [hdm]; exact hOC.at.ext hX', by rw [hm]; exact k1, by rw [hm]; exact k2, fun f hf => (by cases hf), fun f hf => (by cases hf), fun s hs => (by rw [List.mem_singleton.1 hs]; exact Own.row encI_ok k3)⟩
  have hN : (newU c.t free).N = F.2 := by rw [hF]; rfl
  exact Z.body2 Try.results33 rfl rfl fun m' => ⟨w2, m, ⟨a, cp, none, 0, [], some ⟨gz, 0, none⟩, 1, [(some ⟨gl, 0, none⟩, c.lat.2.2.length, F.1)], prow 1 encI 3 w2.heap.size (some ⟨gl, 0, none⟩) c.lat.2.2.length F.1 :: Lt.frz w4.heap.size w5⟩, (hxc.trans hx).trans hx2, by rw [hm], by rw [hdm, hdt], hX10.at m', by rw [hN]; exact hS4.ext ((Ext.refl _).at m'), hkn⟩
end Go.Proofs.Yteidpnpbfagaeaa
namespace Go.Lt
open Go.RowKit
set_option linter.unusedVariables false
set_option linter.unusedSimpArgs false
section
variable {P : Program} {N : Nat} {e : Env} {w : World} {Q : Exit → Act → World → Prop} {C : World → Prop} {Kf : Act → Prop} {ops : List Oper} {l : List Oper} {T T' : Tab}
 {d : Nat} {tt t ty : TypeId} {ps : String} {af : Array Edge} {g : Option (Nat × Bool)} {x y : Operand} {ti ei : TI} {el : TypeId} {n : Nat}
theorem ybuildA (hT : OkTab P T) (hT' : OkTab P T') {parts : List (Nat × Operand)} {pvs : List (Nat × Value)} {cs : List Value} {dd : Option Tmp} (ht : tget T t = some ti) (htd : ti.desc = .array n el) (he : tget T' el = some ei)
  (hp : evp e parts = some pvs) (hfill : Instr.fill (fun i : Nat => some (i * ei.size, ei.size)) ti.zero.cells pvs = some cs.toArray) : YieldsIn P e C ⟨dd, .build t ⟨parts⟩, tt, ps, af, g⟩ (.agg cs.toArray) := by
 intro ρ hρ w' _
 have h1 := run_underlying' (hT.at ht); rw [htd] at h1
 have h2 := run_sizeOf' (hT'.at he)
 have h3 := run_zeroValue' (hT.at ht)
 have h4 := evp_map hρ hp
 have h5 : (Instr.build t ⟨pvs⟩).run P w' = .ok (.agg cs.toArray) w' := by
  unfold Instr.build
  simp only [Sem.run_bind, h3, Result.andThen_ok, Sem.run_pure, h1, h2]
  rw [hfill]
  rfl
 simp [execOp, h4, h5]
theorem WL.buildA (hT : OkTab P T) (hT' : OkTab P T') {parts : List (Nat × Operand)} {pvs : List (Nat × Value)} {cs : List Value} (hg : gate ops e g = some true) (hd : Nat.blt d N = true) (ht : tget T t = some ti) (htd : ti.desc = .array n el) (he : tget T' el = some ei)
  (hp : evp e parts = some pvs) (hfill : Instr.fill (fun i : Nat => some (i * ei.size, ei.size)) ti.zero.cells pvs = some cs.toArray)
  (k : WL P N ops.toArray l ((d, .agg cs.toArray) :: e) w Q) : WL P N ops.toArray (⟨some d, .build t ⟨parts⟩, tt, ps, af, g⟩ :: l) e w Q :=
 WL.step hg hd (ybuildA hT hT' ht htd he hp hfill) k
end
end Go.Lt
namespace Go.Proofs.Yteidpnpbfagaeaa
open Go Go.Lt Go.RowKit
set_option linter.unusedVariables false
set_option linter.unusedSimpArgs false
set_option maxRecDepth 20000

theorem Sep.back62 {B : Nat} {w : World} {p q a b c d e f : Piece} {rs : List Piece} (hS : Lt.Sep B w (q :: p :: a :: b :: c :: d :: e :: f :: rs)) : Lt.Sep B w (a :: b :: c :: d :: e :: f :: p :: q :: rs) :=
 Sep.ofPerm (List.Perm.append_right rs (l₁ := [q, p, a, b, c, d, e, f]) (l₂ := [a, b, c, d, e, f, p, q]) ((List.Perm.swap p q _).trans (List.perm_append_comm (l₁ := [p, q]) (l₂ := [a, b, c, d, e, f])))) hS
theorem WL.xorZ {P : Program} {N : Nat} {e : Env} {w : World} {Q : Exit → Act → World → Prop} {ops : List Oper} {l : List Oper} {d : Nat} {tt t ty : TypeId} {ps : String} {af : Array Edge} {g : Option (Nat × Bool)} {x y : Operand} {a b : Int} (hg : gate ops e g = some true) (hd : Nat.blt d N = true) (hx : ev e x = some (.int .i64 a)) (hy : ev e y = some (.int .i64 b)) (h : 0 ≤ a ∧ a ≤ 9223372036854775807) (hb : b = 0)
  (k : WL P N ops.toArray l ((d, .int .i64 a) :: e) w Q) : WL P N ops.toArray (⟨some d, .binOp .xor t x y ty, tt, ps, af, g⟩ :: l) e w Q :=
 WL.xorI hg hd hx hy h (.inl hb) (by rw [show Lt.xorI a b = a by unfold Lt.xorI; rw [hb]; rfl]; exact k)
theorem fillG {α : Type} {l : List α} {k L : Nat} (d : α) (hl : l.length = k) (hk : k < L) (z : α) : (l ++ List.replicate (L - k) d).set k z = l ++ [z] ++ List.replicate (L - (k + 1)) d := by
 rw [show L - k = (L - (k + 1)) + 1 by omega, List.replicate_succ, List.set_append_right _ _ (by omega), hl, Nat.sub_self]; simp
theorem fillG2 {α : Type} {l r : List α} {k : Nat} (hl : l.length = k) (y z : α) : (l ++ [y] ++ r).set k z = l ++ [z] ++ r := by
 rw [List.append_assoc, List.set_append_right _ _ (by omega), hl, Nat.sub_self]; simp
theorem fillG_get {α : Type} {l r : List α} {k : Nat} (hl : l.length = k) (y : α) : (l ++ [y] ++ r)[k]? = some y := by
 rw [List.append_assoc, List.getElem?_append_right (by omega), hl, Nat.sub_self]; rfl
section cls
variable {P : Program} {T : Tab} {N d : Nat} {e : Env} {w : World} {C : World → Prop} {ops l : List Oper} {Kf : Act → Prop} {tt t : TypeId} {ps : String} {af : Array Edge} {g : Option (Nat × Bool)} {x : Operand}
theorem FL.loadK {p : Addr} {v : Value} {i : TI} (hT : OkTab P T) (hg : gate ops e g = some true) (hd : Nat.blt d N = true) (hx : ev e x = some (.pointer (some p))) (ht : tget T t = some i) (ha : isAggD i.desc = false) (hv : ∀ w', C w' → w'.cell? p = some v)
  (k : FL P N ops.toArray C l ((d, v) :: e) w Kf) : FL P N ops.toArray C (⟨some d, .load t x, tt, ps, af, g⟩ :: l) e w Kf := by
 refine FL.step hg hd ?_ k
 intro ρ hρ w' hw'
 have h1 := run_isAgg' (hT.at ht); rw [ha] at h1
 have h2 := hv w' hw'
 simp [execOp, hρ _ _ hx, Instr.loadAt, Instr.sureAddr, loadVar, h1, h2]
theorem FL.loadAK {b off : Nat} {vs : List Value} {i : TI} (hT : OkTab P T) (hg : gate ops e g = some true) (hd : Nat.blt d N = true) (hx : ev e x = some (.pointer (some ⟨b, off, none⟩))) (ht : tget T t = some i) (ha : isAggD i.desc = true) (hv : ∀ w', C w' → Cells w' b off vs) (hs : i.size = vs.length)
  (k : FL P N ops.toArray C l ((d, .agg vs.toArray) :: e) w Kf) : FL P N ops.toArray C (⟨some d, .load t x, tt, ps, af, g⟩ :: l) e w Kf := by
 refine FL.step hg hd ?_ k
 intro ρ hρ w' hw'
 have h1 := run_isAgg' (hT.at ht); rw [ha] at h1
 have h3 := run_sizeOf' (hT.at ht); rw [hs] at h3
 have h2 := Go.Lt.run_loadCellsFrom (P := P) (acc := #[]) (off := off) (i := 0) (hv w' hw')
 simp [execOp, hρ _ _ hx, Instr.loadAt, Instr.sureAddr, loadVar, h1, h3, loadCells, h2]
end cls
structure GrC (gf gx : Nat) (v12 v13 u0 u1 : Value) (w : World) : Prop where
 c12 : w.cell? ⟨gf, 0 + 12, none⟩ = some v12
 c13 : w.cell? ⟨gf, 0 + 13, none⟩ = some v13
 g : Cells w gx 0 [u0, u1]
theorem GrC.ext {gf gx : Nat} {v12 v13 u0 u1 : Value} {w w' : World} (h : GrC gf gx v12 v13 u0 u1 w) (hx : Ext w w') : GrC gf gx v12 v13 u0 u1 w' := ⟨hx.cell h.c12, hx.cell h.c13, h.g.ext hx⟩
theorem GrC.at {gf gx : Nat} {v12 v13 u0 u1 : Value} {w : World} (h : GrC gf gx v12 v13 u0 u1 w) (q : Nat) : GrC gf gx v12 v13 u0 u1 (at' w q) := h.ext ((Ext.refl w).at q)
theorem GrC.of {B : Nat} {w : World} {ps : List Piece} {m : UM} {gx i j nf cf ns cs : Nat} {af as' : Option Addr} {u0 u1 : Value} (hS : Lt.Sep B w ps) (hi : ps[i]? = some (pcell m.gf (m.vals af nf cf as' ns cs).toArray 126)) (hj : ps[j]? = some (pcell gx #[u0, u1] 129)) : GrC m.gf gx (.slice af nf cf) (.slice as' ns cs) u0 u1 w :=
 ⟨(UC.of (cells_heap (hS.cell hi))).frames, (UC.of (cells_heap (hS.cell hi))).states, cells_heap (hS.cell hj)⟩
theorem Sep.pickL {B : Nat} {w : World} {pre tl : List Piece} (L : List Nat) (d : Piece) (hS : Lt.Sep B w (pre ++ tl)) (hok : (L.all (fun i => Nat.blt i pre.length) && decide L.Nodup) = true) : Lt.Sep B w (L.map (fun i => pre.getD i d) ++ tl) := by
 simp only [Bool.and_eq_true, List.all_eq_true, decide_eq_true_eq] at hok
 obtain ⟨h1, h2⟩ := hok
 have hl : (L.map (fun i => pre.getD i d)).length = L.length := List.length_map _
 have hL : ∀ i, i < L.length → ∃ k, L[i]? = some k ∧ k < pre.length := fun i hi => by
  obtain ⟨k, hk⟩ := getI L hi
  exact ⟨k, hk, by simpa [Nat.blt_eq] using h1 k (List.mem_of_getElem? hk)⟩
 refine hS.pick (fun i => if i < L.length then L.getD i 0 else i - L.length + pre.length) (fun i x h => ?_) (fun i j hi hj hne => ?_)
 ·by_cases hi : i < L.length
  ·obtain ⟨k, hk, hkl⟩ := hL i hi
   rw [List.getElem?_append_left (by omega), List.getElem?_map, hk] at h
   obtain ⟨y, hy⟩ := getI pre hkl
   have h' : pre.getD k d = x := Option.some.inj h
   rw [getD_of hy] at h'
   show (pre ++ tl)[if i < L.length then L.getD i 0 else i - L.length + pre.length]? = some x
   rw [if_pos hi, getD_of hk, List.getElem?_append_left hkl, hy, h']
  ·rw [List.getElem?_append_right (by omega), hl] at h
   show (pre ++ tl)[if i < L.length then L.getD i 0 else i - L.length + pre.length]? = some x
   rw [if_neg hi, List.getElem?_append_right (by omega), Nat.add_sub_cancel]; exact h
 ·show (if i < L.length then L.getD i 0 else i - L.length + pre.length) ≠ (if j < L.length then L.getD j 0 else j - L.length + pre.length)
  by_cases hi' : i < L.length
  ·obtain ⟨k, hk, hkl⟩ := hL i hi'
   by_cases hj' : j < L.length
   ·obtain ⟨k2, hk2, hkl2⟩ := hL j hj'
    rw [if_pos hi', if_pos hj', getD_of hk, getD_of hk2]
    intro he
    subst he
    have := List.pairwise_iff_getElem.1 (List.nodup_iff_pairwise_ne.1 h2)
    obtain ⟨a1, a2⟩ := List.getElem?_eq_some_iff.1 hk
    obtain ⟨b1, b2⟩ := List.getElem?_eq_some_iff.1 hk2
    rcases Nat.lt_or_gt_of_ne hne with hlt | hlt
    ·exact this i j a1 b1 hlt (by rw [a2, b2])
    ·exact this j i b1 a1 hlt (by rw [a2, b2])
   ·rw [if_pos hi', if_neg hj', getD_of hk]; omega
  ·by_cases hj' : j < L.length
   ·obtain ⟨k2, hk2, hkl2⟩ := hL j hj'
    rw [if_neg hi', if_pos hj', getD_of hk2]; omega
   ·rw [if_neg hi', if_neg hj']; omega
def pnone : Piece := ⟨none, fun _ => True, fun _ _ => trivial⟩
theorem un_growKn {w0 w : World} {m : UM} {u : UnV} {x : UX} {rest : List Piece} (h : UAt w0 w m u x rest) {C I : List Int × List (Int × Int)} (hC : C = cpU m.d.t u) (hI : I = uinTo u.N m.d.ins.2.2.length) {gV gX cp : Nat} {bI : Option Addr} {fN : Fr} {sN : RowV Int} {RN : List Piece}
  (hfN : fN = ((some ⟨gV, 0, none⟩, (cNet m.d.t).2.length, signsL m.d.t C.1), (bI, cp, I.1))) (hsN : sN = (some ⟨gX, 0, none⟩, m.d.lat.2.2.length, nextU m.d.t C.1))
  (hRN : RN = prow 2 encN 131 w0.heap.size (some ⟨gV, 0, none⟩) (cNet m.d.t).2.length (signsL m.d.t C.1) :: prow 1 encI 3 w0.heap.size bI cp I.1 :: prow 1 encI 3 w0.heap.size (some ⟨gX, 0, none⟩) m.d.lat.2.2.length (nextU m.d.t C.1) :: x.R) :
  UKn w0 m (growU m.d.t u) (x.fr ++ [fN]) (x.st ++ [sN]) RN := by
 refine ⟨?_, ?_, ?_, fun s hs hn => ?_, fun w9 hX hR => ?_⟩
 ·rw [List.map_append, h.kn.hv]; unfold growU; dsimp only; rw [List.map_append, hfN, ← hC]; rfl
 ·rw [List.map_append, h.kn.hi]; unfold growU; dsimp only; rw [hfN, hI]; rfl
 ·rw [List.map_append, h.kn.hs]; unfold growU; dsimp only; rw [hsN, ← hC]; rfl
 ·rcases List.mem_append.1 hs with hs | hs
  ·exact h.kn.sn s hs hn
  ·rw [List.mem_singleton.1 hs, hsN] at hn; cases hn
 ·have hR' : ∀ p ∈ x.R, p.P w9 := fun p hp => hR p (by rw [hRN]; exact List.mem_cons_of_mem _ (List.mem_cons_of_mem _ (List.mem_cons_of_mem _ hp)))
  obtain ⟨k1, k2, k3, k4, k5, k6⟩ := h.kn.rows w9 hX hR'
  have p1 : Own 2 encN 131 w0.heap.size w9 (some ⟨gV, 0, none⟩) (cNet m.d.t).2.length (signsL m.d.t C.1) := hR (prow 2 encN 131 w0.heap.size (some ⟨gV, 0, none⟩) (cNet m.d.t).2.length (signsL m.d.t C.1)) (by rw [hRN]; exact List.mem_cons_self ..)
  have p2 : Own 1 encI 3 w0.heap.size w9 bI cp I.1 := hR (prow 1 encI 3 w0.heap.size bI cp I.1) (by rw [hRN]; exact List.mem_cons_of_mem _ (List.mem_cons_self ..))
  have p3 : Own 1 encI 3 w0.heap.size w9 (some ⟨gX, 0, none⟩) m.d.lat.2.2.length (nextU m.d.t C.1) := hR (prow 1 encI 3 w0.heap.size (some ⟨gX, 0, none⟩) m.d.lat.2.2.length (nextU m.d.t C.1)) (by rw [hRN]; exact List.mem_cons_of_mem _ (List.mem_cons_of_mem _ (List.mem_cons_self ..)))
  refine ⟨k1, k2, k3, fun f hf => ?_, fun f hf => ?_, fun s hs => ?_⟩
  ·rcases List.mem_append.1 hf with hf | hf
   ·exact k4 f hf
   ·rw [List.mem_singleton.1 hf, hfN]; exact Own.row encN_ok p1
  ·rcases List.mem_append.1 hf with hf | hf
   ·exact k5 f hf
   ·rw [List.mem_singleton.1 hf, hfN]; exact Own.row encI_ok p2
  ·rcases List.mem_append.1 hs with hs | hs
   ·exact k6 s hs
   ·rw [List.mem_singleton.1 hs, hsN]; exact Own.row encI_ok p3
set_option maxHeartbeats 32000000 in
theorem un_Grow {w0 w : World} {m : UM} {u : UnV} {x : UX} {rest : List Piece} (h : UAt w0 w m u x rest) (hg : GoodC' m.d.t) (hz : SzC m.d.t 100000) (hU : UOk m.d.t u) (hN : u.N.length ≤ 600000) (hF : u.own.length ≤ 100000) :
  Lt.Spec Try.prog 34 [.pointer (some ⟨m.gf, 0, none⟩)] w (fun v w' => v = .int .i64 0 ∧ ∃ x', UAt w0 w' m (growU m.d.t u) x' rest) := by
 have z1 : m.d.ins.2.2.length ≤ 100000 := hz.1
 have z2 : m.d.lat.2.2.length ≤ 100000 := hz.2.1
 have z6 : m.d.gates.2.2.length ≤ 100000 := hz.2.2.2.2.2
 obtain ⟨c1, c2, c4, c5, c6, c9, c10, c11, c12, c13⟩ := UC.of h.cells
 have hs0 := h.sep.cell (i := 0) rfl
 refine Spec.of _ Try.func34 rfl Try.ntmps34 (by kernel_rfl) rfl ?_
 repeat' (first
  | (apply WL.nilc; (iterate 3 exact rfl))
  | (apply QL.nilc; (iterate 3 exact rfl))
  | (apply QL.eqNil tOk; (iterate 6 exact rfl))
  | ((show QL _ _ _ _ (⟨_, .call ⟨.value (.func 91), _, _⟩, _, _, _, _⟩ :: _) _ _); apply QL.callS; (iterate 4 exact rfl); exact aig_Len m.gs x.cap x.a u.N.length _ _ hs0)
  | (apply QL.gF; exact rfl; exact rfl; (focus (first | exact dec_false (fun h => by cases h) | exact dec_false (by omega); done)))
  | (apply W.condKF; exact rfl; (focus (first | exact dec_false (fun h => by cases h) | exact dec_false (by omega); done)))
  | (apply WL.alloc tOk; (iterate 3 exact rfl); intro gb w' hb hge hx; (obtain ⟨gx, rfl⟩ : ∃ x, x = gb := ⟨_, rfl⟩; obtain ⟨w1, rfl⟩ : ∃ x, x = w' := ⟨_, rfl⟩; obtain ⟨hb1, rfl⟩ : ∃ x, x = hb := ⟨_, rfl⟩; obtain ⟨hge1, rfl⟩ : ∃ x, x = hge := ⟨_, rfl⟩; obtain ⟨hx1, rfl⟩ : ∃ x, x = hx := ⟨_, rfl⟩))
  | (show WL _ _ _ _ _ _ _; first | apply WL.nil | (refine WL.au (k := ?_)))
  | (show QL _ _ _ _ _ _ _; first | apply QL.nil | (refine QL.au (k := ?_)))
  | (show Z _ _ _ _ _; apply Z.then_normal)
  | (show W _ _ _ _ _ _; first | apply W.seq | apply W.region | apply W.block | apply W.skip | (apply W.regionD tMix; kernel_rfl))
  | fail)
 have hX1 : Ext w0 w1 := h.ext.trans hx1
 have hb1' : w1.heap[gx]? = some (.cells #[.slice none 0 0, .slice none 0 0] 129 (0, 0)) := hb1
 have hS1 := Sep.newCell h.sep hx1 hb1' hge1 (Below.size h.ext)
 have hS2 := Sep.newRow (s := 1) (enc := encI) (el := 3) (a := none) (cap := 0) (l := []) hS1 (Ext.refl _) Own.nil (fun k hk => by cases hk) (Below.size hX1)
 have hS3 := Sep.back62 hS2
 clear hb1 hb1' hS1 hS2 hs0
 have RI := h.rows.c.ins.row
 have RL := h.rows.c.lat.row
 have hgx0 : w0.heap.size ≤ gx := Nat.le_trans (Below.size h.ext) hge1
 refine W.loopO m.d.ins.2.2.length (fun k b cp w' => k ≤ m.d.ins.2.2.length ∧ Ext w0 w' ∧ ∃ a' cap', Lt.Sep w0.heap.size w' (stN w0.heap.size m.gs a' cap' m.r (uinTo u.N k).2 ++ (pcell m.gf (m.vals x.af x.fr.length x.cf x.as' x.st.length x.cs).toArray 126 :: prow 2 encUF 129 w0.heap.size x.af x.cf x.fr :: prow 1 encRow 22 w0.heap.size x.as' x.cs x.st :: pcell gx #[.slice none 0 0, .slice b (uinTo u.N k).1.length cp] 129 :: prow 1 encI 3 w0.heap.size b cp (uinTo u.N k).1 :: (x.R ++ rest))))
  (fun k b cp => [(0, .pointer (some ⟨m.gf, 0, none⟩)), (3, .pointer (some ⟨gx, 0, none⟩)), (40, rowVal m.d.ins), (41, .int .i64 m.d.ins.2.2.length), (42, .int .i64 k)]) none 0 ⟨Nat.zero_le _, hX1, x.a, x.cap, hS3⟩ (fun k a cp w' h => h.1) (by repeat' first | exact trivial | (refine And.intro ?_ ?_) | exact rfl) ?_
 clear hS3 c1 c2 c4 c5 c6 c9 c10 c11 c12 c13
 rintro k bI cp w9 ⟨hk, hX9, a9, cap9, hS9⟩
 obtain ⟨i1, i2, i3, i4⟩ := uinTo_inv u.N k
 have hsz9 := Below.size hX9
 obtain ⟨c1, c2, c4, c5, c6, c9, c10, c11, c12, c13⟩ := UC.of (m := m) (af := x.af) (nf := x.fr.length) (cf := x.cf) (as' := x.as') (ns := x.st.length) (cs := x.cs) (cells_heap (hS9.cell (i := 3) rfl))
 obtain ⟨g1, g2, _⟩ := cells_heap (hS9.cell (i := 6) (gb := gx) rfl)
 by_cases hlt : k < m.d.ins.2.2.length
 ·have e1 : uinTo u.N (k + 1) = ((uinTo u.N k).1 ++ [2 * (((uinTo u.N k).2.length : Int) + 1)], (uinTo u.N k).2 ++ [(-1, 0)]) := rfl
  repeat' (first
   | (apply W.condKT; exact rfl; (focus (exact dec_true (by omega); done)))
   | (show W _ _ (.region 6 _ _) _ _ _; apply W.regionG (.fl true 0 (.fl true 2 (.fl true 3 (.fl true 4 (.br 1 (.br 5 (.br 6 (.br 7 (.br 8 (.fl true 9 (.br 10 .done .stop)) .stop) .stop) .stop) .stop) (.br 5 (.br 1 (.br 6 (.br 7 (.br 8 (.fl true 9 (.br 10 .done .stop)) .stop) .stop) .stop) (.br 6 (.br 1 (.br 7 (.br 8 (.fl true 9 (.br 10 .done .stop)) .stop) .stop) (.br 7 (.br 1 (.br 8 (.fl true 9 (.br 10 .done .stop)) .stop) .stop) .stop)) .stop)) .stop)))))) [] (Ext w0) tMix; kernel_rfl)
   | (apply FL.nilc; (iterate 3 exact rfl))
   | (((show WL _ _ _ (⟨_, .call ⟨.value (.func 90), _, _⟩, _, _, _, _⟩ :: _) _ _ _); apply WL.call; (iterate 4 exact rfl); exact aig_InputV m.gs m.r _ _ (uinTo u.N k).2 _ _ w0 hX9 hS9 (by omega); rintro v' w8 ⟨hX8, a8, cap8, rfl, hS8⟩; obtain ⟨g3, g4, _⟩ := cells_heap (hS8.cell (i := 6) (gb := gx) rfl); have hO8 : Own 1 encI 3 w0.heap.size w8 bI cp (uinTo u.N k).1 := hS8.row (i := 7) rfl))
   | (apply WL.lit tOk; (iterate 6 exact rfl); (first | exact rfl | kernel_rfl | (simp [Instr.fill, catCells]; done)); exact rfl; intro gb w' hb hge hc hx; (obtain ⟨wL, rfl⟩ : ∃ x, x = w' := ⟨_, rfl⟩; obtain ⟨hxL, rfl⟩ : ∃ x, x = hx := ⟨_, rfl⟩))
   | (apply WL.append1 (z := (2 * (((uinTo u.N k).2.length : Int) + 1))) tOk encI_ok; (iterate 10 exact rfl); assumption; (exact extA); (first | exact rfl | (focus (simp only [List.length_set]; done)) | (focus (simp; done)) | (focus (simp [*]; done)) | omega | (focus (simp only [List.length_set]; omega))); (first | assumption | (refine Cells.ext ?_ (by assumption); exact extA)); exact rfl; exact rfl; (exact extA); (first | omega | (simp; omega) | (simp at *; omega)); intro a' cap' w' hO hX' hU hF; (obtain ⟨wA, rfl⟩ : ∃ x, x = w' := ⟨_, rfl⟩; obtain ⟨hOA, rfl⟩ : ∃ x, x = hO := ⟨_, rfl⟩; obtain ⟨hXA, rfl⟩ : ∃ x, x = hX' := ⟨_, rfl⟩; obtain ⟨hFA, rfl⟩ : ∃ x, x = hF := ⟨_, rfl⟩; obtain ⟨hUA, rfl⟩ : ∃ x, x = hU := ⟨_, rfl⟩; obtain ⟨bA, rfl⟩ : ∃ x, x = a' := ⟨_, rfl⟩; obtain ⟨cA, rfl⟩ : ∃ x, x = cap' := ⟨_, rfl⟩; have hSA := Sep.updRow (i := 7) rfl hUA hOA hFA hS8 hxL (Nat.le_trans (Below.size hX8) (Below.size hxL)); have hbA := hSA.cell (i := 6) (gb := gx) rfl))
   | ((apply WL.storeF (w0 := w0) tOk; (iterate 4 exact rfl); exact hbA; exact Ext.refl _; (iterate 4 exact rfl); exact extA; exact hgx0; intro wB hbB hXB hUB))
   | (show WL _ _ _ _ _ _ _; first | apply WL.nil | (refine WL.au (k := ?_)))
   | (show SG _ _ _ _ _ _ _ _ _; first | apply SG.done | (apply SG.fl0; exact rfl) | (apply SG.br1; exact rfl) | (apply SG.br; exact rfl))
   | (show FL _ _ _ _ _ _ _ _; first | apply FL.nilS | (refine FL.au (k := ?_)))
   | (show Z _ _ _ _ _; (apply Z.sgL; exact rfl))
   | (show Z _ _ _ _ _; first | apply Z.then_normal | apply Z.block_normal)
   | (show W _ _ _ _ _ _; first | apply W.seq | apply W.region | apply W.block | apply W.skip)
   | fail)
  all_goals
   have hSB := Sep.updCell (i := 6) rfl hUB hbB hSA (Ext.refl _) (Below.size hXA)
   exact Z.againO bA cA ⟨by omega, hXB, a8, cap8, by rw [e1]; exact hSB⟩ (by repeat' first | exact trivial | (refine And.intro ?_ ?_) | exact rfl | (rw [e1]; exact rfl))
 obtain rfl : k = m.d.ins.2.2.length := by omega
 obtain ⟨I, hI⟩ : ∃ I, I = uinTo u.N m.d.ins.2.2.length := ⟨_, rfl⟩
 rw [← hI] at hS9 i1 i2 i3 i4 g2
 have hR9 : URows m x.fr x.st w9 := h.kn.rows.sep hX9 hS9 (fun p hp => List.mem_append_right _ (List.mem_cons_of_mem _ (List.mem_cons_of_mem _ (List.mem_cons_of_mem _ (List.mem_cons_of_mem _ (List.mem_cons_of_mem _ (List.mem_append_left _ hp)))))))
 have hOx : Own 1 encI 3 w0.heap.size w9 bI cp I.1 := hS9.row (i := 7) rfl
 have Rx := hOx.row encI_ok
 have hOst : Own 1 encRow 22 w0.heap.size w9 x.as' x.cs x.st := hS9.row (i := 5) rfl
 have Rst := Own.row encRow_ok hOst
 have hlf := h.lf
 have hls := hU.ls
 obtain ⟨ul1, ul2, ul3⟩ := hU.last
 obtain ⟨s, hs⟩ := getI x.st (show x.st.length - 1 < x.st.length by omega)
 have hsz : ((x.st.length : Int) - 1).toNat = x.st.length - 1 := by omega
 have hs' : x.st[((x.st.length : Int) - 1).toNat]? = some s := by rw [hsz]; exact hs
 have hsl : s.2.2 = u.last := by
  have h1 := map_get' h.kn.hs hs
  rw [hlf.2.2, ul1] at h1
  exact (Option.some.inj h1).symm
 have Rs : Row 1 encI w9 s.1 s.2.2 := hR9.st s (List.mem_of_getElem? hs)
 have hsn : s.2.2.length = m.d.lat.2.2.length := by rw [hsl]; exact ul2
 have nsn : s.1 = none → s.2.1 = 0 := h.kn.sn s (List.mem_of_getElem? hs)
 repeat' (first
  | (apply W.condKF; exact rfl; (focus (exact dec_false (by omega); done)))
  | (show W _ _ (.region 8 _ _) _ _ _; apply W.regionGX (.fl true 1 (.fl true 4 (.fl true 5 (.fl true 6 (.fl true 8 (.fl true 9 (.fl true 10 (.fl false 2 (.fl false 7 (.fl false 11 (.fl true 12 (.fl true 13 (.fl true 14 (.fl false 15 (.br 0 (.br 3 (.br 16 (.fl true 17 .done) .stop) .stop) .stop))))))))))))))) [0, 3, 7, 11, 12, 13, 14, 15, 16] tMix; kernel_rfl)
  | (apply FL.nilc; (iterate 3 exact rfl))
  | (apply WL.lit tOk; (iterate 6 exact rfl); (first | exact rfl | kernel_rfl | (simp [Instr.fill, catCells]; done)); exact rfl; intro gb w' hb hge hc hx; (obtain ⟨gL, rfl⟩ : ∃ x, x = gb := ⟨_, rfl⟩; obtain ⟨hbL, rfl⟩ : ∃ x, x = hb := ⟨_, rfl⟩; obtain ⟨hgeL, rfl⟩ : ∃ x, x = hge := ⟨_, rfl⟩; obtain ⟨wL, rfl⟩ : ∃ x, x = w' := ⟨_, rfl⟩; obtain ⟨hxL, rfl⟩ : ∃ x, x = hx := ⟨_, rfl⟩))
  | ((apply WL.append0 (B := w9.heap.size) tOk encI_ok; (iterate 10 exact rfl); exact hbL; exact Nat.le_trans (Below.size extA) hgeL; exact extA; exact Rx; exact extA; exact rfl; exact Own.noneCap hOx; omega; intro aT cT wT hOT hxT hfT))
  | ((apply WL.appendS (w0 := w9) tOk encI_ok; (iterate 10 exact rfl); exact hOT; exact extA; exact rfl; exact Rs; exact extA; exact rfl; exact nsn; exact rfl; exact extA; omega; intro aI cI wI hOI hXI hUI hFI))
  | (show SX _ _ _ _ _ _ _ _ _; first | (apply SX.done; intro w' hx) | (apply SX.fl0; exact rfl) | (apply SX.fl1; exact rfl; (exact extA)) | (apply SX.br1; exact rfl; intro w' hx))
  | (show FL _ _ _ _ _ _ _ _; first | apply FL.nilX | (apply FL.loadE tOk; (iterate 5 exact rfl); (first | assumption | (focus (apply Ext.cell; rotate_left; assumption; exact extA; done)))) | (apply FL.indexE tOk; (iterate 8 exact rfl); assumption; exact rfl; omega; assumption; intro b off h; have hcc := h; first | (obtain ⟨h1, h2, h3, h4, h5, h6, _⟩ := h) | (obtain ⟨h1, h2, h3, _⟩ := h) | (obtain ⟨h1, h2, _⟩ := h) | (obtain ⟨h1, _⟩ := h)))
  | (show FL _ _ _ _ _ _ _ _; (refine FL.au (k := ?_)))
  | (show Z _ _ _ _ _; (apply Z.sxE; (exact extA)))
  | (show WL _ _ _ _ _ _ _; first | apply WL.nil | (refine WL.au (k := ?_)))
  | (show Z _ _ _ _ _; first | apply Z.then_normal | apply Z.then_exit | apply Z.block_exit)
  | (show W _ _ _ _ _ _; first | apply W.seq | apply W.region | apply W.exit)
  | fail)
 obtain ⟨wJ, rfl⟩ : ∃ x, x = w' := ⟨_, rfl⟩; obtain ⟨hxJ, rfl⟩ : ∃ x, x = hx := ⟨_, rfl⟩
 have hXI9 : Ext w9 wJ := hXI.trans hxJ
 have hX0I : Ext w0 wJ := hX9.trans hXI9
 have hlI : I.1 ++ s.2.2 = I.1 ++ u.last := by rw [hsl]
 have hSI := Sep.newRow' hS9 hXI9 (hOI.ext hxJ) (Below.size hX9)
 have hSI8 : Lt.Sep w0.heap.size wJ (stN w0.heap.size m.gs a9 cap9 m.r I.2 ++ (pcell m.gf (m.vals x.af x.fr.length x.cf x.as' x.st.length x.cs).toArray 126 :: prow 2 encUF 129 w0.heap.size x.af x.cf x.fr :: prow 1 encRow 22 w0.heap.size x.as' x.cs x.st :: pcell gx #[.slice none 0 0, .slice bI I.1.length cp] 129 :: prow 1 encI 3 w0.heap.size bI cp I.1 :: prow 1 encI 3 w0.heap.size aI cI (I.1 ++ s.2.2) :: (x.R ++ rest))) :=
  Sep.ofPerm (List.perm_middle (l₁ := [_, _, _, _, _, _, _, _])).symm hSI
 rw [hlI] at hSI8
 obtain ⟨restI, hrI⟩ : ∃ l : List Piece, l = (pcell m.gf (m.vals x.af x.fr.length x.cf x.as' x.st.length x.cs).toArray 126 :: prow 2 encUF 129 w0.heap.size x.af x.cf x.fr :: prow 1 encRow 22 w0.heap.size x.as' x.cs x.st :: pcell gx #[.slice none 0 0, .slice bI I.1.length cp] 129 :: prow 1 encI 3 w0.heap.size bI cp I.1 :: prow 1 encI 3 w0.heap.size aI cI (I.1 ++ u.last) :: (x.R ++ rest)) := ⟨_, rfl⟩
 rw [← hrI] at hSI8
 have hsub : ∀ p ∈ x.R, p ∈ restI := fun p hp => by rw [hrI]; exact List.mem_cons_of_mem _ (List.mem_cons_of_mem _ (List.mem_cons_of_mem _ (List.mem_cons_of_mem _ (List.mem_cons_of_mem _ (List.mem_cons_of_mem _ (List.mem_append_left _ hp))))))
 have hnl := net_len hg hz
 have hcl : (I.1 ++ u.last).length ≤ cI := by
  have h9 := hSI8
  rw [hrI] at h9
  exact Own.capLe (h9.row (i := 8) (s := 1) (enc := encI) (el := 3) rfl)
 have eC : cpU m.d.t u = copyV I.2 (cNet m.d.t).1 (I.1 ++ u.last) := by unfold cpU; rw [hI]
 have hcp : Lt.Spec Try.prog 55 [.pointer (some ⟨m.gs, 0, none⟩), .slice m.aN (cNet m.d.t).1.length m.cN, .slice aI (I.1 ++ s.2.2).length cI] wJ (AtCopy w0 m.gs m.r restI (cpU m.d.t u)) := by
  rw [eC, hlI]
  exact aig_CopyV m.gs m.r cap9 m.cN cI a9 m.aN aI I.2 (cNet m.d.t).1 (I.1 ++ u.last) restI wJ w0 hX0I hSI8 (by omega) (cNet_ok hg).2 hcl (fun w' a' cap' N' h1 h2 => (h.kn.rows.sep h1 h2 (fun p hp => List.mem_append_right _ (hsub p hp))).n) (fun w' a' cap' N' h1 h2 => by rw [hrI] at h2; exact Own.row encI_ok (h2.row (i := 8) rfl))
 obtain ⟨_, q1, q2, q3, q4, q5⟩ := cpU_ok hg hU
 have hal := at_len hg
 have hmx := hg.max
 have hA9 : (cNet m.d.t).2.length ≤ 16777217 := by have : (m.d.t.max : Int) ≤ 16777216 := hmx.2; omega
 repeat' (first
  | (apply W.regionQS 9 tMix; kernel_rfl; exact rfl; kernel_rfl; kernel_rfl)
  | (apply WL.nilc; (iterate 3 exact rfl))
  | (apply QL.nilc; (iterate 3 exact rfl))
  | (((show WL _ _ _ (⟨_, .call ⟨.value (.func 55), _, _⟩, _, _, _, _⟩ :: _) _ _ _); apply WL.call; (iterate 4 exact rfl); exact hcp; rintro v' w8 ⟨hX8, a8, cap8, aL, cL, rfl, hS8⟩; have hS8' := hS8; rw [hrI] at hS8'; obtain ⟨d1, d2, d4, d5, d6, d9, d10, d11, d12, d13⟩ := UC.of (m := m) (af := x.af) (nf := x.fr.length) (cf := x.cf) (as' := x.as') (ns := x.st.length) (cs := x.cs) (cells_heap (hS8'.cell (i := 4) rfl)); have hbX := hS8'.cell (i := 7) (gb := gx) rfl))
  | ((apply WL.makeC (w0 := w0) (z := ((0, 0) : Int × Int)) tOk; (iterate 9 exact rfl); exact encN_ok; exact rfl; exact rfl; exact extA; omega; intro gV wV hOV hgeV hxV))
  | ((apply WL.storeF (w0 := w0) tOk; (iterate 4 exact rfl); exact hbX; exact extA; (iterate 4 exact rfl); exact extA; exact hgx0; intro w10 hb10 hX10 hU10; have hSVt := Sep.newRow hS8' hxV hOV (fun k hk => by cases hk; exact hgeV) (Below.size hX8); have hSWt := Sep.updCell (i := 8) rfl hU10 hb10 hSVt (Ext.refl _) (Below.size (hX8.trans hxV)); have hat10 := (UC.of (m := m) (af := x.af) (nf := x.fr.length) (cf := x.cf) (as' := x.as') (ns := x.st.length) (cs := x.cs) (cells_heap (hSWt.cell (i := 5) rfl))).at_; clear hSVt hSWt))
  | (show WL _ _ _ _ _ _ _; first | apply WL.nil | (refine WL.au (k := ?_)))
  | (show QL _ _ _ _ _ _ _; first | apply QL.nil | (refine QL.au (k := ?_)))
  | (show Z _ _ _ _ _; first | apply Z.tail | apply Z.then_normal)
  | (show W _ _ _ _ _ _; first | apply W.seq | apply W.region | apply W.block)
  | fail)
 have hAt : ((cNet m.d.t).2.length : Int).toNat = (cNet m.d.t).2.length := Int.toNat_natCast _
 obtain ⟨C, hC⟩ : ∃ C, C = cpU m.d.t u := ⟨_, rfl⟩
 rw [← hC] at hS8' q1 q2 q3 q4 q5
 have hX8V : Ext w0 wV := hX8.trans hxV
 have hSV := Sep.newRow hS8' hxV hOV (fun k hk => by cases hk; exact hgeV) (Below.size hX8)
 have hSW := Sep.updCell (i := 8) rfl hU10 hb10 hSV (Ext.refl _) (Below.size hX8V)
 rw [hAt] at hSW
 obtain ⟨tl, htl⟩ : ∃ tl : List Piece, tl = (stN w0.heap.size m.gs a8 cap8 m.r C.2 ++ (prow 1 encI 3 w0.heap.size aL cL C.1 :: pcell m.gf (m.vals x.af x.fr.length x.cf x.as' x.st.length x.cs).toArray 126 :: prow 2 encUF 129 w0.heap.size x.af x.cf x.fr :: prow 1 encRow 22 w0.heap.size x.as' x.cs x.st :: pcell gx #[.slice (some ⟨gV, 0, none⟩) (cNet m.d.t).2.length (cNet m.d.t).2.length, .slice bI I.1.length cp] 129 :: prow 1 encI 3 w0.heap.size bI cp I.1 :: prow 1 encI 3 w0.heap.size aI cI (I.1 ++ u.last) :: (x.R ++ rest))) := ⟨_, rfl⟩
 have hSW' : Lt.Sep w0.heap.size w10 ([prow 2 encN 131 w0.heap.size (some ⟨gV, 0, none⟩) (cNet m.d.t).2.length (List.replicate (cNet m.d.t).2.length (0, 0))] ++ tl) := by
  rw [List.length_replicate] at hSW
  rw [htl]; exact hSW
 have hT : ∀ (w9 : World) (qs : List Piece), Ext w0 w9 → Lt.Sep w0.heap.size w9 (qs ++ tl) → UC w9 m x.af x.fr.length x.cf x.as' x.st.length x.cs ∧ Cells w9 gx 0 [.slice (some ⟨gV, 0, none⟩) (cNet m.d.t).2.length (cNet m.d.t).2.length, .slice bI I.1.length cp] ∧ Row 1 encI w9 aL C.1 ∧ URows m x.fr x.st w9 := fun w9 qs hX hS => by
  have h9 := hS.drop qs.length
  rw [List.drop_left, htl] at h9
  exact ⟨UC.of (cells_heap (h9.cell (i := 4) rfl)), cells_heap (h9.cell (i := 7) (gb := gx) rfl), Own.row encI_ok (h9.row (i := 3) rfl), h.kn.rows.sep hX h9 (fun p hp => List.mem_append_right [_, _, _, _, _, _, _, _, _, _] (List.mem_append_left _ hp))⟩
 refine W.loopW (cNet m.d.t).2.length (fun k w' => k ≤ (cNet m.d.t).2.length ∧ Ext w0 w' ∧ Lt.Sep w0.heap.size w' ([prow 2 encN 131 w0.heap.size (some ⟨gV, 0, none⟩) (cNet m.d.t).2.length (((cNet m.d.t).2.take k).map (signs C.1) ++ List.replicate ((cNet m.d.t).2.length - k) (0, 0))] ++ tl))
  (fun k => [(0, .pointer (some ⟨m.gf, 0, none⟩)), (3, .pointer (some ⟨gx, 0, none⟩)), (5, .slice aL C.1.length cL), (92, .slice m.aA (cNet m.d.t).2.length m.cA), (93, .int .i64 (cNet m.d.t).2.length), (94, .int .i64 k)]) ⟨Nat.zero_le _, hX10, hSW'⟩ (fun k w' h => h.1) (by repeat' first | exact trivial | (refine And.intro ?_ ?_) | exact rfl | (rw [hC]; exact rfl)) ?_
 clear hSW hSW' hSV hS8 hS8' hbX hb10 hU10 hOV hS9 hSI hSI8 hOI hOT hXI hUI hFI d1 d2 d4 d5 d6 d9 d10 d11 d12 d13 c1 c2 c4 c5 c6 c9 c10 c11 c12 c13 g1 g2 hcp hOx Rx hOst Rst Rs hR9
 rintro k wk ⟨hk', hXk, hSk⟩
 obtain ⟨t1, t2, t3, t4⟩ := hT wk _ hXk hSk
 obtain ⟨c1, c2, c4, c5, c6, c9, c10, c11, c12, c13⟩ := t1
 obtain ⟨g1, g2, _⟩ := t2
 have hOv : Own 2 encN 131 w0.heap.size wk (some ⟨gV, 0, none⟩) (cNet m.d.t).2.length (((cNet m.d.t).2.take k).map (signs C.1) ++ List.replicate ((cNet m.d.t).2.length - k) (0, 0)) := hSk.row (i := 0) rfl
 have hvl : (((cNet m.d.t).2.take k).map (signs C.1)).length = k := by rw [List.length_map, List.length_take]; omega
 have RA := t4.a
 by_cases hlt : k < (cNet m.d.t).2.length
 ·obtain ⟨y, hy⟩ := getI (cNet m.d.t).2 hlt
  have hgy : (((cNet m.d.t).2.take k).map (signs C.1) ++ List.replicate ((cNet m.d.t).2.length - k) ((0, 0) : Int × Int))[(k : Int).toNat]? = some (0, 0) := by
   rw [Int.toNat_natCast, show (cNet m.d.t).2.length - k = ((cNet m.d.t).2.length - (k + 1)) + 1 by omega, List.replicate_succ, List.getElem?_append_right (by omega), hvl, Nat.sub_self]; rfl
  have e1 : ((cNet m.d.t).2.take (k + 1)).map (signs C.1) = ((cNet m.d.t).2.take k).map (signs C.1) ++ [signs C.1 y] := by rw [take_succ' hy, List.map_append]; rfl
  rcases at_is hg hy with q0 | ⟨q0, q6, q7⟩
  ·have es : signs C.1 y = (-1, -1) := by unfold signs; rw [if_neg (by omega)]
   repeat' (first
    | (apply W.condKT; exact rfl; (focus (first | exact dec_true (by omega) | exact dec_false (by omega); done)))
    | (apply W.condKF; exact rfl; (focus (first | exact dec_true (by omega) | exact dec_false (by omega); done)))
    | ((apply WL.buildA tOk tOk; (iterate 6 exact rfl); kernel_rfl))
    | (apply WL.indexO tOk; (iterate 8 exact rfl); assumption; (exact extA); exact encN_ok; (first | exact rfl | (focus (simp only [List.length_set]; done)) | (focus (simp; done)) | (focus (simp [*]; done)) | omega | (focus (simp only [List.length_set]; omega))); omega; assumption; intro gb ha hc; cases ha; have hcc := hc; first | (obtain ⟨h1, h2, h3, _⟩ := hc) | (obtain ⟨h1, h2, _⟩ := hc) | (obtain ⟨h1, _⟩ := hc))
    | (apply WL.storeO (z' := ((-1, -1))) tOk; (iterate 4 exact rfl); assumption; (exact extA); (iterate 3 exact rfl); exact encN_ok; assumption; exact rfl; (exact extA); intro w' hO hX' hU)
    | (show WL _ _ _ _ _ _ _; first | apply WL.nil | (refine WL.au (k := ?_)) | (apply WL.index tOk; (iterate 8 exact rfl); assumption; (exact extA); exact rfl; omega; assumption; intro b off h; have hcc := h; first | (obtain ⟨h1, h2, h3, h4, h5, h6, _⟩ := h) | (obtain ⟨h1, h2, h3, _⟩ := h) | (obtain ⟨h1, h2, _⟩ := h) | (obtain ⟨h1, _⟩ := h)))
    | (show Z _ _ _ _ _; first | apply Z.then_normal | apply Z.block_normal)
    | (show W _ _ _ _ _ _; first | apply W.seq | apply W.region | apply W.block | apply W.skip)
    | fail)
   rw [Int.toNat_natCast, fillG (0, 0) hvl hlt, ← es, ← e1] at hO
   exact Z.againW ⟨by omega, hX', Sep.updRow (i := 0) rfl hU hO (.inl rfl) hSk (Ext.refl _) (Below.size hXk)⟩ (by repeat' first | exact trivial | (refine And.intro ?_ ?_) | exact rfl)
  ·obtain ⟨z, hz⟩ := getI C.1 (show (y / 2).toNat < C.1.length by omega)
   have hzh := q2 z (List.mem_of_getElem? hz)
   have hz9 : 0 ≤ z ∧ z ≤ 9223372036854775806 := by unfold hasL at hzh; omega
   have es : signs C.1 y = (z, Lt.xor1 z) := by unfold signs; rw [if_pos q0, getD_of hz]
   have hgy2 : ((((cNet m.d.t).2.take k).map (signs C.1) ++ List.replicate ((cNet m.d.t).2.length - k) ((0, 0) : Int × Int)).set (k : Int).toNat (-1, -1))[(k : Int).toNat]? = some (-1, -1) := by rw [Int.toNat_natCast, fillG (0, 0) hvl hlt, fillG_get hvl]
   repeat' (first
    | (apply W.condKT; exact rfl; (focus (first | exact dec_true (by omega) | exact dec_false (by omega); done)))
    | ((apply WL.buildA tOk tOk; (iterate 6 exact rfl); kernel_rfl))
    | (apply WL.indexO tOk; (iterate 8 exact rfl); assumption; (exact extA); exact encN_ok; (first | exact rfl | (focus (simp only [List.length_set]; done)) | (focus (simp; done)) | (focus (simp [*]; done)) | omega | (focus (simp only [List.length_set]; omega))); omega; assumption; intro gb ha hc; cases ha; have hcc := hc; first | (obtain ⟨h1, h2, h3, _⟩ := hc) | (obtain ⟨h1, h2, _⟩ := hc) | (obtain ⟨h1, _⟩ := hc))
    | ((first | (have h_0 := hSk1; clear h_0; apply WL.storeO (z' := (z, Lt.xor1 z)) tOk; (iterate 4 exact rfl); exact hO1; exact extA; (iterate 3 exact rfl); exact encN_ok; exact hgy2; exact rfl; exact extA; intro wS2 hO2 hXS2 hU2) | (apply WL.storeO (z' := ((-1, -1) : Int × Int)) tOk; (iterate 4 exact rfl); exact hOv; exact extA; (iterate 3 exact rfl); exact encN_ok; exact hgy; exact rfl; exact extA; intro wS1 hO1 hXS1 hU1; have hSk1 := Sep.updRow (i := 0) rfl hU1 hO1 (.inl rfl) hSk (Ext.refl _) (Below.size hXk); obtain ⟨_, ⟨v1, v2, _⟩, v3, _⟩ := hT wS1 [_] hXS1 hSk1)))
    | (apply WL.and1; (iterate 4 exact rfl); omega)
    | (apply WL.xorA; (iterate 4 exact rfl); omega)
    | ((apply WL.xorZ; (iterate 4 exact rfl); omega; omega))
    | (show WL _ _ _ _ _ _ _; first | apply WL.nil | (refine WL.au (k := ?_)) | (apply WL.index tOk; (iterate 8 exact rfl); assumption; (exact extA); exact rfl; omega; assumption; intro b off h; have hcc := h; first | (obtain ⟨h1, h2, h3, h4, h5, h6, _⟩ := h) | (obtain ⟨h1, h2, h3, _⟩ := h) | (obtain ⟨h1, h2, _⟩ := h) | (obtain ⟨h1, _⟩ := h)))
    | (show Z _ _ _ _ _; first | apply Z.then_normal | apply Z.block_normal)
    | (show W _ _ _ _ _ _; first | apply W.seq | apply W.region | apply W.block | apply W.skip)
    | fail)
   rw [Int.toNat_natCast, fillG (0, 0) hvl hlt, fillG2 hvl, ← es, ← e1] at hO2
   exact Z.againW ⟨by omega, hXS2, Sep.updRow (i := 0) rfl hU2 hO2 (.inl rfl) hSk1 (Ext.refl _) (Below.size hXS1)⟩ (by repeat' first | exact trivial | (refine And.intro ?_ ?_) | exact rfl)
 obtain rfl : k = (cNet m.d.t).2.length := by omega
 have eV : ((cNet m.d.t).2.take (cNet m.d.t).2.length).map (signs C.1) ++ List.replicate ((cNet m.d.t).2.length - (cNet m.d.t).2.length) ((0, 0) : Int × Int) = signsL m.d.t C.1 := by rw [List.take_length, Nat.sub_self, List.replicate_zero, List.append_nil]; rfl
 rw [eV] at hSk hOv
 have RV := Own.row encN_ok hOv
 have hsl9 := signsL_len m.d.t C.1
 have hcl : ∀ t ∈ m.d.lat.2.2, t.2.1 ≤ 9223372036854775807 := fun t ht => by
  have h1 := hg.used t.2.1 (used_next ht)
  omega
 repeat' (first
  | (apply W.condKF; exact rfl; (focus (exact dec_false (by omega); done)))
  | (apply WL.nilc; (iterate 3 exact rfl))
  | ((apply WL.makeC (w0 := w0) (z := (0 : Int)) tOk; (iterate 9 exact rfl); exact encI_ok; exact rfl; exact rfl; exact extA; omega; intro gX wX hOX hgeX hxX))
  | (show WL _ _ _ _ _ _ _; first | apply WL.nil | (refine WL.au (k := ?_)))
  | (show Z _ _ _ _ _; first | apply Z.then_normal | apply Z.then_exit | apply Z.block_exit)
  | (show W _ _ _ _ _ _; first | apply W.seq | apply W.region | apply W.block | apply W.exit)
  | fail)
 have hLt : (m.d.lat.2.2.length : Int).toNat = m.d.lat.2.2.length := Int.toNat_natCast _
 have hLt2 : (List.replicate (m.d.lat.2.2.length : Int).toNat (0 : Int)).length = m.d.lat.2.2.length := by rw [List.length_replicate, hLt]
 have hX0X : Ext w0 wX := hXk.trans hxX
 have hSX := Sep.newRow hSk hxX hOX (fun k hk => by cases hk; exact hgeX) (Below.size hXk)
 rw [hLt] at hSX
 have hSX' : Lt.Sep w0.heap.size wX ([prow 1 encI 3 w0.heap.size (some ⟨gX, 0, none⟩) m.d.lat.2.2.length (List.replicate m.d.lat.2.2.length 0), prow 2 encN 131 w0.heap.size (some ⟨gV, 0, none⟩) (cNet m.d.t).2.length (signsL m.d.t C.1)] ++ tl) := hSX
 have hff : ∀ n : Nat, (m.d.lat.2.2.take n).map (fun t => uLit m.d.t C.1 t.2.1) = (nextU m.d.t C.1).take n := fun n => by unfold nextU; rw [List.map_take]
 refine W.loopW m.d.lat.2.2.length (fun k w' => k ≤ m.d.lat.2.2.length ∧ Ext w0 w' ∧ Lt.Sep w0.heap.size w' ([prow 1 encI 3 w0.heap.size (some ⟨gX, 0, none⟩) m.d.lat.2.2.length ((m.d.lat.2.2.take k).map (fun t => uLit m.d.t C.1 t.2.1) ++ List.replicate (m.d.lat.2.2.length - k) 0), prow 2 encN 131 w0.heap.size (some ⟨gV, 0, none⟩) (cNet m.d.t).2.length (signsL m.d.t C.1)] ++ tl))
  (fun k => [(0, .pointer (some ⟨m.gf, 0, none⟩)), (3, .pointer (some ⟨gx, 0, none⟩)), (9, .slice (some ⟨gX, 0, none⟩) m.d.lat.2.2.length m.d.lat.2.2.length), (134, rowVal m.d.lat), (135, .int .i64 m.d.lat.2.2.length), (136, .int .i64 k)]) ⟨Nat.zero_le _, hX0X, hSX'⟩ (fun k w' h => h.1) (by repeat' first | exact trivial | (refine And.intro ?_ ?_) | exact rfl | (rw [hLt2]; exact rfl)) ?_
 clear hSX hSX' hSk hOv hOX c1 c2 c4 c5 c6 c9 c10 c11 c12 c13 g1 g2 t3 t4 RV RA
 rintro k wn ⟨hk3, hXn, hSn⟩
 obtain ⟨t1, t2, t3, t4⟩ := hT wn [_, _] hXn hSn
 obtain ⟨c1, c2, c4, c5, c6, c9, c10, c11, c12, c13⟩ := t1
 have hgg := t2
 obtain ⟨g1, g2, _⟩ := t2
 have hOn : Own 1 encI 3 w0.heap.size wn (some ⟨gX, 0, none⟩) m.d.lat.2.2.length ((m.d.lat.2.2.take k).map (fun t => uLit m.d.t C.1 t.2.1) ++ List.replicate (m.d.lat.2.2.length - k) 0) := hSn.row (i := 0) rfl
 have hOv : Own 2 encN 131 w0.heap.size wn (some ⟨gV, 0, none⟩) (cNet m.d.t).2.length (signsL m.d.t C.1) := hSn.row (i := 1) rfl
 have RV := Own.row encN_ok hOv
 have RLk := t4.c.lat.row
 have hvl : ((m.d.lat.2.2.take k).map (fun t => uLit m.d.t C.1 t.2.1)).length = k := by rw [List.length_map, List.length_take]; omega
 by_cases hlt : k < m.d.lat.2.2.length
 ·obtain ⟨t, ht⟩ := getI m.d.lat.2.2 hlt
  have ht9 := hcl t (List.mem_of_getElem? ht)
  have hgy : ((m.d.lat.2.2.take k).map (fun t => uLit m.d.t C.1 t.2.1) ++ List.replicate (m.d.lat.2.2.length - k) (0 : Int))[(k : Int).toNat]? = some 0 := by
   rw [Int.toNat_natCast, show m.d.lat.2.2.length - k = (m.d.lat.2.2.length - (k + 1)) + 1 by omega, List.replicate_succ, List.getElem?_append_right (by omega), hvl, Nat.sub_self]; rfl
  have e1 : (m.d.lat.2.2.take (k + 1)).map (fun t => uLit m.d.t C.1 t.2.1) = (m.d.lat.2.2.take k).map (fun t => uLit m.d.t C.1 t.2.1) ++ [uLit m.d.t C.1 t.2.1] := by rw [take_succ' ht, List.map_append]; rfl
  have hlt9 := fun (w9 : World) (h9 : Ext wn w9) => un_lit m.d.t hg (some ⟨gV, 0, none⟩) (cNet m.d.t).2.length (.slice bI I.1.length cp) rfl C.1 t.2.1 w9 (RV.ext h9) ht9
  rw [signsL_len] at hlt9
  repeat' (first
   | (apply W.condKT; exact rfl; (focus (exact dec_true (by omega); done)))
   | (apply WL.alloc tOk; (iterate 3 exact rfl); intro gb w' hb hge hx; (obtain ⟨gt, rfl⟩ : ∃ x, x = gb := ⟨_, rfl⟩; obtain ⟨wa, rfl⟩ : ∃ x, x = w' := ⟨_, rfl⟩; obtain ⟨hba, rfl⟩ : ∃ x, x = hb := ⟨_, rfl⟩; obtain ⟨hgea, rfl⟩ : ∃ x, x = hge := ⟨_, rfl⟩; obtain ⟨hxa, rfl⟩ : ∃ x, x = hx := ⟨_, rfl⟩))
   | ((apply WL.storeB (w0 := wn) tOk; (iterate 4 exact rfl); exact hba; exact Ext.refl _; kernel_rfl; kernel_rfl; kernel_rfl; exact hxa; exact hgea; intro wb hbb hcb hXb hUb; obtain ⟨e1', e2', e3', _⟩ := hcb))
   | (((show WL _ _ _ (⟨_, .call ⟨.value (.func 92), _, _⟩, _, _, _, _⟩ :: _) _ _ _); apply WL.callP; (iterate 4 exact rfl); exact hlt9 _ hXb; intro wc hxc))
   | ((apply WL.indexO tOk; (iterate 8 exact rfl); exact hOn; exact extA; exact encI_ok; (rw [List.length_append, hvl, List.length_replicate]; omega); omega; exact hgy; intro gb ha hc; cases ha))
   | ((apply WL.storeO (z' := uLit m.d.t C.1 t.2.1) tOk; (iterate 4 exact rfl); exact hOn; exact extA; (iterate 3 exact rfl); exact encI_ok; exact hgy; exact rfl; exact extA; intro wd hOd hXd hUd))
   | (show WL _ _ _ _ _ _ _; first | apply WL.nil | (refine WL.au (k := ?_)) | (apply WL.index tOk; (iterate 8 exact rfl); assumption; (exact extA); exact rfl; omega; assumption; intro b off h; have hcc := h; first | (obtain ⟨h1, h2, h3, h4, h5, h6, _⟩ := h) | (obtain ⟨h1, h2, h3, _⟩ := h) | (obtain ⟨h1, h2, _⟩ := h) | (obtain ⟨h1, _⟩ := h)))
   | (show Z _ _ _ _ _; first | apply Z.then_normal | apply Z.block_normal)
   | (show W _ _ _ _ _ _; first | apply W.seq | apply W.region | apply W.block | apply W.skip)
   | fail)
  have hXnc : Ext wn wc := hXb.trans hxc
  rw [Int.toNat_natCast, fillG 0 hvl hlt, ← e1] at hOd
  exact Z.againW ⟨by omega, hXd, Sep.updRow (i := 0) rfl hUd hOd (.inl rfl) hSn hXnc (Below.size (hXn.trans hXnc))⟩ (by repeat' first | exact trivial | (refine And.intro ?_ ?_) | exact rfl)
 obtain rfl : k = m.d.lat.2.2.length := by omega
 have eX : (m.d.lat.2.2.take m.d.lat.2.2.length).map (fun t => uLit m.d.t C.1 t.2.1) ++ List.replicate (m.d.lat.2.2.length - m.d.lat.2.2.length) (0 : Int) = nextU m.d.t C.1 := by rw [List.take_length, Nat.sub_self, List.replicate_zero, List.append_nil]; rfl
 rw [eX] at hSn hOn
 have hnx : (nextU m.d.t C.1).length = m.d.lat.2.2.length := nextU_len _ _
 have hgg' : Cells wn gx 0 [.slice (some ⟨gV, 0, none⟩) (signsL m.d.t C.1).length (cNet m.d.t).2.length, .slice bI I.1.length cp] := by rw [signsL_len]; exact hgg
 clear hgg g1 g2
 rw [htl] at hSn
 have hSn' : Lt.Sep w0.heap.size wn ([prow 1 encI 3 w0.heap.size (some ⟨gX, 0, none⟩) m.d.lat.2.2.length (nextU m.d.t C.1), prow 2 encN 131 w0.heap.size (some ⟨gV, 0, none⟩) (cNet m.d.t).2.length (signsL m.d.t C.1)] ++ _) := hSn
 have hOfr : Own 2 encUF 129 w0.heap.size wn x.af x.cf x.fr := hSn.row (i := 7) rfl
 have hne1 : blk x.af ≠ some m.gf := fun hh => by
  rcases hSn.apart 7 6 _ _ rfl rfl (by decide) with h1 | h1
  ·rw [show (prow 2 encUF 129 w0.heap.size x.af x.cf x.fr).b = blk x.af from rfl] at h1; rw [h1] at hh; cases hh
  ·exact h1 hh
 have hne2 : blk x.af ≠ some gx := fun hh => by
  rcases hSn.apart 7 9 _ _ rfl rfl (by decide) with h1 | h1
  ·rw [show (prow 2 encUF 129 w0.heap.size x.af x.cf x.fr).b = blk x.af from rfl] at h1; rw [h1] at hh; cases hh
  ·exact h1 hh
 have hBn : w0.heap.size ≤ wn.heap.size := Below.size hXn
 obtain ⟨fN, hfN⟩ : ∃ f : Fr, f = ((some ⟨gV, 0, none⟩, (cNet m.d.t).2.length, signsL m.d.t C.1), (bI, cp, I.1)) := ⟨_, rfl⟩
 obtain ⟨sN, hsN⟩ : ∃ s : RowV Int, s = (some ⟨gX, 0, none⟩, m.d.lat.2.2.length, nextU m.d.t C.1) := ⟨_, rfl⟩
 have hgf0 : w0.heap.size ≤ m.gf := (hSn.lt (i := 6) rfl rfl).1
 refine W.sub [(0, .pointer (some ⟨m.gf, 0, none⟩)), (3, .pointer (some ⟨gx, 0, none⟩)), (9, .slice (some ⟨gX, 0, none⟩) (nextU m.d.t C.1).length m.d.lat.2.2.length), (135, .int .i64 m.d.lat.2.2.length), (136, .int .i64 m.d.lat.2.2.length)] ⟨rfl, rfl, by rw [hnx]; rfl, rfl, rfl, trivial⟩ ?_
 have hC0 : GrC m.gf gx (.slice x.af x.fr.length x.cf) (.slice x.as' x.st.length x.cs) (.slice (some ⟨gV, 0, none⟩) (signsL m.d.t C.1).length (cNet m.d.t).2.length) (.slice bI I.1.length cp) wn := ⟨c12, c13, hgg'⟩
 repeat' (first
  | (apply W.condKF; exact rfl; (focus (exact dec_false (by omega); done)))
  | (show W _ _ (.region 25 _ _) _ _ _; apply W.regionG (.fl true 0 (.fl true 1 (.fl true 2 (.fl true 3 (.fl true 4 (.fl true 9 (.fl true 10 (.fl true 11 (.fl true 13 (.fl false 5 (.fl false 6 (.fl false 12 (.br 7 (.br 8 (.br 14 (.br 15 (.fl true 16 (.fl true 17 (.br 18 (.fl true 19 (.fl true 20 (.br 21 .done .stop))) .stop))) .stop) .stop) (.br 14 (.br 8 (.br 15 (.fl true 16 (.fl true 17 (.br 18 (.fl true 19 (.fl true 20 (.br 21 .done .stop))) .stop))) .stop) .stop) .stop)) (.br 14 (.br 7 (.br 8 (.br 15 (.fl true 16 (.fl true 17 (.br 18 (.fl true 19 (.fl true 20 (.br 21 .done .stop))) .stop))) .stop) .stop) .stop) .stop)))))))))))))) [6, 7, 8, 12, 14, 15] (GrC m.gf gx (.slice x.af x.fr.length x.cf) (.slice x.as' x.st.length x.cs) (.slice (some ⟨gV, 0, none⟩) (signsL m.d.t C.1).length (cNet m.d.t).2.length) (.slice bI I.1.length cp)) tMix; kernel_rfl)
  | (apply FL.nilc; (iterate 3 exact rfl))
  | ((show FL _ _ _ _ _ _ _ _; apply FL.loadK tOk; (iterate 5 exact rfl); (first | exact fun w9 h9 => h9.c12 | exact fun w9 h9 => h9.c13)))
  | ((show FL _ _ _ _ _ _ _ _; apply FL.loadAK tOk; (iterate 5 exact rfl); exact fun w9 h9 => h9.g; exact rfl))
  | ((show WL _ _ _ (⟨some 156, _, _, _, _, _⟩ :: _) _ _ _; apply WL.lit tOk; (iterate 6 exact rfl); (first | exact rfl | kernel_rfl); exact rfl; intro g56 w56 hb56 hge56 hc56 hx56; have hn56 : Ext wn w56 := (by first | exact hx56 | exact Ext.trans (by assumption) hx56); have h056 : Ext w0 w56 := hXn.trans hn56; have hC56 := hC0.ext hn56))
  | ((show WL _ _ _ (⟨some 163, _, _, _, _, _⟩ :: _) _ _ _; apply WL.lit tOk; (iterate 6 exact rfl); (first | exact rfl | kernel_rfl); exact rfl; intro g63 w63 hb63 hge63 hc63 hx63; first | (have h063 : Ext w0 w63 := hXF.trans hx63; have hC63 := hC57.ext hx63) | (have hn63 : Ext wn w63 := (by first | exact hx63 | exact Ext.trans (by assumption) hx63); have h063 : Ext w0 w63 := hXn.trans hn63; have hC63 := hC0.ext hn63; have hk63 : wn.heap.size ≤ g63 := (by first | exact hge63 | exact Nat.le_trans (Below.size (by assumption)) hge63))))
  | ((show WL _ _ _ (⟨some 157, _, _, _, _, _⟩ :: _) _ _ _; apply WL.append1 (z := fN) tOk encUF_ok; (iterate 10 exact rfl); exact hOfr; assumption; exact rfl; (refine Cells.ext ?_ hc56; first | exact Ext.refl _ | assumption); (rw [hfN]; exact rfl); exact rfl; assumption; (rw [hlf.1]; omega); intro aF cF wF hOF hXF hUF hFF; have hSF := Sep.updRow (i := 7) rfl hUF hOF hFF hSn' (by assumption) (Below.size (by assumption)); have hOs := hSF.row (i := 8) (s := 1) (enc := encRow) (el := 22) rfl; have hC57 : GrC m.gf gx (.slice x.af x.fr.length x.cf) (.slice x.as' x.st.length x.cs) (.slice (some ⟨gV, 0, none⟩) (signsL m.d.t C.1).length (cNet m.d.t).2.length) (.slice bI I.1.length cp) wF := (by rw [signsL_len]; exact GrC.of hSF (m := m) (i := 6) (j := 9) rfl rfl); (first | (have hc63' := cells_heap ((hUF.grown.block g63 (heap_lt (Ext.heap (by first | exact Ext.refl _ | assumption) hb63)) (fun he => by have := (hOfr.blk_lt g63 he.symm).2; omega)).trans (Ext.heap (by first | exact Ext.refl _ | assumption) hb63))) | skip)))
  | ((show WL _ _ _ (⟨some 164, _, _, _, _, _⟩ :: _) _ _ _; apply WL.append1 (z := sN) tOk encRow_ok; (iterate 10 exact rfl); exact hOs; (first | exact Ext.refl _ | assumption); exact rfl; (first | exact hc63' | exact hc63); (rw [hsN]; exact rfl); exact rfl; assumption; (rw [hlf.2.2]; omega); intro aS cS wS hOS hXS hUS hFS; have hSS := Sep.updRow (i := 8) rfl hUS hOS hFS hSF (by first | exact Ext.refl _ | assumption) (Below.size (by assumption)); have hbf := hSS.cell (i := 6) (gb := m.gf) rfl; have hC64 : GrC m.gf gx (.slice x.af x.fr.length x.cf) (.slice x.as' x.st.length x.cs) (.slice (some ⟨gV, 0, none⟩) (signsL m.d.t C.1).length (cNet m.d.t).2.length) (.slice bI I.1.length cp) wS := (by rw [signsL_len]; exact GrC.of hSS (m := m) (i := 6) (j := 9) rfl rfl)))
  | ((first | (have h_0 := hU31; clear h_0; apply WL.storeF (w0 := w0) tOk; (iterate 4 exact rfl); exact hb31; exact Ext.refl _; (iterate 4 exact rfl); assumption; exact hgf0; intro w32 hb32 hX32 hU32) | (apply WL.storeF (w0 := w0) tOk; (iterate 4 exact rfl); exact hbf; exact Ext.refl _; (iterate 4 exact rfl); assumption; exact hgf0; intro w31 hb31 hX31 hU31)))
  | ((show SG _ _ _ _ _ _ _ _ _; apply SG.fl1; exact rfl; intro q; first | exact hC64.at q | exact hC57.at q | exact hC63.at q | exact hC56.at q | exact hC0.at q))
  | ((show Z _ _ _ _ _; apply Z.sgE; intro q; first | exact hC64.at q | exact hC57.at q | exact hC63.at q | exact hC56.at q))
  | (show WL _ _ _ _ _ _ _; first | apply WL.nil | (refine WL.au (k := ?_)))
  | (show SG _ _ _ _ _ _ _ _ _; first | apply SG.done | (apply SG.fl0; exact rfl) | (apply SG.br1; exact rfl) | (apply SG.br; exact rfl))
  | (show FL _ _ _ _ _ _ _ _; first | apply FL.nilS | (refine FL.au (k := ?_)))
  | (show Z _ _ _ _ _; (apply Z.sgL; exact rfl))
  | (show Z _ _ _ _ _; first | apply Z.then_normal | apply Z.then_exit | apply Z.block_exit)
  | (show W _ _ _ _ _ _; first | apply W.seq | apply W.region | apply W.ret | apply W.exit)
  | fail)
 all_goals
  have hS31 := Sep.updCell (i := 6) rfl hU31 hb31 hSS (Ext.refl _) (Below.size hXS)
  have hS32 := Sep.updCell (i := 6) rfl hU32 hb32 hS31 (Ext.refl _) (Below.size hX31)
  have hS33 := Sep.pickL (pre := [_, _, _, _, _, _, _, _, _, _, _, _]) [2, 3, 4, 6, 7, 8, 1, 10, 0] pnone hS32 rfl
  obtain ⟨RN, hRN⟩ : ∃ l : List Piece, l = prow 2 encN 131 w0.heap.size (some ⟨gV, 0, none⟩) (cNet m.d.t).2.length (signsL m.d.t C.1) :: prow 1 encI 3 w0.heap.size bI cp I.1 :: prow 1 encI 3 w0.heap.size (some ⟨gX, 0, none⟩) m.d.lat.2.2.length (nextU m.d.t C.1) :: x.R := ⟨_, rfl⟩
  have hSf : Lt.Sep w0.heap.size w32 (unP w0.heap.size m C.2 a8 cap8 aF cF (x.fr ++ [fN]) aS cS (x.st ++ [sN]) RN ++ rest) := by rw [hRN]; exact hS33
  have hkn : UKn w0 m (growU m.d.t u) (x.fr ++ [fN]) (x.st ++ [sN]) RN := un_growKn h hC hI hfN hsN hRN
  exact Z.body1 Try.results34 rfl fun q => ⟨rfl, ⟨a8, cap8, aF, cF, x.fr ++ [fN], aS, cS, x.st ++ [sN], RN⟩, hX32.at q, by rw [show (growU m.d.t u).N = C.2 by rw [hC]; rfl]; exact hSf.ext ((Ext.refl _).at q), hkn⟩
end Go.Proofs.Yteidpnpbfagaeaa
namespace Go.Proofs.Yteidpnpbfagaeaa
open Go Go.Lt Go.RowKit
set_option linter.unusedVariables false
set_option linter.unusedSimpArgs false
set_option maxRecDepth 20000

theorem bit_and (u : BitVec 64) (n : Nat) : dec ((((u >>> n) &&& BitVec.ofInt 64 1).toNat : Int) = 1) = u.getLsbD n := by
 have h : ((u >>> n) &&& BitVec.ofInt 64 1).toNat = (u >>> n).toNat % 2 := by
  rw [BitVec.toNat_and, show (BitVec.ofInt 64 1).toNat = 1 from rfl, Nat.and_one_is_mod]
 rw [h, dec_decide]
 rw [show u.getLsbD n = (u >>> n).getLsbD 0 by simp, BitVec.getLsbD, Nat.testBit_zero]
 congr 1
 simp only [eq_iff_iff]; omega
end Go.Proofs.Yteidpnpbfagaeaa
namespace Go.Proofs.Yteidpnpbfagaeaa
open Go Go.Lt Go.RowKit
set_option linter.unusedVariables false
set_option linter.unusedSimpArgs false
set_option maxRecDepth 20000

def wordOf (v : List (BitVec 64)) (l : Int) : BitVec 64 :=
 if l < 0 ∨ (v.length ≤ l / 2 ∧ 0 < l / 2) then 0#64
 else if l % 2 = 1 then ~~~ (if 0 < l / 2 then v.getD (l / 2).toNat 0#64 else 0#64) else (if 0 < l / 2 then v.getD (l / 2).toNat 0#64 else 0#64)
def litB (v : List Bool) (l : Int) : Bool :=
 if l = 0 ∨ l = 1 then decide (l = 1) else if l < 0 ∨ v.length ≤ l / 2 then false else v.getD (l / 2).toNat false != decide (l % 2 = 1)

theorem sim_Word (a : Option Addr) (cap : Nat) (v : List (BitVec 64)) (l : Int) (w : World) (R : Row 1 encV w a v) (hl : inI64 l) : Still Try.prog 166 [.slice a v.length cap, .int .i64 l] w (u64 (wordOf v l)) := by
 unfold inI64 at hl
 have hlen := R.len
 by_cases h0 : l < 0
 ·refine Spec.of _ Try.func166 rfl Try.ntmps166 (by kernel_rfl) rfl ?_
  repeat' (first
   | (apply WL.gT; exact rfl; exact rfl; (focus (first | exact dec_true (by omega) | exact dec_false (by omega); done)))
   | (apply WL.quow; (iterate 4 exact rfl); unfold inI64; omega)
   | (show WL _ _ _ _ _ _ _; first | apply WL.nil | (refine WL.au (k := ?_)) | (apply WL.guardF; exact rfl; exact rfl))
   | (show Z _ _ _ _ _; first | apply Z.then_normal | apply Z.then_ret | apply Z.block_ret)
   | (show W _ _ _ _ _ _; first | apply W.seq | apply W.region | apply W.block | apply W.ret | (apply W.condT; exact rfl))
   | fail)
  all_goals (refine Z.body1 Try.results166 rfl fun m => ⟨?_, m, rfl⟩; rw [wordOf, if_pos (.inl h0)]; rfl)
 by_cases h1 : v.length ≤ l / 2 ∧ 0 < l / 2
 ·refine Spec.of _ Try.func166 rfl Try.ntmps166 (by kernel_rfl) rfl ?_
  repeat' (first
   | (apply WL.gT; exact rfl; exact rfl; (focus (first | exact dec_true (by omega) | exact dec_false (by omega); done)))
   | (apply WL.gF; exact rfl; exact rfl; (focus (first | exact dec_true (by omega) | exact dec_false (by omega); done)))
   | (apply W.condKT; exact rfl; (focus (first | exact dec_true (by omega) | exact dec_false (by omega); done)))
   | (show WL _ _ _ _ _ _ _; first | apply WL.nil | (refine WL.au (k := ?_)))
   | (show Z _ _ _ _ _; first | apply Z.then_normal | apply Z.then_ret | apply Z.block_ret)
   | (show W _ _ _ _ _ _; first | apply W.seq | apply W.region | apply W.block | apply W.ret)
   | fail)
  exact Z.body1 Try.results166 rfl fun m => ⟨by rw [wordOf, if_pos (.inr h1)]; rfl, m, rfl⟩
 by_cases h2 : 0 < l / 2
 ·obtain ⟨z, hz⟩ := getI v (show (l / 2).toNat < v.length by omega)
  refine Spec.of _ Try.func166 rfl Try.ntmps166 (by kernel_rfl) rfl ?_
  repeat' (first
   | (apply WL.gF; exact rfl; exact rfl; (focus (first | exact dec_true (by omega) | exact dec_false (by omega); done)))
   | (apply W.condKT; exact rfl; (focus (first | exact dec_true (by omega) | exact dec_false (by omega); done)))
   | (apply WL.unot; (iterate 3 exact rfl); (first | exact rfl | exact u64_lit _ (by omega)))
   | (apply WL.and1; (iterate 4 exact rfl); omega)
   | (show WL _ _ _ _ _ _ _; first | apply WL.nil | (refine WL.au (k := ?_)) | (apply WL.index tOk; (iterate 8 exact rfl); assumption; (exact extA); exact rfl; omega; assumption; intro b off h; have hcc := h; first | (obtain ⟨h1, h2, h3, h4, h5, h6, _⟩ := h) | (obtain ⟨h1, h2, h3, _⟩ := h) | (obtain ⟨h1, h2, _⟩ := h) | (obtain ⟨h1, _⟩ := h)) | (apply WL.guardF; exact rfl; exact rfl))
   | (show Z _ _ _ _ _; first | apply Z.then_normal | apply Z.block_normal | apply Z.then_ret)
   | (show W _ _ _ _ _ _; first | apply W.seq | apply W.region | apply W.block | apply W.skip | apply W.ret | (apply W.condF; exact rfl) | (apply W.condD; exact rfl; all_goals intro _))
   | fail)
  all_goals (refine Z.body1 Try.results166 rfl fun m => ⟨?_, m, rfl⟩; rw [wordOf, if_neg (by omega)]; (first | rw [if_pos (by assumption)] | rw [if_neg (by assumption)]); rw [if_pos h2, getD_of hz])
 ·refine Spec.of _ Try.func166 rfl Try.ntmps166 (by kernel_rfl) rfl ?_
  repeat' (first
   | (apply WL.gF; exact rfl; exact rfl; (focus (first | exact dec_true (by omega) | exact dec_false (by omega); done)))
   | (apply W.condKF; exact rfl; (focus (first | exact dec_true (by omega) | exact dec_false (by omega); done)))
   | (apply WL.unot; (iterate 3 exact rfl); (first | exact rfl | exact u64_lit _ (by omega)))
   | (apply WL.and1; (iterate 4 exact rfl); omega)
   | (show WL _ _ _ _ _ _ _; first | apply WL.nil | (refine WL.au (k := ?_)) | (apply WL.guardF; exact rfl; exact rfl) | (apply WL.gD; exact rfl; exact rfl; all_goals intro _))
   | (show Z _ _ _ _ _; first | apply Z.then_normal | apply Z.block_normal | apply Z.then_ret)
   | (show W _ _ _ _ _ _; first | apply W.seq | apply W.region | apply W.block | apply W.skip | apply W.ret | (apply W.condF; exact rfl) | (apply W.condD; exact rfl; all_goals intro _))
   | fail)
  all_goals (refine Z.body1 Try.results166 rfl fun m => ⟨?_, m, rfl⟩; rw [wordOf, if_neg (by omega)]; (first | rw [if_pos (by assumption)] | rw [if_neg (by assumption)]); rw [if_neg h2]; rfl)

theorem sim_Lit (a : Option Addr) (cap : Nat) (v : List Bool) (l : Int) (w : World) (R : Row 1 encB w a v) (hl : inI64 l) : Still Try.prog 97 [.slice a v.length cap, .int .i64 l] w (.bool (litB v l)) := by
 have hlen := R.len
 unfold inI64 at hl
 by_cases h0 : l < 0
 ·refine Spec.of _ Try.func97 rfl Try.ntmps97 (by kernel_rfl) rfl ?_
  repeat' (first
   | (apply WL.gT; exact rfl; exact rfl; (focus (first | exact dec_true (by omega) | exact dec_false (by omega); done)))
   | (apply WL.quow; (iterate 4 exact rfl); unfold inI64; omega)
   | (show WL _ _ _ _ _ _ _; first | apply WL.nil | (refine WL.au (k := ?_)) | (apply WL.guardF; exact rfl; exact rfl))
   | (show Z _ _ _ _ _; first | apply Z.then_normal | apply Z.block_ret)
   | (show W _ _ _ _ _ _; first | apply W.seq | apply W.region | apply W.block | apply W.ret | (apply W.condT; exact rfl))
   | fail)
  all_goals (refine Z.body1 Try.results97 rfl fun m => ⟨congrArg Value.bool ?_, m, rfl⟩; rw [litB, if_neg (by omega), if_pos (by omega)])
 by_cases h1 : l = 0 ∨ l = 1
 ·refine Spec.of _ Try.func97 rfl Try.ntmps97 (by kernel_rfl) rfl ?_
  repeat' (first
   | (apply WL.gF; exact rfl; exact rfl; (focus (first | exact dec_true (by omega) | exact dec_false (by omega); done)))
   | (apply W.condKT; exact rfl; (focus (first | exact dec_true (by omega) | exact dec_false (by omega); done)))
   | (apply W.condKF; exact rfl; (focus (first | exact dec_true (by omega) | exact dec_false (by omega); done)))
   | (show WL _ _ _ _ _ _ _; first | apply WL.nil | (refine WL.au (k := ?_)) | (apply WL.guardF; exact rfl; exact rfl) | (apply WL.gD; exact rfl; exact rfl; all_goals intro _))
   | (show Z _ _ _ _ _; first | apply Z.then_normal | apply Z.block_ret)
   | (show W _ _ _ _ _ _; first | apply W.seq | apply W.region | apply W.block | apply W.ret | (apply W.condF; exact rfl))
   | fail)
  all_goals (refine Z.body1 Try.results97 rfl fun m => ⟨congrArg Value.bool ?_, m, rfl⟩; rw [litB, if_pos h1, ← dec_decide])
 by_cases h2 : v.length ≤ l / 2
 ·refine Spec.of _ Try.func97 rfl Try.ntmps97 (by kernel_rfl) rfl ?_
  repeat' (first
   | (apply WL.gT; exact rfl; exact rfl; (focus (first | exact dec_true (by omega) | exact dec_false (by omega); done)))
   | (apply WL.gF; exact rfl; exact rfl; (focus (first | exact dec_true (by omega) | exact dec_false (by omega); done)))
   | (apply W.condKT; exact rfl; (focus (first | exact dec_true (by omega) | exact dec_false (by omega); done)))
   | (show WL _ _ _ _ _ _ _; first | apply WL.nil | (refine WL.au (k := ?_)))
   | (show Z _ _ _ _ _; first | apply Z.then_normal | apply Z.block_ret)
   | (show W _ _ _ _ _ _; first | apply W.seq | apply W.region | apply W.block | apply W.ret)
   | fail)
  all_goals (refine Z.body1 Try.results97 rfl fun m => ⟨congrArg Value.bool ?_, m, rfl⟩; rw [litB, if_neg h1, if_pos (by omega)])
 ·obtain ⟨z, hz⟩ := getI v (show (l / 2).toNat < v.length by omega)
  refine Spec.of _ Try.func97 rfl Try.ntmps97 (by kernel_rfl) rfl ?_
  repeat' (first
   | (apply WL.gF; exact rfl; exact rfl; (focus (first | exact dec_true (by omega) | exact dec_false (by omega); done)))
   | (apply W.condKF; exact rfl; (focus (first | exact dec_true (by omega) | exact dec_false (by omega); done)))
   | (apply WL.and1; (iterate 4 exact rfl); omega)
   | (show WL _ _ _ _ _ _ _; first | apply WL.nil | (refine WL.au (k := ?_)) | (apply WL.index tOk; (iterate 8 exact rfl); assumption; (exact extA); exact rfl; omega; assumption; intro b off h; have hcc := h; first | (obtain ⟨h1, h2, h3, h4, h5, h6, _⟩ := h) | (obtain ⟨h1, h2, h3, _⟩ := h) | (obtain ⟨h1, h2, _⟩ := h) | (obtain ⟨h1, _⟩ := h)) | (apply WL.guardF; exact rfl; exact rfl))
   | (show Z _ _ _ _ _; first | apply Z.then_normal | apply Z.block_ret)
   | (show W _ _ _ _ _ _; first | apply W.seq | apply W.region | apply W.block | apply W.ret | (apply W.condF; exact rfl))
   | fail)
  all_goals (refine Z.body1 Try.results97 rfl fun m => ⟨congrArg Value.bool ?_, m, rfl⟩; rw [litB, if_neg (by assumption), if_neg (by omega), getD_of hz, dec_ne_dec])

def laneOf (v : List (BitVec 64)) (i : Int) : List Bool := if i < 0 ∨ 63 < i then [] else v.map (fun u => u.getLsbD i.toNat)
theorem map_snoc {α β : Type} (f : α → β) {l : List α} {k : Nat} {x : α} (h : l[k]? = some x) : (l.take (k + 1)).map f = (l.take k).map f ++ [f x] := by rw [take_succ' h]; simp
def laneTo (v : List (BitVec 64)) (i : Int) (k : Nat) : List Bool := (v.take k).map (fun u => u.getLsbD i.toNat) ++ List.replicate (v.length - k) false
theorem laneTo_set {v : List (BitVec 64)} {i : Int} {k : Nat} {u : BitVec 64} (hu : v[k]? = some u) : (laneTo v i k).set k (u.getLsbD i.toNat) = laneTo v i (k + 1) := by
 have hk := lt_of_get hu
 have hl : ((v.take k).map (fun u => u.getLsbD i.toNat)).length = k := by simp; omega
 unfold laneTo
 rw [map_snoc _ hu, List.set_append_right _ _ (by omega), hl, Nat.sub_self, show v.length - k = (v.length - (k + 1)) + 1 by omega, List.replicate_succ, List.set_cons_zero]
 simp
theorem laneTo_len (v : List (BitVec 64)) (i : Int) (k : Nat) (h : k ≤ v.length) : (laneTo v i k).length = v.length := by
 simp [laneTo]; omega
theorem laneTo_get {v : List (BitVec 64)} {i : Int} {k : Nat} (h : k < v.length) : (laneTo v i k)[k]? = some false := by
 have hl : ((v.take k).map (fun u => u.getLsbD i.toNat)).length = k := by simp; omega
 rw [laneTo, List.getElem?_append_right (by omega), hl, Nat.sub_self, List.getElem?_replicate, if_pos (by omega)]
theorem sim_Lane (a : Option Addr) (cap : Nat) (v : List (BitVec 64)) (i : Int) (w : World) (R : Row 1 encV w a v) (hn : v.length ≤ 1048576) :
  Lt.Spec Try.prog 145 [.slice a v.length cap, .int .i64 i] w (IsFresh 1 encB 4 w (laneOf v i)) := by
 have hlen := R.len
 by_cases hi : i < 0 ∨ 63 < i
 ·refine Spec.of _ Try.func145 rfl Try.ntmps145 (by kernel_rfl) rfl ?_
  repeat' (first
   | (apply W.condKT; exact rfl; (focus (first | exact dec_true (by omega) | exact dec_false (by omega); done)))
   | (show WL _ _ _ _ _ _ _; first | apply WL.nil | (refine WL.au (k := ?_)) | (apply WL.guardF; exact rfl; exact rfl) | (apply WL.gD; exact rfl; exact rfl; all_goals intro _))
   | (show Z _ _ _ _ _; first | apply Z.then_normal | apply Z.then_ret)
   | (show W _ _ _ _ _ _; first | apply W.seq | apply W.region | apply W.ret | (apply W.condT; exact rfl))
   | fail)
  all_goals first
   | (exfalso; omega)
   | (refine Z.body1 Try.results145 rfl fun m => ⟨(Ext.refl w).at m, none, 0, ?_, ?_⟩; (rw [laneOf, if_pos hi]; rfl); (rw [laneOf, if_pos hi]; exact Own.nil))
 ·refine Spec.of _ Try.func145 rfl Try.ntmps145 (by kernel_rfl) rfl ?_
  repeat' (first
   | (apply WL.gF; exact rfl; exact rfl; (focus (first | exact dec_true (by omega) | exact dec_false (by omega); done)))
   | (apply W.condKF; exact rfl; (focus (first | exact dec_true (by omega) | exact dec_false (by omega); done)))
   | (apply WL.make (w0 := w) tOk; (iterate 9 exact rfl); exact encB_ok; exact rfl; exact rfl; (exact extA); (first | omega | (simp; omega) | (simp at *; omega)); intro gb w' hO hge hx)
   | (show WL _ _ _ _ _ _ _; first | apply WL.nil | (refine WL.au (k := ?_)))
   | (show Z _ _ _ _ _; apply Z.then_normal)
   | (show W _ _ _ _ _ _; first | apply W.seq | apply W.region | apply W.block | apply W.skip)
   | fail)
  have e0 : List.replicate ((v.length : Int)).toNat false = laneTo v i 0 := by simp [laneTo]
  rw [e0] at hO
  have e0l : (laneTo v i 0).length = v.length := laneTo_len v i 0 (by omega)
  refine W.loopW v.length (fun k w' => k ≤ v.length ∧ Ext w w' ∧ Own 1 encB 4 w.heap.size w' (some ⟨gb, 0, none⟩) v.length (laneTo v i k))
   (fun k => [(0, .slice a v.length cap), (1, .int .i64 i), (5, .slice (some ⟨gb, 0, none⟩) v.length v.length), (17, .slice a v.length cap), (18, .int .i64 v.length), (19, .int .i64 k)]) ⟨by omega, hx, hO⟩ (fun k w' h => h.1) ⟨rfl, rfl, by rw [e0, e0l]; rfl, rfl, rfl, rfl, trivial⟩ ?_
  rintro k w' ⟨hk, hx', hO'⟩
  have hll := laneTo_len v i k hk
  by_cases hlt : k < v.length
  ·obtain ⟨u, hu⟩ := getI v hlt
   have hz := laneTo_get (i := i) hlt
   repeat' (first
    | (apply W.condKT; exact rfl; (focus (first | exact dec_true (by omega) | exact dec_false (by omega); done)))
    | (apply WL.uand; (iterate 4 exact rfl); (first | exact rfl | exact u64_lit _ (by omega)); (first | exact rfl | exact u64_lit _ (by omega)))
    | (apply WL.ushr; (iterate 4 exact rfl); (first | exact rfl | exact u64_lit _ (by omega)); omega)
    | (apply WL.indexO tOk; (iterate 8 exact rfl); assumption; (exact extA); exact encB_ok; (first | exact rfl | (focus (simp only [List.length_set]; done)) | (focus (simp; done)) | (focus (simp [*]; done)) | omega | (focus (simp only [List.length_set]; omega))); omega; assumption; intro gb ha hc; cases ha; have hcc := hc; first | (obtain ⟨h1, h2, h3, _⟩ := hc) | (obtain ⟨h1, h2, _⟩ := hc) | (obtain ⟨h1, _⟩ := hc))
    | (apply WL.storeO tOk; (iterate 4 exact rfl); assumption; (exact extA); (iterate 3 exact rfl); exact encB_ok; assumption; exact rfl; (exact extA); intro w' hO hX' hU)
    | (show WL _ _ _ _ _ _ _; first | apply WL.nil | (refine WL.au (k := ?_)) | (apply WL.index tOk; (iterate 8 exact rfl); assumption; (exact extA); exact rfl; omega; assumption; intro b off h; have hcc := h; first | (obtain ⟨h1, h2, h3, h4, h5, h6, _⟩ := h) | (obtain ⟨h1, h2, h3, _⟩ := h) | (obtain ⟨h1, h2, _⟩ := h) | (obtain ⟨h1, _⟩ := h)))
    | (show Z _ _ _ _ _; first | apply Z.then_normal | apply Z.block_normal)
    | (show W _ _ _ _ _ _; first | apply W.seq | apply W.region | apply W.block | apply W.skip)
    | fail)
   rw [bit_and, Int.toNat_natCast, laneTo_set hu] at hO
   exact Z.againW ⟨by omega, hX', hO⟩ ⟨rfl, rfl, rfl, rfl, rfl, rfl, trivial⟩
  ·repeat' (first
    | (apply W.condKF; exact rfl; (focus (first | exact dec_true (by omega) | exact dec_false (by omega); done)))
    | (show WL _ _ _ _ _ _ _; first | apply WL.nil | (refine WL.au (k := ?_)))
    | (show Z _ _ _ _ _; first | apply Z.then_normal | apply Z.then_exit | apply Z.block_exit)
    | (show W _ _ _ _ _ _; first | apply W.seq | apply W.region | apply W.ret | apply W.exit)
    | fail)
   obtain rfl : k = v.length := by omega
   have e2 : laneTo v i v.length = laneOf v i := by rw [laneOf, if_neg hi, laneTo]; simp
   rw [e2] at hO' hll
   refine Z.body1 Try.results145 rfl fun m => ⟨hx'.at m, some ⟨gb, 0, none⟩, v.length, ?_, hO'⟩
   rw [hll]
end Go.Proofs.Yteidpnpbfagaeaa
namespace Go.Proofs.Yteidpnpbfagaeaa
open Go Go.Lt Go.RowKit
set_option linter.unusedVariables false
set_option linter.unusedSimpArgs false
set_option maxRecDepth 20000

def wstep (ins : List (BitVec 64)) (s : List (BitVec 64) × Nat) (x : Int × Int) : List (BitVec 64) × Nat :=
 if 0 ≤ x.1 then (s.1 ++ [wordOf s.1 x.1 &&& wordOf s.1 x.2], s.2) else (s.1 ++ [ins.getD s.2 0#64], s.2 + 1)
def wto (n : List (Int × Int)) (ins : List (BitVec 64)) (k : Nat) : List (BitVec 64) × Nat := (n.take k).foldl (wstep ins) ([0#64], 0)
def wvalues (n : List (Int × Int)) (ins : List (BitVec 64)) : List (BitVec 64) := (wto n ins n.length).1
theorem wto_succ {n : List (Int × Int)} {k : Nat} {x : Int × Int} (ins : List (BitVec 64)) (h : n[k]? = some x) : wto n ins (k + 1) = wstep ins (wto n ins k) x := by
 unfold wto; rw [take_succ' h, List.foldl_append]; rfl
theorem wto_len (n : List (Int × Int)) (ins : List (BitVec 64)) : ∀ k, k ≤ n.length → (wto n ins k).1.length = k + 1 ∧ (wto n ins k).2 ≤ k
 | 0, _ => by simp [wto]
 | k + 1, h => by
  obtain ⟨x, hx⟩ := getI n (show k < n.length by omega)
  have ih := wto_len n ins k (by omega)
  rw [wto_succ ins hx]; unfold wstep
  split <;> simp <;> omega

theorem sim_Words (a b : Option Addr) (cap cb : Nat) (n : List (Int × Int)) (ins : List (BitVec 64)) (w : World) (R : Row 2 encN w a n) (Rb : Row 1 encV w b ins) (hcb : ins.length ≤ cb) (hg : GoodNet n) (hn : n.length ≤ 1048576) :
  Lt.Spec Try.prog 146 [.slice a n.length cap, .slice b ins.length cb] w (IsFresh 1 encV 179 w (wvalues n ins)) := by
 have hlen := Rb.len
 refine Spec.of _ Try.func146 rfl Try.ntmps146 (by kernel_rfl) rfl ?_
 repeat' (first
  | (apply WL.makeC (w0 := w) (z := 0#64) tOk; (iterate 9 exact rfl); exact encV_ok; exact rfl; exact rfl; (exact extA); (first | omega | (simp; omega) | (simp at *; omega)); intro gb w' hO hge hx)
  | (show WL _ _ _ _ _ _ _; first | apply WL.nil | (refine WL.au (k := ?_)))
  | (show Z _ _ _ _ _; apply Z.then_normal)
  | (show W _ _ _ _ _ _; first | apply W.seq | apply W.region | apply W.block)
  | fail)
 refine W.loopO2 n.length (fun k c cp b dp w' => k ≤ n.length ∧ Ext w w' ∧ Own 1 encV 179 w.heap.size w' c cp (wto n ins k).1 ∧ Row 1 encV w b (ins.drop (wto n ins k).2) ∧ (ins.drop (wto n ins k).2).length ≤ dp)
  (fun k c cp b dp => [(0, .slice a n.length cap), (1, .slice b (ins.drop (wto n ins k).2).length dp), (5, .slice c (wto n ins k).1.length cp), (13, .slice a n.length cap), (14, .int .i64 n.length), (15, .int .i64 k)])
  (some ⟨gb, 0, none⟩) _ b cb ⟨by omega, hx, hO, Rb, hcb⟩ (fun k c cp b dp w' h => h.1) ⟨rfl, rfl, rfl, rfl, rfl, rfl, trivial⟩ ?_
 rintro k c cp ba dp w' ⟨hk, hx', hO', Rb', hdp⟩
 have hvl := wto_len n ins k hk
 by_cases hlt : k < n.length
 ·obtain ⟨x, hxn⟩ := getI n hlt
  have hs := wto_succ ins hxn
  by_cases hin : 0 ≤ x.1
  ·have hgt := hg.gate hxn hin
   have e2 : (wto n ins (k + 1)).2 = (wto n ins k).2 := by rw [hs, wstep, if_pos hin]
   have e1 : (wto n ins (k + 1)).1 = (wto n ins k).1 ++ [wordOf (wto n ins k).1 x.1 &&& wordOf (wto n ins k).1 x.2] := by rw [hs, wstep, if_pos hin]
   repeat' (first
    | (apply W.condKT; exact rfl; (focus (first | exact dec_true (by omega) | exact dec_false (by omega); done)))
    | (apply QL.uand; (iterate 4 exact rfl); (first | exact rfl | exact u64_lit _ (by omega)); (first | exact rfl | exact u64_lit _ (by omega)))
    | (apply WL.alloc tOk; (iterate 3 exact rfl); intro gb w' hb hge hx)
    | (apply WL.storeB (w0 := w) tOk; (iterate 4 exact rfl); assumption; (exact extA); (iterate 3 exact rfl); (exact extA); (first | assumption | omega | (focus (apply Nat.le_trans; rotate_left; assumption; exact Below.size extA; done))); intro w' hb hc hX' hU; have hcc := hc; obtain ⟨h1, h2, _⟩ := hc; have hO3 := Upd.own hU (Own.ext hO' hx) (Own.blk_ne hO' hge))
    | ((show QL _ _ _ _ (⟨_, .call ⟨.value (.func 166), _, _⟩, _, _, _, _⟩ :: _) _ _); apply QL.callS; (iterate 4 exact rfl); exact sim_Word _ _ _ _ _ (Own.row encV_ok (by assumption)) (by unfold inI64; omega))
    | (apply WL.lit tOk; (iterate 6 exact rfl); (first | exact rfl | kernel_rfl | (simp [Instr.fill, catCells]; done)); exact rfl; intro gb w' hb hge hc hx)
    | (apply WL.append1 tOk encV_ok; (iterate 10 exact rfl); assumption; (exact extA); (first | exact rfl | (focus (simp only [List.length_set]; done)) | (focus (simp; done)) | (focus (simp [*]; done)) | omega | (focus (simp only [List.length_set]; omega))); assumption; (first | exact rfl | exact (rfl : encV (_, _) = _)); exact rfl; (exact extA); (first | omega | (simp; omega) | (simp at *; omega)); intro a' cap' w' hO hX' hU hF)
    | (show WL _ _ _ _ _ _ _; first | apply WL.nil | (refine WL.au (k := ?_)) | (apply WL.index tOk; (iterate 8 exact rfl); assumption; (exact extA); exact rfl; omega; assumption; intro b off h; have hcc := h; first | (obtain ⟨h1, h2, h3, h4, h5, h6, _⟩ := h) | (obtain ⟨h1, h2, h3, _⟩ := h) | (obtain ⟨h1, h2, _⟩ := h) | (obtain ⟨h1, _⟩ := h)))
    | (show QL _ _ _ _ _ _ _; first | apply QL.nil | (refine QL.au (k := ?_)))
    | (show Z _ _ _ _ _; first | apply Z.then_normal | apply Z.block_normal)
    | (show W _ _ _ _ _ _; first | apply W.seq | apply W.region | apply W.block | apply W.skip | (apply W.regionD tMix; kernel_rfl))
    | fail)
   exact Z.againO2 a' cap' ba dp ⟨by omega, hX', by rw [e1]; exact hO, by rw [e2]; exact Rb', by rw [e2]; exact hdp⟩ (by repeat' first | exact trivial | (refine And.intro ?_ ?_) | exact rfl | (rw [e1]; exact rfl) | (rw [e2]; exact rfl))
  ·have e2 : (wto n ins (k + 1)).2 = (wto n ins k).2 + 1 := by rw [hs, wstep, if_neg hin]
   have e1 : (wto n ins (k + 1)).1 = (wto n ins k).1 ++ [ins.getD (wto n ins k).2 0#64] := by rw [hs, wstep, if_neg hin]
   by_cases hki : (wto n ins k).2 < ins.length
   ·obtain ⟨z, hz⟩ := getI ins hki
    have hz' : (ins.drop (wto n ins k).2)[0]? = some z := by rw [List.getElem?_drop]; exact hz
    have hdl : 0 < (ins.drop (wto n ins k).2).length := by rw [List.length_drop]; omega
    rw [getD_of hz] at e1
    have e3 : (ins.drop (wto n ins k).2).drop 1 = ins.drop (wto n ins (k + 1)).2 := by rw [e2, List.drop_drop]
    repeat' (first
     | (apply W.condKT; exact rfl; (focus (first | exact dec_true (by omega) | exact dec_false (by omega); done)))
     | (apply W.condKF; exact rfl; (focus (first | exact dec_true (by omega) | exact dec_false (by omega); done)))
     | (apply WL.alloc tOk; (iterate 3 exact rfl); intro gb w' hb hge hx)
     | (apply WL.storeB (w0 := w) tOk; (iterate 4 exact rfl); assumption; (exact extA); (iterate 3 exact rfl); (exact extA); (first | assumption | omega | (focus (apply Nat.le_trans; rotate_left; assumption; exact Below.size extA; done))); intro w' hb hc hX' hU; have hcc := hc; obtain ⟨h1, h2, _⟩ := hc; have hO3 := Upd.own hU (Own.ext hO' hx) (Own.blk_ne hO' hge))
     | (apply QL.sliceL tOk; (iterate 8 exact rfl); assumption; (first | exact rfl | (focus (simp only [List.length_set]; done)) | (focus (simp; done)) | (focus (simp [*]; done)) | omega | (focus (simp only [List.length_set]; omega))); (first | assumption | omega); (first | omega | (simp; omega) | (simp at *; omega)); intro as' cs' hR hcs)
     | (apply WL.lit tOk; (iterate 6 exact rfl); (first | exact rfl | kernel_rfl | (simp [Instr.fill, catCells]; done)); exact rfl; intro gb w' hb hge hc hx)
     | (apply WL.append1 tOk encV_ok; (iterate 10 exact rfl); assumption; (exact extA); (first | exact rfl | (focus (simp only [List.length_set]; done)) | (focus (simp; done)) | (focus (simp [*]; done)) | omega | (focus (simp only [List.length_set]; omega))); assumption; (first | exact rfl | exact (rfl : encV (_, _) = _)); exact rfl; (exact extA); (first | omega | (simp; omega) | (simp at *; omega)); intro a' cap' w' hO hX' hU hF)
     | (show WL _ _ _ _ _ _ _; first | apply WL.nil | (refine WL.au (k := ?_)) | (apply WL.index tOk; (iterate 8 exact rfl); assumption; (exact extA); exact rfl; omega; assumption; intro b off h; have hcc := h; first | (obtain ⟨h1, h2, h3, h4, h5, h6, _⟩ := h) | (obtain ⟨h1, h2, h3, _⟩ := h) | (obtain ⟨h1, h2, _⟩ := h) | (obtain ⟨h1, _⟩ := h)))
     | (show QL _ _ _ _ _ _ _; first | apply QL.nil | (refine QL.au (k := ?_)) | (apply QL.index tOk; (iterate 8 exact rfl); assumption; (exact extA); exact rfl; omega; assumption; intro b off h; have hcc := h; first | (obtain ⟨h1, h2, h3, h4, h5, h6, _⟩ := h) | (obtain ⟨h1, h2, h3, _⟩ := h) | (obtain ⟨h1, h2, _⟩ := h) | (obtain ⟨h1, _⟩ := h)))
     | (show Z _ _ _ _ _; first | apply Z.then_normal | apply Z.block_normal)
     | (show W _ _ _ _ _ _; first | apply W.seq | apply W.region | apply W.block | apply W.skip | (apply W.regionD tMix; kernel_rfl))
     | fail)
    exact Z.againO2 a' cap' as' cs' ⟨by omega, hX', by rw [e1]; exact hO, by rw [← e3]; exact hR, by rw [← e3]; exact hcs⟩ (by repeat' first | exact trivial | (refine And.intro ?_ ?_) | exact rfl | (rw [e1]; exact rfl) | (rw [←e3]; exact rfl))
   ·have hd0 : (ins.drop (wto n ins k).2).length = 0 := by rw [List.length_drop]; omega
    have e4 : ins.drop (wto n ins (k + 1)).2 = ins.drop (wto n ins k).2 := by rw [e2, List.drop_eq_nil_of_le (by omega), List.drop_eq_nil_of_le (by omega)]
    have e5 : ins.getD (wto n ins k).2 0#64 = 0#64 := by rw [List.getD, List.getElem?_eq_none (by omega)]; rfl
    rw [e5] at e1
    repeat' (first
     | (apply W.condKT; exact rfl; (focus (first | exact dec_true (by omega) | exact dec_false (by omega); done)))
     | (apply W.condKF; exact rfl; (focus (first | exact dec_true (by omega) | exact dec_false (by omega); done)))
     | (apply WL.alloc tOk; (iterate 3 exact rfl); intro gb w' hb hge hx)
     | (apply WL.storeB (w0 := w) tOk; (iterate 4 exact rfl); assumption; (exact extA); (iterate 3 exact rfl); (exact extA); (first | assumption | omega | (focus (apply Nat.le_trans; rotate_left; assumption; exact Below.size extA; done))); intro w' hb hc hX' hU; have hcc := hc; obtain ⟨h1, h2, _⟩ := hc; have hO3 := Upd.own hU (Own.ext hO' hx) (Own.blk_ne hO' hge))
     | (apply WL.lit tOk; (iterate 6 exact rfl); (first | exact rfl | kernel_rfl | (simp [Instr.fill, catCells]; done)); exact rfl; intro gb w' hb hge hc hx)
     | ((apply WL.append1 (z := 0#64) tOk encV_ok; (iterate 10 exact rfl); assumption; (first | exact Ext.refl _ | assumption | exact Ext.trans (by assumption) (by assumption)); (first | exact rfl | omega); assumption; exact rfl; exact rfl; (first | exact Ext.refl _ | assumption | exact Ext.trans (by assumption) (by assumption)); omega; intro a' cap' w' hO hX' hU hF))
     | (show WL _ _ _ _ _ _ _; first | apply WL.nil | (refine WL.au (k := ?_)) | (apply WL.index tOk; (iterate 8 exact rfl); assumption; (exact extA); exact rfl; omega; assumption; intro b off h; have hcc := h; first | (obtain ⟨h1, h2, h3, h4, h5, h6, _⟩ := h) | (obtain ⟨h1, h2, h3, _⟩ := h) | (obtain ⟨h1, h2, _⟩ := h) | (obtain ⟨h1, _⟩ := h)))
     | (show Z _ _ _ _ _; first | apply Z.then_normal | apply Z.block_normal)
     | (show W _ _ _ _ _ _; first | apply W.seq | apply W.region | apply W.block | apply W.skip)
     | fail)
    exact Z.againO2 a' cap' ba dp ⟨by omega, hX', by rw [e1]; exact hO, by rw [e4]; exact Rb', by rw [e4]; exact hdp⟩ (by repeat' first | exact trivial | (refine And.intro ?_ ?_) | exact rfl | (rw [e1]; exact rfl) | (rw [e4]; exact rfl))
 ·repeat' (first
   | (apply W.condKF; exact rfl; (focus (exact dec_false (by omega); done)))
   | (show WL _ _ _ _ _ _ _; first | apply WL.nil | (refine WL.au (k := ?_)))
   | (show Z _ _ _ _ _; first | apply Z.then_normal | apply Z.then_exit | apply Z.block_exit)
   | (show W _ _ _ _ _ _; first | apply W.seq | apply W.region | apply W.ret | apply W.exit)
   | fail)
  obtain rfl : k = n.length := by omega
  exact Z.body1 Try.results146 rfl fun m => ⟨hx'.at m, c, cp, rfl, hO'⟩
end Go.Proofs.Yteidpnpbfagaeaa
