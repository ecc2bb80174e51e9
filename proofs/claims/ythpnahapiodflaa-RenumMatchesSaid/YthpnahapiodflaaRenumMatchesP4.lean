/- Part 4 of what the claim RenumMatches needs: lemmas and contracts, printed from longer texts. No conditions. -/
import Derived.Test.YthpnahapiodflaaRows
import Derived.Lib.SmallJoins
import Derived.KernelRfl
import Derived.WalkKit
import Derived.ProofKit
import Derived.Deep.Quiet
import Derived.Deep.LoopGhost
import Derived.StillTail
import Derived.Test.YthpnahapiodflaaProg
import Derived.OpenShut
import Derived.ShutString
import Derived.ChangeOld
import Derived.Deep.Slices
import Derived.SizedLaws
import Derived.Laws.StructEq
import Derived.Laws.CopyRow
import Derived.Laws.IdiomCopy
import Derived.Test.YthpnahapiodflaaRenumMatchesP3
namespace Go.Proofs.Ythpnahapiodflaa
open Go Go.Lt Go.RowKit
set_option linter.unusedVariables false
set_option linter.unusedSimpArgs false
set_option maxRecDepth 20000

set_option maxHeartbeats 32000000 in
theorem circ_Order (c : Circ) (w : World) (hG : Row 3 enc3 w c.gates.1 c.gates.2.2) (hok : gsOk c.gates.2.2) (hn : c.gates.2.2.length ≤ 1048576) (ho : Once c.gates.2.2) :
    Lt.Spec Try.prog 111 [c.val] w (IsFresh 1 encI 3 w (natI (ordL c.gates.2.2))) := by
  refine Spec.of _ Try.func111 rfl Try.ntmps111 (by kernel_rfl) rfl ?_
  repeat' (first
    | (apply WL.box; exact rfl; exact rfl; exact rfl; intro gb w' hb hge hc hx; have hcc := hc; (first | (obtain ⟨h1, h2, h3, _⟩ := hc) | (obtain ⟨h1, h2, _⟩ := hc)); (have hcells := hcc; obtain ⟨y0, y1, y2, y3, y4, y5, y6, _⟩ := hcc; obtain ⟨gc, rfl⟩ : ∃ x, x = gb := ⟨_, rfl⟩; obtain ⟨wc, rfl⟩ : ∃ x, x = w' := ⟨_, rfl⟩; obtain ⟨hxc, rfl⟩ : ∃ x, x = hx := ⟨_, rfl⟩))
    | ((apply WL.makeMap (kv := encK) (vv := encK); exact rfl; exact rfl; intro rm w1 hM1 hge1 hx1))
    | (show WL _ _ _ _ _ _ _; first | apply WL.nil | (refine WL.au (k := ?_)))
    | (show Z _ _ _ _ _; apply Z.then_normal)
    | (show W _ _ _ _ _ _; first | apply W.seq | apply W.region | apply W.block))
  have Rg := hG.ext hxc
  have hwc := Below.size hxc
  have hS : Lt.Sep wc.heap.size w1 [pmap encK encK rm (plcM c.gates.2.2 0)] := Sep.newMap Sep.none' hx1 hM1 hge1 (Nat.le_refl _)
  refine W.loopW c.gates.2.2.length (fun k w' => k ≤ c.gates.2.2.length ∧ Ext wc w' ∧ Lt.Sep wc.heap.size w' [pmap encK encK rm (plcM c.gates.2.2 k)]) (fun k => [(1, .pointer (some ⟨gc, 0, none⟩)), (3, .map (some rm)), (22, rowVal c.gates), (23, .int .i64 (c.gates.2.2.length : Nat)), (24, .int .i64 k)]) ⟨Nat.zero_le _, hx1, hS⟩ (fun k w' h => h.1) ⟨rfl, rfl, rfl, rfl, rfl, trivial⟩ ?_
  clear hS
  rintro k w3 ⟨hk, hX3, hS⟩
  have hM3 := hS.map (i := 0) rfl
  have hrm := (hS.lt (i := 0) rfl rfl).1
  by_cases hlt : k < c.gates.2.2.length
  · obtain ⟨g, hgg⟩ := getI c.gates.2.2 hlt
    have hgo := hok g (List.mem_of_getElem? hgg)
    have hnew := plcM_new ho hgg
    repeat' (first
      | (show WL _ _ _ _ _ _ _; first | apply WL.nil | (refine WL.au (k := ?_)))
      | (show Z _ _ _ _ _; apply Z.then_normal)
      | (show W _ _ _ _ _ _; first | apply W.seq | apply W.region))
    refine W.condKT rfl (dec_true (by omega)) ?_
    repeat' (first
      | (apply WL.alloc tOk; exact rfl; exact rfl; exact rfl; intro gb w' hb hge hx)
      | (apply WL.storeB (w0 := w3) tOk; exact rfl; exact rfl; exact rfl; exact rfl; assumption; (exact extA); exact rfl; exact rfl; exact rfl; (exact extA); (first | assumption | omega | (focus (apply Nat.le_trans; rotate_left; assumption; exact Below.size (by (exact extA)); done))); intro w' hb hc hX' hU; have hcc := hc; obtain ⟨h1, h2, _⟩ := hc; (obtain ⟨w4, rfl⟩ : ∃ x, x = w' := ⟨_, rfl⟩; obtain ⟨hX4, rfl⟩ : ∃ x, x = hX' := ⟨_, rfl⟩; have hC4 := cells_heap hb; obtain ⟨i0, i1, i2, _⟩ := hC4))
      | ((apply WL.mapPutF (B := 0) (w0 := wc) (vv := encK) tOk keyI; exact rfl; exact rfl; exact rfl; exact rfl; exact rfl; exact rfl; exact hM3.ext (by (exact extA)); exact (by (exact extA)); assumption; intro w' hM' hX' hU))
      | (show WL _ _ _ _ _ _ _; first | apply WL.nil | (refine WL.au (k := ?_)) | (apply WL.index tOk; exact rfl; exact rfl; exact rfl; exact rfl; exact rfl; exact rfl; exact rfl; exact rfl; assumption; (exact extA); exact rfl; omega; assumption; intro b off h; have hcc := h; first | (obtain ⟨h1, h2, h3, h4, h5, h6, _⟩ := h) | (obtain ⟨h1, h2, h3, _⟩ := h) | (obtain ⟨h1, h2, _⟩ := h) | (obtain ⟨h1, _⟩ := h)))
      | (show Z _ _ _ _ _; first | apply Z.then_normal | apply Z.block_normal)
      | (show W _ _ _ _ _ _; first | apply W.seq | apply W.region | apply W.block | apply W.skip))
    rw [hnew] at hM'
    have hS4 := Sep.updMap (i := 0) rfl hU hM' hS (by (exact extA)) (Below.size (by (exact extA)))
    exact Z.againW ⟨by omega, (by (exact extA)), by rw [plcM_s hgg]; exact hS4⟩ ⟨rfl, rfl, rfl, rfl, rfl, trivial⟩
  obtain rfl : k = c.gates.2.2.length := by omega
  repeat' (first
    | (show WL _ _ _ _ _ _ _; first | apply WL.nil | (refine WL.au (k := ?_)))
    | (show Z _ _ _ _ _; apply Z.then_normal)
    | (show W _ _ _ _ _ _; first | apply W.seq | apply W.region))
  refine W.condKF rfl (dec_false (by omega)) ?_
  repeat' (first
    | (show Z _ _ _ _ _; first | apply Z.then_normal | apply Z.then_exit | apply Z.block_exit)
    | (show W _ _ _ _ _ _; first | apply W.seq | apply W.exit))
  have y6w : w3.cell? ⟨gc, 0 + 1 + 1 + 1 + 1 + 1 + 1, none⟩ = some (rowVal c.gates) := (hcells.ext hX3).2.2.2.2.2.2.1
  have ei : ((c.gates.2.2.length : Nat) : Int).toNat = c.gates.2.2.length := by omega
  refine W.cutT (σ := Nat × Nat × World) (fun s => Ext wc s.2.2 ∧ Lt.Sep wc.heap.size s.2.2 [prow 1 encI 3 wc.heap.size (some ⟨s.1, 0, none⟩) c.gates.2.2.length (List.replicate c.gates.2.2.length 0), prow 1 encRow 23 wc.heap.size (some ⟨s.2.1, 0, none⟩) c.gates.2.2.length (List.replicate c.gates.2.2.length ((none, 0, []) : RowV Int)), pmap encK encK rm (plcM c.gates.2.2 c.gates.2.2.length)]) (fun s => [(1, .pointer (some ⟨gc, 0, none⟩)), (3, .map (some rm)), (6, .slice (some ⟨s.1, 0, none⟩) c.gates.2.2.length c.gates.2.2.length), (7, .slice (some ⟨s.2.1, 0, none⟩) c.gates.2.2.length c.gates.2.2.length)]) (fun s => s.2.2) ?_ ?_
  · repeat' (first
      | (show W _ _ (.region 7 _ _) _ _ _; apply W.regionGX (.fl true 0 (.fl true 4 (.fl false 1 (.fl true 2 (.fl false 5 (.fl true 6 (.br 3 (.fl true 8 (.br 7 (.fl true 9 .done) .stop)) (.br 7 (.br 3 (.fl true 8 (.fl true 9 .done)) .stop) .stop)))))))) [3, 5, 6, 7, 8] tMix; kernel_rfl)
      | (apply WL.make (w0 := wc) (z := (0:Int)) tOk; exact rfl; exact rfl; exact rfl; exact rfl; exact rfl; exact rfl; exact rfl; exact rfl; exact rfl; exact encI_ok; exact rfl; exact rfl; (exact extA); (first | omega | (simp; omega) | (simp at *; omega)); intro gb w' hO hge hx; replace hS := Sep.newRow (Sep.ext hS (by (exact extA))) hx hO (fun k hk => by cases hk; exact hge) (by (first | exact Nat.le_refl _ | exact Below.size (by (exact extA)))); (try simp only [List.set_cons_zero, List.set_cons_succ] at hS); (try have hR0 := hS.row (i := 0) rfl); (try have hR1 := hS.row (i := 1) rfl); (try have hR2 := hS.row (i := 2) rfl); (try have hR3 := hS.row (i := 3) rfl); (try have hR4 := hS.row (i := 4) rfl); (try have hC0 := hS.cell (i := 0) rfl); (try have hD0 := (cells_heap hC0).1); (try have hE0 := (cells_heap hC0).2.1); (try have hF0 := (cells_heap hC0).2.2.1); (try have hG0 := (cells_heap hC0).2.2.2.1); (try have hC1 := hS.cell (i := 1) rfl); (try have hD1 := (cells_heap hC1).1); (try have hE1 := (cells_heap hC1).2.1); (try have hF1 := (cells_heap hC1).2.2.1); (try have hG1 := (cells_heap hC1).2.2.2.1); (try have hC2 := hS.cell (i := 2) rfl); (try have hD2 := (cells_heap hC2).1); (try have hE2 := (cells_heap hC2).2.1); (try have hF2 := (cells_heap hC2).2.2.1); (try have hG2 := (cells_heap hC2).2.2.2.1); (try have hC3 := hS.cell (i := 3) rfl); (try have hD3 := (cells_heap hC3).1); (try have hE3 := (cells_heap hC3).2.1); (try have hF3 := (cells_heap hC3).2.2.1); (try have hG3 := (cells_heap hC3).2.2.2.1); (try have hC4 := hS.cell (i := 4) rfl); (try have hD4 := (cells_heap hC4).1); (try have hE4 := (cells_heap hC4).2.1); (try have hF4 := (cells_heap hC4).2.2.1); (try have hG4 := (cells_heap hC4).2.2.2.1); (try have hM0 := hS.map (i := 0) rfl); (try have hM1 := hS.map (i := 1) rfl); (try have hM2 := hS.map (i := 2) rfl); (try have hM3 := hS.map (i := 3) rfl); (try have hM4 := hS.map (i := 4) rfl))
      | (apply WL.make (w0 := wc) (z := nilR) tOk; exact rfl; exact rfl; exact rfl; exact rfl; exact rfl; exact rfl; exact rfl; exact rfl; exact rfl; exact encRow_ok; exact rfl; exact rfl; (exact extA); (first | omega | (simp; omega) | (simp at *; omega)); intro gb w' hO hge hx; replace hS := Sep.newRow (Sep.ext hS (by (exact extA))) hx hO (fun k hk => by cases hk; exact hge) (by (first | exact Nat.le_refl _ | exact Below.size (by (exact extA)))); (try simp only [List.set_cons_zero, List.set_cons_succ] at hS); (try have hR0 := hS.row (i := 0) rfl); (try have hR1 := hS.row (i := 1) rfl); (try have hR2 := hS.row (i := 2) rfl); (try have hR3 := hS.row (i := 3) rfl); (try have hR4 := hS.row (i := 4) rfl); (try have hC0 := hS.cell (i := 0) rfl); (try have hD0 := (cells_heap hC0).1); (try have hE0 := (cells_heap hC0).2.1); (try have hF0 := (cells_heap hC0).2.2.1); (try have hG0 := (cells_heap hC0).2.2.2.1); (try have hC1 := hS.cell (i := 1) rfl); (try have hD1 := (cells_heap hC1).1); (try have hE1 := (cells_heap hC1).2.1); (try have hF1 := (cells_heap hC1).2.2.1); (try have hG1 := (cells_heap hC1).2.2.2.1); (try have hC2 := hS.cell (i := 2) rfl); (try have hD2 := (cells_heap hC2).1); (try have hE2 := (cells_heap hC2).2.1); (try have hF2 := (cells_heap hC2).2.2.1); (try have hG2 := (cells_heap hC2).2.2.2.1); (try have hC3 := hS.cell (i := 3) rfl); (try have hD3 := (cells_heap hC3).1); (try have hE3 := (cells_heap hC3).2.1); (try have hF3 := (cells_heap hC3).2.2.1); (try have hG3 := (cells_heap hC3).2.2.2.1); (try have hC4 := hS.cell (i := 4) rfl); (try have hD4 := (cells_heap hC4).1); (try have hE4 := (cells_heap hC4).2.1); (try have hF4 := (cells_heap hC4).2.2.1); (try have hG4 := (cells_heap hC4).2.2.2.1); (try have hM0 := hS.map (i := 0) rfl); (try have hM1 := hS.map (i := 1) rfl); (try have hM2 := hS.map (i := 2) rfl); (try have hM3 := hS.map (i := 3) rfl); (try have hM4 := hS.map (i := 4) rfl))
      | (show SX _ _ _ _ _ _ _ _ _; first | (apply SX.done; intro w' hx) | (apply SX.fl0; exact rfl) | (apply SX.fl1; exact rfl; (exact extA)) | (apply SX.br1; exact rfl; intro w' hx) | (apply SX.br; exact rfl; (intro w' hx)))
      | (show FL _ _ _ _ _ _ _ _; first | apply FL.nilX | (apply FL.loadE tOk; exact rfl; exact rfl; exact rfl; exact rfl; exact rfl; assumption))
      | (show FL _ _ _ _ _ _ _ _; (refine FL.au (k := ?_)))
      | (show Z _ _ _ _ _; (apply Z.sxE; (exact extA)))
      | (show WL _ _ _ _ _ _ _; apply WL.nil))
    all_goals (rw [ei] at hS; rw [ei]; rw [List.length_replicate, List.length_replicate])
    · exact Z.cut (_, _, w') ⟨(by (exact extA)), (Sep.swap01 hS).ext (by (exact extA))⟩ ⟨rfl, rfl, rfl, rfl, trivial⟩ rfl
    · exact Z.cut (_, _, w') ⟨(by (exact extA)), hS.ext (by (exact extA))⟩ ⟨rfl, rfl, rfl, rfl, trivial⟩ rfl
  clear hS hX3 hM3 y6w
  rintro ⟨gl, go, w4⟩ ⟨hX4, hS⟩
  dsimp only at hX4 hS
  obtain ⟨n, hnn⟩ : ∃ n, c.gates.2.2.length = n := ⟨_, rfl⟩
  have hS4 : Lt.Sep wc.heap.size w4 (rst wc.heap.size (some ⟨gl, 0, none⟩) n (List.replicate n 0) (some ⟨go, 0, none⟩) n (List.replicate n nilR) rm (plcM c.gates.2.2 n) none 0 [] nilR (List.replicate n nilR)) := by
    have := Sep.addNils hS (n + 2)
    rw [hnn] at this
    exact this
  repeat' (first
    | (((show WL _ _ _ (⟨_, .call ⟨.value (.func 150), _, _⟩, _, _, _, _⟩ :: _) _ _ _); apply WL.call; exact rfl; exact rfl; exact rfl; exact rfl; exact heap_New c.gates.2.2.length hn _ wc _ (by (exact extA)) (hS4.ext (by (exact extA))); rintro v' w5 ⟨gh, F, A, rfl, hFl, hB5⟩; have hX5 := HpB.ext hB5))
    | (show WL _ _ _ _ _ _ _; first | apply WL.nil | (refine WL.au (k := ?_)))
    | (show Z _ _ _ _ _; apply Z.then_normal)
    | (show W _ _ _ _ _ _; first | apply W.seq | apply W.region | apply W.block))
  have hFn : F.length = n := by omega
  refine W.loopW n (fun k w' => k ≤ n ∧ ∃ lk rs lit t A, HpB wc w' gh F (rst wc.heap.size (some ⟨gl, 0, none⟩) n lk (some ⟨go, 0, none⟩) n rs rm (plcM c.gates.2.2 n) none 0 [] lit rs) t A (pA k lk) ∧ StI c.gates.2.2 k lk rs) (fun k => [(1, .pointer (some ⟨gc, 0, none⟩)), (3, .map (some rm)), (6, .slice (some ⟨gl, 0, none⟩) n n), (7, .slice (some ⟨go, 0, none⟩) n n), (8, .pointer (some ⟨gh, 0, none⟩)), (48, rowVal c.gates), (49, .int .i64 (n : Nat)), (50, .int .i64 k)]) ⟨Nat.zero_le _, _, _, _, _, _, hB5.mono (fun x => ⟨fun h => h.elim, fun ⟨j, _, h, _⟩ => absurd h (Nat.not_lt_zero _)⟩), by rw [← hnn]; exact StI.first _⟩ (fun k w' h => h.1) (by rw [← hnn]; exact ⟨rfl, rfl, rfl, rfl, rfl, rfl, rfl, rfl, trivial⟩) ?_
  clear hS hS4 hB5 hX5 hX4
  rintro k w6 ⟨hk, lk, rs, lit, t, A, hB6, hI6⟩
  have hX6 := hB6.ext
  by_cases hlt : k < n
  · obtain ⟨g, hgg⟩ := getI c.gates.2.2 (show k < c.gates.2.2.length by omega)
    have hgo := hok g (List.mem_of_getElem? hgg)
    repeat' (first
      | (show WL _ _ _ _ _ _ _; first | apply WL.nil | (refine WL.au (k := ?_)))
      | (show Z _ _ _ _ _; apply Z.then_normal)
      | (show W _ _ _ _ _ _; first | apply W.seq | apply W.region))
    refine W.condKT rfl (dec_true (by omega)) ?_
    repeat' (first
      | (apply WL.alloc tOk; exact rfl; exact rfl; exact rfl; intro gb w' hb hge hx)
      | (apply WL.storeB (w0 := w6) tOk; exact rfl; exact rfl; exact rfl; exact rfl; assumption; (exact extA); exact rfl; exact rfl; exact rfl; (exact extA); (first | assumption | omega | (focus (apply Nat.le_trans; rotate_left; assumption; exact Below.size (by (exact extA)); done))); intro w' hb hc hX' hU; have hcc := hc; obtain ⟨h1, h2, _⟩ := hc; (obtain ⟨w7, rfl⟩ : ∃ x, x = w' := ⟨_, rfl⟩; obtain ⟨hX7, rfl⟩ : ∃ x, x = hX' := ⟨_, rfl⟩; have hC7 := cells_heap hb; obtain ⟨i0, i1, i2, _⟩ := hC7))
      | (apply WL.lit tOk; exact rfl; exact rfl; exact rfl; exact rfl; exact rfl; exact rfl; (first | exact rfl | kernel_rfl | (simp [Instr.fill, catCells]; done)); exact rfl; intro gb w' hb hge hc hx; have hO := Own.of_block ([g.2.1, g.2.2]) encI_ok hb hge rfl; (obtain ⟨gt, rfl⟩ : ∃ x, x = gb := ⟨_, rfl⟩; obtain ⟨w8, rfl⟩ : ∃ x, x = w' := ⟨_, rfl⟩; obtain ⟨hx8, rfl⟩ : ∃ x, x = hx := ⟨_, rfl⟩; obtain ⟨hO8, rfl⟩ : ∃ x, x = hO := ⟨_, rfl⟩; obtain ⟨hge8, rfl⟩ : ∃ x, x = hge := ⟨_, rfl⟩))
      | (show WL _ _ _ _ _ _ _; first | apply WL.nil | (refine WL.au (k := ?_)) | (apply WL.index tOk; exact rfl; exact rfl; exact rfl; exact rfl; exact rfl; exact rfl; exact rfl; exact rfl; assumption; (exact extA); exact rfl; omega; assumption; intro b off h; have hcc := h; first | (obtain ⟨h1, h2, h3, h4, h5, h6, _⟩ := h) | (obtain ⟨h1, h2, h3, _⟩ := h) | (obtain ⟨h1, h2, _⟩ := h) | (obtain ⟨h1, _⟩ := h)))
      | (show Z _ _ _ _ _; apply Z.then_normal)
      | (show W _ _ _ _ _ _; first | apply W.seq | apply W.region | apply W.block | apply W.skip))
    have hB8 := hB6.setLit (show Ext w6 w8 from (by (exact extA))) (hO8.base (Nat.le_trans (Below.size hX6) (Below.size hX7))) (Nat.le_trans (Below.size hX7) hge8)
    have hA8 := hI6.enter hgg
    refine W.loopW 2 (fun j w' => j ≤ 2 ∧ ∃ lk rs t A, HpB wc w' gh F (rst wc.heap.size (some ⟨gl, 0, none⟩) n lk (some ⟨go, 0, none⟩) n rs rm (plcM c.gates.2.2 n) none 0 [] (some ⟨gt, 0, none⟩, 2, [g.2.1, g.2.2]) rs) t A (pA k lk) ∧ StA c.gates.2.2 k g j lk rs) (fun j => [(1, .pointer (some ⟨gc, 0, none⟩)), (3, .map (some rm)), (6, .slice (some ⟨gl, 0, none⟩) n n), (7, .slice (some ⟨go, 0, none⟩) n n), (8, .pointer (some ⟨gh, 0, none⟩)), (9, .int .i64 k), (48, rowVal c.gates), (49, .int .i64 (n : Nat)), (50, .int .i64 k), (59, .slice (some ⟨gt, 0, none⟩) 2 2), (60, .int .i64 2), (61, .int .i64 j)]) ⟨Nat.zero_le _, _, _, _, _, hB8, hA8⟩ (fun k w' h => h.1) ⟨rfl, rfl, rfl, rfl, rfl, rfl, rfl, rfl, rfl, rfl, rfl, rfl, trivial⟩ ?_
    clear hB8 hA8 hB6 hI6 hX6
    rintro j w9 ⟨hj, lk, rs, t, A, hB9, hA9⟩
    have hX9 := hB9.ext
    by_cases hjl : j < 2
    · obtain ⟨l, hl⟩ : ∃ l, litJ g j = l := ⟨_, rfl⟩
      have hll : ([g.2.1, g.2.2] : List Int)[((j : Nat) : Int).toNat]? = some l := by
        rw [Int.toNat_natCast, ← hl]
        match j, hjl with
        | 0, _ => rfl
        | 1, _ => rfl
      have hl0 : 0 ≤ l ∧ l ≤ 33554433 := by
        rw [← hl]
        match j, hjl with
        | 0, _ => exact hgo.2.1
        | 1, _ => exact hgo.2.2
      obtain ⟨hX9, ⟨hat, hze, as_, cs, tr, ct, ap, cp, hS⟩, hO9, hm9⟩ := hB9
      have hMp := hS.map (i := 6) rfl
      have hLo := hS.row (i := 4) rfl
      have RL := (hS.row (i := 8) rfl).row encI_ok
      have hll3 := hA9.llen
      have hrl3 := hA9.rlen
      have hLn : lk.length = n := by omega
      have hRn : rs.length = n := by omega
      cases hmg : mget (l / 2) (plcM c.gates.2.2 n) with
      | none =>
        repeat' (first
          | (show WL _ _ _ _ _ _ _; first | apply WL.nil | (refine WL.au (k := ?_)))
          | (show Z _ _ _ _ _; apply Z.then_normal)
          | (show W _ _ _ _ _ _; first | apply W.seq | apply W.region))
        refine W.condKT rfl (dec_true (by omega)) ?_
        repeat' (first
          | ((apply WL.lookNoneF tOk keyI; exact rfl; exact rfl; exact rfl; exact rfl; exact rfl; exact rfl; exact rfl; exact hMp; exact hmg))
          | (show WL _ _ _ _ _ _ _; first | apply WL.nil | (refine WL.au (k := ?_)) | (apply WL.index tOk; exact rfl; exact rfl; exact rfl; exact rfl; exact rfl; exact rfl; exact rfl; exact rfl; assumption; (exact extA); exact rfl; omega; assumption; intro b off h; have hcc := h; first | (obtain ⟨h1, h2, h3, h4, h5, h6, _⟩ := h) | (obtain ⟨h1, h2, h3, _⟩ := h) | (obtain ⟨h1, h2, _⟩ := h) | (obtain ⟨h1, _⟩ := h)))
          | (show Z _ _ _ _ _; apply Z.then_normal)
          | (show W _ _ _ _ _ _; first | apply W.seq | apply W.region | apply W.block | apply W.skip))
        refine W.condKF rfl rfl ?_
        repeat' (first
          | (show WL _ _ _ _ _ _ _; first | apply WL.nil | (refine WL.au (k := ?_)))
          | (show Z _ _ _ _ _; first | apply Z.then_normal | apply Z.block_normal)
          | (show W _ _ _ _ _ _; first | apply W.region | apply W.skip))
        refine Z.againW ⟨by omega, lk, rs, t, A, ⟨(by (exact extA)), ⟨hat, hze, as_, cs, tr, ct, ap, cp, hS⟩, hO9, hm9⟩, hA9.skip fun q y hy he => ?_⟩ ⟨rfl, rfl, rfl, rfl, rfl, rfl, rfl, rfl, rfl, rfl, rfl, rfl, trivial⟩
        rw [← hnn] at hmg
        exact plcM_none hmg q y hy (by rw [← hl, he])
      | some v =>
        have hmg' := hmg
        rw [← hnn] at hmg'
        obtain ⟨kk, y, hy, hyl, rfl⟩ := plcM_some hmg'
        have hkk := lt_of_get hy
        obtain ⟨r, hr, hrv⟩ := hA9.row kk y hy
        have hnow := hA9.now
        have hLk : lk[((k : Nat) : Int).toNat]? = some (lackJ c.gates.2.2 g j : Int) := by rw [Int.toNat_natCast]; exact hnow
        have hRk : rs[((kk : Nat) : Int).toNat]? = some r := by rw [Int.toNat_natCast]; exact hr
        have hlj := lackJ_le c.gates.2.2 g j
        repeat' (first
          | (show WL _ _ _ _ _ _ _; first | apply WL.nil | (refine WL.au (k := ?_)))
          | (show Z _ _ _ _ _; apply Z.then_normal)
          | (show W _ _ _ _ _ _; first | apply W.seq | apply W.region))
        refine W.condKT rfl (dec_true (by omega)) ?_
        repeat' (first
          | ((apply WL.lookSomeF tOk keyI; exact rfl; exact rfl; exact rfl; exact rfl; exact rfl; exact rfl; exact rfl; exact hMp; exact hmg))
          | (show WL _ _ _ _ _ _ _; first | apply WL.nil | (refine WL.au (k := ?_)) | (apply WL.index tOk; exact rfl; exact rfl; exact rfl; exact rfl; exact rfl; exact rfl; exact rfl; exact rfl; assumption; (exact extA); exact rfl; omega; assumption; intro b off h; have hcc := h; first | (obtain ⟨h1, h2, h3, h4, h5, h6, _⟩ := h) | (obtain ⟨h1, h2, h3, _⟩ := h) | (obtain ⟨h1, h2, _⟩ := h) | (obtain ⟨h1, _⟩ := h)))
          | (show Z _ _ _ _ _; apply Z.then_normal)
          | (show W _ _ _ _ _ _; first | apply W.seq | apply W.region | apply W.block | apply W.skip))
        refine W.condKT rfl rfl ?_
        repeat' (first
          | (apply WL.indexO tOk; exact rfl; exact rfl; exact rfl; exact rfl; exact rfl; exact rfl; exact rfl; exact rfl; assumption; (exact extA); exact encI_ok; (first | exact rfl | (focus (simp only [List.length_set]; done)) | (focus (simp; done)) | (focus (simp [*]; done)) | omega | (focus (simp only [List.length_set]; omega))); omega; assumption; intro gb ha hc; cases ha; have hcc := hc; first | (obtain ⟨h1, h2, h3, _⟩ := hc) | (obtain ⟨h1, h2, _⟩ := hc) | (obtain ⟨h1, _⟩ := hc))
          | (apply WL.storeO (z' := (((lackJ c.gates.2.2 g j : Nat) : Int) + 1)) tOk; exact rfl; exact rfl; exact rfl; exact rfl; assumption; (exact extA); exact rfl; exact rfl; exact rfl; exact encI_ok; assumption; exact rfl; (exact extA); intro w' hO hX' hU)
          | (show WL _ _ _ _ _ _ _; first | apply WL.nil | (refine WL.au (k := ?_)))
          | (show Z _ _ _ _ _; apply Z.then_normal)
          | (show W _ _ _ _ _ _; first | apply W.seq | apply W.region))
        obtain ⟨w10, rfl⟩ : ∃ x, x = w' := ⟨_, rfl⟩
        have hS1 : Lt.Sep wc.heap.size w10 (hpP wc.heap.size gh as_ cs F tr ct t.length t ap cp A ++ rst wc.heap.size (some ⟨gl, 0, none⟩) n (lk.set ((k : Nat) : Int).toNat (((lackJ c.gates.2.2 g j : Nat) : Int) + 1)) (some ⟨go, 0, none⟩) n rs rm (plcM c.gates.2.2 n) none 0 [] (some ⟨gt, 0, none⟩, 2, [g.2.1, g.2.2]) rs) := Sep.updRow (i := 4) rfl hU hO (.inl rfl) hS (Ext.refl _) (Below.size hX9)
        have hOu := hS1.row (i := 5) rfl
        have hIn := hS1.row (rst_in hr _ rfl)
        have hX10 : Ext wc w10 := (by (exact extA))
        have hrl : r.2.2.length ≤ 2 * n + 2 := by
          have q1 := abv_len c.gates.2.2 y k
          have q2 := hangsJ_le g y j
          rw [hrv, List.length_append, List.length_replicate]; omega
        repeat' (first
          | (apply WL.indexO tOk; exact rfl; exact rfl; exact rfl; exact rfl; exact rfl; exact rfl; exact rfl; exact rfl; assumption; (exact extA); exact encRow_ok; (first | exact rfl | (focus (simp only [List.length_set]; done)) | (focus (simp; done)) | (focus (simp [*]; done)) | omega | (focus (simp only [List.length_set]; omega))); omega; assumption; intro gb ha hc; cases ha; have hcc := hc; first | (obtain ⟨h1, h2, h3, _⟩ := hc) | (obtain ⟨h1, h2, _⟩ := hc) | (obtain ⟨h1, _⟩ := hc))
          | (apply WL.lit tOk; exact rfl; exact rfl; exact rfl; exact rfl; exact rfl; exact rfl; (first | exact rfl | kernel_rfl | (simp [Instr.fill, catCells]; done)); exact rfl; intro gb w' hb hge hc hx)
          | (apply WL.append1 (z := (((k : Nat) : Int))) tOk encI_ok; exact rfl; exact rfl; exact rfl; exact rfl; exact rfl; exact rfl; exact rfl; exact rfl; exact rfl; exact rfl; assumption; (exact extA); (first | exact rfl | (focus (simp only [List.length_set]; done)) | (focus (simp; done)) | (focus (simp [*]; done)) | omega | (focus (simp only [List.length_set]; omega))); (first | assumption | (refine Cells.ext ?_ (by assumption); exact extA)); exact rfl; exact rfl; (exact extA); (first | omega | (simp; omega) | (simp at *; omega)); intro a' cap' w' hO hX' hU hF)
          | (show WL _ _ _ _ _ _ _; (refine WL.au (k := ?_))))
        obtain ⟨w12, rfl⟩ : ∃ x, x = w' := ⟨_, rfl⟩; obtain ⟨a2, rfl⟩ : ∃ x, x = a' := ⟨_, rfl⟩; obtain ⟨cp2, rfl⟩ : ∃ x, x = cap' := ⟨_, rfl⟩
        have hS2 := Sep.updRow (rst_in hr _ rfl) hU hO hF hS1 (by (exact extA)) (Below.size (by (exact extA)))
        rw [show prow 1 encI 3 wc.heap.size a2 cp2 (r.2.2 ++ [((k : Nat) : Int)]) = pI wc.heap.size (a2, cp2, r.2.2 ++ [((k : Nat) : Int)]) from rfl, rst_set _ rfl] at hS2
        have hOu2 := hS2.row (i := 5) rfl
        have hX12 : Ext wc w12 := (by (exact extA))
        repeat' (first
          | (apply WL.indexO tOk; exact rfl; exact rfl; exact rfl; exact rfl; exact rfl; exact rfl; exact rfl; exact rfl; assumption; (exact extA); exact encRow_ok; (first | exact rfl | (focus (simp only [List.length_set]; done)) | (focus (simp; done)) | (focus (simp [*]; done)) | omega | (focus (simp only [List.length_set]; omega))); omega; assumption; intro gb ha hc; cases ha; have hcc := hc; first | (obtain ⟨h1, h2, h3, _⟩ := hc) | (obtain ⟨h1, h2, _⟩ := hc) | (obtain ⟨h1, _⟩ := hc))
          | (apply WL.storeO (z' := (((a2, cp2, r.2.2 ++ [((k : Nat) : Int)]) : RowV Int))) tOk; exact rfl; exact rfl; exact rfl; exact rfl; assumption; (exact extA); exact rfl; exact rfl; exact rfl; exact encRow_ok; assumption; exact rfl; (exact extA); intro w' hO hX' hU)
          | (show WL _ _ _ _ _ _ _; first | apply WL.nil | (refine WL.au (k := ?_)))
          | (show Z _ _ _ _ _; first | apply Z.then_normal | apply Z.block_normal)
          | (show W _ _ _ _ _ _; apply W.region))
        have hS3 : Lt.Sep wc.heap.size w' (hpP wc.heap.size gh as_ cs F tr ct t.length t ap cp A ++ rst wc.heap.size (some ⟨gl, 0, none⟩) n (lk.set ((k : Nat) : Int).toNat (((lackJ c.gates.2.2 g j : Nat) : Int) + 1)) (some ⟨go, 0, none⟩) n (rs.set ((kk : Nat) : Int).toNat (a2, cp2, r.2.2 ++ [((k : Nat) : Int)])) rm (plcM c.gates.2.2 n) none 0 [] (some ⟨gt, 0, none⟩, 2, [g.2.1, g.2.2]) (rs.set kk (a2, cp2, r.2.2 ++ [((k : Nat) : Int)]))) := Sep.updRow (i := 5) rfl hU hO (.inl rfl) hS2 (Ext.refl _) (Below.size hX12)
        rw [Int.toNat_natCast, Int.toNat_natCast] at hS3
        exact Z.againW ⟨by omega, _, _, t, A, ⟨(by (exact extA)), ⟨hat, hze, as_, cs, tr, ct, ap, cp, hS3⟩, hO9, fun x => (hm9 x).trans (pA_set x).symm⟩, hA9.take ho hy (by rw [hyl, hl]) hr⟩ ⟨rfl, rfl, rfl, rfl, rfl, rfl, rfl, rfl, rfl, rfl, rfl, rfl, trivial⟩
    obtain rfl : j = 2 := by omega
    have hI9 := hA9.leave hgg
    have hnow : lk[k]? = some (lackG c.gates.2.2 [] g : Int) := by rw [hA9.now, lackJ2]
    have hll3 := hA9.llen
    have hB9' := hB9
    obtain ⟨hX9, ⟨hat, hze, as_, cs, tr, ct, ap, cp, hS⟩, hO9, hm9⟩ := hB9'
    have hLo := hS.row (i := 4) rfl
    have hLn : lk.length = n := by omega
    have hLk : lk[((k : Nat) : Int).toNat]? = some (lackG c.gates.2.2 [] g : Int) := by rw [Int.toNat_natCast]; exact hnow
    repeat' (first
      | (show WL _ _ _ _ _ _ _; first | apply WL.nil | (refine WL.au (k := ?_)))
      | (show Z _ _ _ _ _; apply Z.then_normal)
      | (show W _ _ _ _ _ _; first | apply W.seq | apply W.region))
    refine W.condKF rfl (dec_false (by omega)) ?_
    repeat' (first
      | (apply WL.indexO tOk; exact rfl; exact rfl; exact rfl; exact rfl; exact rfl; exact rfl; exact rfl; exact rfl; assumption; (exact extA); exact encI_ok; (first | exact rfl | (focus (simp only [List.length_set]; done)) | (focus (simp; done)) | (focus (simp [*]; done)) | omega | (focus (simp only [List.length_set]; omega))); omega; assumption; intro gb ha hc; cases ha; have hcc := hc; first | (obtain ⟨h1, h2, h3, _⟩ := hc) | (obtain ⟨h1, h2, _⟩ := hc) | (obtain ⟨h1, _⟩ := hc))
      | (show WL _ _ _ _ _ _ _; first | apply WL.nil | (refine WL.au (k := ?_)))
      | (show Z _ _ _ _ _; first | apply Z.then_normal | apply Z.then_exit | apply Z.block_exit)
      | (show W _ _ _ _ _ _; first | apply W.seq | apply W.region | apply W.exit))
    by_cases h0 : lackG c.gates.2.2 [] g = 0
    · refine W.condKT rfl (dec_true (by omega)) ?_
      have hnp : ¬ pA k lk (k : Int) := fun ⟨q, q1, q2, q3⟩ => by omega
      repeat' (first
        | (((show WL _ _ _ (⟨_, .call ⟨.value (.func 151), _, _⟩, _, _, _, _⟩ :: _) _ _ _); apply WL.call; exact rfl; exact rfl; exact rfl; exact rfl; exact heap_Push w9 wc gh F t A _ (pA k lk) hB9 (by omega) k (by omega) hnp; rintro v' w10 ⟨rfl, t1, A1, hB10⟩))
        | (show WL _ _ _ _ _ _ _; first | apply WL.nil | (refine WL.au (k := ?_)))
        | (show Z _ _ _ _ _; first | apply Z.then_normal | apply Z.block_normal)
        | (show W _ _ _ _ _ _; apply W.region))
      exact Z.againW ⟨by omega, _, _, _, t1, A1, hB10.mono (fun x => pA_push (by rw [hnow, h0]; rfl) x), hI9⟩ ⟨rfl, rfl, rfl, rfl, rfl, rfl, rfl, rfl, trivial⟩
    · refine W.condKF rfl (dec_false (by omega)) ?_
      repeat' (first
        | (show WL _ _ _ _ _ _ _; first | apply WL.nil | (refine WL.au (k := ?_)))
        | (show Z _ _ _ _ _; first | apply Z.then_normal | apply Z.block_normal)
        | (show W _ _ _ _ _ _; first | apply W.region | apply W.skip))
      exact Z.againW ⟨by omega, _, _, _, t, A, hB9.mono (fun x => pA_next hnow (by omega) x), hI9⟩ ⟨rfl, rfl, rfl, rfl, rfl, rfl, rfl, rfl, trivial⟩
  obtain rfl : k = n := by omega
  repeat' (first
    | (show WL _ _ _ _ _ _ _; first | apply WL.nil | (refine WL.au (k := ?_)))
    | (show Z _ _ _ _ _; apply Z.then_normal)
    | (show W _ _ _ _ _ _; first | apply W.seq | apply W.region))
  refine W.condKF rfl (dec_false (by omega)) ?_
  have hll6 := hI6.llen
  have hB7 := hB6.mono (fun x => pA_all (show lk.length = k by omega) x)
  have hSB : StB c.gates.2.2 [] [] lk := ⟨hI6.llen, fun q x hx => by rw [hI6.old q x hx (by have := lt_of_get hx; omega)]; simp⟩
  have hrows : ∀ (q : Nat) (y : G3), c.gates.2.2[q]? = some y → ∃ r, rs[q]? = some r ∧ r.2.2 = abv c.gates.2.2 y c.gates.2.2.length := by
    rw [hnn]; exact hI6.row
  have hrl6 := hI6.rlen
  have start : ∀ (L : List Nat) (lk : List Int) (ya : Int), StB c.gates.2.2 L [] lk → pH L lk ya → (∀ x, pH L lk x → ya ≤ x) → ∃ i : Nat, ya = (i : Int) ∧ Least c.gates.2.2 L i := fun L lk ya hS hp hm => by
    obtain ⟨i, rfl, hr⟩ := (hS.rdy ya).1 hp
    exact ⟨i, rfl, hr, fun j hj => by have := hm (j : Int) ((hS.rdy _).2 ⟨j, rfl, hj⟩); omega⟩
  repeat' (first
    | (((show WL _ _ _ (⟨_, .call ⟨.value (.func 152), _, _⟩, _, _, _, _⟩ :: _) _ _ _); apply WL.call; exact rfl; exact rfl; exact rfl; exact rfl; exact heap_PopO w6 wc gh F t A _ (pH [] lk) hB7 (by omega); rintro v' w7 ⟨nx, rfl, hnx1, hnx2, t1, A1, hB8⟩))
    | (show WL _ _ _ _ _ _ _; first | apply WL.nil | (refine WL.au (k := ?_)))
    | (show Z _ _ _ _ _; first | apply Z.then_normal | apply Z.then_exit | apply Z.block_exit)
    | (show W _ _ _ _ _ _; first | apply W.seq | apply W.region | apply W.block | apply W.exit))
  refine W.loop (σ := List Nat × Option Int × Option Addr × Nat × World) (fun s => PreOrd c.gates.2.2 s.1 ∧ ∃ lk t A, HpB wc s.2.2.2.2 gh F (rst wc.heap.size (some ⟨gl, 0, none⟩) k lk (some ⟨go, 0, none⟩) k rs rm (plcM c.gates.2.2 k) s.2.2.1 s.2.2.2.1 (natI s.1) lit rs) t A (fun x => pH s.1 lk x ∧ ∀ y, s.2.1 = some y → x ≠ y) ∧ StB c.gates.2.2 s.1 [] lk ∧ (∀ y, s.2.1 = some y → pH s.1 lk y ∧ ∀ x, pH s.1 lk x → y ≤ x) ∧ (s.2.1 = none → ∀ x, ¬ pH s.1 lk x)) (fun s => [(6, .slice (some ⟨gl, 0, none⟩) k k), (7, .slice (some ⟨go, 0, none⟩) k k), (8, .pointer (some ⟨gh, 0, none⟩)), (15, .slice s.2.2.1 (natI s.1).length s.2.2.2.1), (16, .int .i64 (s.2.1.getD 0)), (17, .bool s.2.1.isSome)]) (fun s => s.2.2.2.2) (fun s => c.gates.2.2.length + 1 - s.1.length) ([], nx, none, 0, w7) ⟨PreOrd.nil _, lk, t1, A1, hB8, hSB, hnx1, hnx2⟩ ⟨rfl, rfl, rfl, rfl, rfl, rfl, trivial⟩ rfl ?_
  clear hB7 hB8 hSB hnx1 hnx2 hB6 hI6 hX6 hll6
  rintro ⟨L, nx, ou, cu, w8⟩ ⟨hP, lk, t, A, hB8, hSB, hn1, hn2⟩
  dsimp only at hP hB8 hSB hn1 hn2 ⊢
  have hX8 := hB8.ext
  have hLle := hP.le
  cases nx with
  | none =>
    repeat' (first
      | (show WL _ _ _ _ _ _ _; first | apply WL.nil | (refine WL.au (k := ?_)))
      | (show Z _ _ _ _ _; apply Z.then_normal)
      | (show W _ _ _ _ _ _; first | apply W.seq | apply W.region))
    refine W.condKF rfl rfl ?_
    repeat' (first
      | (show WL _ _ _ _ _ _ _; first | apply WL.nil | (refine WL.au (k := ?_)))
      | (show Z _ _ _ _ _; first | apply Z.then_normal | apply Z.then_exit | apply Z.block_exit)
      | (show W _ _ _ _ _ _; first | apply W.seq | apply W.region | apply W.ret | apply W.exit))
    obtain ⟨hX9, ⟨hat, hze, as_, cs, tr, ct, ap, cp, hS⟩, hO9, hm9⟩ := hB8
    have hOut := hS.row (i := 7) rfl
    have hLo : L = ordL c.gates.2.2 := IsOrd.ord ⟨hP, fun q hq => hn2 rfl (q : Int) ((hSB.rdy _).2 ⟨q, rfl, hq⟩)⟩
    exact Z.body1 Try.results111 rfl fun m => ⟨hxc.trans (Ext.at hX8 m), ou, cu, by rw [← hLo], by rw [← hLo]; exact (hOut.base hwc).ext ((Ext.refl _).at m)⟩
  | some ya =>
    obtain ⟨i, rfl, hle⟩ := start L lk ya hSB (hn1 ya rfl).1 (hn1 ya rfl).2
    obtain ⟨y, hy, hiL, hself⟩ := hle.1
    have hself := rdy_self hle.1 hy
    have hik := lt_of_get hy
    obtain ⟨r, hr, hrv⟩ := hrows i y hy
    repeat' (first
      | (show WL _ _ _ _ _ _ _; first | apply WL.nil | (refine WL.au (k := ?_)))
      | (show Z _ _ _ _ _; apply Z.then_normal)
      | (show W _ _ _ _ _ _; first | apply W.seq | apply W.region))
    refine W.condKT rfl rfl ?_
    refine W.sub [(6, .slice (some ⟨gl, 0, none⟩) k k), (7, .slice (some ⟨go, 0, none⟩) k k), (8, .pointer (some ⟨gh, 0, none⟩)), (15, .slice ou (natI L).length cu), (16, .int .i64 ((i : Nat) : Int))] ⟨rfl, rfl, rfl, rfl, rfl, trivial⟩ ?_
    obtain ⟨hX9, ⟨hat, hze, as_, cs, tr, ct, ap, cp, hS⟩, hO9, hm9⟩ := hB8
    have hOut := hS.row (i := 7) rfl
    have hnl : (natI L).length = L.length := List.length_map _
    repeat' (first
      | (apply WL.lit tOk; exact rfl; exact rfl; exact rfl; exact rfl; exact rfl; exact rfl; (first | exact rfl | kernel_rfl | (simp [Instr.fill, catCells]; done)); exact rfl; intro gb w' hb hge hc hx)
      | (apply WL.append1 (z := (((i : Nat) : Int))) tOk encI_ok; exact rfl; exact rfl; exact rfl; exact rfl; exact rfl; exact rfl; exact rfl; exact rfl; exact rfl; exact rfl; assumption; (exact extA); (first | exact rfl | (focus (simp only [List.length_set]; done)) | (focus (simp; done)) | (focus (simp [*]; done)) | omega | (focus (simp only [List.length_set]; omega))); (first | assumption | (refine Cells.ext ?_ (by assumption); exact extA)); exact rfl; exact rfl; (exact extA); (first | omega | (simp; omega) | (simp at *; omega)); intro a' cap' w' hO hX' hU hF)
      | (show WL _ _ _ _ _ _ _; first | apply WL.nil | (refine WL.au (k := ?_)))
      | (show Z _ _ _ _ _; apply Z.then_normal)
      | (show W _ _ _ _ _ _; first | apply W.seq | apply W.region | apply W.block | apply W.skip))
    obtain ⟨w9, rfl⟩ : ∃ x, x = w' := ⟨_, rfl⟩; obtain ⟨ou2, rfl⟩ : ∃ x, x = a' := ⟨_, rfl⟩; obtain ⟨cu2, rfl⟩ : ∃ x, x = cap' := ⟨_, rfl⟩
    have hnat : natI L ++ [((i : Nat) : Int)] = natI (L ++ [i]) := by simp [natI]
    have hS1 : Lt.Sep wc.heap.size w9 (hpP wc.heap.size gh as_ cs F tr ct t.length t ap cp A ++ rst wc.heap.size (some ⟨gl, 0, none⟩) k lk (some ⟨go, 0, none⟩) k rs rm (plcM c.gates.2.2 k) ou2 cu2 (natI (L ++ [i])) lit rs) := by
      rw [← hnat]; exact Sep.updRow (i := 7) rfl hU hO hF hS (by (exact extA)) (Below.size (by (exact extA)))
    have hX9' : Ext wc w9 := (by (exact extA))
    have hOu := hS1.row (i := 5) rfl
    have hRk : rs[((i : Nat) : Int).toNat]? = some r := by rw [Int.toNat_natCast]; exact hr
    rw [hnat]
    have hrl6' : rs.length = k := by omega
    repeat' (first
      | (apply WL.indexO tOk; exact rfl; exact rfl; exact rfl; exact rfl; exact rfl; exact rfl; exact rfl; exact rfl; assumption; (exact extA); exact encRow_ok; (first | exact rfl | (focus (simp only [List.length_set]; done)) | (focus (simp; done)) | (focus (simp [*]; done)) | omega | (focus (simp only [List.length_set]; omega))); omega; assumption; intro gb ha hc; cases ha; have hcc := hc; first | (obtain ⟨h1, h2, h3, _⟩ := hc) | (obtain ⟨h1, h2, _⟩ := hc) | (obtain ⟨h1, _⟩ := hc))
      | (show WL _ _ _ _ _ _ _; first | apply WL.nil | (refine WL.au (k := ?_)))
      | (show Z _ _ _ _ _; apply Z.then_normal)
      | (show W _ _ _ _ _ _; apply W.block))
    have hYl : r.2.2.length ≤ 2 * k := by rw [hrv, hnn]; exact abv_len _ _ _
    have hm9' : ∀ x, x ∈ t ↔ pH (L ++ [i]) lk x := fun x => ((hm9 x).trans ⟨fun ⟨h1, h2⟩ => ⟨h1, h2 _ rfl⟩, fun ⟨h1, h2⟩ => ⟨h1, fun y hy => by cases hy; exact h2⟩⟩).trans (pH_out x)
    refine W.loopW r.2.2.length (fun m w' => m ≤ r.2.2.length ∧ ∃ lk t A, HpB wc w' gh F (rst wc.heap.size (some ⟨gl, 0, none⟩) k lk (some ⟨go, 0, none⟩) k rs rm (plcM c.gates.2.2 k) ou2 cu2 (natI (L ++ [i])) lit rs) t A (pH (L ++ [i]) lk) ∧ StB c.gates.2.2 L (r.2.2.take m) lk) (fun m => [(6, .slice (some ⟨gl, 0, none⟩) k k), (7, .slice (some ⟨go, 0, none⟩) k k), (8, .pointer (some ⟨gh, 0, none⟩)), (15, .slice ou2 (natI (L ++ [i])).length cu2), (117, .slice r.1 r.2.2.length r.2.1), (118, .int .i64 (r.2.2.length : Nat)), (119, .int .i64 m)]) ⟨Nat.zero_le _, lk, t, A, ⟨hX9', ⟨hat, hze, as_, cs, tr, ct, ap, cp, hS1⟩, hO9, hm9'⟩, by rw [List.take_zero]; exact hSB⟩ (fun m w' h => h.1) ⟨rfl, rfl, rfl, rfl, rfl, rfl, rfl, trivial⟩ ?_
    have hPi := hP.push hle
    clear hSB hS hS1 hO9 hm9 hm9' hat hze hOut hOu hO hX9 hX9' hn1 hn2
    rintro m w10 ⟨hm, lk, t, A, hB10, hSB⟩
    have hX10 := hB10.ext
    by_cases hml : m < r.2.2.length
    · obtain ⟨z, hgz⟩ := getI r.2.2 hml
      have hgz' := hgz
      rw [hrv] at hgz'
      obtain ⟨kk, g, rfl, hkk, hg, hh⟩ := abv_mem (List.mem_of_getElem? hgz')
      rw [hrv] at hSB
      obtain ⟨v, hv, hv1, hv2, hSB2⟩ := hSB.step ho hy hiL hg hgz'
      rw [← hrv] at hSB2
      have hkL : kk ∉ L ++ [i] := fun hm2 => by
        rcases List.mem_append.1 hm2 with h | h
        · exact not_told hP hy hg hh hiL h
        · obtain rfl := List.mem_singleton.1 h
          rw [hy] at hg; cases hg; omega
      have hB10' := hB10
      obtain ⟨_, ⟨hat, hze, as_, cs, tr, ct, ap, cp, hS⟩, hO9, hm9⟩ := hB10'
      have RL := (hS.row (rst_in hr _ rfl)).row encI_ok
      have hLo := hS.row (i := 4) rfl
      have hlk3 := hSB.llen
      have hLn : lk.length = k := by omega
      have hvk : lk[((kk : Nat) : Int).toNat]? = some v := by rw [Int.toNat_natCast]; exact hv
      have hvs : (lk.set ((kk : Nat) : Int).toNat (v - 1))[((kk : Nat) : Int).toNat]? = some (v - 1) := List.getElem?_set_self (by rw [Int.toNat_natCast]; omega)
      repeat' (first
        | (show WL _ _ _ _ _ _ _; first | apply WL.nil | (refine WL.au (k := ?_)))
        | (show Z _ _ _ _ _; apply Z.then_normal)
        | (show W _ _ _ _ _ _; first | apply W.seq | apply W.region))
      refine W.condKT rfl (dec_true (by omega)) ?_
      repeat' (first
        | (apply WL.indexO tOk; exact rfl; exact rfl; exact rfl; exact rfl; exact rfl; exact rfl; exact rfl; exact rfl; assumption; (exact extA); exact encI_ok; (first | exact rfl | (focus (simp only [List.length_set]; done)) | (focus (simp; done)) | (focus (simp [*]; done)) | omega | (focus (simp only [List.length_set]; omega))); omega; assumption; intro gb ha hc; cases ha; have hcc := hc; first | (obtain ⟨h1, h2, h3, _⟩ := hc) | (obtain ⟨h1, h2, _⟩ := hc) | (obtain ⟨h1, _⟩ := hc))
        | (apply WL.storeO (z' := (v - 1)) tOk; exact rfl; exact rfl; exact rfl; exact rfl; assumption; (exact extA); exact rfl; exact rfl; exact rfl; exact encI_ok; assumption; exact rfl; (exact extA); intro w' hO hX' hU)
        | (show WL _ _ _ _ _ _ _; first | apply WL.nil | (refine WL.au (k := ?_)) | (apply WL.index tOk; exact rfl; exact rfl; exact rfl; exact rfl; exact rfl; exact rfl; exact rfl; exact rfl; assumption; (exact extA); exact rfl; omega; assumption; intro b off h; have hcc := h; first | (obtain ⟨h1, h2, h3, h4, h5, h6, _⟩ := h) | (obtain ⟨h1, h2, h3, _⟩ := h) | (obtain ⟨h1, h2, _⟩ := h) | (obtain ⟨h1, _⟩ := h)))
        | (show Z _ _ _ _ _; apply Z.then_normal)
        | (show W _ _ _ _ _ _; first | apply W.seq | apply W.region | apply W.block | apply W.skip))
      obtain ⟨w11, rfl⟩ : ∃ x, x = w' := ⟨_, rfl⟩
      have hS2 : Lt.Sep wc.heap.size w11 (hpP wc.heap.size gh as_ cs F tr ct t.length t ap cp A ++ rst wc.heap.size (some ⟨gl, 0, none⟩) k (lk.set ((kk : Nat) : Int).toNat (v - 1)) (some ⟨go, 0, none⟩) k rs rm (plcM c.gates.2.2 k) ou2 cu2 (natI (L ++ [i])) lit rs) := Sep.updRow (i := 4) rfl hU hO (.inl rfl) hS (Ext.refl _) (Below.size hX10)
      rw [Int.toNat_natCast] at hS2
      by_cases hv0 : v - 1 = 0
      · refine W.condKT rfl (dec_true hv0) ?_
        repeat' (first
          | (((show WL _ _ _ (⟨_, .call ⟨.value (.func 151), _, _⟩, _, _, _, _⟩ :: _) _ _ _); apply WL.call; exact rfl; exact rfl; exact rfl; exact rfl; exact heap_Push w11 wc gh F t A _ (pH (L ++ [i]) lk) ⟨hX', ⟨hat, hze, as_, cs, tr, ct, ap, cp, hS2⟩, hO9, hm9⟩ (by omega) kk (by omega) (pH_no hv hv1); rintro v' w12 ⟨rfl, t2, A2, hB12⟩))
          | (show WL _ _ _ _ _ _ _; first | apply WL.nil | (refine WL.au (k := ?_)))
          | (show Z _ _ _ _ _; first | apply Z.then_normal | apply Z.block_normal)
          | (show W _ _ _ _ _ _; apply W.region))
        exact Z.againW ⟨by omega, _, t2, A2, hB12.mono (fun x => pH_zero hv hv1 hv0 hkL x), hSB2⟩ ⟨rfl, rfl, rfl, rfl, rfl, rfl, rfl, trivial⟩
      · refine W.condKF rfl (dec_false hv0) ?_
        repeat' (first
          | (show WL _ _ _ _ _ _ _; first | apply WL.nil | (refine WL.au (k := ?_)))
          | (show Z _ _ _ _ _; first | apply Z.then_normal | apply Z.block_normal)
          | (show W _ _ _ _ _ _; first | apply W.region | apply W.skip))
        exact Z.againW ⟨by omega, _, t, A, ⟨hX', ⟨hat, hze, as_, cs, tr, ct, ap, cp, hS2⟩, hO9, fun x => (hm9 x).trans (pH_dec hv hv1 hv0 x)⟩, hSB2⟩ ⟨rfl, rfl, rfl, rfl, rfl, rfl, rfl, trivial⟩
    obtain rfl : m = r.2.2.length := by omega
    rw [List.take_length, hrv] at hSB
    have hSB2 := hSB.next ho hy hiL
    repeat' (first
      | (show WL _ _ _ _ _ _ _; first | apply WL.nil | (refine WL.au (k := ?_)))
      | (show Z _ _ _ _ _; apply Z.then_normal)
      | (show W _ _ _ _ _ _; first | apply W.seq | apply W.region))
    refine W.condKF rfl (dec_false (by omega)) ?_
    repeat' (first
      | (((show WL _ _ _ (⟨_, .call ⟨.value (.func 152), _, _⟩, _, _, _, _⟩ :: _) _ _ _); apply WL.call; exact rfl; exact rfl; exact rfl; exact rfl; exact heap_PopO w10 wc gh F t A _ (pH (L ++ [i]) lk) hB10 (by omega); rintro v' w11 ⟨nx, rfl, hnx1, hnx2, t1, A1, hB11⟩))
      | (show WL _ _ _ _ _ _ _; first | apply WL.nil | (refine WL.au (k := ?_)))
      | (show Z _ _ _ _ _; first | apply Z.then_normal | apply Z.block_normal | apply Z.then_exit | apply Z.block_exit)
      | (show W _ _ _ _ _ _; first | apply W.region | apply W.exit))
    exact Z.again (L ++ [i], nx, ou2, cu2, w11) ⟨hPi, lk, t1, A1, hB11, hSB2, hnx1, hnx2⟩ (by have := hPi.le; simp only [List.length_append, List.length_singleton] at this ⊢; omega) ⟨rfl, rfl, rfl, rfl, rfl, rfl, trivial⟩ rfl
end Go.Proofs.Ythpnahapiodflaa
namespace Go.Lt
open Go.RowKit
set_option linter.unusedVariables false

theorem and1_any (a : Int) : IntKind.i64.wrap (BitVec.ofInt IntKind.i64.bits a &&& BitVec.ofInt IntKind.i64.bits 1).toNat = a % 2 := by
  show IntKind.i64.wrap (BitVec.ofInt 64 a &&& BitVec.ofInt 64 1).toNat = a % 2
  have h1 : (BitVec.ofInt 64 a &&& BitVec.ofInt 64 1).toNat = (BitVec.ofInt 64 a).toNat % 2 := by
    rw [BitVec.toNat_and, show (BitVec.ofInt 64 1).toNat = 1 from rfl, Nat.and_one_is_mod]
  have h2 : ((BitVec.ofInt 64 a).toNat : Int) = a % 18446744073709551616 := by
    rw [BitVec.toNat_ofInt]
    have : (0 : Int) ≤ a % ((2 ^ 64 : Nat) : Int) := Int.emod_nonneg _ (by decide)
    rw [Int.toNat_of_nonneg this]
    rfl
  rw [h1, IntWalk.i64_in _ (by omega)]
  omega
section rules
variable {P : Program} {N : Nat} {e : Env} {w : World} {Q : Exit → Act → World → Prop} {K : Act → World → Prop} {C : World → Prop} {ops : List Oper} {l : List Oper} {Kf : Act → Prop}
  {d : Nat} {tt t ty : TypeId} {ps : String} {af : Array Edge} {g : Option (Nat × Bool)} {x y : Operand} {a : Int}
theorem yandA {dd : Option Tmp} (hx : ev e x = some (.int .i64 a)) (hy : ev e y = some (.int .i64 1)) : Yields P e ⟨dd, .binOp .and t x y ty, tt, ps, af, g⟩ (.int .i64 (a % 2)) := by
  have := Yields.bin (P := P) (d := dd) (op := .and) (t := t) (ty := ty) (tt := tt) (ps := ps) (af := af) (g := g) hx hy (v := .int .i64 (IntKind.i64.wrap (BitVec.ofInt IntKind.i64.bits a &&& BitVec.ofInt IntKind.i64.bits 1).toNat)) rfl
  rwa [and1_any a] at this
theorem WL.andA (hg : gate ops e g = some true) (hd : Nat.blt d N = true) (hx : ev e x = some (.int .i64 a)) (hy : ev e y = some (.int .i64 1)) (k : WL P N ops.toArray l ((d, .int .i64 (a % 2)) :: e) w Q) : WL P N ops.toArray (⟨some d, .binOp .and t x y ty, tt, ps, af, g⟩ :: l) e w Q := WL.step hg hd (yandA hx hy).in k
theorem QL.andA (hg : gate ops e g = some true) (hd : Nat.blt d N = true) (hx : ev e x = some (.int .i64 a)) (hy : ev e y = some (.int .i64 1)) (k : QL P N C ops.toArray l ((d, .int .i64 (a % 2)) :: e) Q) : QL P N C ops.toArray (⟨some d, .binOp .and t x y ty, tt, ps, af, g⟩ :: l) e Q := QL.step hg hd (yandA hx hy).in k
theorem FL.andA (hg : gate ops e g = some true) (hd : Nat.blt d N = true) (hx : ev e x = some (.int .i64 a)) (hy : ev e y = some (.int .i64 1)) (k : FL P N ops.toArray C l ((d, .int .i64 (a % 2)) :: e) w Kf) : FL P N ops.toArray C (⟨some d, .binOp .and t x y ty, tt, ps, af, g⟩ :: l) e w Kf := FL.step hg hd (yandA hx hy).in k
end rules
end Go.Lt
namespace Go.Proofs.Ythpnahapiodflaa
open Go Go.Lt Go.RowKit
set_option linter.unusedVariables false
set_option linter.unusedSimpArgs false
set_option maxRecDepth 20000

noncomputable abbrev okO (m x : Int) : Bool := dec (1 < x) && dec (x % 2 = 0) && dec (x ≤ 2 * m)
noncomputable abbrev okR (x : T3) : Bool := dec (x.2.2 = 0) || dec (x.2.2 = 1) || dec (x.2.2 = x.1)
theorem all_snoc {α : Type} {l : List α} {k : Nat} {x : α} (p : α → Bool) (h : l[k]? = some x) : (l.take (k + 1)).all p = ((l.take k).all p && p x) := by rw [take_succ' h, List.all_append]; simp
theorem bad_iff {c : CirT} (hm : ¬ BadMax c) : (c.own.all (okO c.max) && c.lat.all okR && c.used.all (inR c.max)) = true ↔ ¬ (BadMax c ∨ BadOwn c ∨ BadUse c ∨ BadRes c) := by
  simp only [Bool.and_eq_true, List.all_eq_true]
  constructor
  · rintro ⟨⟨h1, h2⟩, h3⟩ (h | ⟨x, hx, h⟩ | ⟨x, hx, h⟩ | ⟨x, hx, h⟩)
    · exact hm h
    · have := h1 x hx
      have h4 := of_dec this.1.1; have h5 := of_dec this.1.2; have h6 := of_dec this.2; omega
    · have := h3 x hx
      have h4 := of_dec this.1; have h5 := of_dec this.2; omega
    · have := h2 x hx
      simp only [Bool.or_eq_true] at this
      rcases this with (h4 | h4) | h4 <;> have h5 := of_dec h4 <;> omega
  · intro h
    refine ⟨⟨fun x hx => ?_, fun x hx => ?_⟩, fun x hx => ?_⟩
    · have hn : ¬ (x < 2 ∨ x % 2 = 1 ∨ 2 * c.max < x) := fun hh => h (.inr (.inl ⟨x, hx, hh⟩))
      exact ⟨⟨dec_true (by omega), dec_true (by omega)⟩, dec_true (by omega)⟩
    · have hn : ¬ (x.2.2 ≠ 0 ∧ x.2.2 ≠ 1 ∧ x.2.2 ≠ x.1) := fun hh => h (.inr (.inr (.inr ⟨x, hx, hh⟩)))
      unfold okR
      by_cases q1 : x.2.2 = 0
      · rw [dec_true q1]; rfl
      · by_cases q2 : x.2.2 = 1
        · rw [dec_true q2]; simp
        · rw [dec_true (show x.2.2 = x.1 from Classical.byContradiction fun q3 => hn ⟨q1, q2, q3⟩)]; simp
    · have hn : ¬ (x < 0 ∨ 2 * c.max + 1 < x) := fun hh => h (.inr (.inr (.inl ⟨x, hx, hh⟩)))
      exact ⟨dec_true (by omega), dec_true (by omega)⟩
theorem half_mem {l : List Int} {x : Int} (hl : ∀ y ∈ l, y % 2 = 0 ∧ 2 ≤ y) : x / 2 ∈ (0 :: l.map (· / 2) : List Int) ↔ (x / 2 = 0 ∨ x - x % 2 ∈ l) := by
  constructor
  · intro h
    rcases List.mem_cons.1 h with h | h
    · exact .inl h
    · obtain ⟨y, hy, he⟩ := List.mem_map.1 h
      have := hl y hy
      exact .inr (by rw [show x - x % 2 = y by omega]; exact hy)
  · rintro (h | h)
    · rw [h]; simp
    · exact List.mem_cons_of_mem _ (List.mem_map.2 ⟨_, h, by omega⟩)
theorem none_iff {c : CirT} {m : Int} (hown : ∀ x ∈ c.own, 2 ≤ x ∧ x % 2 = 0 ∧ x ≤ 2 * m) (hused : ∀ x ∈ c.used, 0 ≤ x ∧ x ≤ 2 * m + 1) : (true && c.used.all (inK (0 :: c.own.map (· / 2)))) = true ↔ ¬ NoneC c := by
  rw [Bool.true_and, List.all_eq_true]
  have hev : ∀ y ∈ c.own, y % 2 = 0 ∧ 2 ≤ y := fun y hy => by have := hown y hy; omega
  constructor
  · rintro h ⟨x, hx, h1, h2⟩
    have := of_dec (h x hx)
    rcases (half_mem hev).1 this with h3 | h3
    · omega
    · exact h2 h3
  · intro h x hx
    refine dec_true ((half_mem hev).2 ?_)
    by_cases h1 : 1 < x
    · exact .inr (Classical.byContradiction fun h2 => h ⟨x, hx, h1, h2⟩)
    · have := hused x hx; exact .inl (by omega)
theorem once_of {c : CirT} (h : ¬ Twice c) (hown : ∀ x ∈ c.own, x % 2 = 0) : Once c.gates := by
  have hn : c.own.Nodup := nodup_take fun i x hx hm => h ⟨i, x, hx, hm⟩
  rw [List.nodup_append] at hn
  have hp := List.pairwise_iff_getElem.1 (List.nodup_iff_pairwise_ne.1 hn.2.1)
  intro i j x y hi hj he
  have h1 := hown x.1 (List.mem_append_right _ (List.mem_map.2 ⟨x, List.mem_of_getElem? hi, rfl⟩))
  have h2 := hown y.1 (List.mem_append_right _ (List.mem_map.2 ⟨y, List.mem_of_getElem? hj, rfl⟩))
  have ei : (c.gates.map (·.1))[i]? = some x.1 := by rw [List.getElem?_map, hi]; rfl
  have ej : (c.gates.map (·.1))[j]? = some y.1 := by rw [List.getElem?_map, hj]; rfl
  obtain ⟨li, gi⟩ := List.getElem?_eq_some_iff.1 ei
  obtain ⟨lj, gj⟩ := List.getElem?_eq_some_iff.1 ej
  refine Classical.byContradiction fun hne => ?_
  rcases Nat.lt_or_gt_of_ne hne with h3 | h3
  · exact hp i j li lj h3 (by rw [gi, gj]; omega)
  · exact hp j i lj li h3 (by rw [gi, gj]; omega)
set_option maxHeartbeats 32000000 in
theorem circ_Check (c : Circ) (w : World) (hC : CAt w c) (hz : SzC c.t 100000) :
    Pure Try.prog 119 [c.val] w (.int .i64 (chkC c.t)) := by
  have hcm : c.t.max = c.max := rfl
  have z1 : c.ins.2.2.length ≤ 100000 := hz.1
  have z2 : c.lat.2.2.length ≤ 100000 := hz.2.1
  have z6 : c.gates.2.2.length ≤ 100000 := hz.2.2.2.2.2
  have hol : c.t.own.length ≤ 300000 := by
    show (c.ins.2.2 ++ c.lat.2.2.map (·.1) ++ c.gates.2.2.map (·.1)).length ≤ _
    simp; omega
  by_cases hmax : BadMax c.t
  · rw [chk_5 (.inl hmax)]
    have hmax' : c.max < 0 ∨ 16777216 < c.max := hmax
    refine Spec.of _ Try.func119 rfl Try.ntmps119 (by kernel_rfl) rfl ?_
    repeat' (first
      | (apply WL.box; exact rfl; exact rfl; exact rfl; intro gb w' hb hge hc hx; have hcc := hc; (first | (obtain ⟨h1, h2, h3, _⟩ := hc) | (obtain ⟨h1, h2, _⟩ := hc)); (obtain ⟨y0, _⟩ := hcc; obtain ⟨gc, rfl⟩ : ∃ x, x = gb := ⟨_, rfl⟩; obtain ⟨wc, rfl⟩ : ∃ x, x = w' := ⟨_, rfl⟩; obtain ⟨hxc, rfl⟩ : ∃ x, x = hx := ⟨_, rfl⟩))
      | (show WL _ _ _ _ _ _ _; first | apply WL.nil | (refine WL.au (k := ?_)) | (apply WL.guardF; exact rfl; exact rfl) | (apply WL.gD; exact rfl; exact rfl; all_goals intro _))
      | (show Z _ _ _ _ _; first | apply Z.then_normal | apply Z.then_ret)
      | (show W _ _ _ _ _ _; first | apply W.seq | apply W.region | apply W.skip | apply W.ret | (apply W.condT; exact rfl) | (apply W.condD; exact rfl; all_goals intro _)))
    all_goals first
      | exact Z.body1 Try.results119 rfl fun m => ⟨rfl, Ext.at (by (exact extA)) m⟩
      | (exfalso; omega)
      | skip
  have hm0 : ¬ (c.max < 0 ∨ 16777216 < c.max) := hmax
  refine Spec.of _ Try.func119 rfl Try.ntmps119 (by kernel_rfl) rfl ?_
  repeat' (first
    | (apply WL.box; exact rfl; exact rfl; exact rfl; intro gb w' hb hge hc hx; have hcc := hc; (first | (obtain ⟨h1, h2, h3, _⟩ := hc) | (obtain ⟨h1, h2, _⟩ := hc)); (have hcells := hcc; obtain ⟨y0, y1, y2, y3, y4, y5, y6, _⟩ := hcc; obtain ⟨gc, rfl⟩ : ∃ x, x = gb := ⟨_, rfl⟩; obtain ⟨wc, rfl⟩ : ∃ x, x = w' := ⟨_, rfl⟩; obtain ⟨hxc, rfl⟩ : ∃ x, x = hx := ⟨_, rfl⟩))
    | (apply WL.gF; exact rfl; exact rfl; (focus (exact dec_false (by omega); done)))
    | (show WL _ _ _ _ _ _ _; first | apply WL.nil | (refine WL.au (k := ?_)))
    | (show Z _ _ _ _ _; apply Z.then_normal)
    | (show W _ _ _ _ _ _; first | apply W.seq | apply W.region))
  have hgc := heap_lt hb
  refine W.condKF rfl (dec_false (by omega)) ?_
  repeat' (first
    | ((show WL _ _ _ (⟨_, .call ⟨.value (.func 154), _, _⟩, _, _, _, _⟩ :: _) _ _ _); apply WL.call; exact rfl; exact rfl; exact rfl; exact rfl; exact circ_defined c _ (hC.ext (by (exact extA))) hz; rintro v' w' ⟨hx, a', cap', rfl, hO⟩; (obtain ⟨hOo, rfl⟩ : ∃ x, x = hO := ⟨_, rfl⟩; obtain ⟨hxo, rfl⟩ : ∃ x, x = hx := ⟨_, rfl⟩; obtain ⟨wo, rfl⟩ : ∃ x, x = w' := ⟨_, rfl⟩; obtain ⟨ao, rfl⟩ : ∃ x, x = a' := ⟨_, rfl⟩; obtain ⟨co, rfl⟩ : ∃ x, x = cap' := ⟨_, rfl⟩))
    | (apply WL.alloc tOk; exact rfl; exact rfl; exact rfl; intro gb w' hb hge hx; (obtain ⟨g3, rfl⟩ : ∃ x, x = gb := ⟨_, rfl⟩; obtain ⟨w3, rfl⟩ : ∃ x, x = w' := ⟨_, rfl⟩; obtain ⟨hx3, rfl⟩ : ∃ x, x = hx := ⟨_, rfl⟩; obtain ⟨hb3, rfl⟩ : ∃ x, x = hb := ⟨_, rfl⟩; obtain ⟨hge3, rfl⟩ : ∃ x, x = hge := ⟨_, rfl⟩))
    | (apply WL.storeB (w0 := wo) tOk; exact rfl; exact rfl; exact rfl; exact rfl; assumption; (exact extA); exact rfl; exact rfl; exact rfl; (exact extA); (first | assumption | omega | (focus (apply Nat.le_trans; rotate_left; assumption; exact Below.size (by (exact extA)); done))); intro w' hb hc hX' hU; have hcc := hc; obtain ⟨h1, h2, _⟩ := hc; (obtain ⟨w4, rfl⟩ : ∃ x, x = w' := ⟨_, rfl⟩; obtain ⟨hb4, rfl⟩ : ∃ x, x = hb := ⟨_, rfl⟩; obtain ⟨hU4, rfl⟩ : ∃ x, x = hU := ⟨_, rfl⟩; obtain ⟨hX4, rfl⟩ : ∃ x, x = hX' := ⟨_, rfl⟩))
    | (show WL _ _ _ _ _ _ _; first | apply WL.nil | (refine WL.au (k := ?_)))
    | (show Z _ _ _ _ _; apply Z.then_normal)
    | (show W _ _ _ _ _ _; first | apply W.seq | apply W.region | apply W.block | apply W.skip))
  have Ro := Own.row encI_ok hOo
  have hXo : Ext wc wo := hxo
  have hlb : wo.heap.size ≤ g3 := hge3
  refine W.loopW c.t.own.length (fun k w' => k ≤ c.t.own.length ∧ Ext wo w' ∧ w'.heap[g3]? = some (.cells (okV ((c.t.own.take k).all (okO c.max))) 4 (0, 0))) (fun k => [(1, .pointer (some ⟨gc, 0, none⟩)), (3, .pointer (some ⟨g3, 0, none⟩)), (4, .slice ao c.t.own.length co), (22, .slice ao c.t.own.length co), (23, .int .i64 (c.t.own.length : Nat)), (24, .int .i64 k)]) ⟨Nat.zero_le _, hX4, hb4⟩ (fun k w' h => h.1) ⟨rfl, rfl, rfl, rfl, rfl, rfl, trivial⟩ ?_
  clear hb4 hX4 hU4 hcc h1 hb3 hx3
  rintro k w5 ⟨hk, hX5, hc5⟩
  have hcb := (cells_heap hc5).1
  by_cases hlt : k < c.t.own.length
  · obtain ⟨x, hx⟩ := getI c.t.own hlt
    have hso := all_snoc (okO c.max) hx
    obtain ⟨bb, hbb⟩ : ∃ bb, (c.t.own.take k).all (okO c.max) = bb := ⟨_, rfl⟩
    rw [hbb] at hcb hc5 hso
    cases bb with
    | false =>
      repeat' (first
        | (apply W.condKT; exact rfl; (focus (exact dec_true (by omega); done)))
        | (apply WL.storeB (w0 := wo) tOk; exact rfl; exact rfl; exact rfl; exact rfl; assumption; (exact extA); exact rfl; exact rfl; exact rfl; (exact extA); (first | assumption | omega | (focus (apply Nat.le_trans; rotate_left; assumption; exact Below.size (by (exact extA)); done))); intro w' hb hc hX' hU; have hcc := hc; obtain ⟨h1, h2, _⟩ := hc)
        | (show WL _ _ _ _ _ _ _; first | apply WL.nil | (refine WL.au (k := ?_)) | (apply WL.index tOk; exact rfl; exact rfl; exact rfl; exact rfl; exact rfl; exact rfl; exact rfl; exact rfl; assumption; (exact extA); exact rfl; omega; assumption; intro b off h; have hcc := h; first | (obtain ⟨h1, h2, h3, h4, h5, h6, _⟩ := h) | (obtain ⟨h1, h2, h3, _⟩ := h) | (obtain ⟨h1, h2, _⟩ := h) | (obtain ⟨h1, _⟩ := h)) | (apply WL.guardF; exact rfl; exact rfl))
        | (show Z _ _ _ _ _; first | apply Z.then_normal | apply Z.block_normal)
        | (show W _ _ _ _ _ _; first | apply W.seq | apply W.region | apply W.block | apply W.skip))
      exact Z.againW ⟨by omega, (by (exact extA)), by rw [hso]; exact hb⟩ ⟨rfl, rfl, rfl, rfl, rfl, rfl, trivial⟩
    | true =>
      have hlt' : ((k : Nat) : Int) < (c.t.own.length : Int) := by omega
      by_cases f1 : 1 < x
      rotate_left
      · skip
        have e : okO c.max x = false := by unfold okO; rw [dec_false f1]; rfl
        rw [e] at hso
        repeat' (first
          | (apply WL.gF; exact rfl; exact rfl; (focus (first | exact dec_true hlt' | exact dec_false f1; done)))
          | (apply W.condKT; exact rfl; (focus (first | exact dec_true hlt' | exact dec_false f1; done)))
          | (apply WL.storeB (w0 := wo) tOk; exact rfl; exact rfl; exact rfl; exact rfl; assumption; (exact extA); exact rfl; exact rfl; exact rfl; (exact extA); (first | assumption | omega | (focus (apply Nat.le_trans; rotate_left; assumption; exact Below.size (by (exact extA)); done))); intro w' hb hc hX' hU; have hcc := hc; obtain ⟨h1, h2, _⟩ := hc)
          | (show WL _ _ _ _ _ _ _; first | apply WL.nil | (refine WL.au (k := ?_)) | (apply WL.index tOk; exact rfl; exact rfl; exact rfl; exact rfl; exact rfl; exact rfl; exact rfl; exact rfl; assumption; (exact extA); exact rfl; omega; assumption; intro b off h; have hcc := h; first | (obtain ⟨h1, h2, h3, h4, h5, h6, _⟩ := h) | (obtain ⟨h1, h2, h3, _⟩ := h) | (obtain ⟨h1, h2, _⟩ := h) | (obtain ⟨h1, _⟩ := h)) | (apply WL.guardF; exact rfl; exact rfl))
          | (show Z _ _ _ _ _; first | apply Z.then_normal | apply Z.block_normal)
          | (show W _ _ _ _ _ _; first | apply W.seq | apply W.region | apply W.block | apply W.skip))
        exact Z.againW ⟨by omega, (by (exact extA)), by rw [hso]; exact hb⟩ ⟨rfl, rfl, rfl, rfl, rfl, rfl, trivial⟩
      by_cases f2 : x % 2 = 0
      rotate_left
      · skip
        have e : okO c.max x = false := by unfold okO; rw [dec_false f2]; simp
        rw [e] at hso
        repeat' (first
          | (apply WL.gT; exact rfl; exact rfl; (focus (first | exact dec_true hlt' | exact dec_true f1 | exact dec_false f2; done)))
          | (apply WL.gF; exact rfl; exact rfl; (focus (first | exact dec_true hlt' | exact dec_true f1 | exact dec_false f2; done)))
          | (apply W.condKT; exact rfl; (focus (first | exact dec_true hlt' | exact dec_true f1 | exact dec_false f2; done)))
          | (apply WL.andA; exact rfl; exact rfl; exact rfl; exact rfl)
          | (apply WL.storeB (w0 := wo) tOk; exact rfl; exact rfl; exact rfl; exact rfl; assumption; (exact extA); exact rfl; exact rfl; exact rfl; (exact extA); (first | assumption | omega | (focus (apply Nat.le_trans; rotate_left; assumption; exact Below.size (by (exact extA)); done))); intro w' hb hc hX' hU; have hcc := hc; obtain ⟨h1, h2, _⟩ := hc)
          | (show WL _ _ _ _ _ _ _; first | apply WL.nil | (refine WL.au (k := ?_)) | (apply WL.index tOk; exact rfl; exact rfl; exact rfl; exact rfl; exact rfl; exact rfl; exact rfl; exact rfl; assumption; (exact extA); exact rfl; omega; assumption; intro b off h; have hcc := h; first | (obtain ⟨h1, h2, h3, h4, h5, h6, _⟩ := h) | (obtain ⟨h1, h2, h3, _⟩ := h) | (obtain ⟨h1, h2, _⟩ := h) | (obtain ⟨h1, _⟩ := h)) | (apply WL.guardF; exact rfl; exact rfl))
          | (show Z _ _ _ _ _; first | apply Z.then_normal | apply Z.block_normal)
          | (show W _ _ _ _ _ _; first | apply W.seq | apply W.region | apply W.block | apply W.skip))
        exact Z.againW ⟨by omega, (by (exact extA)), by rw [hso]; exact hb⟩ ⟨rfl, rfl, rfl, rfl, rfl, rfl, trivial⟩
      have e : okO c.max x = dec (x ≤ 2 * c.max) := by unfold okO; rw [dec_true f1, dec_true f2]; rfl
      rw [e] at hso
      repeat' (first
        | (apply WL.gT; exact rfl; exact rfl; (focus (first | exact dec_true hlt' | exact dec_true f1 | exact dec_true f2; done)))
        | (apply W.condKT; exact rfl; (focus (first | exact dec_true hlt' | exact dec_true f1 | exact dec_true f2; done)))
        | (apply WL.andA; exact rfl; exact rfl; exact rfl; exact rfl)
        | (apply WL.storeB (w0 := wo) tOk; exact rfl; exact rfl; exact rfl; exact rfl; assumption; (exact extA); exact rfl; exact rfl; exact rfl; (exact extA); (first | assumption | omega | (focus (apply Nat.le_trans; rotate_left; assumption; exact Below.size (by (exact extA)); done))); intro w' hb hc hX' hU; have hcc := hc; obtain ⟨h1, h2, _⟩ := hc)
        | (show WL _ _ _ _ _ _ _; first | apply WL.nil | (refine WL.au (k := ?_)) | (apply WL.index tOk; exact rfl; exact rfl; exact rfl; exact rfl; exact rfl; exact rfl; exact rfl; exact rfl; assumption; (exact extA); exact rfl; omega; assumption; intro b off h; have hcc := h; first | (obtain ⟨h1, h2, h3, h4, h5, h6, _⟩ := h) | (obtain ⟨h1, h2, h3, _⟩ := h) | (obtain ⟨h1, h2, _⟩ := h) | (obtain ⟨h1, _⟩ := h)))
        | (show Z _ _ _ _ _; first | apply Z.then_normal | apply Z.block_normal)
        | (show W _ _ _ _ _ _; first | apply W.seq | apply W.region | apply W.block | apply W.skip))
      exact Z.againW ⟨by omega, (by (exact extA)), by rw [hso]; exact hb⟩ ⟨rfl, rfl, rfl, rfl, rfl, rfl, trivial⟩
  obtain rfl : k = c.t.own.length := by omega
  rw [List.take_length] at hc5
  obtain ⟨b1, hb1⟩ : ∃ b1, c.t.own.all (okO c.max) = b1 := ⟨_, rfl⟩
  rw [hb1] at hc5
  have Rl := hC.lat.row.ext hxc
  repeat' (first
    | (apply W.condKF; exact rfl; (focus (exact dec_false (by omega); done)))
    | (show WL _ _ _ _ _ _ _; first | apply WL.nil | (refine WL.au (k := ?_)))
    | (show Z _ _ _ _ _; first | apply Z.then_normal | apply Z.then_exit | apply Z.block_exit)
    | (show W _ _ _ _ _ _; first | apply W.seq | apply W.region | apply W.block | apply W.exit))
  clear hcb
  have hX5' := hX5
  refine W.loopW c.lat.2.2.length (fun k w' => k ≤ c.lat.2.2.length ∧ Ext wo w' ∧ w'.heap[g3]? = some (.cells (okV (b1 && (c.lat.2.2.take k).all okR)) 4 (0, 0))) (fun k => [(1, .pointer (some ⟨gc, 0, none⟩)), (3, .pointer (some ⟨g3, 0, none⟩)), (4, .slice ao c.t.own.length co), (47, rowVal c.lat), (48, .int .i64 (c.lat.2.2.length : Nat)), (49, .int .i64 k)]) ⟨Nat.zero_le _, hX5, by rw [List.take_zero]; simpa using hc5⟩ (fun k w' h => h.1) ⟨rfl, rfl, rfl, rfl, rfl, rfl, trivial⟩ ?_
  clear hc5 hX5 hX5'
  rintro k w5 ⟨hk, hX5, hc5⟩
  have hcb := (cells_heap hc5).1
  by_cases hlt : k < c.lat.2.2.length
  · obtain ⟨x, hx⟩ := getI c.lat.2.2 hlt
    have hso := all_snoc okR hx
    have hlt' : ((k : Nat) : Int) < (c.lat.2.2.length : Int) := by omega
    obtain ⟨bb, hbb⟩ : ∃ bb, (b1 && (c.lat.2.2.take k).all okR) = bb := ⟨_, rfl⟩
    have hso' : (b1 && (c.lat.2.2.take (k + 1)).all okR) = (bb && okR x) := by rw [hso, ← hbb, Bool.and_assoc]
    rw [hbb] at hcb hc5
    clear hso
    repeat' (first
      | (show WL _ _ _ _ _ _ _; first | apply WL.nil | (refine WL.au (k := ?_)))
      | (show Z _ _ _ _ _; apply Z.then_normal)
      | (show W _ _ _ _ _ _; first | apply W.seq | apply W.region))
    refine W.condKT rfl (dec_true hlt') ?_
    repeat' (first
      | (apply WL.alloc tOk; exact rfl; exact rfl; exact rfl; intro gb w' hb hge hx; (obtain ⟨g8, rfl⟩ : ∃ x, x = gb := ⟨_, rfl⟩; obtain ⟨w6, rfl⟩ : ∃ x, x = w' := ⟨_, rfl⟩; obtain ⟨hx6, rfl⟩ : ∃ x, x = hx := ⟨_, rfl⟩; obtain ⟨hb6, rfl⟩ : ∃ x, x = hb := ⟨_, rfl⟩; obtain ⟨hge6, rfl⟩ : ∃ x, x = hge := ⟨_, rfl⟩))
      | (apply WL.storeB (w0 := w5) tOk; exact rfl; exact rfl; exact rfl; exact rfl; assumption; (exact extA); exact rfl; exact rfl; exact rfl; (exact extA); (first | assumption | omega | (focus (apply Nat.le_trans; rotate_left; assumption; exact Below.size (by (exact extA)); done))); intro w' hb hc hX' hU; have hcc := hc; obtain ⟨h1, h2, _⟩ := hc; (obtain ⟨w7, rfl⟩ : ∃ x, x = w' := ⟨_, rfl⟩; obtain ⟨hX7, rfl⟩ : ∃ x, x = hX' := ⟨_, rfl⟩; obtain ⟨hb7, rfl⟩ : ∃ x, x = hb := ⟨_, rfl⟩; have hC7 := cells_heap hb7; obtain ⟨i0, i1, i2, _⟩ := hC7))
      | (show WL _ _ _ _ _ _ _; first | apply WL.nil | (refine WL.au (k := ?_)) | (apply WL.index tOk; exact rfl; exact rfl; exact rfl; exact rfl; exact rfl; exact rfl; exact rfl; exact rfl; assumption; (exact extA); exact rfl; omega; assumption; intro b off h; have hcc := h; first | (obtain ⟨h1, h2, h3, h4, h5, h6, _⟩ := h) | (obtain ⟨h1, h2, h3, _⟩ := h) | (obtain ⟨h1, h2, _⟩ := h) | (obtain ⟨h1, _⟩ := h)) | (apply WL.guardF; exact rfl; exact rfl) | (apply WL.gD; exact rfl; exact rfl; all_goals intro _) | (apply WL.gB; exact rfl; exact rfl; all_goals (intro h_9; fail_if_success (cases h_9; done))))
      | (show Z _ _ _ _ _; apply Z.then_normal)
      | (show W _ _ _ _ _ _; first | apply W.seq | apply W.region | apply W.block | apply W.skip))
    all_goals
      repeat' (first
        | (apply WL.storeB (w0 := wo) tOk; exact rfl; exact rfl; exact rfl; exact rfl; assumption; (exact extA); exact rfl; exact rfl; exact rfl; (exact extA); (first | assumption | omega | (focus (apply Nat.le_trans; rotate_left; assumption; exact Below.size (by (exact extA)); done))); intro w' hb hc hX' hU; have hcc := hc; obtain ⟨h1, h2, _⟩ := hc)
        | (show WL _ _ _ _ _ _ _; first | apply WL.nil | (refine WL.au (k := ?_)))
        | (show Z _ _ _ _ _; first | apply Z.then_normal | apply Z.block_normal)
        | (show W _ _ _ _ _ _; apply W.region))
      refine Z.againW ⟨by omega, (by (exact extA)), ?_⟩ ⟨rfl, rfl, rfl, rfl, rfl, rfl, trivial⟩
      rw [hso']
      clear hcells hcc hcb hc5 hC hz
      first
        | (rw [show (bb && okR x) = false by simp [okR, dec_true, dec_false, *]]; exact hb)
        | (rw [show (bb && okR x) = true by simp [okR, dec_true, dec_false, *]]; exact hb)
        | (rw [show (bb && okR x) = dec (x.2.2 = x.1) by simp [okR, dec_true, dec_false, *]]; exact hb)
  obtain rfl : k = c.lat.2.2.length := by omega
  rw [List.take_length] at hc5
  repeat' (first
    | (show WL _ _ _ _ _ _ _; first | apply WL.nil | (refine WL.au (k := ?_)))
    | (show Z _ _ _ _ _; apply Z.then_normal)
    | (show W _ _ _ _ _ _; first | apply W.seq | apply W.region))
  refine W.condKF rfl (dec_false (by omega)) ?_
  have hX5w : Ext wc w5 := (by (exact extA))
  have huse := circ_uses c wc w5 156 g3 [.pointer (some ⟨g3, 0, none⟩), .pointer (some ⟨gc, 0, none⟩)] (inR c.max) (b1 && c.lat.2.2.all okR) (hC.ext hxc) hz hX5w (Nat.le_trans (Below.size hXo) hlb) hc5 (fun x hx w9 b hbt hc9 => circ_Check1 w9 g3 gc c.max x b hc9 (But.cell hbt (Ext.cell hX5w y0) (fun he => by have h9 := Option.some.inj he; have h8 := Below.size hXo; simp only at h9; omega)) (by omega))
  repeat' (first
    | (((show WL _ _ _ (⟨_, .call ⟨.value (.func 155), _, _⟩, _, _, _, _⟩ :: _) _ _ _); apply WL.call; exact rfl; exact rfl; exact rfl; exact rfl; exact huse; rintro v' w6 ⟨rfl, hb6, hc6⟩))
    | (show WL _ _ _ _ _ _ _; first | apply WL.nil | (refine WL.au (k := ?_)))
    | (show Z _ _ _ _ _; first | apply Z.then_normal | apply Z.then_exit | apply Z.block_exit)
    | (show W _ _ _ _ _ _; first | apply W.seq | apply W.region | apply W.exit))
  have hU6 : Upd g3 (some ⟨g3, 0, none⟩) w5 w6 := ⟨hb6, fun k hk => by have h9 : g3 = k := Option.some.inj hk; omega⟩
  have hX6 : Ext wo w6 := hU6.ext hX5 hlb
  have hcb := (cells_heap hc6).1
  have hbad := bad_iff (c := c.t) hmax
  rw [show c.t.own.all (okO c.t.max) = b1 from hb1] at hbad
  obtain ⟨b2, hb2⟩ : ∃ b2, (b1 && c.lat.2.2.all okR && c.t.used.all (inR c.max)) = b2 := ⟨_, rfl⟩
  rw [hb2] at hc6 hcb
  have hbad2 : b2 = true ↔ ¬ (BadMax c.t ∨ BadOwn c.t ∨ BadUse c.t ∨ BadRes c.t) := by rw [← hb2]; exact hbad
  clear hbad huse
  cases b2 with
  | false =>
    have h5 : BadMax c.t ∨ BadOwn c.t ∨ BadUse c.t ∨ BadRes c.t := Classical.byContradiction fun h => by have := hbad2.2 h; cases this
    repeat' (first
      | (show WL _ _ _ _ _ _ _; first | apply WL.nil | (refine WL.au (k := ?_)))
      | (show Z _ _ _ _ _; apply Z.then_normal))
    refine W.condKT rfl rfl ?_
    repeat' (first
      | (show WL _ _ _ _ _ _ _; first | apply WL.nil | (refine WL.au (k := ?_)))
      | (show Z _ _ _ _ _; first | apply Z.then_normal | apply Z.then_ret)
      | (show W _ _ _ _ _ _; first | apply W.seq | apply W.region | apply W.ret))
    exact Z.body1 Try.results119 rfl fun m => ⟨by rw [chk_5 h5], Ext.at (by (exact extA)) m⟩
  | true =>
    have h5 := hbad2.1 rfl
    have hown : ∀ x ∈ c.t.own, 2 ≤ x ∧ x % 2 = 0 ∧ x ≤ 2 * c.max := fun x hx => by
      have hn : ¬ (x < 2 ∨ x % 2 = 1 ∨ 2 * c.t.max < x) := fun hh => h5 (.inr (.inl ⟨x, hx, hh⟩))
      rw [hcm] at hn; omega
    have hused : ∀ x ∈ c.t.used, 0 ≤ x ∧ x ≤ 2 * c.max + 1 := fun x hx => by
      have hn : ¬ (x < 0 ∨ 2 * c.t.max + 1 < x) := fun hh => h5 (.inr (.inr (.inl ⟨x, hx, hh⟩)))
      rw [hcm] at hn; omega
    repeat' (first
      | (show WL _ _ _ _ _ _ _; first | apply WL.nil | (refine WL.au (k := ?_)))
      | (show Z _ _ _ _ _; apply Z.then_normal))
    refine W.condKF rfl rfl ?_
    repeat' (first
      | ((apply WL.makeMap (kv := encK) (vv := isB); exact rfl; exact rfl; intro rm w7 hM7 hge7 hx7))
      | ((apply WL.insertF (B := 0) (w0 := w6) (vv := isB) tOk keyI; exact rfl; exact rfl; exact rfl; exact rfl; exact rfl; exact rfl; exact hM7; exact (by (exact extA)); exact hge7; intro w8 hM8 hX8 hU8))
      | (apply WL.alloc tOk; exact rfl; exact rfl; exact rfl; intro gb w' hb hge hx; (obtain ⟨g9, rfl⟩ : ∃ x, x = gb := ⟨_, rfl⟩; obtain ⟨w9, rfl⟩ : ∃ x, x = w' := ⟨_, rfl⟩; obtain ⟨hx9, rfl⟩ : ∃ x, x = hx := ⟨_, rfl⟩; obtain ⟨hb9, rfl⟩ : ∃ x, x = hb := ⟨_, rfl⟩; obtain ⟨hge9, rfl⟩ : ∃ x, x = hge := ⟨_, rfl⟩))
      | (apply WL.storeB (w0 := w8) tOk; exact rfl; exact rfl; exact rfl; exact rfl; assumption; (exact extA); exact rfl; exact rfl; exact rfl; (exact extA); (first | assumption | omega | (focus (apply Nat.le_trans; rotate_left; assumption; exact Below.size (by (exact extA)); done))); intro w' hb hc hX' hU; have hcc := hc; obtain ⟨h1, h2, _⟩ := hc; (obtain ⟨w10, rfl⟩ : ∃ x, x = w' := ⟨_, rfl⟩; obtain ⟨hb10, rfl⟩ : ∃ x, x = hb := ⟨_, rfl⟩; obtain ⟨hU10, rfl⟩ : ∃ x, x = hU := ⟨_, rfl⟩; obtain ⟨hX10, rfl⟩ : ∃ x, x = hX' := ⟨_, rfl⟩))
      | (show WL _ _ _ _ _ _ _; first | apply WL.nil | (refine WL.au (k := ?_)))
      | (show Z _ _ _ _ _; apply Z.then_normal)
      | (show W _ _ _ _ _ _; first | apply W.seq | apply W.region | apply W.block | apply W.skip))
    have hS : Lt.Sep w6.heap.size w10 [pcell g9 #[.map (some rm)] 125, pmap encK isB rm (keysL true (0 :: (c.t.own.take 0).map (· / 2)))] := Sep.newCell (Sep.newMap Sep.none' hX8 hM8 hge7 (Nat.le_refl _)) hX10 hb10 hge9 (Below.size hX8)
    clear hM7 hM8 hb9 hb10 hU10 hU8 hcc h1 hx9
    have hX10w : Ext w6 w10 := (by (exact extA))
    have hXw6 : Ext wc w6 := (by (exact extA))
    have hev : ∀ k, ∀ y ∈ c.t.own.take k, y % 2 = 0 ∧ 2 ≤ y := fun k y hy => by have := hown y (List.mem_of_mem_take hy); omega
    clear hX10 hX8 hx7
    refine W.loopW c.t.own.length (fun k w' => k ≤ c.t.own.length ∧ Ext w6 w' ∧ Lt.Sep w6.heap.size w' [pcell g9 #[.map (some rm)] 125, pmap encK isB rm (keysL true (0 :: (c.t.own.take k).map (· / 2)))] ∧ ∀ i x, i < k → c.t.own[i]? = some x → x ∉ c.t.own.take i) (fun k => [(1, .pointer (some ⟨gc, 0, none⟩)), (3, .pointer (some ⟨g3, 0, none⟩)), (9, .pointer (some ⟨g9, 0, none⟩)), (79, .slice ao c.t.own.length co), (80, .int .i64 (c.t.own.length : Nat)), (81, .int .i64 k)]) ⟨Nat.zero_le _, hX10w, hS, fun i x h => absurd h (Nat.not_lt_zero _)⟩ (fun k w' h => h.1) ⟨rfl, rfl, rfl, rfl, rfl, rfl, trivial⟩ ?_
    clear hS hX10w
    rintro k w11 ⟨hk, hX11, hS, hno⟩
    have hg9 := (cells_heap (hS.cell (i := 0) rfl)).1
    have hMp := hS.map (i := 1) rfl
    have hrm := (hS.lt (i := 1) rfl rfl).1
    have hX11o : Ext wo w11 := (by (exact extA))
    by_cases hlt : k < c.t.own.length
    · obtain ⟨x, hx⟩ := getI c.t.own hlt
      have hxo := hown x (List.mem_of_getElem? hx)
      have hhm := half_mem (x := x) (hev k)
      rw [show x - x % 2 = x by omega] at hhm
      by_cases hin : x ∈ c.t.own.take k
      · have htw : Twice c.t := ⟨k, x, hx, hin⟩
        repeat' (first
          | (show WL _ _ _ _ _ _ _; first | apply WL.nil | (refine WL.au (k := ?_)))
          | (show Z _ _ _ _ _; apply Z.then_normal)
          | (show W _ _ _ _ _ _; first | apply W.seq | apply W.region))
        refine W.condKT rfl (dec_true (by omega)) ?_
        repeat' (first
          | ((apply WL.lookKeys tOk keyI; exact rfl; exact rfl; exact rfl; exact rfl; exact rfl; exact rfl; exact rfl; exact rfl; exact hMp))
          | (show WL _ _ _ _ _ _ _; first | apply WL.nil | (refine WL.au (k := ?_)) | (apply WL.index tOk; exact rfl; exact rfl; exact rfl; exact rfl; exact rfl; exact rfl; exact rfl; exact rfl; assumption; (exact extA); exact rfl; omega; assumption; intro b off h; have hcc := h; first | (obtain ⟨h1, h2, h3, h4, h5, h6, _⟩ := h) | (obtain ⟨h1, h2, h3, _⟩ := h) | (obtain ⟨h1, h2, _⟩ := h) | (obtain ⟨h1, _⟩ := h)))
          | (show Z _ _ _ _ _; apply Z.then_normal)
          | (show W _ _ _ _ _ _; first | apply W.seq | apply W.region | apply W.block | apply W.skip))
        refine W.condKT rfl (dec_true (hhm.2 (.inr hin))) ?_
        repeat' (first
          | (show WL _ _ _ _ _ _ _; first | apply WL.nil | (refine WL.au (k := ?_)))
          | (show Z _ _ _ _ _; first | apply Z.then_normal | apply Z.then_ret | apply Z.block_ret)
          | (show W _ _ _ _ _ _; first | apply W.seq | apply W.region | apply W.ret))
        exact Z.body1 Try.results119 rfl fun m => ⟨by rw [chk_7 h5 htw], Ext.at (by (exact extA)) m⟩
      · have hnm : ¬ x / 2 ∈ (0 :: (c.t.own.take k).map (· / 2) : List Int) := fun h => by
          rcases hhm.1 h with h | h
          · omega
          · exact hin h
        repeat' (first
          | (show WL _ _ _ _ _ _ _; first | apply WL.nil | (refine WL.au (k := ?_)))
          | (show Z _ _ _ _ _; apply Z.then_normal)
          | (show W _ _ _ _ _ _; first | apply W.seq | apply W.region))
        refine W.condKT rfl (dec_true (by omega)) ?_
        repeat' (first
          | ((apply WL.lookKeys tOk keyI; exact rfl; exact rfl; exact rfl; exact rfl; exact rfl; exact rfl; exact rfl; exact rfl; exact hMp))
          | (show WL _ _ _ _ _ _ _; first | apply WL.nil | (refine WL.au (k := ?_)) | (apply WL.index tOk; exact rfl; exact rfl; exact rfl; exact rfl; exact rfl; exact rfl; exact rfl; exact rfl; assumption; (exact extA); exact rfl; omega; assumption; intro b off h; have hcc := h; first | (obtain ⟨h1, h2, h3, h4, h5, h6, _⟩ := h) | (obtain ⟨h1, h2, h3, _⟩ := h) | (obtain ⟨h1, h2, _⟩ := h) | (obtain ⟨h1, _⟩ := h)))
          | (show Z _ _ _ _ _; apply Z.then_normal)
          | (show W _ _ _ _ _ _; first | apply W.seq | apply W.region | apply W.block | apply W.skip))
        refine W.condKF rfl (dec_false hnm) ?_
        repeat' (first
          | ((apply WL.mapPutF (B := 0) (w0 := w6) (vv := isB) tOk keyI; exact rfl; exact rfl; exact rfl; exact rfl; exact rfl; exact rfl; exact hMp; exact (by (exact extA)); assumption; intro w' hM' hX' hU))
          | (show WL _ _ _ _ _ _ _; first | apply WL.nil | (refine WL.au (k := ?_)))
          | (show Z _ _ _ _ _; first | apply Z.then_normal | apply Z.block_normal)
          | (show W _ _ _ _ _ _; first | apply W.region | apply W.skip))
        rw [mget_keys, dec_false hnm] at hM'
        have hS4 := Sep.updMap (i := 1) rfl hU hM' hS (by (exact extA)) (Below.size (by (exact extA)))
        refine Z.againW ⟨by omega, (by (exact extA)), ?_, fun i z hi hz => ?_⟩ ⟨rfl, rfl, rfl, rfl, rfl, rfl, trivial⟩
        · rw [take_succ' hx, List.map_append, ← List.cons_append, List.map_singleton, keysL_snoc]; exact hS4
        · by_cases hik : i = k
          · subst hik; rw [hx] at hz; cases hz; exact hin
          · exact hno i z (by omega) hz
    obtain rfl : k = c.t.own.length := by omega
    rw [List.take_length] at hS hMp
    have h7 : ¬ Twice c.t := fun ⟨i, x, a1, a2⟩ => hno i x (lt_of_get a1) a1 a2
    repeat' (first
      | (show WL _ _ _ _ _ _ _; first | apply WL.nil | (refine WL.au (k := ?_)))
      | (show Z _ _ _ _ _; apply Z.then_normal)
      | (show W _ _ _ _ _ _; first | apply W.seq | apply W.region))
    refine W.condKF rfl (dec_false (by omega)) ?_
    have hc11 : w11.heap[g3]? = some (.cells (okV true) 4 (0, 0)) := by rw [hX11.block g3 (heap_lt hc6)]; exact hc6
    have hgm : ∀ g ∈ c.gates.2.2, g.1 ∈ c.t.own ∧ g.2.1 ∈ c.t.used ∧ g.2.2 ∈ c.t.used := fun g hg =>
      ⟨List.mem_append.2 (.inr (List.mem_map.2 ⟨g, hg, rfl⟩)), List.mem_append.2 (.inr (List.mem_flatMap.2 ⟨g, hg, by simp⟩)), List.mem_append.2 (.inr (List.mem_flatMap.2 ⟨g, hg, by simp⟩))⟩
    have hok : gsOk c.gates.2.2 := fun g hg => by
      obtain ⟨r1, r2, r3⟩ := hgm g hg
      have := hown _ r1
      have := hused _ r2
      have := hused _ r3
      omega
    have honce : Once c.gates.2.2 := once_of (c := c.t) h7 fun x hx => (hown x hx).2.1
    have hn9 := none_iff (c := c.t) hown hused
    obtain ⟨ks, hks⟩ : ∃ ks, (0 :: c.t.own.map (· / 2) : List Int) = ks := ⟨_, rfl⟩
    rw [hks] at hMp hn9
    have hXc11 : Ext wc w11 := (by (exact extA))
    have hne3 : g9 ≠ g3 := fun he => by have h1 := heap_lt hc6; have h2 := (hS.lt (i := 0) rfl rfl).1; omega
    have hne4 : rm ≠ g3 := fun he => by have h1 := heap_lt hc6; omega
    have huse := circ_uses c wc w11 157 g3 [.pointer (some ⟨g3, 0, none⟩), .pointer (some ⟨g9, 0, none⟩)] (inK ks) true (hC.ext hxc) hz hXc11 (Nat.le_trans (Below.size hXo) hlb) hc11 (fun x hx w9 b hbt hc9 => circ_Check2 w9 g3 g9 rm ks x b hc9 (But.cell hbt hg9 (fun he => hne3 (by have h9 := Option.some.inj he; simp only at h9; omega))) (hMp.keep (hbt.block rm hMp.lt (fun he => hne4 (by have h9 := Option.some.inj he; omega)))) (by have := hused x hx; omega))
    repeat' (first
      | (((show WL _ _ _ (⟨_, .call ⟨.value (.func 155), _, _⟩, _, _, _, _⟩ :: _) _ _ _); apply WL.call; exact rfl; exact rfl; exact rfl; exact rfl; exact huse; rintro v' w12 ⟨rfl, hb12, hc12⟩))
      | (show WL _ _ _ _ _ _ _; first | apply WL.nil | (refine WL.au (k := ?_)))
      | (show Z _ _ _ _ _; first | apply Z.then_normal | apply Z.then_exit | apply Z.block_exit)
      | (show W _ _ _ _ _ _; first | apply W.seq | apply W.region | apply W.block | apply W.exit))
    have hU12 : Upd g3 (some ⟨g3, 0, none⟩) w11 w12 := ⟨hb12, fun k hk => by have h9 : g3 = k := Option.some.inj hk; omega⟩
    have hX12 : Ext wo w12 := hU12.ext hX11o hlb
    have hcb := (cells_heap hc12).1
    obtain ⟨b3, hb3⟩ : ∃ b3, (true && c.t.used.all (inK ks)) = b3 := ⟨_, rfl⟩
    rw [hb3] at hc12 hcb hn9
    cases b3 with
    | false =>
      have h9 : NoneC c.t := Classical.byContradiction fun h => by have := hn9.2 h; cases this
      repeat' (first
        | (show WL _ _ _ _ _ _ _; first | apply WL.nil | (refine WL.au (k := ?_)))
        | (show Z _ _ _ _ _; apply Z.then_normal))
      refine W.condKT rfl rfl ?_
      repeat' (first
        | (show WL _ _ _ _ _ _ _; first | apply WL.nil | (refine WL.au (k := ?_)))
        | (show Z _ _ _ _ _; first | apply Z.then_normal | apply Z.then_ret | apply Z.block_ret)
        | (show W _ _ _ _ _ _; first | apply W.seq | apply W.region | apply W.ret))
      exact Z.body1 Try.results119 rfl fun m => ⟨by rw [chk_9 h5 h7 h9], Ext.at (by (exact extA)) m⟩
    | true =>
      have h9 := hn9.1 rfl
      repeat' (first
        | (show WL _ _ _ _ _ _ _; first | apply WL.nil | (refine WL.au (k := ?_)))
        | (show Z _ _ _ _ _; apply Z.then_normal))
      refine W.condKF rfl rfl ?_
      have hX12w : Ext w w12 := (by (exact extA))
      have Rg := hC.gates.row.ext hX12w
      have hcu := hcells.ext (show Ext wc w12 from (by (exact extA)))
      have x0 : Cells w12 gc 0 c.vals := hcu
      have x6 : w12.cell? ⟨gc, 0 + 1 + 1 + 1 + 1 + 1 + 1, none⟩ = some (rowVal c.gates) := hcu.2.2.2.2.2.2.1
      repeat' (first
        | (show W _ _ (.region 28 _ _) _ _ _; apply W.regionGX (.fl true 3 (.fl false 0 (.fl false 4 (.fl true 5 (.br 1 (.fl true 2 (.fl true 6 (.fl true 7 .done))) .stop))))) [1, 2, 4, 5, 6, 7] tMix; kernel_rfl)
        | ((show WL _ _ _ (⟨_, .call ⟨.value (.func 111), _, _⟩, _, _, _, _⟩ :: _) _ _ _); apply WL.call; exact rfl; exact rfl; exact rfl; exact rfl; exact circ_Order c _ (Rg.ext (by (exact extA))) hok (by omega) honce; rintro v' w' ⟨hx, a', cap', rfl, hO⟩; (obtain ⟨hOd, rfl⟩ : ∃ x, x = hO := ⟨_, rfl⟩; obtain ⟨hxd, rfl⟩ : ∃ x, x = hx := ⟨_, rfl⟩; obtain ⟨wd, rfl⟩ : ∃ x, x = w' := ⟨_, rfl⟩; obtain ⟨ad, rfl⟩ : ∃ x, x = a' := ⟨_, rfl⟩; obtain ⟨cd, rfl⟩ : ∃ x, x = cap' := ⟨_, rfl⟩))
        | (show SX _ _ _ _ _ _ _ _ _; first | (apply SX.done; intro w' hx) | (apply SX.fl0; exact rfl) | (apply SX.fl1; exact rfl; (exact extA)) | (apply SX.br1; exact rfl; intro w' hx))
        | (show FL _ _ _ _ _ _ _ _; first | apply FL.nilX | (apply FL.loadE tOk; exact rfl; exact rfl; exact rfl; exact rfl; exact rfl; assumption) | (apply FL.loadAE tOk; exact rfl; exact rfl; exact rfl; exact rfl; exact rfl; assumption; exact rfl))
        | (show FL _ _ _ _ _ _ _ _; (refine FL.au (k := ?_)))
        | (show Z _ _ _ _ _; (apply Z.sxE; (exact extA)))
        | (show WL _ _ _ _ _ _ _; first | apply WL.nil | (refine WL.au (k := ?_)))
        | (show Z _ _ _ _ _; first | apply Z.then_normal | apply Z.block_normal | apply Z.then_ret | apply Z.block_ret)
        | (show W _ _ _ _ _ _; first | apply W.seq | apply W.region | apply W.skip | apply W.ret | (apply W.condD; exact rfl; all_goals intro _)))
      all_goals (rename_i hlen; rw [show (natI (ordL c.gates.2.2)).length = (ordL c.t.gates).length from List.length_map _] at hlen)
      · exact Z.body1 Try.results119 rfl fun m => ⟨by rw [chk_8 h5 h7 h9 (show (ordL c.t.gates).length < c.t.gates.length by have : c.t.gates = c.gates.2.2 := rfl; rw [this] at hlen ⊢; omega)], Ext.at (by (exact extA)) m⟩
      · exact Z.body1 Try.results119 rfl fun m => ⟨by rw [chk_0 h5 h7 h9 (show ¬ (ordL c.t.gates).length < c.t.gates.length by have : c.t.gates = c.gates.2.2 := rfl; rw [this] at hlen ⊢; omega)], Ext.at (by (exact extA)) m⟩
end Go.Proofs.Ythpnahapiodflaa
namespace Go.Proofs.Ythpnahapiodflaa
open Go Go.Lt Go.RowKit
set_option linter.unusedVariables false
set_option linter.unusedSimpArgs false
set_option maxRecDepth 20000

abbrev netP (B g4 g5 : Nat) (an : Option Addr) (cn : Nat) (aa : Option Addr) (ca : Nat) (s : NA) : List Piece :=
  [pcell g4 #[.slice an s.1.length cn] 50, pcell g5 #[.slice aa s.2.length ca] 23, prow 2 encN 104 B an cn s.1, prow 1 encI 3 B aa ca s.2]
theorem circ_Net2 (w : World) (g5 : Nat) (aa : Option Addr) (ca : Nat) (A : List Int) (l z : Int) (hc : w.cell? ⟨g5, 0, none⟩ = some (.slice aa A.length ca)) (R : Row 1 encI w aa A) (h0 : 0 ≤ l) (hl9 : l ≤ 4294967296) (hz : A[(l / 2).toNat]? = some z) (hz0 : 0 ≤ z ∧ z ≤ 4294967296) :
    Still Try.prog 138 [.int .i64 l, .pointer (some ⟨g5, 0, none⟩)] w (.int .i64 (litI A l)) := by
  have hlt := lt_of_get hz
  have hl := R.len
  have e0 : litI A l = xorI z (l % 2) := litI_some hz
  refine Spec.of _ Try.func138 rfl Try.ntmps138 (by kernel_rfl) rfl ?_
  repeat' (first
    | (apply WL.andA; exact rfl; exact rfl; exact rfl; exact rfl)
    | (apply WL.xorI; exact rfl; exact rfl; exact rfl; exact rfl; omega; omega)
    | (show WL _ _ _ _ _ _ _; first | apply WL.nil | (refine WL.au (k := ?_)) | (apply WL.index tOk; exact rfl; exact rfl; exact rfl; exact rfl; exact rfl; exact rfl; exact rfl; exact rfl; assumption; (exact extA); exact rfl; omega; assumption; intro b off h; have hcc := h; first | (obtain ⟨h1, h2, h3, h4, h5, h6, _⟩ := h) | (obtain ⟨h1, h2, h3, _⟩ := h) | (obtain ⟨h1, h2, _⟩ := h) | (obtain ⟨h1, _⟩ := h)))
    | (show Z _ _ _ _ _; apply Z.then_normal)
    | (show W _ _ _ _ _ _; first | apply W.seq | apply W.region | apply W.ret))
  exact Z.body1 Try.results138 rfl fun m => ⟨by rw [e0], m, rfl⟩
set_option maxHeartbeats 8000000 in
theorem circ_Net1 (w0 w : World) (g4 g5 : Nat) (an : Option Addr) (cn : Nat) (aa : Option Addr) (ca : Nat) (s : NA) (rest : List Piece) (l : Int) (x : Int × Int) (hX : Ext w0 w) (hS : Lt.Sep w0.heap.size w (netP w0.heap.size g4 g5 an cn aa ca s ++ rest)) (hl : 0 ≤ l ∧ (l / 2).toNat < s.2.length) (hl2 : l ≤ 4294967296) (hs : s.1.length ≤ 1000000) :
    Lt.Spec Try.prog 137 [.int .i64 l, .agg (encN x).toArray, .pointer (some ⟨g4, 0, none⟩), .pointer (some ⟨g5, 0, none⟩)] w (fun v w' => v = .tuple #[] ∧ Ext w0 w' ∧ ∃ an' cn', Lt.Sep w0.heap.size w' (netP w0.heap.size g4 g5 an' cn' aa ca (cput s l x) ++ rest)) := by
  obtain ⟨N, A⟩ := s
  dsimp only at hs hl
  have k0 := (cells_heap (hS.cell (i := 0) rfl)).1
  have k1 := (cells_heap (hS.cell (i := 1) rfl)).1
  have hg4 := (hS.lt (i := 0) rfl rfl).1
  have hN := hS.row (i := 2) rfl
  obtain ⟨zz, hzz⟩ := getI A hl.2
  refine Spec.of _ Try.func137 rfl Try.ntmps137 (by kernel_rfl) rfl ?_
  repeat' (first
    | (apply WL.box; exact rfl; exact rfl; exact rfl; intro gb w' hb hge hc hx; have hcc := hc; (first | (obtain ⟨h1, h2, h3, _⟩ := hc) | (obtain ⟨h1, h2, _⟩ := hc)); (have hcells := hcc; obtain ⟨y0, y1, _⟩ := hcc; obtain ⟨w1, rfl⟩ : ∃ x, x = w' := ⟨_, rfl⟩; obtain ⟨hx1, rfl⟩ : ∃ x, x = hx := ⟨_, rfl⟩))
    | (apply WL.lit tOk; exact rfl; exact rfl; exact rfl; exact rfl; exact rfl; exact rfl; (first | exact rfl | kernel_rfl | (simp [Instr.fill, catCells]; done)); exact rfl; intro gb w' hb hge hc hx; (obtain ⟨w2, rfl⟩ : ∃ x, x = w' := ⟨_, rfl⟩; obtain ⟨hx2, rfl⟩ : ∃ x, x = hx := ⟨_, rfl⟩))
    | (apply WL.append1 (z := (x)) tOk encN_ok; exact rfl; exact rfl; exact rfl; exact rfl; exact rfl; exact rfl; exact rfl; exact rfl; exact rfl; exact rfl; assumption; (exact extA); (first | exact rfl | (focus (simp only [List.length_set]; done)) | (focus (simp; done)) | (focus (simp [*]; done)) | omega | (focus (simp only [List.length_set]; omega))); (first | assumption | (refine Cells.ext ?_ (by assumption); exact extA)); exact rfl; exact rfl; (exact extA); (first | omega | (simp; omega) | (simp at *; omega)); intro a' cap' w' hO hX' hU hF)
    | (show WL _ _ _ _ _ _ _; first | apply WL.nil | (refine WL.au (k := ?_)))
    | (show Z _ _ _ _ _; apply Z.then_normal)
    | (show W _ _ _ _ _ _; first | apply W.seq | apply W.region))
  obtain ⟨w3, rfl⟩ : ∃ x, x = w' := ⟨_, rfl⟩; obtain ⟨an2, rfl⟩ : ∃ x, x = a' := ⟨_, rfl⟩; obtain ⟨cn2, rfl⟩ : ∃ x, x = cap' := ⟨_, rfl⟩
  have hS1 : Lt.Sep w0.heap.size w3 ([pcell g4 #[.slice an N.length cn] 50, pcell g5 #[.slice aa A.length ca] 23, prow 2 encN 104 w0.heap.size an2 cn2 (N ++ [x]), prow 1 encI 3 w0.heap.size aa ca A] ++ rest) := Sep.updRow (i := 2) rfl hU hO hF hS (by (exact extA)) (Below.size (by (exact extA)))
  have hX3 : Ext w0 w3 := (by (exact extA))
  have hc4 := hS1.cell (i := 0) rfl
  repeat' (first
    | (apply WL.storeB (w0 := w0) tOk; exact rfl; exact rfl; exact rfl; exact rfl; assumption; (exact extA); exact rfl; exact rfl; exact rfl; (exact extA); (first | assumption | omega | (focus (apply Nat.le_trans; rotate_left; assumption; exact Below.size (by (exact extA)); done))); intro w' hb hc hX' hU; have hcc := hc; obtain ⟨h1, h2, _⟩ := hc; (obtain ⟨w4, rfl⟩ : ∃ x, x = w' := ⟨_, rfl⟩; obtain ⟨hb4, rfl⟩ : ∃ x, x = hb := ⟨_, rfl⟩; obtain ⟨hU4, rfl⟩ : ∃ x, x = hU := ⟨_, rfl⟩; obtain ⟨hX4, rfl⟩ : ∃ x, x = hX' := ⟨_, rfl⟩; have hS2 : Lt.Sep w0.heap.size w4 ([pcell g4 #[.slice an2 (N ++ [x]).length cn2] 50, pcell g5 #[.slice aa A.length ca] 23, prow 2 encN 104 w0.heap.size an2 cn2 (N ++ [x]), prow 1 encI 3 w0.heap.size aa ca A] ++ rest) := Sep.updCell (i := 0) rfl hU4 hb4 hS1 (Ext.refl _) (Below.size hX3); have p0 := (cells_heap (hS2.cell (i := 0) rfl)).1; have p1 := (cells_heap (hS2.cell (i := 1) rfl)).1; have hA4 := hS2.row (i := 3) rfl; have hnl : (N ++ [x]).length = N.length + 1 := by simp))
    | (apply WL.indexO tOk; exact rfl; exact rfl; exact rfl; exact rfl; exact rfl; exact rfl; exact rfl; exact rfl; assumption; (exact extA); exact encI_ok; (first | exact rfl | (focus (simp only [List.length_set]; done)) | (focus (simp; done)) | (focus (simp [*]; done)) | omega | (focus (simp only [List.length_set]; omega))); omega; assumption; intro gb ha hc; cases ha; have hcc := hc; first | (obtain ⟨h1, h2, h3, _⟩ := hc) | (obtain ⟨h1, h2, _⟩ := hc) | (obtain ⟨h1, _⟩ := hc))
    | (apply WL.storeO (z' := (2 * ((N ++ [x]).length : Int))) tOk; exact rfl; exact rfl; exact rfl; exact rfl; assumption; (exact extA); exact rfl; exact rfl; exact rfl; exact encI_ok; assumption; exact rfl; (exact extA); intro w' hO hX' hU)
    | (show WL _ _ _ _ _ _ _; first | apply WL.nil | (refine WL.au (k := ?_)))
    | (show Z _ _ _ _ _; apply Z.then_normal)
    | (show W _ _ _ _ _ _; apply W.region))
  refine Z.body0n Try.results137 fun m => ⟨rfl, hX'.at m, an2, cn2, ?_⟩
  have hS3 := Sep.updRow (i := 3) rfl hU hO (.inl rfl) hS2 (Ext.refl _) (Below.size hX4)
  have e1 : cput (N, A) l x = (N ++ [x], A.set (l / 2).toNat (2 * ((N ++ [x]).length : Int))) := by unfold cput; rw [hnl]; rfl
  rw [e1]
  refine Sep.ext (w := w') ?_ ((Ext.refl _).at m)
  show Lt.Sep _ _ ([pcell g4 #[.slice an2 (N ++ [x]).length cn2] 50, pcell g5 #[.slice _ (A.set (l / 2).toNat (2 * ((N ++ [x]).length : Int))).length ca] 23, prow 2 encN 104 w0.heap.size an2 cn2 (N ++ [x]), prow 1 encI 3 w0.heap.size _ ca (A.set (l / 2).toNat (2 * ((N ++ [x]).length : Int)))] ++ rest)
  rw [List.length_set]
  exact hS3
end Go.Proofs.Ythpnahapiodflaa
namespace Go.Proofs.Ythpnahapiodflaa
open Go Go.Lt Go.RowKit
set_option linter.unusedVariables false
set_option linter.unusedSimpArgs false
set_option maxRecDepth 20000

/-- Up to a place all is -1, behind the first. -/
structure AtK (m k : Nat) (A : List Int) : Prop where
  len : A.length = m + 1
  zero : A[0]? = some 0
  neg : ∀ u : Nat, 1 ≤ u → u < k → A[u]? = some (-1)
theorem AtK.all {m : Nat} {A : List Int} (h : AtK m (m + 1) A) : A = cAt0 (m : Int) := by
  apply List.ext_getElem?
  intro u
  have hr := PutOk.start m
  by_cases hu : u < m + 1
  · cases u with
    | zero => rw [h.zero]; exact hr.zero.symm
    | succ u => rw [h.neg (u + 1) (by omega) hu]; exact (hr.not (u + 1) (by omega) (by omega) (fun l hl => by cases hl)).symm
  · rw [List.getElem?_eq_none (by have := h.len; omega)]
    have h2 : (cAt0 (m : Int)).length = m + 1 := hr.len2
    exact (List.getElem?_eq_none (by omega)).symm
theorem Sep.perm4 {B : Nat} {w : World} {p q r s : Piece} (hS : Lt.Sep B w [p, q, r, s]) : Lt.Sep B w [r, p, s, q] := by
  refine hS.pick (fun i => match i with | 0 => 2 | 1 => 0 | 2 => 3 | _ => 1) (fun i x h => ?_) (fun i j hi hj hne => ?_)
  · match i, h with
    | 0, h => exact h
    | 1, h => exact h
    | 2, h => exact h
    | 3, h => exact h
  · have hi' : i < 4 := hi
    have hj' : j < 4 := hj
    match i, j, hi', hj', hne with
    | 0, 1, _, _, _ => decide
    | 0, 2, _, _, _ => decide
    | 0, 3, _, _, _ => decide
    | 1, 0, _, _, _ => decide
    | 1, 2, _, _, _ => decide
    | 1, 3, _, _, _ => decide
    | 2, 0, _, _, _ => decide
    | 2, 1, _, _, _ => decide
    | 2, 3, _, _, _ => decide
    | 3, 0, _, _, _ => decide
    | 3, 1, _, _, _ => decide
    | 3, 2, _, _, _ => decide
    | 0, 0, _, _, h => exact absurd rfl h
    | 1, 1, _, _, h => exact absurd rfl h
    | 2, 2, _, _, h => exact absurd rfl h
    | 3, 3, _, _, h => exact absurd rfl h
set_option maxHeartbeats 32000000 in
theorem circ_Net (c : Circ) (w : World) (hC : CAt w c) (hg : GoodC' c.t) (hz : SzC c.t 100000) :
    Lt.Spec Try.prog 87 [c.val] w (IsFresh2 2 encN 104 1 encI 3 w (cNet c.t).1 (cNet c.t).2) := by
  have z1 : c.ins.2.2.length ≤ 100000 := hz.1
  have z2 : c.lat.2.2.length ≤ 100000 := hz.2.1
  have z6 : c.gates.2.2.length ≤ 100000 := hz.2.2.2.2.2
  have hm : 0 ≤ c.max ∧ c.max ≤ 16777216 := hg.max
  have hcm : c.t.max = c.max := rfl
  obtain ⟨m, hmm⟩ : ∃ m : Nat, c.max = (m : Int) := ⟨c.max.toNat, by omega⟩
  have hmt : c.max.toNat = m := by omega
  have hown : ∀ x ∈ c.t.own, 2 ≤ x ∧ x % 2 = 0 ∧ x ≤ 2 * c.max := hg.own
  have hused : ∀ x ∈ c.t.used, 0 ≤ x ∧ x ≤ 2 * c.max + 1 := hg.used
  refine Spec.of _ Try.func87 rfl Try.ntmps87 (by kernel_rfl) rfl ?_
  repeat' (first
    | (apply WL.box; exact rfl; exact rfl; exact rfl; intro gb w' hb hge hc hx; have hcc := hc; (first | (obtain ⟨h1, h2, h3, _⟩ := hc) | (obtain ⟨h1, h2, _⟩ := hc)); (have hcells := hcc; obtain ⟨y0, y1, y2, y3, y4, y5, y6, _⟩ := hcc; obtain ⟨gc, rfl⟩ : ∃ x, x = gb := ⟨_, rfl⟩; obtain ⟨wc, rfl⟩ : ∃ x, x = w' := ⟨_, rfl⟩; obtain ⟨hxc, rfl⟩ : ∃ x, x = hx := ⟨_, rfl⟩; have hS : Lt.Sep wc.heap.size wc [prow 2 encN 104 wc.heap.size none 0 []] := Sep.newRow Sep.none' (Ext.refl _) Own.nil (fun k hk => by cases hk) (Nat.le_refl _)))
    | (apply WL.alloc tOk; exact rfl; exact rfl; exact rfl; intro gb w' hb hge hx; replace hS := Sep.newCell (Sep.ext hS (by (exact extA))) hx hb hge (by (first | exact Nat.le_refl _ | exact Below.size (by (exact extA)))); (try simp only [List.set_cons_zero, List.set_cons_succ] at hS); (try have hR0 := hS.row (i := 0) rfl); (try have hR1 := hS.row (i := 1) rfl); (try have hR2 := hS.row (i := 2) rfl); (try have hR3 := hS.row (i := 3) rfl); (try have hR4 := hS.row (i := 4) rfl); (try have hC0 := hS.cell (i := 0) rfl); (try have hD0 := (cells_heap hC0).1); (try have hE0 := (cells_heap hC0).2.1); (try have hF0 := (cells_heap hC0).2.2.1); (try have hG0 := (cells_heap hC0).2.2.2.1); (try have hC1 := hS.cell (i := 1) rfl); (try have hD1 := (cells_heap hC1).1); (try have hE1 := (cells_heap hC1).2.1); (try have hF1 := (cells_heap hC1).2.2.1); (try have hG1 := (cells_heap hC1).2.2.2.1); (try have hC2 := hS.cell (i := 2) rfl); (try have hD2 := (cells_heap hC2).1); (try have hE2 := (cells_heap hC2).2.1); (try have hF2 := (cells_heap hC2).2.2.1); (try have hG2 := (cells_heap hC2).2.2.2.1); (try have hC3 := hS.cell (i := 3) rfl); (try have hD3 := (cells_heap hC3).1); (try have hE3 := (cells_heap hC3).2.1); (try have hF3 := (cells_heap hC3).2.2.1); (try have hG3 := (cells_heap hC3).2.2.2.1); (try have hC4 := hS.cell (i := 4) rfl); (try have hD4 := (cells_heap hC4).1); (try have hE4 := (cells_heap hC4).2.1); (try have hF4 := (cells_heap hC4).2.2.1); (try have hG4 := (cells_heap hC4).2.2.2.1); (try have hM0 := hS.map (i := 0) rfl); (try have hM1 := hS.map (i := 1) rfl); (try have hM2 := hS.map (i := 2) rfl); (try have hM3 := hS.map (i := 3) rfl); (try have hM4 := hS.map (i := 4) rfl); (first | (have h_0 := g4; clear h_0) | (obtain ⟨g4, rfl⟩ : ∃ x, x = gb := ⟨_, rfl⟩)))
    | (apply WL.make (w0 := wc) (z := (0:Int)) tOk; exact rfl; exact rfl; exact rfl; exact rfl; exact rfl; exact rfl; exact rfl; exact rfl; exact rfl; exact encI_ok; exact rfl; exact rfl; (exact extA); (first | omega | (simp; omega) | (simp at *; omega)); intro gb w' hO hge hx; replace hS := Sep.newRow (Sep.ext hS (by (exact extA))) hx hO (fun k hk => by cases hk; exact hge) (by (first | exact Nat.le_refl _ | exact Below.size (by (exact extA)))); (try simp only [List.set_cons_zero, List.set_cons_succ] at hS); (try have hR0 := hS.row (i := 0) rfl); (try have hR1 := hS.row (i := 1) rfl); (try have hR2 := hS.row (i := 2) rfl); (try have hR3 := hS.row (i := 3) rfl); (try have hR4 := hS.row (i := 4) rfl); (try have hC0 := hS.cell (i := 0) rfl); (try have hD0 := (cells_heap hC0).1); (try have hE0 := (cells_heap hC0).2.1); (try have hF0 := (cells_heap hC0).2.2.1); (try have hG0 := (cells_heap hC0).2.2.2.1); (try have hC1 := hS.cell (i := 1) rfl); (try have hD1 := (cells_heap hC1).1); (try have hE1 := (cells_heap hC1).2.1); (try have hF1 := (cells_heap hC1).2.2.1); (try have hG1 := (cells_heap hC1).2.2.2.1); (try have hC2 := hS.cell (i := 2) rfl); (try have hD2 := (cells_heap hC2).1); (try have hE2 := (cells_heap hC2).2.1); (try have hF2 := (cells_heap hC2).2.2.1); (try have hG2 := (cells_heap hC2).2.2.2.1); (try have hC3 := hS.cell (i := 3) rfl); (try have hD3 := (cells_heap hC3).1); (try have hE3 := (cells_heap hC3).2.1); (try have hF3 := (cells_heap hC3).2.2.1); (try have hG3 := (cells_heap hC3).2.2.2.1); (try have hC4 := hS.cell (i := 4) rfl); (try have hD4 := (cells_heap hC4).1); (try have hE4 := (cells_heap hC4).2.1); (try have hF4 := (cells_heap hC4).2.2.1); (try have hG4 := (cells_heap hC4).2.2.2.1); (try have hM0 := hS.map (i := 0) rfl); (try have hM1 := hS.map (i := 1) rfl); (try have hM2 := hS.map (i := 2) rfl); (try have hM3 := hS.map (i := 3) rfl); (try have hM4 := hS.map (i := 4) rfl); (obtain ⟨ga, rfl⟩ : ∃ x, x = gb := ⟨_, rfl⟩))
    | (apply WL.storeB (w0 := wc) tOk; exact rfl; exact rfl; exact rfl; exact rfl; assumption; (exact extA); exact rfl; exact rfl; exact rfl; (exact extA); (first | assumption | omega | (focus (apply Nat.le_trans; rotate_left; assumption; exact Below.size (by (exact extA)); done))); intro w' hb hc hX' hU; have hcc := hc; obtain ⟨h1, h2, _⟩ := hc; (first | replace hS := Sep.updCell (i := 0) rfl hU hb hS (by (exact extA)) (by (first | exact Nat.le_refl _ | exact Below.size (by (exact extA)))) | replace hS := Sep.updCell (i := 1) rfl hU hb hS (by (exact extA)) (by (first | exact Nat.le_refl _ | exact Below.size (by (exact extA)))) | replace hS := Sep.updCell (i := 2) rfl hU hb hS (by (exact extA)) (by (first | exact Nat.le_refl _ | exact Below.size (by (exact extA)))) | replace hS := Sep.updCell (i := 3) rfl hU hb hS (by (exact extA)) (by (first | exact Nat.le_refl _ | exact Below.size (by (exact extA))))); (try simp only [List.set_cons_zero, List.set_cons_succ] at hS); (try have hR0 := hS.row (i := 0) rfl); (try have hR1 := hS.row (i := 1) rfl); (try have hR2 := hS.row (i := 2) rfl); (try have hR3 := hS.row (i := 3) rfl); (try have hR4 := hS.row (i := 4) rfl); (try have hC0 := hS.cell (i := 0) rfl); (try have hD0 := (cells_heap hC0).1); (try have hE0 := (cells_heap hC0).2.1); (try have hF0 := (cells_heap hC0).2.2.1); (try have hG0 := (cells_heap hC0).2.2.2.1); (try have hC1 := hS.cell (i := 1) rfl); (try have hD1 := (cells_heap hC1).1); (try have hE1 := (cells_heap hC1).2.1); (try have hF1 := (cells_heap hC1).2.2.1); (try have hG1 := (cells_heap hC1).2.2.2.1); (try have hC2 := hS.cell (i := 2) rfl); (try have hD2 := (cells_heap hC2).1); (try have hE2 := (cells_heap hC2).2.1); (try have hF2 := (cells_heap hC2).2.2.1); (try have hG2 := (cells_heap hC2).2.2.2.1); (try have hC3 := hS.cell (i := 3) rfl); (try have hD3 := (cells_heap hC3).1); (try have hE3 := (cells_heap hC3).2.1); (try have hF3 := (cells_heap hC3).2.2.1); (try have hG3 := (cells_heap hC3).2.2.2.1); (try have hC4 := hS.cell (i := 4) rfl); (try have hD4 := (cells_heap hC4).1); (try have hE4 := (cells_heap hC4).2.1); (try have hF4 := (cells_heap hC4).2.2.1); (try have hG4 := (cells_heap hC4).2.2.2.1); (try have hM0 := hS.map (i := 0) rfl); (try have hM1 := hS.map (i := 1) rfl); (try have hM2 := hS.map (i := 2) rfl); (try have hM3 := hS.map (i := 3) rfl); (try have hM4 := hS.map (i := 4) rfl))
    | (show WL _ _ _ _ _ _ _; first | apply WL.nil | (refine WL.au (k := ?_)))
    | (show Z _ _ _ _ _; apply Z.then_normal)
    | (show W _ _ _ _ _ _; first | apply W.seq | apply W.region | apply W.block))
  obtain ⟨g5, rfl⟩ : ∃ x, x = gb := ⟨_, rfl⟩
  have e1 : (c.max + 1).toNat = m + 1 := by omega
  rw [e1, List.length_replicate] at hS
  have hS2 : Lt.Sep wc.heap.size w' (netP wc.heap.size g4 g5 none 0 (some ⟨ga, 0, none⟩) (m + 1) ([], List.replicate (m + 1) 0)) := by
    have := Sep.perm4 hS
    unfold netP
    rw [List.length_replicate]
    exact this
  have hA0 : AtK m 1 (List.replicate (m + 1) 0) := ⟨by simp, rfl, fun u h1 h2 => by omega⟩
  have hX1 : Ext wc w' := (by (exact extA))
  refine W.loopW (m + 1) (fun k w' => k ≤ m ∧ Ext wc w' ∧ ∃ A, AtK m (k + 1) A ∧ Lt.Sep wc.heap.size w' (netP wc.heap.size g4 g5 none 0 (some ⟨ga, 0, none⟩) (m + 1) ([], A))) (fun k => [(1, .pointer (some ⟨gc, 0, none⟩)), (4, .pointer (some ⟨g4, 0, none⟩)), (5, .pointer (some ⟨g5, 0, none⟩)), (6, .int .i64 ((k : Int) + 1))]) ⟨Nat.zero_le _, hX1, _, hA0, hS2⟩ (fun k w' h => by have := h.1; omega) ⟨rfl, rfl, rfl, rfl, trivial⟩ ?_
  clear hS hS2 hA0 hX1
  rintro k w3 ⟨hk, hX3, A, hA, hS⟩
  have hlA := hA.len
  have hlA2 : (([], A) : NA).2.length = m + 1 := hA.len
  have k1 := (cells_heap (hS.cell (i := 1) rfl)).1
  have hAo := hS.row (i := 3) rfl
  by_cases hlt : k < m
  · obtain ⟨yv, hyv⟩ := getI A (show ((k : Int) + 1).toNat < A.length by omega)
    repeat' (first
      | (show WL _ _ _ _ _ _ _; first | apply WL.nil | (refine WL.au (k := ?_)))
      | (show Z _ _ _ _ _; apply Z.then_normal)
      | (show W _ _ _ _ _ _; first | apply W.seq | apply W.region))
    refine W.condKT rfl (dec_true (by omega)) ?_
    repeat' (first
      | (apply WL.indexO tOk; exact rfl; exact rfl; exact rfl; exact rfl; exact rfl; exact rfl; exact rfl; exact rfl; assumption; (exact extA); exact encI_ok; (first | exact rfl | (focus (simp only [List.length_set]; done)) | (focus (simp; done)) | (focus (simp [*]; done)) | omega | (focus (simp only [List.length_set]; omega))); omega; assumption; intro gb ha hc; cases ha; have hcc := hc; first | (obtain ⟨h1, h2, h3, _⟩ := hc) | (obtain ⟨h1, h2, _⟩ := hc) | (obtain ⟨h1, _⟩ := hc))
      | (apply WL.storeO (z' := ((-1 : Int))) tOk; exact rfl; exact rfl; exact rfl; exact rfl; assumption; (exact extA); exact rfl; exact rfl; exact rfl; exact encI_ok; assumption; exact rfl; (exact extA); intro w' hO hX' hU)
      | (show WL _ _ _ _ _ _ _; first | apply WL.nil | (refine WL.au (k := ?_)))
      | (show Z _ _ _ _ _; first | apply Z.then_normal | apply Z.block_normal)
      | (show W _ _ _ _ _ _; first | apply W.seq | apply W.region | apply W.block | apply W.skip))
    have hS3 := Sep.updRow (i := 3) rfl hU hO (.inl rfl) hS (Ext.refl _) (Below.size hX3)
    refine Z.againW ⟨by omega, (by (exact extA)), A.set ((k : Int) + 1).toNat (-1), ⟨by simp [hlA], ?_, fun u h1 h2 => ?_⟩, ?_⟩ ⟨rfl, rfl, rfl, rfl, trivial⟩
    · rw [List.getElem?_set_ne (by omega)]; exact hA.zero
    · by_cases hu : u = k + 1
      · subst hu; rw [show ((k : Int) + 1).toNat = k + 1 by omega, List.getElem?_set_self (by omega)]
      · rw [List.getElem?_set_ne (by omega)]; exact hA.neg u h1 (by omega)
    · unfold netP
      rw [List.length_set]
      exact hS3
  obtain rfl : k = m := by omega
  obtain rfl := hA.all
  repeat' (first
    | (show WL _ _ _ _ _ _ _; first | apply WL.nil | (refine WL.au (k := ?_)))
    | (show Z _ _ _ _ _; apply Z.then_normal)
    | (show W _ _ _ _ _ _; first | apply W.seq | apply W.region))
  refine W.condKF rfl (dec_false (by omega)) ?_
  repeat' (first
    | (show WL _ _ _ _ _ _ _; first | apply WL.nil | (refine WL.au (k := ?_)))
    | (show Z _ _ _ _ _; first | apply Z.then_normal | apply Z.then_exit | apply Z.block_exit)
    | (show W _ _ _ _ _ _; first | apply W.seq | apply W.region | apply W.block | apply W.exit))
  have Ri := hC.ins.row.ext hxc
  have Rl := hC.lat.row.ext hxc
  have Rg := hC.gates.row.ext hxc
  have hown1 : ∀ x ∈ c.ins.2.2, 2 ≤ x ∧ x % 2 = 0 ∧ x ≤ 2 * c.max := fun x hx => hown x (List.mem_append_left _ (List.mem_append_left _ hx))
  have hown2 : ∀ x ∈ c.lat.2.2, 2 ≤ x.1 ∧ x.1 % 2 = 0 ∧ x.1 ≤ 2 * c.max := fun x hx => hown x.1 (List.mem_append_left _ (List.mem_append_right _ (List.mem_map.2 ⟨x, hx, rfl⟩)))
  have e10 : cS1 c.t 0 = ([], cAt0 (k : Int)) := by rw [cS1_0, hcm, hmm]
  refine W.loopW c.ins.2.2.length (fun j w' => j ≤ c.ins.2.2.length ∧ Ext wc w' ∧ ∃ an cn, Lt.Sep wc.heap.size w' (netP wc.heap.size g4 g5 an cn (some ⟨ga, 0, none⟩) (k + 1) (cS1 c.t j) ++ [])) (fun j => [(1, .pointer (some ⟨gc, 0, none⟩)), (4, .pointer (some ⟨g4, 0, none⟩)), (5, .pointer (some ⟨g5, 0, none⟩)), (7, .func (.func 137) #[] #[.pointer (some ⟨g4, 0, none⟩), .pointer (some ⟨g5, 0, none⟩)]), (31, rowVal c.ins), (32, .int .i64 (c.ins.2.2.length : Nat)), (33, .int .i64 j)]) ⟨Nat.zero_le _, hX3, none, 0, by rw [e10]; exact hS⟩ (fun k w' h => h.1) ⟨rfl, rfl, rfl, rfl, rfl, rfl, rfl, trivial⟩ ?_
  clear hS hAo k1 hX3 hlA hlA2 hA
  rintro j w4 ⟨hj, hX4, an, cn, hS⟩
  have hl1 : (cS1 c.t j).1.length = j ∧ (cS1 c.t j).2.length = c.max.toNat + 1 := cS1_len c.t hj
  by_cases hlt : j < c.ins.2.2.length
  · obtain ⟨x, hgx⟩ := getI c.ins.2.2 hlt
    have hxo := hown1 x (List.mem_of_getElem? hgx)
    have e1 := cS1_s (c := c.t) hgx
    have hcall := circ_Net1 wc w4 g4 g5 an cn (some ⟨ga, 0, none⟩) (k + 1) (cS1 c.t j) [] x (-1, 0) hX4 hS (by omega) (by omega) (by omega)
    repeat' (first
      | (show WL _ _ _ _ _ _ _; first | apply WL.nil | (refine WL.au (k := ?_)))
      | (show Z _ _ _ _ _; apply Z.then_normal)
      | (show W _ _ _ _ _ _; first | apply W.seq | apply W.region))
    refine W.condKT rfl (dec_true (by omega)) ?_
    repeat' (first
      | (apply WL.build tOk; exact rfl; exact rfl; exact rfl; exact rfl; exact rfl; exact rfl; exact rfl; kernel_rfl)
      | ((show WL _ _ _ (⟨_, .call ⟨.value (.tmp _), _, _⟩, _, _, _, _⟩ :: _) _ _ _; apply WL.call; exact rfl; exact rfl; exact rfl; exact rfl; exact hcall; rintro v' w5 ⟨rfl, hX5, an2, cn2, hS5⟩))
      | (show WL _ _ _ _ _ _ _; first | apply WL.nil | (refine WL.au (k := ?_)) | (apply WL.index tOk; exact rfl; exact rfl; exact rfl; exact rfl; exact rfl; exact rfl; exact rfl; exact rfl; assumption; (exact extA); exact rfl; omega; assumption; intro b off h; have hcc := h; first | (obtain ⟨h1, h2, h3, h4, h5, h6, _⟩ := h) | (obtain ⟨h1, h2, h3, _⟩ := h) | (obtain ⟨h1, h2, _⟩ := h) | (obtain ⟨h1, _⟩ := h)))
      | (show Z _ _ _ _ _; first | apply Z.then_normal | apply Z.block_normal)
      | (show W _ _ _ _ _ _; first | apply W.seq | apply W.region | apply W.block | apply W.skip))
    exact Z.againW ⟨by omega, hX5, an2, cn2, by rw [e1]; exact hS5⟩ ⟨rfl, rfl, rfl, rfl, rfl, rfl, rfl, trivial⟩
  obtain rfl : j = c.ins.2.2.length := by omega
  repeat' (first
    | (show WL _ _ _ _ _ _ _; first | apply WL.nil | (refine WL.au (k := ?_)))
    | (show Z _ _ _ _ _; apply Z.then_normal)
    | (show W _ _ _ _ _ _; first | apply W.seq | apply W.region))
  refine W.condKF rfl (dec_false (by omega)) ?_
  repeat' (first
    | (show WL _ _ _ _ _ _ _; first | apply WL.nil | (refine WL.au (k := ?_)))
    | (show Z _ _ _ _ _; first | apply Z.then_normal | apply Z.then_exit | apply Z.block_exit)
    | (show W _ _ _ _ _ _; first | apply W.seq | apply W.region | apply W.block | apply W.exit))
  have e20 : cS2 c.t 0 = cS1 c.t c.ins.2.2.length := cS2_0 c.t
  refine W.loopW c.lat.2.2.length (fun j w' => j ≤ c.lat.2.2.length ∧ Ext wc w' ∧ ∃ an cn, Lt.Sep wc.heap.size w' (netP wc.heap.size g4 g5 an cn (some ⟨ga, 0, none⟩) (k + 1) (cS2 c.t j) ++ [])) (fun j => [(1, .pointer (some ⟨gc, 0, none⟩)), (4, .pointer (some ⟨g4, 0, none⟩)), (5, .pointer (some ⟨g5, 0, none⟩)), (7, .func (.func 137) #[] #[.pointer (some ⟨g4, 0, none⟩), .pointer (some ⟨g5, 0, none⟩)]), (43, rowVal c.lat), (44, .int .i64 (c.lat.2.2.length : Nat)), (45, .int .i64 j)]) ⟨Nat.zero_le _, hX4, an, cn, by rw [e20]; exact hS⟩ (fun k w' h => h.1) ⟨rfl, rfl, rfl, rfl, rfl, rfl, rfl, trivial⟩ ?_
  clear hS hX4 hl1 hj hlt
  rintro j w4 ⟨hj, hX4, an, cn, hS⟩
  have hl1 : (cS2 c.t j).1.length = c.ins.2.2.length + j ∧ (cS2 c.t j).2.length = c.max.toNat + 1 := cS2_len c.t hj
  by_cases hlt : j < c.lat.2.2.length
  · obtain ⟨x, hgx⟩ := getI c.lat.2.2 hlt
    have hxo := hown2 x (List.mem_of_getElem? hgx)
    have e1 := cS2_s (c := c.t) hgx
    have hcall := fun (w9 : World) (h9 : Ext w4 w9) => circ_Net1 wc w9 g4 g5 an cn (some ⟨ga, 0, none⟩) (k + 1) (cS2 c.t j) [] x.1 (-1, 0) (hX4.trans h9) (hS.ext h9) (by omega) (by omega) (by omega)
    repeat' (first
      | (show WL _ _ _ _ _ _ _; first | apply WL.nil | (refine WL.au (k := ?_)))
      | (show Z _ _ _ _ _; apply Z.then_normal)
      | (show W _ _ _ _ _ _; first | apply W.seq | apply W.region))
    refine W.condKT rfl (dec_true (by omega)) ?_
    repeat' (first
      | (apply WL.alloc tOk; exact rfl; exact rfl; exact rfl; intro gb w' hb hge hx)
      | (apply WL.storeB (w0 := w4) tOk; exact rfl; exact rfl; exact rfl; exact rfl; assumption; (exact extA); exact rfl; exact rfl; exact rfl; (exact extA); (first | assumption | omega | (focus (apply Nat.le_trans; rotate_left; assumption; exact Below.size (by (exact extA)); done))); intro w' hb hc hX' hU; have hcc := hc; obtain ⟨h1, h2, _⟩ := hc; (have hC8 := cells_heap hb; obtain ⟨i0, i1, i2, _⟩ := hC8))
      | (apply WL.build tOk; exact rfl; exact rfl; exact rfl; exact rfl; exact rfl; exact rfl; exact rfl; kernel_rfl)
      | ((show WL _ _ _ (⟨_, .call ⟨.value (.tmp _), _, _⟩, _, _, _, _⟩ :: _) _ _ _; apply WL.call; exact rfl; exact rfl; exact rfl; exact rfl; exact hcall _ (by (exact extA)); rintro v' w5 ⟨rfl, hX5, an2, cn2, hS5⟩))
      | (show WL _ _ _ _ _ _ _; first | apply WL.nil | (refine WL.au (k := ?_)) | (apply WL.index tOk; exact rfl; exact rfl; exact rfl; exact rfl; exact rfl; exact rfl; exact rfl; exact rfl; assumption; (exact extA); exact rfl; omega; assumption; intro b off h; have hcc := h; first | (obtain ⟨h1, h2, h3, h4, h5, h6, _⟩ := h) | (obtain ⟨h1, h2, h3, _⟩ := h) | (obtain ⟨h1, h2, _⟩ := h) | (obtain ⟨h1, _⟩ := h)))
      | (show Z _ _ _ _ _; first | apply Z.then_normal | apply Z.block_normal)
      | (show W _ _ _ _ _ _; first | apply W.seq | apply W.region | apply W.block | apply W.skip))
    exact Z.againW ⟨by omega, hX5, an2, cn2, by rw [e1]; exact hS5⟩ ⟨rfl, rfl, rfl, rfl, rfl, rfl, rfl, trivial⟩
  obtain rfl : j = c.lat.2.2.length := by omega
  repeat' (first
    | (show WL _ _ _ _ _ _ _; first | apply WL.nil | (refine WL.au (k := ?_)))
    | (show Z _ _ _ _ _; apply Z.then_normal)
    | (show W _ _ _ _ _ _; first | apply W.seq | apply W.region))
  refine W.condKF rfl (dec_false (by omega)) ?_
  have hgm : ∀ g ∈ c.gates.2.2, g.1 ∈ c.t.own ∧ g.2.1 ∈ c.t.used ∧ g.2.2 ∈ c.t.used := fun g hg =>
    ⟨List.mem_append.2 (.inr (List.mem_map.2 ⟨g, hg, rfl⟩)), List.mem_append.2 (.inr (List.mem_flatMap.2 ⟨g, hg, by simp⟩)), List.mem_append.2 (.inr (List.mem_flatMap.2 ⟨g, hg, by simp⟩))⟩
  have hok : gsOk c.gates.2.2 := fun g hg => by
    obtain ⟨r1, r2, r3⟩ := hgm g hg
    have := hown _ r1
    have := hused _ r2
    have := hused _ r3
    omega
  have h7 : ¬ Twice c.t := fun ⟨i, x, a1, a2⟩ => by
    have h3 := List.pairwise_iff_getElem.1 (List.nodup_iff_pairwise_ne.1 hg.once)
    obtain ⟨j, hj, he⟩ := List.mem_take_iff_getElem.1 a2
    obtain ⟨hi, he2⟩ := List.getElem?_eq_some_iff.1 a1
    exact h3 j i (by omega) hi (by omega) (by rw [he, he2])
  have honce : Once c.gates.2.2 := once_of (c := c.t) h7 fun x hx => (hown x hx).2.1
  have hcells4 := hcells.ext hX4
  have x0 : Cells w4 gc 0 c.vals := hcells4
  repeat' (first
    | ((show WL _ _ _ (⟨_, .call ⟨.value (.func 111), _, _⟩, _, _, _, _⟩ :: _) _ _ _); apply WL.call; exact rfl; exact rfl; exact rfl; exact rfl; exact circ_Order c _ (Rg.ext (by (exact extA))) hok (by omega) honce; rintro v' w' ⟨hx, a', cap', rfl, hO⟩; (obtain ⟨hOd, rfl⟩ : ∃ x, x = hO := ⟨_, rfl⟩; obtain ⟨hxd, rfl⟩ : ∃ x, x = hx := ⟨_, rfl⟩; obtain ⟨wd, rfl⟩ : ∃ x, x = w' := ⟨_, rfl⟩; obtain ⟨ad, rfl⟩ : ∃ x, x = a' := ⟨_, rfl⟩; obtain ⟨cd, rfl⟩ : ∃ x, x = cap' := ⟨_, rfl⟩))
    | (show WL _ _ _ _ _ _ _; first | apply WL.nil | (refine WL.au (k := ?_)))
    | (show Z _ _ _ _ _; first | apply Z.then_normal | apply Z.then_exit | apply Z.block_exit)
    | (show W _ _ _ _ _ _; first | apply W.seq | apply W.region | apply W.block | apply W.exit))
  have hS0 : Lt.Sep wc.heap.size wd (netP wc.heap.size g4 g5 an cn (some ⟨ga, 0, none⟩) (k + 1) (cS2 c.t c.lat.2.2.length) ++ [prow 1 encI 3 wc.heap.size ad cd (natI (ordL c.gates.2.2))]) := by
    have h1 := hS.newRow' hxd hOd (Below.size hX4)
    rw [List.append_nil] at h1
    exact Sep.comm (ps := [prow 1 encI 3 wc.heap.size ad cd (natI (ordL c.gates.2.2))]) h1
  have hXd : Ext wc wd := (by (exact extA))
  have e30 : cS3 c.t 0 = cS2 c.t c.lat.2.2.length := cS3_0 c.t
  have hnl : (natI (ordL c.gates.2.2)).length = (ordL c.gates.2.2).length := by simp [natI]
  have hol : (ordL c.gates.2.2).length ≤ c.gates.2.2.length := (ordL_is c.gates.2.2).1.le
  refine W.loopW (ordL c.gates.2.2).length (fun j w' => j ≤ (ordL c.gates.2.2).length ∧ Ext wc w' ∧ ∃ an cn, Lt.Sep wc.heap.size w' (netP wc.heap.size g4 g5 an cn (some ⟨ga, 0, none⟩) (k + 1) (cS3 c.t j) ++ [prow 1 encI 3 wc.heap.size ad cd (natI (ordL c.gates.2.2))])) (fun j => [(1, .pointer (some ⟨gc, 0, none⟩)), (4, .pointer (some ⟨g4, 0, none⟩)), (5, .pointer (some ⟨g5, 0, none⟩)), (7, .func (.func 137) #[] #[.pointer (some ⟨g4, 0, none⟩), .pointer (some ⟨g5, 0, none⟩)]), (12, .func (.func 138) #[] #[.pointer (some ⟨g5, 0, none⟩)]), (57, .slice ad (natI (ordL c.gates.2.2)).length cd), (58, .int .i64 (natI (ordL c.gates.2.2)).length), (59, .int .i64 j)]) ⟨Nat.zero_le _, hXd, an, cn, by rw [e30]; exact hS0⟩ (fun k w' h => h.1) ⟨rfl, rfl, rfl, rfl, rfl, rfl, rfl, rfl, trivial⟩ ?_
  clear hS hS0 hX4 hl1 hj hlt hcells4 x0 hXd
  rintro j w4 ⟨hj, hX4, an, cn, hS⟩
  have hl1 : (cS3 c.t j).1.length = c.ins.2.2.length + c.lat.2.2.length + j ∧ (cS3 c.t j).2.length = c.max.toNat + 1 := cS3_len c.t hj
  by_cases hlt : j < (ordL c.gates.2.2).length
  · obtain ⟨i, hi⟩ := getI (ordL c.gates.2.2) hlt
    obtain ⟨g, za, zb, hgg, hza, hzb, ka, kb⟩ := cS3_get hg (c := c.t) hi
    have hgg : c.gates.2.2[i]? = some g := hgg
    have hgi : c.gates.2.2[((i : Nat) : Int).toNat]? = some g := by rw [Int.toNat_natCast]; exact hgg
    have hgo := hok g (List.mem_of_getElem? hgg)
    have hgw := hown g.1 (hgm g (List.mem_of_getElem? hgg)).1
    have hgl := lt_of_get hgg
    have hni : (natI (ordL c.gates.2.2))[((j : Nat) : Int).toNat]? = some (i : Int) := by rw [Int.toNat_natCast, natI, List.getElem?_map, hi]; rfl
    have e1 : cS3 c.t (j + 1) = cput (cS3 c.t j) g.1 (litI (cS3 c.t j).2 g.2.1, litI (cS3 c.t j).2 g.2.2) := by rw [cS3_s (c := c.t) hi]; unfold cGate; rw [gAt_of hgg]
    have k1 := (cells_heap (hS.cell (i := 1) rfl)).1
    have RA := (hS.row (i := 3) rfl).row encI_ok
    have RO := (hS.row (i := 4) rfl).row encI_ok
    have hcall := fun (w9 : World) (h9 : Ext w4 w9) => circ_Net1 wc w9 g4 g5 an cn (some ⟨ga, 0, none⟩) (k + 1) (cS3 c.t j) [prow 1 encI 3 wc.heap.size ad cd (natI (ordL c.gates.2.2))] g.1 (litI (cS3 c.t j).2 g.2.1, litI (cS3 c.t j).2 g.2.2) (hX4.trans h9) (hS.ext h9) (by omega) (by omega) (by omega)
    repeat' (first
      | (show WL _ _ _ _ _ _ _; first | apply WL.nil | (refine WL.au (k := ?_)))
      | (show Z _ _ _ _ _; apply Z.then_normal)
      | (show W _ _ _ _ _ _; first | apply W.seq | apply W.region))
    refine W.condKT rfl (dec_true (by omega)) ?_
    repeat' (first
      | (apply WL.alloc tOk; exact rfl; exact rfl; exact rfl; intro gb w' hb hge hx)
      | (apply WL.storeB (w0 := w4) tOk; exact rfl; exact rfl; exact rfl; exact rfl; assumption; (exact extA); exact rfl; exact rfl; exact rfl; (exact extA); (first | assumption | omega | (focus (apply Nat.le_trans; rotate_left; assumption; exact Below.size (by (exact extA)); done))); intro w' hb hc hX' hU; have hcc := hc; obtain ⟨h1, h2, _⟩ := hc; (obtain ⟨w6, rfl⟩ : ∃ x, x = w' := ⟨_, rfl⟩; obtain ⟨hX6, rfl⟩ : ∃ x, x = hX' := ⟨_, rfl⟩; have hC8 := cells_heap hb; obtain ⟨i0, i1, i2, _⟩ := hC8))
      | (show WL _ _ _ _ _ _ _; first | apply WL.nil | (refine WL.au (k := ?_)) | (apply WL.index tOk; exact rfl; exact rfl; exact rfl; exact rfl; exact rfl; exact rfl; exact rfl; exact rfl; assumption; (exact extA); exact rfl; omega; assumption; intro b off h; have hcc := h; first | (obtain ⟨h1, h2, h3, h4, h5, h6, _⟩ := h) | (obtain ⟨h1, h2, h3, _⟩ := h) | (obtain ⟨h1, h2, _⟩ := h) | (obtain ⟨h1, _⟩ := h)))
      | (show Z _ _ _ _ _; apply Z.then_normal)
      | (show W _ _ _ _ _ _; first | apply W.seq | apply W.region | apply W.block | apply W.skip))
    have k1' := hX6.cell k1
    have RA' := RA.ext hX6
    repeat' (first
      | (apply W.regionQS 12 tMix; kernel_rfl; exact rfl; kernel_rfl; kernel_rfl)
      | (apply QL.build tOk; exact rfl; exact rfl; exact rfl; exact rfl; exact rfl; exact rfl; exact rfl; kernel_rfl)
      | ((show QL _ _ _ _ (⟨_, .call ⟨.value (.tmp _), _, _⟩, _, _, _, _⟩ :: _) _ _); apply QL.callS; exact rfl; exact rfl; exact rfl; exact rfl; exact circ_Net2 _ g5 _ _ (cS3 c.t j).2 g.2.1 za k1' RA' (by omega) (by omega) hza (by omega))
      | ((show QL _ _ _ _ (⟨_, .call ⟨.value (.tmp _), _, _⟩, _, _, _, _⟩ :: _) _ _); apply QL.callS; exact rfl; exact rfl; exact rfl; exact rfl; exact circ_Net2 _ g5 _ _ (cS3 c.t j).2 g.2.2 zb k1' RA' (by omega) (by omega) hzb (by omega))
      | ((show WL _ _ _ (⟨_, .call ⟨.value (.tmp _), _, _⟩, _, _, _, _⟩ :: _) _ _ _; apply WL.call; exact rfl; exact rfl; exact rfl; exact rfl; exact hcall _ (by (exact extA)); rintro v' w5 ⟨rfl, hX5, an2, cn2, hS5⟩))
      | (show WL _ _ _ _ _ _ _; first | apply WL.nil | (refine WL.au (k := ?_)))
      | (show QL _ _ _ _ _ _ _; first | apply QL.nil | (refine QL.au (k := ?_)))
      | (show Z _ _ _ _ _; first | apply Z.tail | apply Z.then_normal | apply Z.block_normal)
      | (show W _ _ _ _ _ _; apply W.region))
    exact Z.againW ⟨by omega, hX5, an2, cn2, by rw [e1]; exact hS5⟩ ⟨rfl, rfl, rfl, rfl, rfl, rfl, rfl, rfl, trivial⟩
  obtain rfl : j = (ordL c.gates.2.2).length := by omega
  repeat' (first
    | (show WL _ _ _ _ _ _ _; first | apply WL.nil | (refine WL.au (k := ?_)))
    | (show Z _ _ _ _ _; apply Z.then_normal)
    | (show W _ _ _ _ _ _; first | apply W.seq | apply W.region))
  refine W.condKF rfl (dec_false (by omega)) ?_
  have e39 : cS3 c.t (ordL c.gates.2.2).length = cNet c.t := cS3_all c.t
  rw [e39] at hS
  have k0 := (cells_heap (hS.cell (i := 0) rfl)).1
  have k1 := (cells_heap (hS.cell (i := 1) rfl)).1
  have hwc := Below.size hxc
  repeat' (first
    | (show QL _ _ _ _ _ _ _; first | apply QL.nil | (refine QL.au (k := ?_)))
    | (show Z _ _ _ _ _; first | apply Z.then_normal | apply Z.then_exit | apply Z.block_exit)
    | (show W _ _ _ _ _ _; first | apply W.seq | apply W.ret | apply W.exit | (apply W.regionD tMix; kernel_rfl)))
  exact Z.body2 Try.results87 rfl rfl fun q => ⟨Ext.at (by (exact extA)) q, an, cn, some ⟨ga, 0, none⟩, k + 1, rfl, ((hS.row (i := 2) rfl).base hwc).ext ((Ext.refl _).at q), ((hS.row (i := 3) rfl).base hwc).ext ((Ext.refl _).at q)⟩
end Go.Proofs.Ythpnahapiodflaa
namespace Go.Proofs.Ythpnahapiodflaa
open Go Go.Lt Go.RowKit
set_option linter.unusedVariables false
set_option linter.unusedSimpArgs false
set_option maxRecDepth 20000

theorem ordL_nil : ordL [] = [] := (IsOrd.ord (gs := []) (L := []) ⟨PreOrd.nil _, fun i ⟨g, hg, _⟩ => by simp at hg⟩).symm
end Go.Proofs.Ythpnahapiodflaa
namespace Go.Proofs.Ythpnahapiodflaa
open Go Go.Lt Go.RowKit Go.ChangeShapes Go.WideShapes Go.ChangeAt Go.Deep
set_option linter.unusedVariables false
set_option linter.unusedSimpArgs false
set_option maxRecDepth 20000

set_option maxRecDepth 20000 in
theorem circ_of {H : Type} {en : TypeId × Value → H} {w : World} {base : Nat} {spare : Nat → Bool} {held : Bool} {r : Reach} {b0 : Nat} {v : Value} {d : DataW H} {ps : List MemPlace} (hval : Value.okWide Try.prog w r b0 28 v) (hd : DataW.Trod en Try.prog w base spare held 28 v d ps) : ∃ c : Circ, v = c.val ∧ CAt w c := by
  obtain ⟨⟨m, ins, lat, outs, bads, cons, gates, syms, com, _⟩, hv, _, ki, kl, ko, kb, kc, kg, ks, _⟩ := struct_of (reads_struct Try.underlying28 (by kernel_rfl) (by kernel_rfl) (readsF_cons (reads_int Try.underlying3) (readsF_cons (reads_row (s := 1) (reads_int Try.underlying3) (by kernel_rfl) Try.underlying23 (fun _ => rfl) (by decide)) (readsF_cons (reads_row (s := 3) (reads_triple' (s0 := 1) (s1 := 1) (s2 := 1) Try.underlying69 (reads_int Try.underlying3) (reads_int Try.underlying3) (reads_int Try.underlying3) (by kernel_rfl) rfl rfl rfl (by kernel_rfl) (by kernel_rfl) (by kernel_rfl)) (by kernel_rfl) Try.underlying24 (fun _ => rfl) (by decide)) (readsF_cons (reads_row (s := 1) (reads_int Try.underlying3) (by kernel_rfl) Try.underlying23 (fun _ => rfl) (by decide)) (readsF_cons (reads_row (s := 1) (reads_int Try.underlying3) (by kernel_rfl) Try.underlying23 (fun _ => rfl) (by decide)) (readsF_cons (reads_row (s := 1) (reads_int Try.underlying3) (by kernel_rfl) Try.underlying23 (fun _ => rfl) (by decide)) (readsF_cons (reads_row (s := 3) (reads_triple' (s0 := 1) (s1 := 1) (s2 := 1) Try.underlying106 (reads_int Try.underlying3) (reads_int Try.underlying3) (reads_int Try.underlying3) (by kernel_rfl) rfl rfl rfl (by kernel_rfl) (by kernel_rfl) (by kernel_rfl)) (by kernel_rfl) Try.underlying25 (fun _ => rfl) (by decide)) (readsF_cons (reads_row (s := 3) (reads_triple' (s0 := 1) (s1 := 1) (s2 := 1) Try.underlying110 (reads_int Try.underlying5) (reads_int Try.underlying3) (reads_string Try.underlying9) (by kernel_rfl) rfl rfl rfl (by kernel_rfl) (by kernel_rfl) (by kernel_rfl)) (by kernel_rfl) Try.underlying26 (fun _ => rfl) (by decide)) (readsF_cons (reads_string Try.underlying9) (readsF_nil _))))))))))) Try.underlying28 hval hd
  exact ⟨⟨m, ins, lat, outs, bads, cons, gates, syms, com⟩, hv, ⟨ki.1, ki.2.1, ki.2.2.2.1⟩, ⟨kl.1, kl.2.1, kl.2.2.2.1⟩, ⟨ko.1, ko.2.1, ko.2.2.2.1⟩, ⟨kb.1, kb.2.1, kb.2.2.2.1⟩, ⟨kc.1, kc.2.1, kc.2.2.2.1⟩, ⟨kg.1, kg.2.1, kg.2.2.2.1⟩, ⟨ks.1, ks.2.1, ks.2.2.2.1⟩⟩
end Go.Proofs.Ythpnahapiodflaa
namespace Go.Proofs.Ythpnahapiodflaa
open Go Go.Lt Go.RowKit
set_option linter.unusedVariables false
set_option linter.unusedSimpArgs false
set_option maxRecDepth 20000

/-- So many values of some. -/
def brV (l : List Bool) (m : Nat) : List Bool := (List.range m).map fun i => l.getD i false
noncomputable def insV (c : CirT) (s i : List Bool) : List Bool := brV i c.ins.length ++ brV s c.lat.length
noncomputable def stepV (c : CirT) (s i : List Bool) : List Bool := values (cNet c).1 (insV c s i)
/-- What a used literal's variable is. -/
theorem net_lit {c : CirT} (h : GoodC' c) {l : Int} (hl : l ∈ c.used) : ∃ z, (cNet c).2[(l / 2).toNat]? = some z ∧ 0 ≤ z ∧ z % 2 = 0 ∧ z ≤ 2 * ((cNet c).1.length : Int) := by
  have h0 := (cNet_ok h).1
  refine h0.ge ?_
  have h1 := h.used l hl
  rcases Int.lt_or_le 1 l with h2 | h2
  · exact .inr ⟨_, seq_all h (h.has l hl h2), by omega⟩
  · left; omega
theorem used_next {c : CirT} {x : T3} (h : x ∈ c.lat) : x.2.1 ∈ c.used := List.mem_append_left _ (List.mem_append_right _ (List.mem_map.2 ⟨x, h, rfl⟩))
theorem used_bad {c : CirT} {l : Int} (h : l ∈ c.bads) : l ∈ c.used := List.mem_append_left _ (List.mem_append_left _ (List.mem_append_left _ (List.mem_append_right _ h)))
theorem used_con {c : CirT} {l : Int} (h : l ∈ c.cons) : l ∈ c.used := List.mem_append_left _ (List.mem_append_left _ (List.mem_append_right _ h))
theorem net_len {c : CirT} (h : GoodC' c) (hz : SzC c 100000) : (cNet c).1.length ≤ 300000 := by
  rw [(cNet_ok h).1.len1]
  have h2 := (ordL_is c.gates).1.le
  obtain ⟨z1, z2, z3, z4, z5, z6⟩ := hz
  show (c.ins ++ c.lat.map (·.1) ++ (ordL c.gates).map (fun i => (gAt c.gates i).1)).length ≤ _
  simp; omega
end Go.Proofs.Ythpnahapiodflaa
namespace Go.Proofs.Ythpnahapiodflaa
open Go Go.Lt Go.RowKit
set_option linter.unusedVariables false
set_option linter.unusedSimpArgs false
set_option maxRecDepth 20000

/-- The first m nodes are inputs, and no others are. -/
structure OnlyG (m : Nat) (N : List (Int × Int)) : Prop where
  le : m ≤ N.length
  inp : ∀ i x, N[i]? = some x → i < m → x = (-1, 0)
  gate : ∀ i x, N[i]? = some x → m ≤ i → 0 ≤ x.1
theorem OnlyG.start (m : Nat) : OnlyG m (List.replicate m (-1, 0)) := by
  refine ⟨by simp, fun i x h hm => ?_, fun i x h hm => ?_⟩
  · rw [List.getElem?_replicate, if_pos hm] at h
    exact (Option.some.inj h).symm
  · have := lt_of_get h; simp at this; omega
theorem snoc_get {α : Type} {N : List α} {x y : α} {i : Nat} (h : (N ++ [x])[i]? = some y) : N[i]? = some y ∨ (i = N.length ∧ y = x) := by
  by_cases hi : i < N.length
  · rw [List.getElem?_append_left hi] at h; exact .inl h
  · have := lt_of_get h
    simp only [List.length_append, List.length_cons, List.length_nil] at this
    have : i = N.length := by omega
    subst this
    simp at h; exact .inr ⟨rfl, h.symm⟩
def evenL (a n : Nat) : List Int := (List.range n).map fun i => 2 * (((a + i : Nat) : Int) + 1)
theorem evenL_len (a n : Nat) : (evenL a n).length = n := by simp [evenL]
theorem evenL_get (a n : Nat) {i : Nat} (h : i < n) : (evenL a n)[i]? = some (2 * (((a + i : Nat) : Int) + 1)) := by
  unfold evenL; rw [List.getElem?_map, List.getElem?_range h]; rfl
def gateG (i : Nat) (x : Int × Int) : T3 := (2 * ((i : Int) + 1), max x.1 x.2, min x.1 x.2)
def gatesG (N : List (Int × Int)) (m k : Nat) : List T3 := (List.range k).map fun i => gateG (m + i) (N.getD (m + i) (0, 0))
def latsG (a : Nat) (next reset : List Int) : List T3 := (List.range next.length).map fun i => (2 * (((a + i : Nat) : Int) + 1), next.getD i 0, reset.getD i 0)
theorem gatesG_len (N : List (Int × Int)) (m k : Nat) : (gatesG N m k).length = k := by simp [gatesG]
theorem latsG_len (a : Nat) (next reset : List Int) : (latsG a next reset).length = next.length := by simp [latsG]
theorem gatesG_get {N : List (Int × Int)} {m k i : Nat} {x : Int × Int} (h : i < k) (hx : N[m + i]? = some x) : (gatesG N m k)[i]? = some (gateG (m + i) x) := by
  unfold gatesG; rw [List.getElem?_map, List.getElem?_range h]; show some (gateG _ (N.getD _ _)) = _; rw [getD_of hx]
theorem latsG_get {a : Nat} {next reset : List Int} {i : Nat} (h : i < next.length) : (latsG a next reset)[i]? = some (2 * (((a + i : Nat) : Int) + 1), next.getD i 0, reset.getD i 0) := by
  unfold latsG; rw [List.getElem?_map, List.getElem?_range h]; rfl
/-- What else there is beside latches and gates. -/
structure Rest where
  outs : List Int
  bads : List Int
  cons : List Int
  syms : List Sy
  com : ByteArray
def genC (nin : Nat) (next reset : List Int) (bad : Rest) (N : List (Int × Int)) : CirT :=
  ⟨N.length, evenL 0 nin, latsG nin next reset, bad.outs, bad.bads, bad.cons, gatesG N (nin + next.length) (N.length - (nin + next.length)), bad.syms, bad.com⟩
section
variable {nin : Nat} {next reset : List Int} {bad : Rest} {N : List (Int × Int)}
theorem cIn_fst (ls : List Int) : ∀ s : NA, (cIn s ls).1 = s.1 ++ List.replicate ls.length (-1, 0) := by
  induction ls with
  | nil => intro s; simp [cIn]
  | cons l ls ih =>
    intro s
    show (cIn (cput s l (-1, 0)) ls).1 = _
    rw [ih]; show (s.1 ++ [(-1, 0)]) ++ _ = _
    simp [List.replicate_succ]
end
end Go.Proofs.Ythpnahapiodflaa
namespace Go.Proofs.Ythpnahapiodflaa
open Go Go.Lt Go.RowKit
set_option linter.unusedVariables false
set_option linter.unusedSimpArgs false
set_option maxRecDepth 20000

noncomputable def nextN (c : CirT) : List Int := c.lat.map fun x => litI (cNet c).2 x.2.1
noncomputable def resN (c : CirT) : List Int := c.lat.map fun x => if x.2.2 = x.1 then litI (cNet c).2 x.1 else x.2.2
noncomputable def restN (c : CirT) : Rest := ⟨c.outs.map (litI (cNet c).2), c.bads.map (litI (cNet c).2), c.cons.map (litI (cNet c).2), c.syms, c.com⟩
/-- The circuit in other numbers. -/
noncomputable def numC (c : CirT) : CirT := genC c.ins.length (nextN c) (resN c) (restN c) (cNet c).1
theorem nextN_len (c : CirT) : (nextN c).length = c.lat.length := List.length_map _
theorem net_only {c : CirT} (h : GoodC' c) : ∀ k, k ≤ (ordL c.gates).length → OnlyG c.inl.length (cGates c.gates (cIn ([], cAt0 c.max) c.inl) ((ordL c.gates).take k)).1
  | 0, _ => by
    show OnlyG c.inl.length (cIn ([], cAt0 c.max) c.inl).1
    rw [cIn_fst, List.nil_append]; exact OnlyG.start _
  | k + 1, hk => by
    obtain ⟨i, hi⟩ := getI (ordL c.gates) (show k < _ by omega)
    have ih := net_only h k (by omega)
    obtain ⟨h1, h2⟩ := net_to h k (by omega)
    have hO := (ordL_is c.gates).1
    obtain ⟨g, hg, hn, hr⟩ := (hO k i hi).1
    have hm' := List.mem_of_getElem? hg
    have ua : g.2.1 ∈ c.used := List.mem_append_right _ (List.mem_flatMap.2 ⟨g, hm', by simp⟩)
    obtain ⟨za, a1, a2, a3, a4⟩ := h1.ge (used_put h ua fun j x hx hj => (hr j x hx hj).1)
    rw [take_succ' hi, cGates_snoc]
    unfold cGate
    rw [gAt_of hg]
    refine ⟨?_, fun j x hx hj => ?_, fun j x hx hj => ?_⟩
    · refine Nat.le_trans ih.le ?_
      show _ ≤ (_ ++ [_]).length
      rw [List.length_append]; exact Nat.le_add_right _ _
    · rcases snoc_get hx with hx | ⟨rfl, rfl⟩
      · exact ih.inp j x hx hj
      · have := ih.le; omega
    · rcases snoc_get hx with hx | ⟨rfl, rfl⟩
      · exact ih.gate j x hx hj
      · show 0 ≤ litI _ g.2.1
        rw [litI_some a1]
        unfold xorI Lt.xor1
        split <;> (try split) <;> omega
theorem net_only_all {c : CirT} (h : GoodC' c) : OnlyG (c.ins.length + c.lat.length) (cNet c).1 := by
  have := net_only h _ (Nat.le_refl _)
  rw [List.take_length] at this
  have e : c.inl.length = c.ins.length + c.lat.length := by show (c.ins ++ c.lat.map (·.1)).length = _; rw [List.length_append, List.length_map]
  rw [e] at this
  exact this
theorem net_own {c : CirT} (h : GoodC' c) {k : Nat} {l : Int} (hk : c.seq[k]? = some l) : litI (cNet c).2 l = 2 * ((k : Int) + 1) := by
  have h1 := (cNet_ok h).1.has k l hk
  have hm : l ∈ c.own := by
    rcases List.mem_append.1 (List.mem_of_getElem? hk) with hm | hm
    · exact List.mem_append_left _ hm
    · obtain ⟨j, hj, rfl⟩ := List.mem_map.1 hm
      obtain ⟨x, hx⟩ := getI c.gates ((ordL_is c.gates).1.lt j hj)
      exact List.mem_append_right _ (List.mem_map.2 ⟨x, List.mem_of_getElem? hx, by rw [gAt_of hx]⟩)
  rw [litI_some h1, (h.own l hm).2.1]
  unfold xorI; rw [if_neg (by decide)]
theorem seq_in {c : CirT} {i : Nat} {l : Int} (h : c.ins[i]? = some l) : c.seq[i]? = some l := by
  rw [List.getElem?_append_left (by have := lt_of_get h; rw [List.length_append]; omega), List.getElem?_append_left (lt_of_get h)]; exact h
theorem seq_lat {c : CirT} {i : Nat} {x : T3} (h : c.lat[i]? = some x) : c.seq[c.ins.length + i]? = some x.1 := by
  have hl := lt_of_get h
  rw [List.getElem?_append_left (by rw [List.length_append, List.length_map]; omega), List.getElem?_append_right (by omega), List.getElem?_map, show c.ins.length + i - c.ins.length = i by omega, h]; rfl
section
variable {c : CirT}
theorem num_lat {k : Nat} {x : T3} (hx : c.lat[k]? = some x) : (numC c).lat[k]? = some (2 * (((c.ins.length + k : Nat) : Int) + 1), litI (cNet c).2 x.2.1, if x.2.2 = x.1 then litI (cNet c).2 x.1 else x.2.2) := by
  have hk := lt_of_get hx
  show (latsG c.ins.length (nextN c) (resN c))[k]? = _
  rw [latsG_get (by rw [nextN_len]; exact hk)]
  have e1 : (nextN c)[k]? = some (litI (cNet c).2 x.2.1) := by unfold nextN; rw [List.getElem?_map, hx]; rfl
  have e2 : (resN c)[k]? = some (if x.2.2 = x.1 then litI (cNet c).2 x.1 else x.2.2) := by unfold resN; rw [List.getElem?_map, hx]; rfl
  rw [getD_of e1, getD_of e2]
theorem num_latlen : (numC c).lat.length = c.lat.length := by
  show (latsG c.ins.length (nextN c) (resN c)).length = _
  rw [latsG_len, nextN_len]
end
end Go.Proofs.Ythpnahapiodflaa
namespace Go.Proofs.Ythpnahapiodflaa
open Go Go.Lt Go.RowKit
set_option linter.unusedVariables false
set_option linter.unusedSimpArgs false
set_option maxRecDepth 20000

/-- A literal has a new one. -/
def LitOk (A : List Int) (l : Int) : Prop := 0 ≤ l ∧ l ≤ 4294967296 ∧ ∃ z, A[(l / 2).toNat]? = some z ∧ 0 ≤ z ∧ z % 2 = 0 ∧ z ≤ 4294967296
theorem lit_add {A : List Int} {l z : Int} (h : A[(l / 2).toNat]? = some z) (h0 : 0 ≤ l) (h2 : z % 2 = 0) : litI A l = z + l % 2 := by
  rw [litI_some h]
  unfold xorI Lt.xor1
  by_cases h3 : l % 2 = 1
  · rw [if_pos h3, if_pos h2]; omega
  · rw [if_neg h3]; omega
theorem net_litOk {c : CirT} (h : GoodC' c) (hz : SzC c 100000) {l : Int} (hl : l ∈ c.used ∨ l ∈ c.own) : LitOk (cNet c).2 l := by
  have hm := h.max
  have hn := net_len h hz
  rcases hl with hl | hl
  · have hu := h.used l hl
    obtain ⟨z, h1, h2, h3, h4⟩ := net_lit h hl
    exact ⟨hu.1, by omega, z, h1, h2, h3, by omega⟩
  · have ho := h.own l hl
    obtain ⟨k, hk⟩ := List.mem_iff_getElem?.1 (seq_all h hl)
    have h1 := (cNet_ok h).1.has k l hk
    have h2 := lt_of_get hk
    have h3 := (cNet_ok h).1.len1
    exact ⟨by omega, by omega, _, h1, by omega, by omega, by omega⟩
theorem ref16_of (a : Option Addr) (cap : Nat) (A : List Int) (l : Int) (w : World) (R : Row 1 encI w a A) (h : LitOk A l) :
    Still Try.prog 92 [.slice a A.length cap, .int .i64 l] w (.int .i64 (litI A l)) := by
  obtain ⟨h0, h1, z, hz, z0, z2, z3⟩ := h
  have hlt := lt_of_get hz
  have hl := R.len
  have e := lit_add hz h0 z2
  refine Spec.of _ Try.func92 rfl Try.ntmps92 (by kernel_rfl) rfl ?_
  repeat' (first
    | (show WL _ _ _ _ _ _ _; first | apply WL.nil | (refine WL.au (k := ?_)) | (apply WL.index tOk; exact rfl; exact rfl; exact rfl; exact rfl; exact rfl; exact rfl; exact rfl; exact rfl; assumption; (exact extA); exact rfl; omega; assumption; intro b off h; have hcc := h; first | (obtain ⟨h1, h2, h3, h4, h5, h6, _⟩ := h) | (obtain ⟨h1, h2, h3, _⟩ := h) | (obtain ⟨h1, h2, _⟩ := h) | (obtain ⟨h1, _⟩ := h)))
    | (show Z _ _ _ _ _; apply Z.then_normal)
    | (show W _ _ _ _ _ _; first | apply W.seq | apply W.region | apply W.ret))
  exact Z.body1 Try.results92 rfl fun m => ⟨by rw [e], m, rfl⟩
theorem ref16_all (a b : Option Addr) (cap cb : Nat) (A L : List Int) (w : World) (R : Row 1 encI w a A) (RL : Row 1 encI w b L) (h : ∀ l ∈ L, LitOk A l) (hn : L.length ≤ 100000) :
    Lt.Spec Try.prog 91 [.slice a A.length cap, .slice b L.length cb] w (IsFresh 1 encI 3 w (L.map (litI A))) := by
  refine Spec.of _ Try.func91 rfl Try.ntmps91 (by kernel_rfl) rfl ?_
  repeat' (first
    | (apply WL.lit (len := 0) tOk; exact rfl; exact rfl; exact rfl; exact rfl; exact rfl; exact rfl; (first | exact rfl | kernel_rfl | (simp [Instr.fill, catCells]; done)); exact rfl; intro gb w' hb hge hc hx; have hO0 := Own.of_block0 (enc := encI) (s := 1) hb hge)
    | (show WL _ _ _ _ _ _ _; first | apply WL.nil | (refine WL.au (k := ?_)))
    | (show Z _ _ _ _ _; apply Z.then_normal)
    | (show W _ _ _ _ _ _; first | apply W.seq | apply W.region | apply W.block))
  refine W.loopO L.length (fun k d dp w' => k ≤ L.length ∧ Ext w w' ∧ Own 1 encI 3 w.heap.size w' d dp ((L.take k).map (litI A))) (fun k d dp => [(0, .slice a A.length cap), (1, .slice b L.length cb), (5, .slice d ((L.take k).map (litI A)).length dp), (6, .int .i64 k)]) (some ⟨gb, 0, none⟩) 0 ⟨Nat.zero_le _, hx, hO0⟩ (fun k d dp w' h => h.1) ⟨rfl, rfl, rfl, rfl, trivial⟩ ?_
  rintro k d dp w' ⟨hk, hx', hO'⟩
  have hl : ((L.take k).map (litI A)).length = k := by rw [List.length_map, List.length_take]; omega
  by_cases hlt : k < L.length
  · obtain ⟨x, hxx⟩ := getI L hlt
    have hok := h x (List.mem_of_getElem? hxx)
    have e1 : (L.take (k + 1)).map (litI A) = (L.take k).map (litI A) ++ [litI A x] := by rw [take_succ' hxx, List.map_append]; rfl
    repeat' (first
      | (apply W.condKT; exact rfl; (focus (exact dec_true (by omega); done)))
      | ((show WL _ _ _ (⟨_, .call ⟨.value (.func 92), _, _⟩, _, _, _, _⟩ :: _) _ _ _); apply WL.callS; exact rfl; exact rfl; exact rfl; exact rfl; exact ref16_of _ _ A x _ (R.ext (by (exact extA))) hok)
      | (apply WL.lit tOk; exact rfl; exact rfl; exact rfl; exact rfl; exact rfl; exact rfl; (first | exact rfl | kernel_rfl | (simp [Instr.fill, catCells]; done)); exact rfl; intro gb w' hb hge hc hx)
      | (apply WL.append1 (z := (litI A x)) tOk encI_ok; exact rfl; exact rfl; exact rfl; exact rfl; exact rfl; exact rfl; exact rfl; exact rfl; exact rfl; exact rfl; assumption; (exact extA); (first | exact rfl | (focus (simp only [List.length_set]; done)) | (focus (simp; done)) | (focus (simp [*]; done)) | omega | (focus (simp only [List.length_set]; omega))); (first | assumption | (refine Cells.ext ?_ (by assumption); exact extA)); exact rfl; exact rfl; (exact extA); (first | omega | (simp; omega) | (simp at *; omega)); intro a' cap' w' hO hX' hU hF)
      | (show WL _ _ _ _ _ _ _; first | apply WL.nil | (refine WL.au (k := ?_)) | (apply WL.index tOk; exact rfl; exact rfl; exact rfl; exact rfl; exact rfl; exact rfl; exact rfl; exact rfl; assumption; (exact extA); exact rfl; omega; assumption; intro b off h; have hcc := h; first | (obtain ⟨h1, h2, h3, h4, h5, h6, _⟩ := h) | (obtain ⟨h1, h2, h3, _⟩ := h) | (obtain ⟨h1, h2, _⟩ := h) | (obtain ⟨h1, _⟩ := h)))
      | (show Z _ _ _ _ _; first | apply Z.then_normal | apply Z.block_normal)
      | (show W _ _ _ _ _ _; first | apply W.seq | apply W.region | apply W.block | apply W.skip))
    exact Z.againO a' cap' ⟨by omega, hX', by rw [e1]; exact hO⟩ (by repeat' first | exact trivial | (refine And.intro ?_ ?_) | exact rfl | (rw [e1]; exact rfl))
  · obtain rfl : k = L.length := by omega
    repeat' (first
      | (apply W.condKF; exact rfl; (focus (exact dec_false (by omega); done)))
      | (show WL _ _ _ _ _ _ _; first | apply WL.nil | (refine WL.au (k := ?_)))
      | (show Z _ _ _ _ _; first | apply Z.then_normal | apply Z.then_exit | apply Z.block_exit)
      | (show W _ _ _ _ _ _; first | apply W.seq | apply W.region | apply W.ret | apply W.exit))
    rw [List.take_length] at hO'
    exact Z.body1 Try.results91 rfl fun m => ⟨hx'.at m, d, dp, by rw [List.take_length], hO'⟩
end Go.Proofs.Ythpnahapiodflaa
namespace Go.Proofs.Ythpnahapiodflaa
open Go Go.Lt Go.RowKit
set_option linter.unusedVariables false
set_option linter.unusedSimpArgs false
set_option maxRecDepth 20000

/-- A gate in other numbers. -/
noncomputable def gateR (A : List Int) (g : T3) : T3 := (litI A g.1, max (litI A g.2.1) (litI A g.2.2), min (litI A g.2.1) (litI A g.2.2))
noncomputable def gatesR (c : CirT) (k : Nat) : List T3 := ((ordL c.gates).take k).map fun i => gateR (cNet c).2 (gAt c.gates i)
theorem gatesR_s {c : CirT} {k i : Nat} {g : T3} (hi : (ordL c.gates)[k]? = some i) (hg : c.gates[i]? = some g) : gatesR c (k + 1) = gatesR c k ++ [gateR (cNet c).2 g] := by
  unfold gatesR
  rw [take_succ' hi, List.map_append]
  show _ ++ [gateR _ (gAt c.gates i)] = _
  rw [gAt_of hg]
theorem gatesR_len {c : CirT} {k : Nat} (h : k ≤ (ordL c.gates).length) : (gatesR c k).length = k := by unfold gatesR; rw [List.length_map, List.length_take]; omega
theorem cGates_pre (gs : List G3) : ∀ (L : List Nat) (s : NA), ∃ r, (cGates gs s L).1 = s.1 ++ r
  | [], s => ⟨[], by simp [cGates]⟩
  | i :: L, s => by
    obtain ⟨r, hr⟩ := cGates_pre gs L (cGate gs s i)
    refine ⟨(litI s.2 (gAt gs i).2.1, litI s.2 (gAt gs i).2.2) :: r, ?_⟩
    show (cGates gs (cGate gs s i) L).1 = _
    rw [hr]
    show (s.1 ++ [_]) ++ r = _
    rw [List.append_assoc]; rfl
theorem cGates_app (gs : List G3) (s : NA) (L M : List Nat) : cGates gs s (L ++ M) = cGates gs (cGates gs s L) M := by unfold cGates; rw [List.foldl_append]
theorem seq_take {c : CirT} (k : Nat) : ∃ r, c.seq = (c.inl ++ ((ordL c.gates).take k).map (fun i => (gAt c.gates i).1)) ++ r := by
  refine ⟨((ordL c.gates).drop k).map (fun i => (gAt c.gates i).1), ?_⟩
  rw [List.append_assoc, ← List.map_append, List.take_append_drop]
/-- What is put stays where it is. -/
theorem lit_stays {c : CirT} (h : GoodC' c) {k : Nat} (hk : k ≤ (ordL c.gates).length) {l : Int} (hl : l / 2 = 0 ∨ ∃ y ∈ c.inl ++ ((ordL c.gates).take k).map (fun i => (gAt c.gates i).1), y / 2 = l / 2) :
    litI (cGates c.gates (cIn ([], cAt0 c.max) c.inl) ((ordL c.gates).take k)).2 l = litI (cNet c).2 l := by
  have h1 := (net_to h k hk).1
  have h2 := (cNet_ok h).1
  rcases hl with hl | ⟨y, hy, he⟩
  · have e1 : (cGates c.gates (cIn ([], cAt0 c.max) c.inl) ((ordL c.gates).take k)).2[(l / 2).toNat]? = some 0 := by rw [hl]; exact h1.zero
    have e2 : (cNet c).2[(l / 2).toNat]? = some 0 := by rw [hl]; exact h2.zero
    rw [litI_some e1, litI_some e2]
  · obtain ⟨i, hi⟩ := List.mem_iff_getElem?.1 hy
    have e1 := h1.has i y hi
    obtain ⟨r, hr⟩ := seq_take (c := c) k
    have hi2 : c.seq[i]? = some y := by rw [hr, List.getElem?_append_left (lt_of_get hi)]; exact hi
    have e2 := h2.has i y hi2
    rw [he] at e1 e2
    rw [litI_some e1, litI_some e2]
theorem net_node {c : CirT} (h : GoodC' c) {k i : Nat} {g : T3} (hi : (ordL c.gates)[k]? = some i) (hg : c.gates[i]? = some g) : (cNet c).1[c.ins.length + c.lat.length + k]? = some (litI (cNet c).2 g.2.1, litI (cNet c).2 g.2.2) := by
  have hk := lt_of_get hi
  have hO := (ordL_is c.gates).1
  obtain ⟨g', hg', hn, hr⟩ := (hO k i hi).1
  rw [hg] at hg'; cases hg'
  have hm' := List.mem_of_getElem? hg
  have ua : g.2.1 ∈ c.used := List.mem_append_right _ (List.mem_flatMap.2 ⟨g, hm', by simp⟩)
  have ub : g.2.2 ∈ c.used := List.mem_append_right _ (List.mem_flatMap.2 ⟨g, hm', by simp⟩)
  have e1 := lit_stays h (Nat.le_of_lt hk) (used_put h ua fun j x hx hj => (hr j x hx hj).1)
  have e2 := lit_stays h (Nat.le_of_lt hk) (used_put h ub fun j x hx hj => (hr j x hx hj).2)
  have hl := (net_to h k (Nat.le_of_lt hk)).1.len1
  have hll : (cGates c.gates (cIn ([], cAt0 c.max) c.inl) ((ordL c.gates).take k)).1.length = c.ins.length + c.lat.length + k := by
    rw [hl, List.length_append, List.length_append, List.length_map, List.length_map, List.length_take]; omega
  have hsplit : ordL c.gates = (ordL c.gates).take (k + 1) ++ (ordL c.gates).drop (k + 1) := (List.take_append_drop _ _).symm
  have hN : cNet c = cGates c.gates (cGates c.gates (cIn ([], cAt0 c.max) c.inl) ((ordL c.gates).take (k + 1))) ((ordL c.gates).drop (k + 1)) := by
    rw [← cGates_app, List.take_append_drop]; rfl
  obtain ⟨r, hr⟩ := cGates_pre c.gates ((ordL c.gates).drop (k + 1)) (cGates c.gates (cIn ([], cAt0 c.max) c.inl) ((ordL c.gates).take (k + 1)))
  have hstep : (cGates c.gates (cIn ([], cAt0 c.max) c.inl) ((ordL c.gates).take (k + 1))).1 = (cGates c.gates (cIn ([], cAt0 c.max) c.inl) ((ordL c.gates).take k)).1 ++ [(litI (cNet c).2 g.2.1, litI (cNet c).2 g.2.2)] := by
    rw [take_succ' hi, cGates_snoc]
    unfold cGate
    rw [gAt_of hg, e1, e2]; rfl
  conv => lhs; rw [hN]
  rw [hr, hstep, List.getElem?_append_left (by rw [List.length_append, hll, List.length_singleton]; omega), List.getElem?_append_right (by omega), hll, Nat.sub_self]
  rfl
theorem gatesR_all {c : CirT} (h : GoodC' c) : gatesR c (ordL c.gates).length = (numC c).gates := by
  have hlen : (cNet c).1.length = c.ins.length + c.lat.length + (ordL c.gates).length := by
    rw [(cNet_ok h).1.len1]
    show (c.ins ++ c.lat.map (·.1) ++ (ordL c.gates).map (fun i => (gAt c.gates i).1)).length = _
    rw [List.length_append, List.length_append, List.length_map, List.length_map]
  have hg : (numC c).gates = gatesG (cNet c).1 (c.ins.length + c.lat.length) (ordL c.gates).length := by
    show gatesG (cNet c).1 (c.ins.length + (nextN c).length) ((cNet c).1.length - (c.ins.length + (nextN c).length)) = _
    rw [nextN_len, hlen, show c.ins.length + c.lat.length + (ordL c.gates).length - (c.ins.length + c.lat.length) = (ordL c.gates).length by omega]
  rw [hg]
  apply List.ext_getElem?
  intro k
  by_cases hk : k < (ordL c.gates).length
  · obtain ⟨i, hi⟩ := getI (ordL c.gates) hk
    obtain ⟨g, hgg⟩ := getI c.gates ((ordL_is c.gates).1.lt i (List.mem_of_getElem? hi))
    have hx := net_node h hi hgg
    rw [gatesG_get hk hx]
    unfold gatesR
    rw [List.take_length, List.getElem?_map, hi]
    show some (gateR _ (gAt c.gates i)) = _
    rw [gAt_of hgg]
    have hsq : c.seq[c.ins.length + c.lat.length + k]? = some g.1 := by
      show (c.ins ++ c.lat.map (·.1) ++ (ordL c.gates).map (fun i => (gAt c.gates i).1))[c.ins.length + c.lat.length + k]? = _
      rw [List.getElem?_append_right (by simp), List.length_append, List.length_map, show c.ins.length + c.lat.length + k - (c.ins.length + c.lat.length) = k by omega, List.getElem?_map, hi]
      show some (gAt c.gates i).1 = _
      rw [gAt_of hgg]
    unfold gateR gateG
    rw [net_own h hsq]
  · rw [List.getElem?_eq_none (by rw [gatesR_len (Nat.le_refl _)]; omega), List.getElem?_eq_none (by rw [gatesG_len]; omega)]
theorem num_ins {c : CirT} (h : GoodC' c) : c.ins.map (litI (cNet c).2) = (numC c).ins := by
  show _ = evenL 0 c.ins.length
  apply List.ext_getElem?
  intro k
  by_cases hk : k < c.ins.length
  · obtain ⟨x, hx⟩ := getI c.ins hk
    rw [List.getElem?_map, hx, evenL_get 0 _ hk, Nat.zero_add]
    show some (litI _ x) = _
    rw [net_own h (seq_in hx)]
  · rw [List.getElem?_eq_none (by rw [List.length_map]; omega), List.getElem?_eq_none (by rw [evenL_len]; omega)]
end Go.Proofs.Ythpnahapiodflaa
namespace Go.Lt
open Go.RowKit
set_option linter.unusedVariables false
section
variable {P : Program} {N : Nat} {e : Env} {w : World} {T : Tab} {ti : TI}
theorem Z.bodyCT {fn : Func} {R : Value → World → Prop} {b ty : Nat} {vs : List Value} {t u : Nat} {x : Value} (hT : OkTab P T) (hr : fn.results = #[.cell t ty, .tmp u]) (hv : get e t = some (.pointer (some ⟨b, 0, none⟩))) (hx : get e u = some x)
    (ht : tget T ty = some ti) (ha : isAggD ti.desc = true) (hs : ti.size = vs.length) (hc : Cells w b 0 vs) (hR : ∀ m, R (.tuple #[.agg vs.toArray, x]) (at' w m)) :
    Z N (bodyPost P fn fun x w' => ∃ v, x = .returned v ∧ R v w') .ret e w := ⟨fun a m hf => by
  have h1 := run_isAgg' (hT.at ht) (at' w m); rw [ha] at h1
  have h3 := run_sizeOf' (hT.at ht) (at' w m); rw [hs] at h3
  have h2 := run_loadCellsFrom (P := P) (acc := #[]) (off := 0) (i := 0) (b := b) (hc.ext ((Ext.refl w).at m))
  refine bodyPost_ret (v := .tuple #[.agg vs.toArray, x]) ?_ hf.defers ⟨_, rfl, hR m⟩
  have h4 := hf.slots _ _ hv
  have h5 := hf.slots _ _ hx
  simp [results, hr, Array.getD_eq_getD_getElem?, h4, h5, asAddr, loadVar, h1, h3, loadCells, h2]⟩
end
end Go.Lt
namespace Go.Proofs.Ythpnahapiodflaa
open Go Go.Lt Go.RowKit
set_option linter.unusedVariables false
set_option linter.unusedSimpArgs false
set_option maxRecDepth 20000

theorem few_sz2 {c : CirT} {m : Int} (h : FewC c m) (hm : m ≤ 100000) : SzC c 100000 ∧ c.syms.length ≤ 100000 := by
  obtain ⟨h1, h2, h3, h4, h5, h6, h7, _⟩ := few_iff.1 h
  exact ⟨⟨by omega, by omega, by omega, by omega, by omega, by omega⟩, by omega⟩
end Go.Proofs.Ythpnahapiodflaa
namespace Go.Proofs.Ythpnahapiodflaa
open Go Go.Lt Go.RowKit
set_option linter.unusedVariables false
set_option linter.unusedSimpArgs false
set_option maxRecDepth 20000

theorem factLt : FactEq Try.prog 69 := ⟨by kernel_rfl, by kernel_rfl⟩
theorem factGt : FactEq Try.prog 106 := ⟨by kernel_rfl, by kernel_rfl⟩
theorem factSy : FactEq Try.prog 110 := ⟨by kernel_rfl, by kernel_rfl⟩
theorem enc3_inj {x y : T3} (h : enc3 x = enc3 y) : x = y := by
  obtain ⟨a, b, c⟩ := x
  obtain ⟨d, e, f⟩ := y
  simp only [enc3, List.cons.injEq, Value.int.injEq, true_and, and_true] at h
  obtain ⟨rfl, rfl, rfl⟩ := h
  rfl
theorem encY_inj {x y : Sy} (h : encY x = encY y) : x = y := by
  obtain ⟨a, b, c⟩ := x
  obtain ⟨d, e, f⟩ := y
  simp only [encY, List.cons.injEq, Value.int.injEq, Value.string.injEq, true_and, and_true] at h
  obtain ⟨rfl, rfl, rfl⟩ := h
  rfl
theorem ne_iff {α : Type} {enc : α → List Value} (inj : ∀ {x y}, enc x = enc y → x = y) {x y : α} (h : ¬ x = y) : enc x ≠ enc y := fun he => h (inj he)
set_option maxHeartbeats 4000000 in
theorem eq_I (aa ab : Option Addr) (ca cb : Nat) (la lb : List Int) (w : World) (Ra : Row 1 encI w aa la) (Rb : Row 1 encI w ab lb) : Still Try.prog 158 [.slice aa la.length ca, .slice ab lb.length cb] w (.bool (dec (la = lb))) := by
  have hla := Ra.len
  have hlb := Rb.len
  by_cases hlen : la.length = lb.length
  · refine Spec.of _ Try.func158 rfl Try.ntmps158 (by kernel_rfl) rfl ?_
    repeat' (first
      | (apply W.condKF; exact rfl; (focus (exact dec_false (by omega); done)))
      | (show WL _ _ _ _ _ _ _; first | apply WL.nil | (refine WL.au (k := ?_)))
      | (show Z _ _ _ _ _; apply Z.then_normal)
      | (show W _ _ _ _ _ _; first | apply W.seq | apply W.region | apply W.block | apply W.skip))
    refine W.loop1 la.length (fun k => k ≤ la.length ∧ ∀ i, i < k → la[i]? = lb[i]?) (fun k => [(0, .slice aa la.length ca), (1, .slice ab lb.length cb), (12, .int .i64 (la.length : Nat)), (13, .int .i64 k)]) ⟨by omega, fun i hi => by omega⟩ (fun k h => h.1) ⟨rfl, rfl, rfl, rfl, trivial⟩ ?_
    rintro k ⟨hk, heq⟩
    by_cases hlt : k < la.length
    · obtain ⟨x, hx⟩ := getI la hlt
      obtain ⟨y, hy⟩ := getI lb (show k < lb.length by omega)
      by_cases hxy : x = y
      · subst hxy
        repeat' (first
          | (apply W.condKT; exact rfl; (focus (first | exact dec_true (show ((k : Nat) : Int) < (la.length : Int) by omega) | exact dec_false (fun h => h rfl); done)))
          | (apply W.condKF; exact rfl; (focus (first | exact dec_true (show ((k : Nat) : Int) < (la.length : Int) by omega) | exact dec_false (fun h => h rfl); done)))
          | (show WL _ _ _ _ _ _ _; first | apply WL.nil | (refine WL.au (k := ?_)))
          | (show QL _ _ _ _ _ _ _; first | apply QL.nil | (refine QL.au (k := ?_)) | (apply QL.index tOk; exact rfl; exact rfl; exact rfl; exact rfl; exact rfl; exact rfl; exact rfl; exact rfl; assumption; (exact extA); exact rfl; omega; assumption; intro b off h; have hcc := h; first | (obtain ⟨h1, h2, h3, h4, h5, h6, _⟩ := h) | (obtain ⟨h1, h2, h3, _⟩ := h) | (obtain ⟨h1, h2, _⟩ := h) | (obtain ⟨h1, _⟩ := h)))
          | (show Z _ _ _ _ _; first | apply Z.then_normal | apply Z.block_normal)
          | (show W _ _ _ _ _ _; first | apply W.seq | apply W.region | apply W.block | apply W.skip | (apply W.regionD tMix; kernel_rfl)))
        exact Z.again1 ⟨by omega, eq_snoc heq hx hy rfl⟩ ⟨rfl, rfl, rfl, rfl, trivial⟩
      · repeat' (first
          | (apply W.condKT; exact rfl; (focus (first | exact dec_true (show ((k : Nat) : Int) < (la.length : Int) by omega) | exact dec_true hxy; done)))
          | (show WL _ _ _ _ _ _ _; first | apply WL.nil | (refine WL.au (k := ?_)))
          | (show QL _ _ _ _ _ _ _; first | apply QL.nil | (refine QL.au (k := ?_)) | (apply QL.index tOk; exact rfl; exact rfl; exact rfl; exact rfl; exact rfl; exact rfl; exact rfl; exact rfl; assumption; (exact extA); exact rfl; omega; assumption; intro b off h; have hcc := h; first | (obtain ⟨h1, h2, h3, h4, h5, h6, _⟩ := h) | (obtain ⟨h1, h2, h3, _⟩ := h) | (obtain ⟨h1, h2, _⟩ := h) | (obtain ⟨h1, _⟩ := h)))
          | (show Z _ _ _ _ _; first | apply Z.then_normal | apply Z.then_ret | apply Z.block_ret)
          | (show W _ _ _ _ _ _; first | apply W.seq | apply W.region | apply W.block | apply W.skip | apply W.ret | (apply W.regionD tMix; kernel_rfl)))
        exact Z.body1 Try.results158 rfl fun m => ⟨congrArg Value.bool (dec_false (ne_at hx hy hxy)).symm, m, rfl⟩
    · repeat' (first
        | (apply W.condKF; exact rfl; (focus (exact dec_false (by omega); done)))
        | (show WL _ _ _ _ _ _ _; first | apply WL.nil | (refine WL.au (k := ?_)))
        | (show Z _ _ _ _ _; first | apply Z.then_normal | apply Z.then_exit | apply Z.block_exit)
        | (show W _ _ _ _ _ _; first | apply W.seq | apply W.region | apply W.ret | apply W.exit))
      exact Z.body1 Try.results158 rfl fun m => ⟨congrArg Value.bool (dec_true (eq_all heq hlen (by omega))).symm, m, rfl⟩
  · refine Spec.of _ Try.func158 rfl Try.ntmps158 (by kernel_rfl) rfl ?_
    repeat' (first
      | (apply W.condKT; exact rfl; (focus (exact dec_true (by omega); done)))
      | (show WL _ _ _ _ _ _ _; first | apply WL.nil | (refine WL.au (k := ?_)))
      | (show Z _ _ _ _ _; first | apply Z.then_normal | apply Z.then_ret)
      | (show W _ _ _ _ _ _; first | apply W.seq | apply W.region | apply W.ret))
    exact Z.body1 Try.results158 rfl fun m => ⟨congrArg Value.bool (dec_false (fun h => hlen (by rw [h]))).symm, m, rfl⟩
set_option maxHeartbeats 4000000 in
theorem eq_L (aa ab : Option Addr) (ca cb : Nat) (la lb : List T3) (w : World) (Ra : Row 3 enc3 w aa la) (Rb : Row 3 enc3 w ab lb) : Still Try.prog 159 [.slice aa la.length ca, .slice ab lb.length cb] w (.bool (dec (la = lb))) := by
  have hla := Ra.len
  have hlb := Rb.len
  by_cases hlen : la.length = lb.length
  · refine Spec.of _ Try.func159 rfl Try.ntmps159 (by kernel_rfl) rfl ?_
    repeat' (first
      | (apply W.condKF; exact rfl; (focus (exact dec_false (by omega); done)))
      | (show WL _ _ _ _ _ _ _; first | apply WL.nil | (refine WL.au (k := ?_)))
      | (show Z _ _ _ _ _; apply Z.then_normal)
      | (show W _ _ _ _ _ _; first | apply W.seq | apply W.region | apply W.block | apply W.skip))
    refine W.loop1 la.length (fun k => k ≤ la.length ∧ ∀ i, i < k → la[i]? = lb[i]?) (fun k => [(0, .slice aa la.length ca), (1, .slice ab lb.length cb), (12, .int .i64 (la.length : Nat)), (13, .int .i64 k)]) ⟨by omega, fun i hi => by omega⟩ (fun k h => h.1) ⟨rfl, rfl, rfl, rfl, trivial⟩ ?_
    rintro k ⟨hk, heq⟩
    by_cases hlt : k < la.length
    · obtain ⟨x, hx⟩ := getI la hlt
      obtain ⟨y, hy⟩ := getI lb (show k < lb.length by omega)
      by_cases hxy : x = y
      · subst hxy
        repeat' (first
          | (apply W.condKT; exact rfl; (focus (first | exact dec_true (show ((k : Nat) : Int) < (la.length : Int) by omega) | exact dec_false (fun h => h rfl); done)))
          | (apply W.condKF; exact rfl; (focus (first | exact dec_true (show ((k : Nat) : Int) < (la.length : Int) by omega) | exact dec_false (fun h => h rfl); done)))
          | (apply QL.neqS tOk; exact rfl; exact rfl; exact rfl; exact rfl; exact rfl; exact rfl; exact rfl; exact factLt)
          | (show WL _ _ _ _ _ _ _; first | apply WL.nil | (refine WL.au (k := ?_)))
          | (show QL _ _ _ _ _ _ _; first | apply QL.nil | (refine QL.au (k := ?_)) | (apply QL.index tOk; exact rfl; exact rfl; exact rfl; exact rfl; exact rfl; exact rfl; exact rfl; exact rfl; assumption; (exact extA); exact rfl; omega; assumption; intro b off h; have hcc := h; first | (obtain ⟨h1, h2, h3, h4, h5, h6, _⟩ := h) | (obtain ⟨h1, h2, h3, _⟩ := h) | (obtain ⟨h1, h2, _⟩ := h) | (obtain ⟨h1, _⟩ := h)))
          | (show Z _ _ _ _ _; first | apply Z.then_normal | apply Z.block_normal)
          | (show W _ _ _ _ _ _; first | apply W.seq | apply W.region | apply W.block | apply W.skip | (apply W.regionD tMix; kernel_rfl)))
        exact Z.again1 ⟨by omega, eq_snoc heq hx hy rfl⟩ ⟨rfl, rfl, rfl, rfl, trivial⟩
      · repeat' (first
          | (apply W.condKT; exact rfl; (focus (first | exact dec_true (show ((k : Nat) : Int) < (la.length : Int) by omega) | exact dec_true (ne_iff enc3_inj hxy); done)))
          | (apply QL.neqS tOk; exact rfl; exact rfl; exact rfl; exact rfl; exact rfl; exact rfl; exact rfl; exact factLt)
          | (show WL _ _ _ _ _ _ _; first | apply WL.nil | (refine WL.au (k := ?_)))
          | (show QL _ _ _ _ _ _ _; first | apply QL.nil | (refine QL.au (k := ?_)) | (apply QL.index tOk; exact rfl; exact rfl; exact rfl; exact rfl; exact rfl; exact rfl; exact rfl; exact rfl; assumption; (exact extA); exact rfl; omega; assumption; intro b off h; have hcc := h; first | (obtain ⟨h1, h2, h3, h4, h5, h6, _⟩ := h) | (obtain ⟨h1, h2, h3, _⟩ := h) | (obtain ⟨h1, h2, _⟩ := h) | (obtain ⟨h1, _⟩ := h)))
          | (show Z _ _ _ _ _; first | apply Z.then_normal | apply Z.then_ret | apply Z.block_ret)
          | (show W _ _ _ _ _ _; first | apply W.seq | apply W.region | apply W.block | apply W.skip | apply W.ret | (apply W.regionD tMix; kernel_rfl)))
        exact Z.body1 Try.results159 rfl fun m => ⟨congrArg Value.bool (dec_false (ne_at hx hy hxy)).symm, m, rfl⟩
    · repeat' (first
        | (apply W.condKF; exact rfl; (focus (exact dec_false (by omega); done)))
        | (show WL _ _ _ _ _ _ _; first | apply WL.nil | (refine WL.au (k := ?_)))
        | (show Z _ _ _ _ _; first | apply Z.then_normal | apply Z.then_exit | apply Z.block_exit)
        | (show W _ _ _ _ _ _; first | apply W.seq | apply W.region | apply W.ret | apply W.exit))
      exact Z.body1 Try.results159 rfl fun m => ⟨congrArg Value.bool (dec_true (eq_all heq hlen (by omega))).symm, m, rfl⟩
  · refine Spec.of _ Try.func159 rfl Try.ntmps159 (by kernel_rfl) rfl ?_
    repeat' (first
      | (apply W.condKT; exact rfl; (focus (exact dec_true (by omega); done)))
      | (show WL _ _ _ _ _ _ _; first | apply WL.nil | (refine WL.au (k := ?_)))
      | (show Z _ _ _ _ _; first | apply Z.then_normal | apply Z.then_ret)
      | (show W _ _ _ _ _ _; first | apply W.seq | apply W.region | apply W.ret))
    exact Z.body1 Try.results159 rfl fun m => ⟨congrArg Value.bool (dec_false (fun h => hlen (by rw [h]))).symm, m, rfl⟩
set_option maxHeartbeats 4000000 in
theorem eq_G (aa ab : Option Addr) (ca cb : Nat) (la lb : List T3) (w : World) (Ra : Row 3 enc3 w aa la) (Rb : Row 3 enc3 w ab lb) : Still Try.prog 160 [.slice aa la.length ca, .slice ab lb.length cb] w (.bool (dec (la = lb))) := by
  have hla := Ra.len
  have hlb := Rb.len
  by_cases hlen : la.length = lb.length
  · refine Spec.of _ Try.func160 rfl Try.ntmps160 (by kernel_rfl) rfl ?_
    repeat' (first
      | (apply W.condKF; exact rfl; (focus (exact dec_false (by omega); done)))
      | (show WL _ _ _ _ _ _ _; first | apply WL.nil | (refine WL.au (k := ?_)))
      | (show Z _ _ _ _ _; apply Z.then_normal)
      | (show W _ _ _ _ _ _; first | apply W.seq | apply W.region | apply W.block | apply W.skip))
    refine W.loop1 la.length (fun k => k ≤ la.length ∧ ∀ i, i < k → la[i]? = lb[i]?) (fun k => [(0, .slice aa la.length ca), (1, .slice ab lb.length cb), (12, .int .i64 (la.length : Nat)), (13, .int .i64 k)]) ⟨by omega, fun i hi => by omega⟩ (fun k h => h.1) ⟨rfl, rfl, rfl, rfl, trivial⟩ ?_
    rintro k ⟨hk, heq⟩
    by_cases hlt : k < la.length
    · obtain ⟨x, hx⟩ := getI la hlt
      obtain ⟨y, hy⟩ := getI lb (show k < lb.length by omega)
      by_cases hxy : x = y
      · subst hxy
        repeat' (first
          | (apply W.condKT; exact rfl; (focus (first | exact dec_true (show ((k : Nat) : Int) < (la.length : Int) by omega) | exact dec_false (fun h => h rfl); done)))
          | (apply W.condKF; exact rfl; (focus (first | exact dec_true (show ((k : Nat) : Int) < (la.length : Int) by omega) | exact dec_false (fun h => h rfl); done)))
          | (apply QL.neqS tOk; exact rfl; exact rfl; exact rfl; exact rfl; exact rfl; exact rfl; exact rfl; exact factGt)
          | (show WL _ _ _ _ _ _ _; first | apply WL.nil | (refine WL.au (k := ?_)))
          | (show QL _ _ _ _ _ _ _; first | apply QL.nil | (refine QL.au (k := ?_)) | (apply QL.index tOk; exact rfl; exact rfl; exact rfl; exact rfl; exact rfl; exact rfl; exact rfl; exact rfl; assumption; (exact extA); exact rfl; omega; assumption; intro b off h; have hcc := h; first | (obtain ⟨h1, h2, h3, h4, h5, h6, _⟩ := h) | (obtain ⟨h1, h2, h3, _⟩ := h) | (obtain ⟨h1, h2, _⟩ := h) | (obtain ⟨h1, _⟩ := h)))
          | (show Z _ _ _ _ _; first | apply Z.then_normal | apply Z.block_normal)
          | (show W _ _ _ _ _ _; first | apply W.seq | apply W.region | apply W.block | apply W.skip | (apply W.regionD tMix; kernel_rfl)))
        exact Z.again1 ⟨by omega, eq_snoc heq hx hy rfl⟩ ⟨rfl, rfl, rfl, rfl, trivial⟩
      · repeat' (first
          | (apply W.condKT; exact rfl; (focus (first | exact dec_true (show ((k : Nat) : Int) < (la.length : Int) by omega) | exact dec_true (ne_iff enc3_inj hxy); done)))
          | (apply QL.neqS tOk; exact rfl; exact rfl; exact rfl; exact rfl; exact rfl; exact rfl; exact rfl; exact factGt)
          | (show WL _ _ _ _ _ _ _; first | apply WL.nil | (refine WL.au (k := ?_)))
          | (show QL _ _ _ _ _ _ _; first | apply QL.nil | (refine QL.au (k := ?_)) | (apply QL.index tOk; exact rfl; exact rfl; exact rfl; exact rfl; exact rfl; exact rfl; exact rfl; exact rfl; assumption; (exact extA); exact rfl; omega; assumption; intro b off h; have hcc := h; first | (obtain ⟨h1, h2, h3, h4, h5, h6, _⟩ := h) | (obtain ⟨h1, h2, h3, _⟩ := h) | (obtain ⟨h1, h2, _⟩ := h) | (obtain ⟨h1, _⟩ := h)))
          | (show Z _ _ _ _ _; first | apply Z.then_normal | apply Z.then_ret | apply Z.block_ret)
          | (show W _ _ _ _ _ _; first | apply W.seq | apply W.region | apply W.block | apply W.skip | apply W.ret | (apply W.regionD tMix; kernel_rfl)))
        exact Z.body1 Try.results160 rfl fun m => ⟨congrArg Value.bool (dec_false (ne_at hx hy hxy)).symm, m, rfl⟩
    · repeat' (first
        | (apply W.condKF; exact rfl; (focus (exact dec_false (by omega); done)))
        | (show WL _ _ _ _ _ _ _; first | apply WL.nil | (refine WL.au (k := ?_)))
        | (show Z _ _ _ _ _; first | apply Z.then_normal | apply Z.then_exit | apply Z.block_exit)
        | (show W _ _ _ _ _ _; first | apply W.seq | apply W.region | apply W.ret | apply W.exit))
      exact Z.body1 Try.results160 rfl fun m => ⟨congrArg Value.bool (dec_true (eq_all heq hlen (by omega))).symm, m, rfl⟩
  · refine Spec.of _ Try.func160 rfl Try.ntmps160 (by kernel_rfl) rfl ?_
    repeat' (first
      | (apply W.condKT; exact rfl; (focus (exact dec_true (by omega); done)))
      | (show WL _ _ _ _ _ _ _; first | apply WL.nil | (refine WL.au (k := ?_)))
      | (show Z _ _ _ _ _; first | apply Z.then_normal | apply Z.then_ret)
      | (show W _ _ _ _ _ _; first | apply W.seq | apply W.region | apply W.ret))
    exact Z.body1 Try.results160 rfl fun m => ⟨congrArg Value.bool (dec_false (fun h => hlen (by rw [h]))).symm, m, rfl⟩
set_option maxHeartbeats 4000000 in
theorem eq_Y (aa ab : Option Addr) (ca cb : Nat) (la lb : List Sy) (w : World) (Ra : Row 3 encY w aa la) (Rb : Row 3 encY w ab lb) : Still Try.prog 161 [.slice aa la.length ca, .slice ab lb.length cb] w (.bool (dec (la = lb))) := by
  have hla := Ra.len
  have hlb := Rb.len
  by_cases hlen : la.length = lb.length
  · refine Spec.of _ Try.func161 rfl Try.ntmps161 (by kernel_rfl) rfl ?_
    repeat' (first
      | (apply W.condKF; exact rfl; (focus (exact dec_false (by omega); done)))
      | (show WL _ _ _ _ _ _ _; first | apply WL.nil | (refine WL.au (k := ?_)))
      | (show Z _ _ _ _ _; apply Z.then_normal)
      | (show W _ _ _ _ _ _; first | apply W.seq | apply W.region | apply W.block | apply W.skip))
    refine W.loop1 la.length (fun k => k ≤ la.length ∧ ∀ i, i < k → la[i]? = lb[i]?) (fun k => [(0, .slice aa la.length ca), (1, .slice ab lb.length cb), (12, .int .i64 (la.length : Nat)), (13, .int .i64 k)]) ⟨by omega, fun i hi => by omega⟩ (fun k h => h.1) ⟨rfl, rfl, rfl, rfl, trivial⟩ ?_
    rintro k ⟨hk, heq⟩
    by_cases hlt : k < la.length
    · obtain ⟨x, hx⟩ := getI la hlt
      obtain ⟨y, hy⟩ := getI lb (show k < lb.length by omega)
      by_cases hxy : x = y
      · subst hxy
        repeat' (first
          | (apply W.condKT; exact rfl; (focus (first | exact dec_true (show ((k : Nat) : Int) < (la.length : Int) by omega) | exact dec_false (fun h => h rfl); done)))
          | (apply W.condKF; exact rfl; (focus (first | exact dec_true (show ((k : Nat) : Int) < (la.length : Int) by omega) | exact dec_false (fun h => h rfl); done)))
          | (apply QL.neqS tOk; exact rfl; exact rfl; exact rfl; exact rfl; exact rfl; exact rfl; exact rfl; exact factSy)
          | (show WL _ _ _ _ _ _ _; first | apply WL.nil | (refine WL.au (k := ?_)))
          | (show QL _ _ _ _ _ _ _; first | apply QL.nil | (refine QL.au (k := ?_)) | (apply QL.index tOk; exact rfl; exact rfl; exact rfl; exact rfl; exact rfl; exact rfl; exact rfl; exact rfl; assumption; (exact extA); exact rfl; omega; assumption; intro b off h; have hcc := h; first | (obtain ⟨h1, h2, h3, h4, h5, h6, _⟩ := h) | (obtain ⟨h1, h2, h3, _⟩ := h) | (obtain ⟨h1, h2, _⟩ := h) | (obtain ⟨h1, _⟩ := h)))
          | (show Z _ _ _ _ _; first | apply Z.then_normal | apply Z.block_normal)
          | (show W _ _ _ _ _ _; first | apply W.seq | apply W.region | apply W.block | apply W.skip | (apply W.regionD tMix; kernel_rfl)))
        exact Z.again1 ⟨by omega, eq_snoc heq hx hy rfl⟩ ⟨rfl, rfl, rfl, rfl, trivial⟩
      · repeat' (first
          | (apply W.condKT; exact rfl; (focus (first | exact dec_true (show ((k : Nat) : Int) < (la.length : Int) by omega) | exact dec_true (ne_iff encY_inj hxy); done)))
          | (apply QL.neqS tOk; exact rfl; exact rfl; exact rfl; exact rfl; exact rfl; exact rfl; exact rfl; exact factSy)
          | (show WL _ _ _ _ _ _ _; first | apply WL.nil | (refine WL.au (k := ?_)))
          | (show QL _ _ _ _ _ _ _; first | apply QL.nil | (refine QL.au (k := ?_)) | (apply QL.index tOk; exact rfl; exact rfl; exact rfl; exact rfl; exact rfl; exact rfl; exact rfl; exact rfl; assumption; (exact extA); exact rfl; omega; assumption; intro b off h; have hcc := h; first | (obtain ⟨h1, h2, h3, h4, h5, h6, _⟩ := h) | (obtain ⟨h1, h2, h3, _⟩ := h) | (obtain ⟨h1, h2, _⟩ := h) | (obtain ⟨h1, _⟩ := h)))
          | (show Z _ _ _ _ _; first | apply Z.then_normal | apply Z.then_ret | apply Z.block_ret)
          | (show W _ _ _ _ _ _; first | apply W.seq | apply W.region | apply W.block | apply W.skip | apply W.ret | (apply W.regionD tMix; kernel_rfl)))
        exact Z.body1 Try.results161 rfl fun m => ⟨congrArg Value.bool (dec_false (ne_at hx hy hxy)).symm, m, rfl⟩
    · repeat' (first
        | (apply W.condKF; exact rfl; (focus (exact dec_false (by omega); done)))
        | (show WL _ _ _ _ _ _ _; first | apply WL.nil | (refine WL.au (k := ?_)))
        | (show Z _ _ _ _ _; first | apply Z.then_normal | apply Z.then_exit | apply Z.block_exit)
        | (show W _ _ _ _ _ _; first | apply W.seq | apply W.region | apply W.ret | apply W.exit))
      exact Z.body1 Try.results161 rfl fun m => ⟨congrArg Value.bool (dec_true (eq_all heq hlen (by omega))).symm, m, rfl⟩
  · refine Spec.of _ Try.func161 rfl Try.ntmps161 (by kernel_rfl) rfl ?_
    repeat' (first
      | (apply W.condKT; exact rfl; (focus (exact dec_true (by omega); done)))
      | (show WL _ _ _ _ _ _ _; first | apply WL.nil | (refine WL.au (k := ?_)))
      | (show Z _ _ _ _ _; first | apply Z.then_normal | apply Z.then_ret)
      | (show W _ _ _ _ _ _; first | apply W.seq | apply W.region | apply W.ret))
    exact Z.body1 Try.results161 rfl fun m => ⟨congrArg Value.bool (dec_false (fun h => hlen (by rw [h]))).symm, m, rfl⟩
theorem clone_L (a : Option Addr) (cap : Nat) (l : List T3) (w : World) (R : Row 3 enc3 w a l) (hna : a = none → cap = 0) (hl : l.length ≤ 1048576) :
    Lt.Spec Try.prog 140 [.slice a l.length cap] w (IsFresh 3 enc3 69 w l) := by
  by_cases ha : a = none
  · subst ha
    have hl0 : l = [] := by
      cases l with
      | nil => rfl
      | cons x r => obtain ⟨b, off, h1, _⟩ := R.elem 0 x rfl; cases h1
    subst hl0
    refine Spec.of _ Try.func140 rfl Try.ntmps140 (by kernel_rfl) rfl ?_
    repeat' (first
      | (apply WL.eqSl tOk; exact rfl; exact rfl; exact rfl; exact rfl; exact rfl; exact rfl)
      | (apply W.condKT; exact rfl; (focus (exact dec_true rfl; done)))
      | (show WL _ _ _ _ _ _ _; first | apply WL.nil | (refine WL.au (k := ?_)))
      | (show Z _ _ _ _ _; first | apply Z.then_normal | apply Z.then_ret)
      | (show W _ _ _ _ _ _; first | apply W.seq | apply W.region | apply W.ret))
    exact Z.body1 Try.results140 rfl fun m => ⟨(Ext.refl _).at m, none, 0, rfl, Own.nil⟩
  · refine Spec.of _ Try.func140 rfl Try.ntmps140 (by kernel_rfl) rfl ?_
    repeat' (first
      | (apply WL.eqSl tOk; exact rfl; exact rfl; exact rfl; exact rfl; exact rfl; exact rfl)
      | (apply W.condKF; exact rfl; (focus (exact dec_false ha; done)))
      | (apply WL.lit (len := 0) tOk; exact rfl; exact rfl; exact rfl; exact rfl; exact rfl; exact rfl; (first | exact rfl | kernel_rfl | (simp [Instr.fill, catCells]; done)); exact rfl; intro gb w' hb hge hc hx; have hO0 := Own.of_block0 (enc := enc3) (s := 3) hb hge)
      | (apply WL.appendS tOk enc3_ok; exact rfl; exact rfl; exact rfl; exact rfl; exact rfl; exact rfl; exact rfl; exact rfl; exact rfl; exact rfl; assumption; (exact extA); (first | exact rfl | (focus (simp only [List.length_set]; done)) | (focus (simp; done)) | (focus (simp [*]; done)) | omega | (focus (simp only [List.length_set]; omega))); assumption; (exact extA); (first | exact rfl | (focus (simp only [List.length_set]; done)) | (focus (simp; done)) | (focus (simp [*]; done)) | omega | (focus (simp only [List.length_set]; omega))); (first | assumption | (intro h; cases h) | exact Own.noneCap (by assumption)); exact rfl; (exact extA); (first | omega | (simp; omega) | (simp at *; omega)); intro a' cap' w' hO hX' hU hF)
      | (show WL _ _ _ _ _ _ _; first | apply WL.nil | (refine WL.au (k := ?_)))
      | (show Z _ _ _ _ _; apply Z.then_normal)
      | (show W _ _ _ _ _ _; first | apply W.seq | apply W.region | apply W.skip | apply W.ret))
    exact Z.body1 Try.results140 rfl fun m => ⟨Ext.at (by (exact extA)) m, a', cap', by rw [List.nil_append], by rw [List.nil_append] at hO; exact hO⟩
theorem clone_G (a : Option Addr) (cap : Nat) (l : List T3) (w : World) (R : Row 3 enc3 w a l) (hna : a = none → cap = 0) (hl : l.length ≤ 1048576) :
    Lt.Spec Try.prog 141 [.slice a l.length cap] w (IsFresh 3 enc3 106 w l) := by
  by_cases ha : a = none
  · subst ha
    have hl0 : l = [] := by
      cases l with
      | nil => rfl
      | cons x r => obtain ⟨b, off, h1, _⟩ := R.elem 0 x rfl; cases h1
    subst hl0
    refine Spec.of _ Try.func141 rfl Try.ntmps141 (by kernel_rfl) rfl ?_
    repeat' (first
      | (apply WL.eqSl tOk; exact rfl; exact rfl; exact rfl; exact rfl; exact rfl; exact rfl)
      | (apply W.condKT; exact rfl; (focus (exact dec_true rfl; done)))
      | (show WL _ _ _ _ _ _ _; first | apply WL.nil | (refine WL.au (k := ?_)))
      | (show Z _ _ _ _ _; first | apply Z.then_normal | apply Z.then_ret)
      | (show W _ _ _ _ _ _; first | apply W.seq | apply W.region | apply W.ret))
    exact Z.body1 Try.results141 rfl fun m => ⟨(Ext.refl _).at m, none, 0, rfl, Own.nil⟩
  · refine Spec.of _ Try.func141 rfl Try.ntmps141 (by kernel_rfl) rfl ?_
    repeat' (first
      | (apply WL.eqSl tOk; exact rfl; exact rfl; exact rfl; exact rfl; exact rfl; exact rfl)
      | (apply W.condKF; exact rfl; (focus (exact dec_false ha; done)))
      | (apply WL.lit (len := 0) tOk; exact rfl; exact rfl; exact rfl; exact rfl; exact rfl; exact rfl; (first | exact rfl | kernel_rfl | (simp [Instr.fill, catCells]; done)); exact rfl; intro gb w' hb hge hc hx; have hO0 := Own.of_block0 (enc := enc3) (s := 3) hb hge)
      | (apply WL.appendS tOk enc3_ok; exact rfl; exact rfl; exact rfl; exact rfl; exact rfl; exact rfl; exact rfl; exact rfl; exact rfl; exact rfl; assumption; (exact extA); (first | exact rfl | (focus (simp only [List.length_set]; done)) | (focus (simp; done)) | (focus (simp [*]; done)) | omega | (focus (simp only [List.length_set]; omega))); assumption; (exact extA); (first | exact rfl | (focus (simp only [List.length_set]; done)) | (focus (simp; done)) | (focus (simp [*]; done)) | omega | (focus (simp only [List.length_set]; omega))); (first | assumption | (intro h; cases h) | exact Own.noneCap (by assumption)); exact rfl; (exact extA); (first | omega | (simp; omega) | (simp at *; omega)); intro a' cap' w' hO hX' hU hF)
      | (show WL _ _ _ _ _ _ _; first | apply WL.nil | (refine WL.au (k := ?_)))
      | (show Z _ _ _ _ _; apply Z.then_normal)
      | (show W _ _ _ _ _ _; first | apply W.seq | apply W.region | apply W.skip | apply W.ret))
    exact Z.body1 Try.results141 rfl fun m => ⟨Ext.at (by (exact extA)) m, a', cap', by rw [List.nil_append], by rw [List.nil_append] at hO; exact hO⟩
theorem clone_Y (a : Option Addr) (cap : Nat) (l : List Sy) (w : World) (R : Row 3 encY w a l) (hna : a = none → cap = 0) (hl : l.length ≤ 1048576) :
    Lt.Spec Try.prog 142 [.slice a l.length cap] w (IsFresh 3 encY 110 w l) := by
  by_cases ha : a = none
  · subst ha
    have hl0 : l = [] := by
      cases l with
      | nil => rfl
      | cons x r => obtain ⟨b, off, h1, _⟩ := R.elem 0 x rfl; cases h1
    subst hl0
    refine Spec.of _ Try.func142 rfl Try.ntmps142 (by kernel_rfl) rfl ?_
    repeat' (first
      | (apply WL.eqSl tOk; exact rfl; exact rfl; exact rfl; exact rfl; exact rfl; exact rfl)
      | (apply W.condKT; exact rfl; (focus (exact dec_true rfl; done)))
      | (show WL _ _ _ _ _ _ _; first | apply WL.nil | (refine WL.au (k := ?_)))
      | (show Z _ _ _ _ _; first | apply Z.then_normal | apply Z.then_ret)
      | (show W _ _ _ _ _ _; first | apply W.seq | apply W.region | apply W.ret))
    exact Z.body1 Try.results142 rfl fun m => ⟨(Ext.refl _).at m, none, 0, rfl, Own.nil⟩
  · refine Spec.of _ Try.func142 rfl Try.ntmps142 (by kernel_rfl) rfl ?_
    repeat' (first
      | (apply WL.eqSl tOk; exact rfl; exact rfl; exact rfl; exact rfl; exact rfl; exact rfl)
      | (apply W.condKF; exact rfl; (focus (exact dec_false ha; done)))
      | (apply WL.lit (len := 0) tOk; exact rfl; exact rfl; exact rfl; exact rfl; exact rfl; exact rfl; (first | exact rfl | kernel_rfl | (simp [Instr.fill, catCells]; done)); exact rfl; intro gb w' hb hge hc hx; have hO0 := Own.of_block0 (enc := encY) (s := 3) hb hge)
      | (apply WL.appendS tOk encY_ok; exact rfl; exact rfl; exact rfl; exact rfl; exact rfl; exact rfl; exact rfl; exact rfl; exact rfl; exact rfl; assumption; (exact extA); (first | exact rfl | (focus (simp only [List.length_set]; done)) | (focus (simp; done)) | (focus (simp [*]; done)) | omega | (focus (simp only [List.length_set]; omega))); assumption; (exact extA); (first | exact rfl | (focus (simp only [List.length_set]; done)) | (focus (simp; done)) | (focus (simp [*]; done)) | omega | (focus (simp only [List.length_set]; omega))); (first | assumption | (intro h; cases h) | exact Own.noneCap (by assumption)); exact rfl; (exact extA); (first | omega | (simp; omega) | (simp at *; omega)); intro a' cap' w' hO hX' hU hF)
      | (show WL _ _ _ _ _ _ _; first | apply WL.nil | (refine WL.au (k := ?_)))
      | (show Z _ _ _ _ _; apply Z.then_normal)
      | (show W _ _ _ _ _ _; first | apply W.seq | apply W.region | apply W.skip | apply W.ret))
    exact Z.body1 Try.results142 rfl fun m => ⟨Ext.at (by (exact extA)) m, a', cap', by rw [List.nil_append], by rw [List.nil_append] at hO; exact hO⟩
end Go.Proofs.Ythpnahapiodflaa
namespace Go.Lt
open Go.RowKit
set_option linter.unusedVariables false
set_option linter.unusedSimpArgs false
section
variable {P : Program} {T : Tab} {e : Env} {dd : Option Tmp} {tt ty t : TypeId} {x y : Operand} {ps : String} {af : Array Edge} {g : Option (Nat × Bool)} {i : TI} {u v : ByteArray}
theorem loop_eq (u : ByteArray) : ∀ (n i : Nat) (r : List UInt8), u.size - i = n → ByteArray.toList.loop u i r = r.reverse ++ u.data.toList.drop i := by
  intro n
  induction n with
  | zero =>
    intro i r h
    unfold ByteArray.toList.loop
    rw [if_neg (by omega), List.drop_eq_nil_of_le (by show u.data.size ≤ i; have : u.size = u.data.size := rfl; omega), List.append_nil]
  | succ n ih =>
    intro i r h
    unfold ByteArray.toList.loop
    have hi : i < u.data.toList.length := by show i < u.data.size; have : u.size = u.data.size := rfl; omega
    rw [if_pos (by omega), ih (i + 1) _ (by omega), List.reverse_cons, List.append_assoc, List.drop_eq_getElem_cons hi]
    congr 1
    rw [List.singleton_append]
    congr 1
    show u.data[i]! = u.data.toList[i]
    have hi2 : i < u.data.size := hi
    rw [getElem!_pos u.data i hi2]; rfl
theorem bytesL (u : ByteArray) : u.toList = u.data.toList := by
  unfold ByteArray.toList
  rw [loop_eq u u.size 0 [] rfl]; rfl
theorem bytesL_inj {u v : ByteArray} (h : u.toList = v.toList) : u = v := by
  rw [bytesL, bytesL] at h
  exact ByteArray.ext (Array.ext' h)
theorem yeqStr (hT : OkTab P T) (hx : ev e x = some (.string u)) (hy : ev e y = some (.string v)) (ht : tget T t = some i) (hd : i.desc = .string) : Yields P e ⟨dd, .binOp .eql t x y ty, tt, ps, af, g⟩ (.bool (dec (u = v))) := by
  intro ρ hρ w
  have h1 : (eqGuard .eql t x y (.string u) (.string v)).run P w = .ok () w := by simp [eqGuard]
  have h2 : (binOp .eql t (.string u) (.string v)).run P w = .ok (.bool (dec (u = v))) w := by
    by_cases h : u = v
    · subst h; rw [dec_true rfl]; simp [binOp, Op.stringOp]
    · rw [dec_false h]; have hh : ¬ u.toList = v.toList := fun q => h (bytesL_inj q); simp [binOp, Op.stringOp, hh]
  simp [execOp, hρ _ _ hx, hρ _ _ hy, h1, h2]
theorem yneStr (hT : OkTab P T) (hx : ev e x = some (.string u)) (hy : ev e y = some (.string v)) (ht : tget T t = some i) (hd : i.desc = .string) : Yields P e ⟨dd, .binOp .neq t x y ty, tt, ps, af, g⟩ (.bool (dec (u ≠ v))) := by
  intro ρ hρ w
  have h1 : (eqGuard .neq t x y (.string u) (.string v)).run P w = .ok () w := by simp [eqGuard]
  have h3 : (!dec (u = v)) = dec (u ≠ v) := by
    by_cases hh : u = v
    · rw [dec_true hh, dec_false (fun h => h hh)]; rfl
    · rw [dec_false hh, dec_true hh]; rfl
  have h2 : (binOp .neq t (.string u) (.string v)).run P w = .ok (.bool (dec (u ≠ v))) w := by
    by_cases h : u = v
    · subst h; rw [dec_false (fun h => h rfl)]; simp [binOp, Op.stringOp]
    · rw [dec_true h]; have hh : ¬ u.toList = v.toList := fun q => h (bytesL_inj q); simp [binOp, Op.stringOp, hh]
  simp [execOp, hρ _ _ hx, hρ _ _ hy, h1, h2]
variable {N d : Nat} {w : World} {Q : Exit → Act → World → Prop} {C : World → Prop} {ops l : List Oper}
theorem WL.eqStr (hT : OkTab P T) (hg : gate ops e g = some true) (hd : Nat.blt d N = true) (hx : ev e x = some (.string u)) (hy : ev e y = some (.string v)) (ht : tget T t = some i) (htd : i.desc = .string) (k : WL P N ops.toArray l ((d, .bool (dec (u = v))) :: e) w Q) : WL P N ops.toArray (⟨some d, .binOp .eql t x y ty, tt, ps, af, g⟩ :: l) e w Q := WL.step hg hd (yeqStr hT hx hy ht htd).in k
theorem WL.neStr (hT : OkTab P T) (hg : gate ops e g = some true) (hd : Nat.blt d N = true) (hx : ev e x = some (.string u)) (hy : ev e y = some (.string v)) (ht : tget T t = some i) (htd : i.desc = .string) (k : WL P N ops.toArray l ((d, .bool (dec (u ≠ v))) :: e) w Q) : WL P N ops.toArray (⟨some d, .binOp .neq t x y ty, tt, ps, af, g⟩ :: l) e w Q := WL.step hg hd (yneStr hT hx hy ht htd).in k
theorem QL.eqStr (hT : OkTab P T) (hg : gate ops e g = some true) (hd : Nat.blt d N = true) (hx : ev e x = some (.string u)) (hy : ev e y = some (.string v)) (ht : tget T t = some i) (htd : i.desc = .string) (k : QL P N C ops.toArray l ((d, .bool (dec (u = v))) :: e) Q) : QL P N C ops.toArray (⟨some d, .binOp .eql t x y ty, tt, ps, af, g⟩ :: l) e Q := QL.step hg hd (yeqStr hT hx hy ht htd).in k
theorem QL.neStr (hT : OkTab P T) (hg : gate ops e g = some true) (hd : Nat.blt d N = true) (hx : ev e x = some (.string u)) (hy : ev e y = some (.string v)) (ht : tget T t = some i) (htd : i.desc = .string) (k : QL P N C ops.toArray l ((d, .bool (dec (u ≠ v))) :: e) Q) : QL P N C ops.toArray (⟨some d, .binOp .neq t x y ty, tt, ps, af, g⟩ :: l) e Q := QL.step hg hd (yneStr hT hx hy ht htd).in k
end
end Go.Lt
namespace Go.Proofs.Ythpnahapiodflaa
open Go Go.Lt Go.RowKit
set_option linter.unusedVariables false
set_option linter.unusedSimpArgs false
set_option maxRecDepth 20000

set_option maxHeartbeats 32000000 in
set_option maxRecDepth 20000 in
theorem circ_Same (a b : Circ) (w : World) (hCa : CAt w a) (hCb : CAt w b) : Pure Try.prog 121 [a.val, b.val] w (.bool (dec (a.t = b.t))) := by
  by_cases e0 : a.max = b.max
  rotate_left
  · skip
    refine Spec.of _ Try.func121 rfl Try.ntmps121 (by kernel_rfl) rfl ?_
    repeat' (first
      | (apply WL.box; exact rfl; exact rfl; exact rfl; intro gb w' hb hge hc hx; have hcc := hc; (first | (obtain ⟨h1, h2, h3, _⟩ := hc) | (obtain ⟨h1, h2, _⟩ := hc)); (first | (have h_0 := xA0; clear h_0; have hB := hcc; obtain ⟨xB0, xB1, xB2, xB3, xB4, xB5, xB6, xB7, xB8, _⟩ := hcc; (obtain ⟨gB, rfl⟩ : ∃ x, x = gb := ⟨_, rfl⟩; obtain ⟨wB, rfl⟩ : ∃ x, x = w' := ⟨_, rfl⟩; obtain ⟨hxB, rfl⟩ : ∃ x, x = hx := ⟨_, rfl⟩)) | (have hA := hcc; obtain ⟨xA0, xA1, xA2, xA3, xA4, xA5, xA6, xA7, xA8, _⟩ := hcc; (obtain ⟨gA, rfl⟩ : ∃ x, x = gb := ⟨_, rfl⟩; obtain ⟨wA, rfl⟩ : ∃ x, x = w' := ⟨_, rfl⟩; obtain ⟨hxA, rfl⟩ : ∃ x, x = hx := ⟨_, rfl⟩))))
      | (apply WL.gF; exact rfl; exact rfl; (focus (first | exact dec_false e0; done)))
      | (show WL _ _ _ _ _ _ _; first | apply WL.nil | (refine WL.au (k := ?_)) | (apply WL.guardF; exact rfl; exact rfl))
      | (show Z _ _ _ _ _; apply Z.then_normal)
      | (show W _ _ _ _ _ _; first | apply W.seq | apply W.region | apply W.ret))
    exact Z.body1 Try.results121 rfl fun m => ⟨congrArg Value.bool (by rw [dec_false (show ¬ a.t = b.t from fun h => e0 (congrArg CirT.max h))] <;> exact dec_false e0), Ext.at (by (exact extA)) m⟩
  by_cases e1 : a.com = b.com
  rotate_left
  · skip
    refine Spec.of _ Try.func121 rfl Try.ntmps121 (by kernel_rfl) rfl ?_
    repeat' (first
      | (apply WL.box; exact rfl; exact rfl; exact rfl; intro gb w' hb hge hc hx; have hcc := hc; (first | (obtain ⟨h1, h2, h3, _⟩ := hc) | (obtain ⟨h1, h2, _⟩ := hc)); (first | (have h_0 := xA0; clear h_0; have hB := hcc; obtain ⟨xB0, xB1, xB2, xB3, xB4, xB5, xB6, xB7, xB8, _⟩ := hcc; (obtain ⟨gB, rfl⟩ : ∃ x, x = gb := ⟨_, rfl⟩; obtain ⟨wB, rfl⟩ : ∃ x, x = w' := ⟨_, rfl⟩; obtain ⟨hxB, rfl⟩ : ∃ x, x = hx := ⟨_, rfl⟩)) | (have hA := hcc; obtain ⟨xA0, xA1, xA2, xA3, xA4, xA5, xA6, xA7, xA8, _⟩ := hcc; (obtain ⟨gA, rfl⟩ : ∃ x, x = gb := ⟨_, rfl⟩; obtain ⟨wA, rfl⟩ : ∃ x, x = w' := ⟨_, rfl⟩; obtain ⟨hxA, rfl⟩ : ∃ x, x = hx := ⟨_, rfl⟩))))
      | (apply WL.eqStr tOk; exact rfl; exact rfl; exact rfl; exact rfl; exact rfl; exact rfl)
      | (apply WL.gT; exact rfl; exact rfl; (focus (first | exact dec_true e0 | exact dec_false e1; done)))
      | (apply WL.gF; exact rfl; exact rfl; (focus (first | exact dec_true e0 | exact dec_false e1; done)))
      | (show WL _ _ _ _ _ _ _; first | apply WL.nil | (refine WL.au (k := ?_)) | (apply WL.guardF; exact rfl; exact rfl))
      | (show Z _ _ _ _ _; apply Z.then_normal)
      | (show W _ _ _ _ _ _; first | apply W.seq | apply W.region | apply W.ret))
    exact Z.body1 Try.results121 rfl fun m => ⟨congrArg Value.bool (by rw [dec_false (show ¬ a.t = b.t from fun h => e1 (congrArg CirT.com h))] <;> exact dec_false e1), Ext.at (by (exact extA)) m⟩
  by_cases e2 : a.ins.2.2 = b.ins.2.2
  rotate_left
  · skip
    refine Spec.of _ Try.func121 rfl Try.ntmps121 (by kernel_rfl) rfl ?_
    repeat' (first
      | (apply WL.box; exact rfl; exact rfl; exact rfl; intro gb w' hb hge hc hx; have hcc := hc; (first | (obtain ⟨h1, h2, h3, _⟩ := hc) | (obtain ⟨h1, h2, _⟩ := hc)); (first | (have h_0 := xA0; clear h_0; have hB := hcc; obtain ⟨xB0, xB1, xB2, xB3, xB4, xB5, xB6, xB7, xB8, _⟩ := hcc; (obtain ⟨gB, rfl⟩ : ∃ x, x = gb := ⟨_, rfl⟩; obtain ⟨wB, rfl⟩ : ∃ x, x = w' := ⟨_, rfl⟩; obtain ⟨hxB, rfl⟩ : ∃ x, x = hx := ⟨_, rfl⟩)) | (have hA := hcc; obtain ⟨xA0, xA1, xA2, xA3, xA4, xA5, xA6, xA7, xA8, _⟩ := hcc; (obtain ⟨gA, rfl⟩ : ∃ x, x = gb := ⟨_, rfl⟩; obtain ⟨wA, rfl⟩ : ∃ x, x = w' := ⟨_, rfl⟩; obtain ⟨hxA, rfl⟩ : ∃ x, x = hx := ⟨_, rfl⟩))))
      | (apply WL.eqStr tOk; exact rfl; exact rfl; exact rfl; exact rfl; exact rfl; exact rfl)
      | (apply WL.gT; exact rfl; exact rfl; (focus (first | exact dec_true e0 | exact dec_true e1 | exact dec_false e2; done)))
      | (apply WL.gF; exact rfl; exact rfl; (focus (first | exact dec_true e0 | exact dec_true e1 | exact dec_false e2; done)))
      | ((show WL _ _ _ (⟨_, .call ⟨.value (.func 158), _, _⟩, _, _, _, _⟩ :: _) _ _ _); apply WL.callS; exact rfl; exact rfl; exact rfl; exact rfl; exact eq_I _ _ _ _ _ _ _ (hCa.ins.row.ext (by (exact extA))) (hCb.ins.row.ext (by (exact extA))))
      | (show WL _ _ _ _ _ _ _; first | apply WL.nil | (refine WL.au (k := ?_)) | (apply WL.guardF; exact rfl; exact rfl))
      | (show Z _ _ _ _ _; apply Z.then_normal)
      | (show W _ _ _ _ _ _; first | apply W.seq | apply W.region | apply W.ret))
    exact Z.body1 Try.results121 rfl fun m => ⟨congrArg Value.bool (by rw [dec_false (show ¬ a.t = b.t from fun h => e2 (congrArg CirT.ins h))] <;> exact dec_false e2), Ext.at (by (exact extA)) m⟩
  by_cases e3 : a.lat.2.2 = b.lat.2.2
  rotate_left
  · skip
    refine Spec.of _ Try.func121 rfl Try.ntmps121 (by kernel_rfl) rfl ?_
    repeat' (first
      | (apply WL.box; exact rfl; exact rfl; exact rfl; intro gb w' hb hge hc hx; have hcc := hc; (first | (obtain ⟨h1, h2, h3, _⟩ := hc) | (obtain ⟨h1, h2, _⟩ := hc)); (first | (have h_0 := xA0; clear h_0; have hB := hcc; obtain ⟨xB0, xB1, xB2, xB3, xB4, xB5, xB6, xB7, xB8, _⟩ := hcc; (obtain ⟨gB, rfl⟩ : ∃ x, x = gb := ⟨_, rfl⟩; obtain ⟨wB, rfl⟩ : ∃ x, x = w' := ⟨_, rfl⟩; obtain ⟨hxB, rfl⟩ : ∃ x, x = hx := ⟨_, rfl⟩)) | (have hA := hcc; obtain ⟨xA0, xA1, xA2, xA3, xA4, xA5, xA6, xA7, xA8, _⟩ := hcc; (obtain ⟨gA, rfl⟩ : ∃ x, x = gb := ⟨_, rfl⟩; obtain ⟨wA, rfl⟩ : ∃ x, x = w' := ⟨_, rfl⟩; obtain ⟨hxA, rfl⟩ : ∃ x, x = hx := ⟨_, rfl⟩))))
      | (apply WL.eqStr tOk; exact rfl; exact rfl; exact rfl; exact rfl; exact rfl; exact rfl)
      | (apply WL.gT; exact rfl; exact rfl; (focus (first | exact dec_true e0 | exact dec_true e1 | exact dec_true e2 | exact dec_false e3; done)))
      | (apply WL.gF; exact rfl; exact rfl; (focus (first | exact dec_true e0 | exact dec_true e1 | exact dec_true e2 | exact dec_false e3; done)))
      | ((show WL _ _ _ (⟨_, .call ⟨.value (.func 158), _, _⟩, _, _, _, _⟩ :: _) _ _ _); apply WL.callS; exact rfl; exact rfl; exact rfl; exact rfl; exact eq_I _ _ _ _ _ _ _ (hCa.ins.row.ext (by (exact extA))) (hCb.ins.row.ext (by (exact extA))))
      | ((show WL _ _ _ (⟨_, .call ⟨.value (.func 159), _, _⟩, _, _, _, _⟩ :: _) _ _ _); apply WL.callS; exact rfl; exact rfl; exact rfl; exact rfl; exact eq_L _ _ _ _ _ _ _ (hCa.lat.row.ext (by (exact extA))) (hCb.lat.row.ext (by (exact extA))))
      | (show WL _ _ _ _ _ _ _; first | apply WL.nil | (refine WL.au (k := ?_)) | (apply WL.guardF; exact rfl; exact rfl))
      | (show Z _ _ _ _ _; apply Z.then_normal)
      | (show W _ _ _ _ _ _; first | apply W.seq | apply W.region | apply W.ret))
    exact Z.body1 Try.results121 rfl fun m => ⟨congrArg Value.bool (by rw [dec_false (show ¬ a.t = b.t from fun h => e3 (congrArg CirT.lat h))] <;> exact dec_false e3), Ext.at (by (exact extA)) m⟩
  by_cases e4 : a.outs.2.2 = b.outs.2.2
  rotate_left
  · skip
    refine Spec.of _ Try.func121 rfl Try.ntmps121 (by kernel_rfl) rfl ?_
    repeat' (first
      | (apply WL.box; exact rfl; exact rfl; exact rfl; intro gb w' hb hge hc hx; have hcc := hc; (first | (obtain ⟨h1, h2, h3, _⟩ := hc) | (obtain ⟨h1, h2, _⟩ := hc)); (first | (have h_0 := xA0; clear h_0; have hB := hcc; obtain ⟨xB0, xB1, xB2, xB3, xB4, xB5, xB6, xB7, xB8, _⟩ := hcc; (obtain ⟨gB, rfl⟩ : ∃ x, x = gb := ⟨_, rfl⟩; obtain ⟨wB, rfl⟩ : ∃ x, x = w' := ⟨_, rfl⟩; obtain ⟨hxB, rfl⟩ : ∃ x, x = hx := ⟨_, rfl⟩)) | (have hA := hcc; obtain ⟨xA0, xA1, xA2, xA3, xA4, xA5, xA6, xA7, xA8, _⟩ := hcc; (obtain ⟨gA, rfl⟩ : ∃ x, x = gb := ⟨_, rfl⟩; obtain ⟨wA, rfl⟩ : ∃ x, x = w' := ⟨_, rfl⟩; obtain ⟨hxA, rfl⟩ : ∃ x, x = hx := ⟨_, rfl⟩))))
      | (apply WL.eqStr tOk; exact rfl; exact rfl; exact rfl; exact rfl; exact rfl; exact rfl)
      | (apply WL.gT; exact rfl; exact rfl; (focus (first | exact dec_true e0 | exact dec_true e1 | exact dec_true e2 | exact dec_true e3 | exact dec_false e4; done)))
      | (apply WL.gF; exact rfl; exact rfl; (focus (first | exact dec_true e0 | exact dec_true e1 | exact dec_true e2 | exact dec_true e3 | exact dec_false e4; done)))
      | ((show WL _ _ _ (⟨_, .call ⟨.value (.func 158), _, _⟩, _, _, _, _⟩ :: _) _ _ _); apply WL.callS; exact rfl; exact rfl; exact rfl; exact rfl; exact eq_I _ _ _ _ _ _ _ (hCa.ins.row.ext (by (exact extA))) (hCb.ins.row.ext (by (exact extA))))
      | ((show WL _ _ _ (⟨_, .call ⟨.value (.func 159), _, _⟩, _, _, _, _⟩ :: _) _ _ _); apply WL.callS; exact rfl; exact rfl; exact rfl; exact rfl; exact eq_L _ _ _ _ _ _ _ (hCa.lat.row.ext (by (exact extA))) (hCb.lat.row.ext (by (exact extA))))
      | ((show WL _ _ _ (⟨_, .call ⟨.value (.func 158), _, _⟩, _, _, _, _⟩ :: _) _ _ _); apply WL.callS; exact rfl; exact rfl; exact rfl; exact rfl; exact eq_I _ _ _ _ _ _ _ (hCa.outs.row.ext (by (exact extA))) (hCb.outs.row.ext (by (exact extA))))
      | (show WL _ _ _ _ _ _ _; first | apply WL.nil | (refine WL.au (k := ?_)) | (apply WL.guardF; exact rfl; exact rfl))
      | (show Z _ _ _ _ _; apply Z.then_normal)
      | (show W _ _ _ _ _ _; first | apply W.seq | apply W.region | apply W.ret))
    exact Z.body1 Try.results121 rfl fun m => ⟨congrArg Value.bool (by rw [dec_false (show ¬ a.t = b.t from fun h => e4 (congrArg CirT.outs h))] <;> exact dec_false e4), Ext.at (by (exact extA)) m⟩
  by_cases e5 : a.bads.2.2 = b.bads.2.2
  rotate_left
  · skip
    refine Spec.of _ Try.func121 rfl Try.ntmps121 (by kernel_rfl) rfl ?_
    repeat' (first
      | (apply WL.box; exact rfl; exact rfl; exact rfl; intro gb w' hb hge hc hx; have hcc := hc; (first | (obtain ⟨h1, h2, h3, _⟩ := hc) | (obtain ⟨h1, h2, _⟩ := hc)); (first | (have h_0 := xA0; clear h_0; have hB := hcc; obtain ⟨xB0, xB1, xB2, xB3, xB4, xB5, xB6, xB7, xB8, _⟩ := hcc; (obtain ⟨gB, rfl⟩ : ∃ x, x = gb := ⟨_, rfl⟩; obtain ⟨wB, rfl⟩ : ∃ x, x = w' := ⟨_, rfl⟩; obtain ⟨hxB, rfl⟩ : ∃ x, x = hx := ⟨_, rfl⟩)) | (have hA := hcc; obtain ⟨xA0, xA1, xA2, xA3, xA4, xA5, xA6, xA7, xA8, _⟩ := hcc; (obtain ⟨gA, rfl⟩ : ∃ x, x = gb := ⟨_, rfl⟩; obtain ⟨wA, rfl⟩ : ∃ x, x = w' := ⟨_, rfl⟩; obtain ⟨hxA, rfl⟩ : ∃ x, x = hx := ⟨_, rfl⟩))))
      | (apply WL.eqStr tOk; exact rfl; exact rfl; exact rfl; exact rfl; exact rfl; exact rfl)
      | (apply WL.gT; exact rfl; exact rfl; (focus (first | exact dec_true e0 | exact dec_true e1 | exact dec_true e2 | exact dec_true e3 | exact dec_true e4 | exact dec_false e5; done)))
      | (apply WL.gF; exact rfl; exact rfl; (focus (first | exact dec_true e0 | exact dec_true e1 | exact dec_true e2 | exact dec_true e3 | exact dec_true e4 | exact dec_false e5; done)))
      | ((show WL _ _ _ (⟨_, .call ⟨.value (.func 158), _, _⟩, _, _, _, _⟩ :: _) _ _ _); apply WL.callS; exact rfl; exact rfl; exact rfl; exact rfl; exact eq_I _ _ _ _ _ _ _ (hCa.ins.row.ext (by (exact extA))) (hCb.ins.row.ext (by (exact extA))))
      | ((show WL _ _ _ (⟨_, .call ⟨.value (.func 159), _, _⟩, _, _, _, _⟩ :: _) _ _ _); apply WL.callS; exact rfl; exact rfl; exact rfl; exact rfl; exact eq_L _ _ _ _ _ _ _ (hCa.lat.row.ext (by (exact extA))) (hCb.lat.row.ext (by (exact extA))))
      | ((show WL _ _ _ (⟨_, .call ⟨.value (.func 158), _, _⟩, _, _, _, _⟩ :: _) _ _ _); apply WL.callS; exact rfl; exact rfl; exact rfl; exact rfl; exact eq_I _ _ _ _ _ _ _ (hCa.outs.row.ext (by (exact extA))) (hCb.outs.row.ext (by (exact extA))))
      | ((show WL _ _ _ (⟨_, .call ⟨.value (.func 158), _, _⟩, _, _, _, _⟩ :: _) _ _ _); apply WL.callS; exact rfl; exact rfl; exact rfl; exact rfl; exact eq_I _ _ _ _ _ _ _ (hCa.bads.row.ext (by (exact extA))) (hCb.bads.row.ext (by (exact extA))))
      | (show WL _ _ _ _ _ _ _; first | apply WL.nil | (refine WL.au (k := ?_)) | (apply WL.guardF; exact rfl; exact rfl))
      | (show Z _ _ _ _ _; apply Z.then_normal)
      | (show W _ _ _ _ _ _; first | apply W.seq | apply W.region | apply W.ret))
    exact Z.body1 Try.results121 rfl fun m => ⟨congrArg Value.bool (by rw [dec_false (show ¬ a.t = b.t from fun h => e5 (congrArg CirT.bads h))] <;> exact dec_false e5), Ext.at (by (exact extA)) m⟩
  by_cases e6 : a.cons.2.2 = b.cons.2.2
  rotate_left
  · skip
    refine Spec.of _ Try.func121 rfl Try.ntmps121 (by kernel_rfl) rfl ?_
    repeat' (first
      | (apply WL.box; exact rfl; exact rfl; exact rfl; intro gb w' hb hge hc hx; have hcc := hc; (first | (obtain ⟨h1, h2, h3, _⟩ := hc) | (obtain ⟨h1, h2, _⟩ := hc)); (first | (have h_0 := xA0; clear h_0; have hB := hcc; obtain ⟨xB0, xB1, xB2, xB3, xB4, xB5, xB6, xB7, xB8, _⟩ := hcc; (obtain ⟨gB, rfl⟩ : ∃ x, x = gb := ⟨_, rfl⟩; obtain ⟨wB, rfl⟩ : ∃ x, x = w' := ⟨_, rfl⟩; obtain ⟨hxB, rfl⟩ : ∃ x, x = hx := ⟨_, rfl⟩)) | (have hA := hcc; obtain ⟨xA0, xA1, xA2, xA3, xA4, xA5, xA6, xA7, xA8, _⟩ := hcc; (obtain ⟨gA, rfl⟩ : ∃ x, x = gb := ⟨_, rfl⟩; obtain ⟨wA, rfl⟩ : ∃ x, x = w' := ⟨_, rfl⟩; obtain ⟨hxA, rfl⟩ : ∃ x, x = hx := ⟨_, rfl⟩))))
      | (apply WL.eqStr tOk; exact rfl; exact rfl; exact rfl; exact rfl; exact rfl; exact rfl)
      | (apply WL.gT; exact rfl; exact rfl; (focus (first | exact dec_true e0 | exact dec_true e1 | exact dec_true e2 | exact dec_true e3 | exact dec_true e4 | exact dec_true e5 | exact dec_false e6; done)))
      | (apply WL.gF; exact rfl; exact rfl; (focus (first | exact dec_true e0 | exact dec_true e1 | exact dec_true e2 | exact dec_true e3 | exact dec_true e4 | exact dec_true e5 | exact dec_false e6; done)))
      | ((show WL _ _ _ (⟨_, .call ⟨.value (.func 158), _, _⟩, _, _, _, _⟩ :: _) _ _ _); apply WL.callS; exact rfl; exact rfl; exact rfl; exact rfl; exact eq_I _ _ _ _ _ _ _ (hCa.ins.row.ext (by (exact extA))) (hCb.ins.row.ext (by (exact extA))))
      | ((show WL _ _ _ (⟨_, .call ⟨.value (.func 159), _, _⟩, _, _, _, _⟩ :: _) _ _ _); apply WL.callS; exact rfl; exact rfl; exact rfl; exact rfl; exact eq_L _ _ _ _ _ _ _ (hCa.lat.row.ext (by (exact extA))) (hCb.lat.row.ext (by (exact extA))))
      | ((show WL _ _ _ (⟨_, .call ⟨.value (.func 158), _, _⟩, _, _, _, _⟩ :: _) _ _ _); apply WL.callS; exact rfl; exact rfl; exact rfl; exact rfl; exact eq_I _ _ _ _ _ _ _ (hCa.outs.row.ext (by (exact extA))) (hCb.outs.row.ext (by (exact extA))))
      | ((show WL _ _ _ (⟨_, .call ⟨.value (.func 158), _, _⟩, _, _, _, _⟩ :: _) _ _ _); apply WL.callS; exact rfl; exact rfl; exact rfl; exact rfl; exact eq_I _ _ _ _ _ _ _ (hCa.bads.row.ext (by (exact extA))) (hCb.bads.row.ext (by (exact extA))))
      | ((show WL _ _ _ (⟨_, .call ⟨.value (.func 158), _, _⟩, _, _, _, _⟩ :: _) _ _ _); apply WL.callS; exact rfl; exact rfl; exact rfl; exact rfl; exact eq_I _ _ _ _ _ _ _ (hCa.cons.row.ext (by (exact extA))) (hCb.cons.row.ext (by (exact extA))))
      | (show WL _ _ _ _ _ _ _; first | apply WL.nil | (refine WL.au (k := ?_)) | (apply WL.guardF; exact rfl; exact rfl))
      | (show Z _ _ _ _ _; apply Z.then_normal)
      | (show W _ _ _ _ _ _; first | apply W.seq | apply W.region | apply W.ret))
    exact Z.body1 Try.results121 rfl fun m => ⟨congrArg Value.bool (by rw [dec_false (show ¬ a.t = b.t from fun h => e6 (congrArg CirT.cons h))] <;> exact dec_false e6), Ext.at (by (exact extA)) m⟩
  by_cases e7 : a.gates.2.2 = b.gates.2.2
  rotate_left
  · skip
    refine Spec.of _ Try.func121 rfl Try.ntmps121 (by kernel_rfl) rfl ?_
    repeat' (first
      | (apply WL.box; exact rfl; exact rfl; exact rfl; intro gb w' hb hge hc hx; have hcc := hc; (first | (obtain ⟨h1, h2, h3, _⟩ := hc) | (obtain ⟨h1, h2, _⟩ := hc)); (first | (have h_0 := xA0; clear h_0; have hB := hcc; obtain ⟨xB0, xB1, xB2, xB3, xB4, xB5, xB6, xB7, xB8, _⟩ := hcc; (obtain ⟨gB, rfl⟩ : ∃ x, x = gb := ⟨_, rfl⟩; obtain ⟨wB, rfl⟩ : ∃ x, x = w' := ⟨_, rfl⟩; obtain ⟨hxB, rfl⟩ : ∃ x, x = hx := ⟨_, rfl⟩)) | (have hA := hcc; obtain ⟨xA0, xA1, xA2, xA3, xA4, xA5, xA6, xA7, xA8, _⟩ := hcc; (obtain ⟨gA, rfl⟩ : ∃ x, x = gb := ⟨_, rfl⟩; obtain ⟨wA, rfl⟩ : ∃ x, x = w' := ⟨_, rfl⟩; obtain ⟨hxA, rfl⟩ : ∃ x, x = hx := ⟨_, rfl⟩))))
      | (apply WL.eqStr tOk; exact rfl; exact rfl; exact rfl; exact rfl; exact rfl; exact rfl)
      | (apply WL.gT; exact rfl; exact rfl; (focus (first | exact dec_true e0 | exact dec_true e1 | exact dec_true e2 | exact dec_true e3 | exact dec_true e4 | exact dec_true e5 | exact dec_true e6 | exact dec_false e7; done)))
      | (apply WL.gF; exact rfl; exact rfl; (focus (first | exact dec_true e0 | exact dec_true e1 | exact dec_true e2 | exact dec_true e3 | exact dec_true e4 | exact dec_true e5 | exact dec_true e6 | exact dec_false e7; done)))
      | ((show WL _ _ _ (⟨_, .call ⟨.value (.func 158), _, _⟩, _, _, _, _⟩ :: _) _ _ _); apply WL.callS; exact rfl; exact rfl; exact rfl; exact rfl; exact eq_I _ _ _ _ _ _ _ (hCa.ins.row.ext (by (exact extA))) (hCb.ins.row.ext (by (exact extA))))
      | ((show WL _ _ _ (⟨_, .call ⟨.value (.func 159), _, _⟩, _, _, _, _⟩ :: _) _ _ _); apply WL.callS; exact rfl; exact rfl; exact rfl; exact rfl; exact eq_L _ _ _ _ _ _ _ (hCa.lat.row.ext (by (exact extA))) (hCb.lat.row.ext (by (exact extA))))
      | ((show WL _ _ _ (⟨_, .call ⟨.value (.func 158), _, _⟩, _, _, _, _⟩ :: _) _ _ _); apply WL.callS; exact rfl; exact rfl; exact rfl; exact rfl; exact eq_I _ _ _ _ _ _ _ (hCa.outs.row.ext (by (exact extA))) (hCb.outs.row.ext (by (exact extA))))
      | ((show WL _ _ _ (⟨_, .call ⟨.value (.func 158), _, _⟩, _, _, _, _⟩ :: _) _ _ _); apply WL.callS; exact rfl; exact rfl; exact rfl; exact rfl; exact eq_I _ _ _ _ _ _ _ (hCa.bads.row.ext (by (exact extA))) (hCb.bads.row.ext (by (exact extA))))
      | ((show WL _ _ _ (⟨_, .call ⟨.value (.func 158), _, _⟩, _, _, _, _⟩ :: _) _ _ _); apply WL.callS; exact rfl; exact rfl; exact rfl; exact rfl; exact eq_I _ _ _ _ _ _ _ (hCa.cons.row.ext (by (exact extA))) (hCb.cons.row.ext (by (exact extA))))
      | ((show WL _ _ _ (⟨_, .call ⟨.value (.func 160), _, _⟩, _, _, _, _⟩ :: _) _ _ _); apply WL.callS; exact rfl; exact rfl; exact rfl; exact rfl; exact eq_G _ _ _ _ _ _ _ (hCa.gates.row.ext (by (exact extA))) (hCb.gates.row.ext (by (exact extA))))
      | (show WL _ _ _ _ _ _ _; first | apply WL.nil | (refine WL.au (k := ?_)) | (apply WL.guardF; exact rfl; exact rfl))
      | (show Z _ _ _ _ _; apply Z.then_normal)
      | (show W _ _ _ _ _ _; first | apply W.seq | apply W.region | apply W.ret))
    exact Z.body1 Try.results121 rfl fun m => ⟨congrArg Value.bool (by rw [dec_false (show ¬ a.t = b.t from fun h => e7 (congrArg CirT.gates h))] <;> exact dec_false e7), Ext.at (by (exact extA)) m⟩
  by_cases e8 : a.syms.2.2 = b.syms.2.2
  rotate_left
  · skip
    refine Spec.of _ Try.func121 rfl Try.ntmps121 (by kernel_rfl) rfl ?_
    repeat' (first
      | (apply WL.box; exact rfl; exact rfl; exact rfl; intro gb w' hb hge hc hx; have hcc := hc; (first | (obtain ⟨h1, h2, h3, _⟩ := hc) | (obtain ⟨h1, h2, _⟩ := hc)); (first | (have h_0 := xA0; clear h_0; have hB := hcc; obtain ⟨xB0, xB1, xB2, xB3, xB4, xB5, xB6, xB7, xB8, _⟩ := hcc; (obtain ⟨gB, rfl⟩ : ∃ x, x = gb := ⟨_, rfl⟩; obtain ⟨wB, rfl⟩ : ∃ x, x = w' := ⟨_, rfl⟩; obtain ⟨hxB, rfl⟩ : ∃ x, x = hx := ⟨_, rfl⟩)) | (have hA := hcc; obtain ⟨xA0, xA1, xA2, xA3, xA4, xA5, xA6, xA7, xA8, _⟩ := hcc; (obtain ⟨gA, rfl⟩ : ∃ x, x = gb := ⟨_, rfl⟩; obtain ⟨wA, rfl⟩ : ∃ x, x = w' := ⟨_, rfl⟩; obtain ⟨hxA, rfl⟩ : ∃ x, x = hx := ⟨_, rfl⟩))))
      | (apply WL.eqStr tOk; exact rfl; exact rfl; exact rfl; exact rfl; exact rfl; exact rfl)
      | (apply WL.gT; exact rfl; exact rfl; (focus (first | exact dec_true e0 | exact dec_true e1 | exact dec_true e2 | exact dec_true e3 | exact dec_true e4 | exact dec_true e5 | exact dec_true e6 | exact dec_true e7 | exact dec_false e8; done)))
      | ((show WL _ _ _ (⟨_, .call ⟨.value (.func 158), _, _⟩, _, _, _, _⟩ :: _) _ _ _); apply WL.callS; exact rfl; exact rfl; exact rfl; exact rfl; exact eq_I _ _ _ _ _ _ _ (hCa.ins.row.ext (by (exact extA))) (hCb.ins.row.ext (by (exact extA))))
      | ((show WL _ _ _ (⟨_, .call ⟨.value (.func 159), _, _⟩, _, _, _, _⟩ :: _) _ _ _); apply WL.callS; exact rfl; exact rfl; exact rfl; exact rfl; exact eq_L _ _ _ _ _ _ _ (hCa.lat.row.ext (by (exact extA))) (hCb.lat.row.ext (by (exact extA))))
      | ((show WL _ _ _ (⟨_, .call ⟨.value (.func 158), _, _⟩, _, _, _, _⟩ :: _) _ _ _); apply WL.callS; exact rfl; exact rfl; exact rfl; exact rfl; exact eq_I _ _ _ _ _ _ _ (hCa.outs.row.ext (by (exact extA))) (hCb.outs.row.ext (by (exact extA))))
      | ((show WL _ _ _ (⟨_, .call ⟨.value (.func 158), _, _⟩, _, _, _, _⟩ :: _) _ _ _); apply WL.callS; exact rfl; exact rfl; exact rfl; exact rfl; exact eq_I _ _ _ _ _ _ _ (hCa.bads.row.ext (by (exact extA))) (hCb.bads.row.ext (by (exact extA))))
      | ((show WL _ _ _ (⟨_, .call ⟨.value (.func 158), _, _⟩, _, _, _, _⟩ :: _) _ _ _); apply WL.callS; exact rfl; exact rfl; exact rfl; exact rfl; exact eq_I _ _ _ _ _ _ _ (hCa.cons.row.ext (by (exact extA))) (hCb.cons.row.ext (by (exact extA))))
      | ((show WL _ _ _ (⟨_, .call ⟨.value (.func 160), _, _⟩, _, _, _, _⟩ :: _) _ _ _); apply WL.callS; exact rfl; exact rfl; exact rfl; exact rfl; exact eq_G _ _ _ _ _ _ _ (hCa.gates.row.ext (by (exact extA))) (hCb.gates.row.ext (by (exact extA))))
      | ((show WL _ _ _ (⟨_, .call ⟨.value (.func 161), _, _⟩, _, _, _, _⟩ :: _) _ _ _); apply WL.callS; exact rfl; exact rfl; exact rfl; exact rfl; exact eq_Y _ _ _ _ _ _ _ (hCa.syms.row.ext (by (exact extA))) (hCb.syms.row.ext (by (exact extA))))
      | (show WL _ _ _ _ _ _ _; first | apply WL.nil | (refine WL.au (k := ?_)))
      | (show Z _ _ _ _ _; apply Z.then_normal)
      | (show W _ _ _ _ _ _; first | apply W.seq | apply W.region | apply W.ret))
    exact Z.body1 Try.results121 rfl fun m => ⟨congrArg Value.bool (by rw [dec_false (show ¬ a.t = b.t from fun h => e8 (congrArg CirT.syms h))] <;> exact dec_false e8), Ext.at (by (exact extA)) m⟩
  refine Spec.of _ Try.func121 rfl Try.ntmps121 (by kernel_rfl) rfl ?_
  repeat' (first
    | (apply WL.box; exact rfl; exact rfl; exact rfl; intro gb w' hb hge hc hx; have hcc := hc; (first | (obtain ⟨h1, h2, h3, _⟩ := hc) | (obtain ⟨h1, h2, _⟩ := hc)); (first | (have h_0 := xA0; clear h_0; have hB := hcc; obtain ⟨xB0, xB1, xB2, xB3, xB4, xB5, xB6, xB7, xB8, _⟩ := hcc; (obtain ⟨gB, rfl⟩ : ∃ x, x = gb := ⟨_, rfl⟩; obtain ⟨wB, rfl⟩ : ∃ x, x = w' := ⟨_, rfl⟩; obtain ⟨hxB, rfl⟩ : ∃ x, x = hx := ⟨_, rfl⟩)) | (have hA := hcc; obtain ⟨xA0, xA1, xA2, xA3, xA4, xA5, xA6, xA7, xA8, _⟩ := hcc; (obtain ⟨gA, rfl⟩ : ∃ x, x = gb := ⟨_, rfl⟩; obtain ⟨wA, rfl⟩ : ∃ x, x = w' := ⟨_, rfl⟩; obtain ⟨hxA, rfl⟩ : ∃ x, x = hx := ⟨_, rfl⟩))))
    | (apply WL.eqStr tOk; exact rfl; exact rfl; exact rfl; exact rfl; exact rfl; exact rfl)
    | (apply WL.gT; exact rfl; exact rfl; (focus (first | exact dec_true e0 | exact dec_true e1 | exact dec_true e2 | exact dec_true e3 | exact dec_true e4 | exact dec_true e5 | exact dec_true e6 | exact dec_true e7 | exact dec_true e8; done)))
    | ((show WL _ _ _ (⟨_, .call ⟨.value (.func 158), _, _⟩, _, _, _, _⟩ :: _) _ _ _); apply WL.callS; exact rfl; exact rfl; exact rfl; exact rfl; exact eq_I _ _ _ _ _ _ _ (hCa.ins.row.ext (by (exact extA))) (hCb.ins.row.ext (by (exact extA))))
    | ((show WL _ _ _ (⟨_, .call ⟨.value (.func 159), _, _⟩, _, _, _, _⟩ :: _) _ _ _); apply WL.callS; exact rfl; exact rfl; exact rfl; exact rfl; exact eq_L _ _ _ _ _ _ _ (hCa.lat.row.ext (by (exact extA))) (hCb.lat.row.ext (by (exact extA))))
    | ((show WL _ _ _ (⟨_, .call ⟨.value (.func 158), _, _⟩, _, _, _, _⟩ :: _) _ _ _); apply WL.callS; exact rfl; exact rfl; exact rfl; exact rfl; exact eq_I _ _ _ _ _ _ _ (hCa.outs.row.ext (by (exact extA))) (hCb.outs.row.ext (by (exact extA))))
    | ((show WL _ _ _ (⟨_, .call ⟨.value (.func 158), _, _⟩, _, _, _, _⟩ :: _) _ _ _); apply WL.callS; exact rfl; exact rfl; exact rfl; exact rfl; exact eq_I _ _ _ _ _ _ _ (hCa.bads.row.ext (by (exact extA))) (hCb.bads.row.ext (by (exact extA))))
    | ((show WL _ _ _ (⟨_, .call ⟨.value (.func 158), _, _⟩, _, _, _, _⟩ :: _) _ _ _); apply WL.callS; exact rfl; exact rfl; exact rfl; exact rfl; exact eq_I _ _ _ _ _ _ _ (hCa.cons.row.ext (by (exact extA))) (hCb.cons.row.ext (by (exact extA))))
    | ((show WL _ _ _ (⟨_, .call ⟨.value (.func 160), _, _⟩, _, _, _, _⟩ :: _) _ _ _); apply WL.callS; exact rfl; exact rfl; exact rfl; exact rfl; exact eq_G _ _ _ _ _ _ _ (hCa.gates.row.ext (by (exact extA))) (hCb.gates.row.ext (by (exact extA))))
    | ((show WL _ _ _ (⟨_, .call ⟨.value (.func 161), _, _⟩, _, _, _, _⟩ :: _) _ _ _); apply WL.callS; exact rfl; exact rfl; exact rfl; exact rfl; exact eq_Y _ _ _ _ _ _ _ (hCa.syms.row.ext (by (exact extA))) (hCb.syms.row.ext (by (exact extA))))
    | (show WL _ _ _ _ _ _ _; first | apply WL.nil | (refine WL.au (k := ?_)))
    | (show Z _ _ _ _ _; apply Z.then_normal)
    | (show W _ _ _ _ _ _; first | apply W.seq | apply W.region | apply W.ret))
  exact Z.body1 Try.results121 rfl fun m => ⟨congrArg Value.bool (by rw [dec_true (show a.t = b.t by unfold Circ.t; rw [e0, e1, e2, e3, e4, e5, e6, e7, e8])] <;> exact dec_true e8), Ext.at (by (exact extA)) m⟩
end Go.Proofs.Ythpnahapiodflaa
namespace Go.Proofs.Ythpnahapiodflaa
open Go Go.Lt Go.RowKit
set_option linter.unusedVariables false
set_option linter.unusedSimpArgs false
set_option maxRecDepth 20000

set_option maxHeartbeats 32000000 in
theorem ref11_Same (a b : Circ) (w : World) (hCa : CAt w a) (hCb : CAt w b) : Pure Try.prog 32 [a.val, b.val] w (.bool (dec (a.t = b.t))) := by
  by_cases e0 : a.max = b.max
  rotate_left
  · skip
    refine Spec.of _ Try.func32 rfl Try.ntmps32 (by kernel_rfl) rfl ?_
    repeat' (first
      | (apply WL.box; exact rfl; exact rfl; exact rfl; intro gb w' hb hge hc hx; have hcc := hc; (first | (obtain ⟨h1, h2, h3, _⟩ := hc) | (obtain ⟨h1, h2, _⟩ := hc)); (first | (have h_0 := xA0; clear h_0; have hB := hcc; obtain ⟨xB0, xB1, xB2, xB3, xB4, xB5, xB6, xB7, xB8, _⟩ := hcc; (obtain ⟨gB, rfl⟩ : ∃ x, x = gb := ⟨_, rfl⟩; obtain ⟨wB, rfl⟩ : ∃ x, x = w' := ⟨_, rfl⟩; obtain ⟨hxB, rfl⟩ : ∃ x, x = hx := ⟨_, rfl⟩)) | (have hA := hcc; obtain ⟨xA0, xA1, xA2, xA3, xA4, xA5, xA6, xA7, xA8, _⟩ := hcc; (obtain ⟨gA, rfl⟩ : ∃ x, x = gb := ⟨_, rfl⟩; obtain ⟨wA, rfl⟩ : ∃ x, x = w' := ⟨_, rfl⟩; obtain ⟨hxA, rfl⟩ : ∃ x, x = hx := ⟨_, rfl⟩))))
      | (apply WL.gT; exact rfl; exact rfl; (focus (first | exact dec_true e0; done)))
      | (show WL _ _ _ _ _ _ _; first | apply WL.nil | (refine WL.au (k := ?_)) | (apply WL.guardF; exact rfl; exact rfl))
      | (show Z _ _ _ _ _; first | apply Z.then_normal | apply Z.then_ret)
      | (show W _ _ _ _ _ _; first | apply W.seq | apply W.region | apply W.ret | (apply W.condT; exact rfl)))
    exact Z.body1 Try.results32 rfl fun m => ⟨congrArg Value.bool (dec_false (show ¬ a.t = b.t from fun h => e0 (congrArg CirT.max h))).symm, Ext.at (by (exact extA)) m⟩
  by_cases e1 : a.com = b.com
  rotate_left
  · skip
    refine Spec.of _ Try.func32 rfl Try.ntmps32 (by kernel_rfl) rfl ?_
    repeat' (first
      | (apply WL.box; exact rfl; exact rfl; exact rfl; intro gb w' hb hge hc hx; have hcc := hc; (first | (obtain ⟨h1, h2, h3, _⟩ := hc) | (obtain ⟨h1, h2, _⟩ := hc)); (first | (have h_0 := xA0; clear h_0; have hB := hcc; obtain ⟨xB0, xB1, xB2, xB3, xB4, xB5, xB6, xB7, xB8, _⟩ := hcc; (obtain ⟨gB, rfl⟩ : ∃ x, x = gb := ⟨_, rfl⟩; obtain ⟨wB, rfl⟩ : ∃ x, x = w' := ⟨_, rfl⟩; obtain ⟨hxB, rfl⟩ : ∃ x, x = hx := ⟨_, rfl⟩)) | (have hA := hcc; obtain ⟨xA0, xA1, xA2, xA3, xA4, xA5, xA6, xA7, xA8, _⟩ := hcc; (obtain ⟨gA, rfl⟩ : ∃ x, x = gb := ⟨_, rfl⟩; obtain ⟨wA, rfl⟩ : ∃ x, x = w' := ⟨_, rfl⟩; obtain ⟨hxA, rfl⟩ : ∃ x, x = hx := ⟨_, rfl⟩))))
      | (apply WL.neStr tOk; exact rfl; exact rfl; exact rfl; exact rfl; exact rfl; exact rfl)
      | (apply WL.gT; exact rfl; exact rfl; (focus (first | exact dec_false (fun h => h e0) | exact dec_true e1; done)))
      | (apply WL.gF; exact rfl; exact rfl; (focus (first | exact dec_false (fun h => h e0) | exact dec_true e1; done)))
      | (show WL _ _ _ _ _ _ _; first | apply WL.nil | (refine WL.au (k := ?_)) | (apply WL.guardF; exact rfl; exact rfl))
      | (show Z _ _ _ _ _; first | apply Z.then_normal | apply Z.then_ret)
      | (show W _ _ _ _ _ _; first | apply W.seq | apply W.region | apply W.ret | (apply W.condT; exact rfl)))
    exact Z.body1 Try.results32 rfl fun m => ⟨congrArg Value.bool (dec_false (show ¬ a.t = b.t from fun h => e1 (congrArg CirT.com h))).symm, Ext.at (by (exact extA)) m⟩
  by_cases e2 : a.ins.2.2 = b.ins.2.2
  rotate_left
  · skip
    refine Spec.of _ Try.func32 rfl Try.ntmps32 (by kernel_rfl) rfl ?_
    repeat' (first
      | (apply WL.box; exact rfl; exact rfl; exact rfl; intro gb w' hb hge hc hx; have hcc := hc; (first | (obtain ⟨h1, h2, h3, _⟩ := hc) | (obtain ⟨h1, h2, _⟩ := hc)); (first | (have h_0 := xA0; clear h_0; have hB := hcc; obtain ⟨xB0, xB1, xB2, xB3, xB4, xB5, xB6, xB7, xB8, _⟩ := hcc; (obtain ⟨gB, rfl⟩ : ∃ x, x = gb := ⟨_, rfl⟩; obtain ⟨wB, rfl⟩ : ∃ x, x = w' := ⟨_, rfl⟩; obtain ⟨hxB, rfl⟩ : ∃ x, x = hx := ⟨_, rfl⟩)) | (have hA := hcc; obtain ⟨xA0, xA1, xA2, xA3, xA4, xA5, xA6, xA7, xA8, _⟩ := hcc; (obtain ⟨gA, rfl⟩ : ∃ x, x = gb := ⟨_, rfl⟩; obtain ⟨wA, rfl⟩ : ∃ x, x = w' := ⟨_, rfl⟩; obtain ⟨hxA, rfl⟩ : ∃ x, x = hx := ⟨_, rfl⟩))))
      | (apply WL.neStr tOk; exact rfl; exact rfl; exact rfl; exact rfl; exact rfl; exact rfl)
      | (apply WL.gT; exact rfl; exact rfl; (focus (first | exact dec_false (fun h => h e0) | exact dec_false (fun h => h e1) | (rw [dec_false e2]; rfl); done)))
      | (apply WL.gF; exact rfl; exact rfl; (focus (first | exact dec_false (fun h => h e0) | exact dec_false (fun h => h e1) | (rw [dec_false e2]; rfl); done)))
      | ((show WL _ _ _ (⟨_, .call ⟨.value (.func 33), _, _⟩, _, _, _, _⟩ :: _) _ _ _); apply WL.callS; exact rfl; exact rfl; exact rfl; exact rfl; exact ref_Ints _ _ _ _ _ _ _ (hCa.ins.row.ext (by (exact extA))) (hCb.ins.row.ext (by (exact extA))))
      | (show WL _ _ _ _ _ _ _; first | apply WL.nil | (refine WL.au (k := ?_)) | (apply WL.guardF; exact rfl; exact rfl))
      | (show Z _ _ _ _ _; first | apply Z.then_normal | apply Z.then_ret)
      | (show W _ _ _ _ _ _; first | apply W.seq | apply W.region | apply W.ret | (apply W.condT; exact rfl)))
    exact Z.body1 Try.results32 rfl fun m => ⟨congrArg Value.bool (dec_false (show ¬ a.t = b.t from fun h => e2 (congrArg CirT.ins h))).symm, Ext.at (by (exact extA)) m⟩
  by_cases e3 : a.outs.2.2 = b.outs.2.2
  rotate_left
  · skip
    refine Spec.of _ Try.func32 rfl Try.ntmps32 (by kernel_rfl) rfl ?_
    repeat' (first
      | (apply WL.box; exact rfl; exact rfl; exact rfl; intro gb w' hb hge hc hx; have hcc := hc; (first | (obtain ⟨h1, h2, h3, _⟩ := hc) | (obtain ⟨h1, h2, _⟩ := hc)); (first | (have h_0 := xA0; clear h_0; have hB := hcc; obtain ⟨xB0, xB1, xB2, xB3, xB4, xB5, xB6, xB7, xB8, _⟩ := hcc; (obtain ⟨gB, rfl⟩ : ∃ x, x = gb := ⟨_, rfl⟩; obtain ⟨wB, rfl⟩ : ∃ x, x = w' := ⟨_, rfl⟩; obtain ⟨hxB, rfl⟩ : ∃ x, x = hx := ⟨_, rfl⟩)) | (have hA := hcc; obtain ⟨xA0, xA1, xA2, xA3, xA4, xA5, xA6, xA7, xA8, _⟩ := hcc; (obtain ⟨gA, rfl⟩ : ∃ x, x = gb := ⟨_, rfl⟩; obtain ⟨wA, rfl⟩ : ∃ x, x = w' := ⟨_, rfl⟩; obtain ⟨hxA, rfl⟩ : ∃ x, x = hx := ⟨_, rfl⟩))))
      | (apply WL.neStr tOk; exact rfl; exact rfl; exact rfl; exact rfl; exact rfl; exact rfl)
      | (apply WL.gT; exact rfl; exact rfl; (focus (first | exact dec_false (fun h => h e0) | exact dec_false (fun h => h e1) | (rw [dec_true e2]; rfl) | (rw [dec_false e3]; rfl); done)))
      | (apply WL.gF; exact rfl; exact rfl; (focus (first | exact dec_false (fun h => h e0) | exact dec_false (fun h => h e1) | (rw [dec_true e2]; rfl) | (rw [dec_false e3]; rfl); done)))
      | ((show WL _ _ _ (⟨_, .call ⟨.value (.func 33), _, _⟩, _, _, _, _⟩ :: _) _ _ _); apply WL.callS; exact rfl; exact rfl; exact rfl; exact rfl; exact ref_Ints _ _ _ _ _ _ _ (hCa.ins.row.ext (by (exact extA))) (hCb.ins.row.ext (by (exact extA))))
      | ((show WL _ _ _ (⟨_, .call ⟨.value (.func 33), _, _⟩, _, _, _, _⟩ :: _) _ _ _); apply WL.callS; exact rfl; exact rfl; exact rfl; exact rfl; exact ref_Ints _ _ _ _ _ _ _ (hCa.outs.row.ext (by (exact extA))) (hCb.outs.row.ext (by (exact extA))))
      | (show WL _ _ _ _ _ _ _; first | apply WL.nil | (refine WL.au (k := ?_)) | (apply WL.guardF; exact rfl; exact rfl))
      | (show Z _ _ _ _ _; first | apply Z.then_normal | apply Z.then_ret)
      | (show W _ _ _ _ _ _; first | apply W.seq | apply W.region | apply W.ret | (apply W.condT; exact rfl)))
    exact Z.body1 Try.results32 rfl fun m => ⟨congrArg Value.bool (dec_false (show ¬ a.t = b.t from fun h => e3 (congrArg CirT.outs h))).symm, Ext.at (by (exact extA)) m⟩
  by_cases e4 : a.bads.2.2 = b.bads.2.2
  rotate_left
  · skip
    refine Spec.of _ Try.func32 rfl Try.ntmps32 (by kernel_rfl) rfl ?_
    repeat' (first
      | (apply WL.box; exact rfl; exact rfl; exact rfl; intro gb w' hb hge hc hx; have hcc := hc; (first | (obtain ⟨h1, h2, h3, _⟩ := hc) | (obtain ⟨h1, h2, _⟩ := hc)); (first | (have h_0 := xA0; clear h_0; have hB := hcc; obtain ⟨xB0, xB1, xB2, xB3, xB4, xB5, xB6, xB7, xB8, _⟩ := hcc; (obtain ⟨gB, rfl⟩ : ∃ x, x = gb := ⟨_, rfl⟩; obtain ⟨wB, rfl⟩ : ∃ x, x = w' := ⟨_, rfl⟩; obtain ⟨hxB, rfl⟩ : ∃ x, x = hx := ⟨_, rfl⟩)) | (have hA := hcc; obtain ⟨xA0, xA1, xA2, xA3, xA4, xA5, xA6, xA7, xA8, _⟩ := hcc; (obtain ⟨gA, rfl⟩ : ∃ x, x = gb := ⟨_, rfl⟩; obtain ⟨wA, rfl⟩ : ∃ x, x = w' := ⟨_, rfl⟩; obtain ⟨hxA, rfl⟩ : ∃ x, x = hx := ⟨_, rfl⟩))))
      | (apply WL.neStr tOk; exact rfl; exact rfl; exact rfl; exact rfl; exact rfl; exact rfl)
      | (apply WL.gT; exact rfl; exact rfl; (focus (first | exact dec_false (fun h => h e0) | exact dec_false (fun h => h e1) | (rw [dec_true e2]; rfl) | (rw [dec_true e3]; rfl) | (rw [dec_false e4]; rfl); done)))
      | (apply WL.gF; exact rfl; exact rfl; (focus (first | exact dec_false (fun h => h e0) | exact dec_false (fun h => h e1) | (rw [dec_true e2]; rfl) | (rw [dec_true e3]; rfl) | (rw [dec_false e4]; rfl); done)))
      | ((show WL _ _ _ (⟨_, .call ⟨.value (.func 33), _, _⟩, _, _, _, _⟩ :: _) _ _ _); apply WL.callS; exact rfl; exact rfl; exact rfl; exact rfl; exact ref_Ints _ _ _ _ _ _ _ (hCa.ins.row.ext (by (exact extA))) (hCb.ins.row.ext (by (exact extA))))
      | ((show WL _ _ _ (⟨_, .call ⟨.value (.func 33), _, _⟩, _, _, _, _⟩ :: _) _ _ _); apply WL.callS; exact rfl; exact rfl; exact rfl; exact rfl; exact ref_Ints _ _ _ _ _ _ _ (hCa.outs.row.ext (by (exact extA))) (hCb.outs.row.ext (by (exact extA))))
      | ((show WL _ _ _ (⟨_, .call ⟨.value (.func 33), _, _⟩, _, _, _, _⟩ :: _) _ _ _); apply WL.callS; exact rfl; exact rfl; exact rfl; exact rfl; exact ref_Ints _ _ _ _ _ _ _ (hCa.bads.row.ext (by (exact extA))) (hCb.bads.row.ext (by (exact extA))))
      | (show WL _ _ _ _ _ _ _; first | apply WL.nil | (refine WL.au (k := ?_)) | (apply WL.guardF; exact rfl; exact rfl))
      | (show Z _ _ _ _ _; first | apply Z.then_normal | apply Z.then_ret)
      | (show W _ _ _ _ _ _; first | apply W.seq | apply W.region | apply W.ret | (apply W.condT; exact rfl)))
    exact Z.body1 Try.results32 rfl fun m => ⟨congrArg Value.bool (dec_false (show ¬ a.t = b.t from fun h => e4 (congrArg CirT.bads h))).symm, Ext.at (by (exact extA)) m⟩
  by_cases e5 : a.cons.2.2 = b.cons.2.2
  rotate_left
  · skip
    refine Spec.of _ Try.func32 rfl Try.ntmps32 (by kernel_rfl) rfl ?_
    repeat' (first
      | (apply WL.box; exact rfl; exact rfl; exact rfl; intro gb w' hb hge hc hx; have hcc := hc; (first | (obtain ⟨h1, h2, h3, _⟩ := hc) | (obtain ⟨h1, h2, _⟩ := hc)); (first | (have h_0 := xA0; clear h_0; have hB := hcc; obtain ⟨xB0, xB1, xB2, xB3, xB4, xB5, xB6, xB7, xB8, _⟩ := hcc; (obtain ⟨gB, rfl⟩ : ∃ x, x = gb := ⟨_, rfl⟩; obtain ⟨wB, rfl⟩ : ∃ x, x = w' := ⟨_, rfl⟩; obtain ⟨hxB, rfl⟩ : ∃ x, x = hx := ⟨_, rfl⟩)) | (have hA := hcc; obtain ⟨xA0, xA1, xA2, xA3, xA4, xA5, xA6, xA7, xA8, _⟩ := hcc; (obtain ⟨gA, rfl⟩ : ∃ x, x = gb := ⟨_, rfl⟩; obtain ⟨wA, rfl⟩ : ∃ x, x = w' := ⟨_, rfl⟩; obtain ⟨hxA, rfl⟩ : ∃ x, x = hx := ⟨_, rfl⟩))))
      | (apply WL.neStr tOk; exact rfl; exact rfl; exact rfl; exact rfl; exact rfl; exact rfl)
      | (apply WL.gF; exact rfl; exact rfl; (focus (first | exact dec_false (fun h => h e0) | exact dec_false (fun h => h e1) | (rw [dec_true e2]; rfl) | (rw [dec_true e3]; rfl) | (rw [dec_true e4]; rfl) | (rw [dec_false e5]; rfl); done)))
      | (apply W.condKT; exact rfl; (focus (first | exact dec_false (fun h => h e0) | exact dec_false (fun h => h e1) | (rw [dec_true e2]; rfl) | (rw [dec_true e3]; rfl) | (rw [dec_true e4]; rfl) | (rw [dec_false e5]; rfl); done)))
      | ((show WL _ _ _ (⟨_, .call ⟨.value (.func 33), _, _⟩, _, _, _, _⟩ :: _) _ _ _); apply WL.callS; exact rfl; exact rfl; exact rfl; exact rfl; exact ref_Ints _ _ _ _ _ _ _ (hCa.ins.row.ext (by (exact extA))) (hCb.ins.row.ext (by (exact extA))))
      | ((show WL _ _ _ (⟨_, .call ⟨.value (.func 33), _, _⟩, _, _, _, _⟩ :: _) _ _ _); apply WL.callS; exact rfl; exact rfl; exact rfl; exact rfl; exact ref_Ints _ _ _ _ _ _ _ (hCa.outs.row.ext (by (exact extA))) (hCb.outs.row.ext (by (exact extA))))
      | ((show WL _ _ _ (⟨_, .call ⟨.value (.func 33), _, _⟩, _, _, _, _⟩ :: _) _ _ _); apply WL.callS; exact rfl; exact rfl; exact rfl; exact rfl; exact ref_Ints _ _ _ _ _ _ _ (hCa.bads.row.ext (by (exact extA))) (hCb.bads.row.ext (by (exact extA))))
      | ((show WL _ _ _ (⟨_, .call ⟨.value (.func 33), _, _⟩, _, _, _, _⟩ :: _) _ _ _); apply WL.callS; exact rfl; exact rfl; exact rfl; exact rfl; exact ref_Ints _ _ _ _ _ _ _ (hCa.cons.row.ext (by (exact extA))) (hCb.cons.row.ext (by (exact extA))))
      | (show WL _ _ _ _ _ _ _; first | apply WL.nil | (refine WL.au (k := ?_)))
      | (show Z _ _ _ _ _; first | apply Z.then_normal | apply Z.then_ret)
      | (show W _ _ _ _ _ _; first | apply W.seq | apply W.region | apply W.ret))
    exact Z.body1 Try.results32 rfl fun m => ⟨congrArg Value.bool (dec_false (show ¬ a.t = b.t from fun h => e5 (congrArg CirT.cons h))).symm, Ext.at (by (exact extA)) m⟩
  by_cases l0 : a.lat.2.2.length = b.lat.2.2.length
  rotate_left
  · skip
    refine Spec.of _ Try.func32 rfl Try.ntmps32 (by kernel_rfl) rfl ?_
    repeat' (first
      | (apply WL.box; exact rfl; exact rfl; exact rfl; intro gb w' hb hge hc hx; have hcc := hc; (first | (obtain ⟨h1, h2, h3, _⟩ := hc) | (obtain ⟨h1, h2, _⟩ := hc)); (first | (have h_0 := xA0; clear h_0; have hB := hcc; obtain ⟨xB0, xB1, xB2, xB3, xB4, xB5, xB6, xB7, xB8, _⟩ := hcc; (obtain ⟨gB, rfl⟩ : ∃ x, x = gb := ⟨_, rfl⟩; obtain ⟨wB, rfl⟩ : ∃ x, x = w' := ⟨_, rfl⟩; obtain ⟨hxB, rfl⟩ : ∃ x, x = hx := ⟨_, rfl⟩)) | (have hA := hcc; obtain ⟨xA0, xA1, xA2, xA3, xA4, xA5, xA6, xA7, xA8, _⟩ := hcc; (obtain ⟨gA, rfl⟩ : ∃ x, x = gb := ⟨_, rfl⟩; obtain ⟨wA, rfl⟩ : ∃ x, x = w' := ⟨_, rfl⟩; obtain ⟨hxA, rfl⟩ : ∃ x, x = hx := ⟨_, rfl⟩))))
      | (apply WL.neStr tOk; exact rfl; exact rfl; exact rfl; exact rfl; exact rfl; exact rfl)
      | (apply WL.gT; exact rfl; exact rfl; (focus (first | exact dec_false (fun h => h e0) | exact dec_false (fun h => h e1) | (rw [dec_true e2]; rfl) | (rw [dec_true e3]; rfl) | (rw [dec_true e4]; rfl) | (rw [dec_true e5]; rfl) | exact dec_true (show ((a.lat.2.2.length : Nat) : Int) ≠ (b.lat.2.2.length : Nat) by omega); done)))
      | (apply WL.gF; exact rfl; exact rfl; (focus (first | exact dec_false (fun h => h e0) | exact dec_false (fun h => h e1) | (rw [dec_true e2]; rfl) | (rw [dec_true e3]; rfl) | (rw [dec_true e4]; rfl) | (rw [dec_true e5]; rfl) | exact dec_true (show ((a.lat.2.2.length : Nat) : Int) ≠ (b.lat.2.2.length : Nat) by omega); done)))
      | (apply W.condKF; exact rfl; (focus (first | exact dec_false (fun h => h e0) | exact dec_false (fun h => h e1) | (rw [dec_true e2]; rfl) | (rw [dec_true e3]; rfl) | (rw [dec_true e4]; rfl) | (rw [dec_true e5]; rfl) | exact dec_true (show ((a.lat.2.2.length : Nat) : Int) ≠ (b.lat.2.2.length : Nat) by omega); done)))
      | ((show WL _ _ _ (⟨_, .call ⟨.value (.func 33), _, _⟩, _, _, _, _⟩ :: _) _ _ _); apply WL.callS; exact rfl; exact rfl; exact rfl; exact rfl; exact ref_Ints _ _ _ _ _ _ _ (hCa.ins.row.ext (by (exact extA))) (hCb.ins.row.ext (by (exact extA))))
      | ((show WL _ _ _ (⟨_, .call ⟨.value (.func 33), _, _⟩, _, _, _, _⟩ :: _) _ _ _); apply WL.callS; exact rfl; exact rfl; exact rfl; exact rfl; exact ref_Ints _ _ _ _ _ _ _ (hCa.outs.row.ext (by (exact extA))) (hCb.outs.row.ext (by (exact extA))))
      | ((show WL _ _ _ (⟨_, .call ⟨.value (.func 33), _, _⟩, _, _, _, _⟩ :: _) _ _ _); apply WL.callS; exact rfl; exact rfl; exact rfl; exact rfl; exact ref_Ints _ _ _ _ _ _ _ (hCa.bads.row.ext (by (exact extA))) (hCb.bads.row.ext (by (exact extA))))
      | ((show WL _ _ _ (⟨_, .call ⟨.value (.func 33), _, _⟩, _, _, _, _⟩ :: _) _ _ _); apply WL.callS; exact rfl; exact rfl; exact rfl; exact rfl; exact ref_Ints _ _ _ _ _ _ _ (hCa.cons.row.ext (by (exact extA))) (hCb.cons.row.ext (by (exact extA))))
      | (show WL _ _ _ _ _ _ _; first | apply WL.nil | (refine WL.au (k := ?_)) | (apply WL.guardF; exact rfl; exact rfl))
      | (show Z _ _ _ _ _; first | apply Z.then_normal | apply Z.then_ret)
      | (show W _ _ _ _ _ _; first | apply W.seq | apply W.region | apply W.skip | apply W.ret | (apply W.condT; exact rfl)))
    exact Z.body1 Try.results32 rfl fun m => ⟨congrArg Value.bool (dec_false (show ¬ a.t = b.t from fun h => l0 (congrArg (fun c : CirT => c.lat.length) h))).symm, Ext.at (by (exact extA)) m⟩
  by_cases l1 : a.gates.2.2.length = b.gates.2.2.length
  rotate_left
  · skip
    refine Spec.of _ Try.func32 rfl Try.ntmps32 (by kernel_rfl) rfl ?_
    repeat' (first
      | (apply WL.box; exact rfl; exact rfl; exact rfl; intro gb w' hb hge hc hx; have hcc := hc; (first | (obtain ⟨h1, h2, h3, _⟩ := hc) | (obtain ⟨h1, h2, _⟩ := hc)); (first | (have h_0 := xA0; clear h_0; have hB := hcc; obtain ⟨xB0, xB1, xB2, xB3, xB4, xB5, xB6, xB7, xB8, _⟩ := hcc; (obtain ⟨gB, rfl⟩ : ∃ x, x = gb := ⟨_, rfl⟩; obtain ⟨wB, rfl⟩ : ∃ x, x = w' := ⟨_, rfl⟩; obtain ⟨hxB, rfl⟩ : ∃ x, x = hx := ⟨_, rfl⟩)) | (have hA := hcc; obtain ⟨xA0, xA1, xA2, xA3, xA4, xA5, xA6, xA7, xA8, _⟩ := hcc; (obtain ⟨gA, rfl⟩ : ∃ x, x = gb := ⟨_, rfl⟩; obtain ⟨wA, rfl⟩ : ∃ x, x = w' := ⟨_, rfl⟩; obtain ⟨hxA, rfl⟩ : ∃ x, x = hx := ⟨_, rfl⟩))))
      | (apply WL.neStr tOk; exact rfl; exact rfl; exact rfl; exact rfl; exact rfl; exact rfl)
      | (apply WL.gT; exact rfl; exact rfl; (focus (first | exact dec_false (fun h => h e0) | exact dec_false (fun h => h e1) | (rw [dec_true e2]; rfl) | (rw [dec_true e3]; rfl) | (rw [dec_true e4]; rfl) | (rw [dec_true e5]; rfl) | exact dec_false (show ¬ ((a.lat.2.2.length : Nat) : Int) ≠ (b.lat.2.2.length : Nat) by omega) | exact dec_true (show ((a.gates.2.2.length : Nat) : Int) ≠ (b.gates.2.2.length : Nat) by omega); done)))
      | (apply WL.gF; exact rfl; exact rfl; (focus (first | exact dec_false (fun h => h e0) | exact dec_false (fun h => h e1) | (rw [dec_true e2]; rfl) | (rw [dec_true e3]; rfl) | (rw [dec_true e4]; rfl) | (rw [dec_true e5]; rfl) | exact dec_false (show ¬ ((a.lat.2.2.length : Nat) : Int) ≠ (b.lat.2.2.length : Nat) by omega) | exact dec_true (show ((a.gates.2.2.length : Nat) : Int) ≠ (b.gates.2.2.length : Nat) by omega); done)))
      | (apply W.condKF; exact rfl; (focus (first | exact dec_false (fun h => h e0) | exact dec_false (fun h => h e1) | (rw [dec_true e2]; rfl) | (rw [dec_true e3]; rfl) | (rw [dec_true e4]; rfl) | (rw [dec_true e5]; rfl) | exact dec_false (show ¬ ((a.lat.2.2.length : Nat) : Int) ≠ (b.lat.2.2.length : Nat) by omega) | exact dec_true (show ((a.gates.2.2.length : Nat) : Int) ≠ (b.gates.2.2.length : Nat) by omega); done)))
      | ((show WL _ _ _ (⟨_, .call ⟨.value (.func 33), _, _⟩, _, _, _, _⟩ :: _) _ _ _); apply WL.callS; exact rfl; exact rfl; exact rfl; exact rfl; exact ref_Ints _ _ _ _ _ _ _ (hCa.ins.row.ext (by (exact extA))) (hCb.ins.row.ext (by (exact extA))))
      | ((show WL _ _ _ (⟨_, .call ⟨.value (.func 33), _, _⟩, _, _, _, _⟩ :: _) _ _ _); apply WL.callS; exact rfl; exact rfl; exact rfl; exact rfl; exact ref_Ints _ _ _ _ _ _ _ (hCa.outs.row.ext (by (exact extA))) (hCb.outs.row.ext (by (exact extA))))
      | ((show WL _ _ _ (⟨_, .call ⟨.value (.func 33), _, _⟩, _, _, _, _⟩ :: _) _ _ _); apply WL.callS; exact rfl; exact rfl; exact rfl; exact rfl; exact ref_Ints _ _ _ _ _ _ _ (hCa.bads.row.ext (by (exact extA))) (hCb.bads.row.ext (by (exact extA))))
      | ((show WL _ _ _ (⟨_, .call ⟨.value (.func 33), _, _⟩, _, _, _, _⟩ :: _) _ _ _); apply WL.callS; exact rfl; exact rfl; exact rfl; exact rfl; exact ref_Ints _ _ _ _ _ _ _ (hCa.cons.row.ext (by (exact extA))) (hCb.cons.row.ext (by (exact extA))))
      | (show WL _ _ _ _ _ _ _; first | apply WL.nil | (refine WL.au (k := ?_)) | (apply WL.guardF; exact rfl; exact rfl))
      | (show Z _ _ _ _ _; first | apply Z.then_normal | apply Z.then_ret)
      | (show W _ _ _ _ _ _; first | apply W.seq | apply W.region | apply W.skip | apply W.ret | (apply W.condT; exact rfl)))
    exact Z.body1 Try.results32 rfl fun m => ⟨congrArg Value.bool (dec_false (show ¬ a.t = b.t from fun h => l1 (congrArg (fun c : CirT => c.gates.length) h))).symm, Ext.at (by (exact extA)) m⟩
  by_cases l2 : a.syms.2.2.length = b.syms.2.2.length
  rotate_left
  · skip
    refine Spec.of _ Try.func32 rfl Try.ntmps32 (by kernel_rfl) rfl ?_
    repeat' (first
      | (apply WL.box; exact rfl; exact rfl; exact rfl; intro gb w' hb hge hc hx; have hcc := hc; (first | (obtain ⟨h1, h2, h3, _⟩ := hc) | (obtain ⟨h1, h2, _⟩ := hc)); (first | (have h_0 := xA0; clear h_0; have hB := hcc; obtain ⟨xB0, xB1, xB2, xB3, xB4, xB5, xB6, xB7, xB8, _⟩ := hcc; (obtain ⟨gB, rfl⟩ : ∃ x, x = gb := ⟨_, rfl⟩; obtain ⟨wB, rfl⟩ : ∃ x, x = w' := ⟨_, rfl⟩; obtain ⟨hxB, rfl⟩ : ∃ x, x = hx := ⟨_, rfl⟩)) | (have hA := hcc; obtain ⟨xA0, xA1, xA2, xA3, xA4, xA5, xA6, xA7, xA8, _⟩ := hcc; (obtain ⟨gA, rfl⟩ : ∃ x, x = gb := ⟨_, rfl⟩; obtain ⟨wA, rfl⟩ : ∃ x, x = w' := ⟨_, rfl⟩; obtain ⟨hxA, rfl⟩ : ∃ x, x = hx := ⟨_, rfl⟩))))
      | (apply WL.neStr tOk; exact rfl; exact rfl; exact rfl; exact rfl; exact rfl; exact rfl)
      | (apply WL.gF; exact rfl; exact rfl; (focus (first | exact dec_false (fun h => h e0) | exact dec_false (fun h => h e1) | (rw [dec_true e2]; rfl) | (rw [dec_true e3]; rfl) | (rw [dec_true e4]; rfl) | (rw [dec_true e5]; rfl) | exact dec_false (show ¬ ((a.lat.2.2.length : Nat) : Int) ≠ (b.lat.2.2.length : Nat) by omega) | exact dec_false (show ¬ ((a.gates.2.2.length : Nat) : Int) ≠ (b.gates.2.2.length : Nat) by omega) | exact dec_true (show ((a.syms.2.2.length : Nat) : Int) ≠ (b.syms.2.2.length : Nat) by omega); done)))
      | (apply W.condKT; exact rfl; (focus (first | exact dec_false (fun h => h e0) | exact dec_false (fun h => h e1) | (rw [dec_true e2]; rfl) | (rw [dec_true e3]; rfl) | (rw [dec_true e4]; rfl) | (rw [dec_true e5]; rfl) | exact dec_false (show ¬ ((a.lat.2.2.length : Nat) : Int) ≠ (b.lat.2.2.length : Nat) by omega) | exact dec_false (show ¬ ((a.gates.2.2.length : Nat) : Int) ≠ (b.gates.2.2.length : Nat) by omega) | exact dec_true (show ((a.syms.2.2.length : Nat) : Int) ≠ (b.syms.2.2.length : Nat) by omega); done)))
      | (apply W.condKF; exact rfl; (focus (first | exact dec_false (fun h => h e0) | exact dec_false (fun h => h e1) | (rw [dec_true e2]; rfl) | (rw [dec_true e3]; rfl) | (rw [dec_true e4]; rfl) | (rw [dec_true e5]; rfl) | exact dec_false (show ¬ ((a.lat.2.2.length : Nat) : Int) ≠ (b.lat.2.2.length : Nat) by omega) | exact dec_false (show ¬ ((a.gates.2.2.length : Nat) : Int) ≠ (b.gates.2.2.length : Nat) by omega) | exact dec_true (show ((a.syms.2.2.length : Nat) : Int) ≠ (b.syms.2.2.length : Nat) by omega); done)))
      | ((show WL _ _ _ (⟨_, .call ⟨.value (.func 33), _, _⟩, _, _, _, _⟩ :: _) _ _ _); apply WL.callS; exact rfl; exact rfl; exact rfl; exact rfl; exact ref_Ints _ _ _ _ _ _ _ (hCa.ins.row.ext (by (exact extA))) (hCb.ins.row.ext (by (exact extA))))
      | ((show WL _ _ _ (⟨_, .call ⟨.value (.func 33), _, _⟩, _, _, _, _⟩ :: _) _ _ _); apply WL.callS; exact rfl; exact rfl; exact rfl; exact rfl; exact ref_Ints _ _ _ _ _ _ _ (hCa.outs.row.ext (by (exact extA))) (hCb.outs.row.ext (by (exact extA))))
      | ((show WL _ _ _ (⟨_, .call ⟨.value (.func 33), _, _⟩, _, _, _, _⟩ :: _) _ _ _); apply WL.callS; exact rfl; exact rfl; exact rfl; exact rfl; exact ref_Ints _ _ _ _ _ _ _ (hCa.bads.row.ext (by (exact extA))) (hCb.bads.row.ext (by (exact extA))))
      | ((show WL _ _ _ (⟨_, .call ⟨.value (.func 33), _, _⟩, _, _, _, _⟩ :: _) _ _ _); apply WL.callS; exact rfl; exact rfl; exact rfl; exact rfl; exact ref_Ints _ _ _ _ _ _ _ (hCa.cons.row.ext (by (exact extA))) (hCb.cons.row.ext (by (exact extA))))
      | (show WL _ _ _ _ _ _ _; first | apply WL.nil | (refine WL.au (k := ?_)))
      | (show Z _ _ _ _ _; first | apply Z.then_normal | apply Z.then_ret)
      | (show W _ _ _ _ _ _; first | apply W.seq | apply W.region | apply W.skip | apply W.ret))
    exact Z.body1 Try.results32 rfl fun m => ⟨congrArg Value.bool (dec_false (show ¬ a.t = b.t from fun h => l2 (congrArg (fun c : CirT => c.syms.length) h))).symm, Ext.at (by (exact extA)) m⟩
  refine Spec.of _ Try.func32 rfl Try.ntmps32 (by kernel_rfl) rfl ?_
  repeat' (first
    | (apply WL.box; exact rfl; exact rfl; exact rfl; intro gb w' hb hge hc hx; have hcc := hc; (first | (obtain ⟨h1, h2, h3, _⟩ := hc) | (obtain ⟨h1, h2, _⟩ := hc)); (first | (have h_0 := xA0; clear h_0; have hB := hcc; obtain ⟨xB0, xB1, xB2, xB3, xB4, xB5, xB6, xB7, xB8, _⟩ := hcc; (obtain ⟨gB, rfl⟩ : ∃ x, x = gb := ⟨_, rfl⟩; obtain ⟨wB, rfl⟩ : ∃ x, x = w' := ⟨_, rfl⟩; obtain ⟨hxB, rfl⟩ : ∃ x, x = hx := ⟨_, rfl⟩)) | (have hA := hcc; obtain ⟨xA0, xA1, xA2, xA3, xA4, xA5, xA6, xA7, xA8, _⟩ := hcc; (obtain ⟨gA, rfl⟩ : ∃ x, x = gb := ⟨_, rfl⟩; obtain ⟨wA, rfl⟩ : ∃ x, x = w' := ⟨_, rfl⟩; obtain ⟨hxA, rfl⟩ : ∃ x, x = hx := ⟨_, rfl⟩))))
    | (apply WL.neStr tOk; exact rfl; exact rfl; exact rfl; exact rfl; exact rfl; exact rfl)
    | (apply WL.gF; exact rfl; exact rfl; (focus (first | exact dec_false (fun h => h e0) | exact dec_false (fun h => h e1) | (rw [dec_true e2]; rfl) | (rw [dec_true e3]; rfl) | (rw [dec_true e4]; rfl) | (rw [dec_true e5]; rfl) | exact dec_false (show ¬ ((a.lat.2.2.length : Nat) : Int) ≠ (b.lat.2.2.length : Nat) by omega) | exact dec_false (show ¬ ((a.gates.2.2.length : Nat) : Int) ≠ (b.gates.2.2.length : Nat) by omega) | exact dec_false (show ¬ ((a.syms.2.2.length : Nat) : Int) ≠ (b.syms.2.2.length : Nat) by omega); done)))
    | (apply W.condKF; exact rfl; (focus (first | exact dec_false (fun h => h e0) | exact dec_false (fun h => h e1) | (rw [dec_true e2]; rfl) | (rw [dec_true e3]; rfl) | (rw [dec_true e4]; rfl) | (rw [dec_true e5]; rfl) | exact dec_false (show ¬ ((a.lat.2.2.length : Nat) : Int) ≠ (b.lat.2.2.length : Nat) by omega) | exact dec_false (show ¬ ((a.gates.2.2.length : Nat) : Int) ≠ (b.gates.2.2.length : Nat) by omega) | exact dec_false (show ¬ ((a.syms.2.2.length : Nat) : Int) ≠ (b.syms.2.2.length : Nat) by omega); done)))
    | ((show WL _ _ _ (⟨_, .call ⟨.value (.func 33), _, _⟩, _, _, _, _⟩ :: _) _ _ _); apply WL.callS; exact rfl; exact rfl; exact rfl; exact rfl; exact ref_Ints _ _ _ _ _ _ _ (hCa.ins.row.ext (by (exact extA))) (hCb.ins.row.ext (by (exact extA))))
    | ((show WL _ _ _ (⟨_, .call ⟨.value (.func 33), _, _⟩, _, _, _, _⟩ :: _) _ _ _); apply WL.callS; exact rfl; exact rfl; exact rfl; exact rfl; exact ref_Ints _ _ _ _ _ _ _ (hCa.outs.row.ext (by (exact extA))) (hCb.outs.row.ext (by (exact extA))))
    | ((show WL _ _ _ (⟨_, .call ⟨.value (.func 33), _, _⟩, _, _, _, _⟩ :: _) _ _ _); apply WL.callS; exact rfl; exact rfl; exact rfl; exact rfl; exact ref_Ints _ _ _ _ _ _ _ (hCa.bads.row.ext (by (exact extA))) (hCb.bads.row.ext (by (exact extA))))
    | ((show WL _ _ _ (⟨_, .call ⟨.value (.func 33), _, _⟩, _, _, _, _⟩ :: _) _ _ _); apply WL.callS; exact rfl; exact rfl; exact rfl; exact rfl; exact ref_Ints _ _ _ _ _ _ _ (hCa.cons.row.ext (by (exact extA))) (hCb.cons.row.ext (by (exact extA))))
    | (show WL _ _ _ _ _ _ _; first | apply WL.nil | (refine WL.au (k := ?_)))
    | (show Z _ _ _ _ _; apply Z.then_normal)
    | (show W _ _ _ _ _ _; first | apply W.seq | apply W.region | apply W.block | apply W.skip))
  have hX : Ext w wB := (by (exact extA))
  have hA' := hA.ext hxB
  have ka2 : wB.cell? ⟨gA, 0 + 1 + 1, none⟩ = some (rowVal a.lat) := hA'.2.2.1
  have ka6 : wB.cell? ⟨gA, 0 + 1 + 1 + 1 + 1 + 1 + 1, none⟩ = some (rowVal a.gates) := hA'.2.2.2.2.2.2.1
  have ka7 : wB.cell? ⟨gA, 0 + 1 + 1 + 1 + 1 + 1 + 1 + 1, none⟩ = some (rowVal a.syms) := hA'.2.2.2.2.2.2.2.1
  have Ra0 := hCa.lat.row.ext hX
  have Rb0 := hCb.lat.row.ext hX
  have hln0 := Ra0.len
  refine W.loop1 a.lat.2.2.length (fun k => k ≤ a.lat.2.2.length ∧ ∀ i, i < k → a.lat.2.2[i]? = b.lat.2.2[i]?) (fun k => [(2, .pointer (some ⟨gA, 0, none⟩)), (3, .pointer (some ⟨gB, 0, none⟩)), (5, .int .i64 k)]) ⟨by omega, fun i hi => by omega⟩ (fun k h => h.1) ⟨rfl, rfl, rfl, trivial⟩ ?_
  rintro k ⟨hk, heq⟩
  by_cases hlt : k < a.lat.2.2.length
  · obtain ⟨x, hx⟩ := getI a.lat.2.2 hlt
    obtain ⟨y, hy⟩ := getI b.lat.2.2 (show k < b.lat.2.2.length by omega)
    by_cases hxy : x = y
    · subst hxy
      repeat' (first
        | (apply W.condKT; exact rfl; (focus (first | exact dec_true (show ((k : Nat) : Int) < (a.lat.2.2.length : Int) by omega) | exact dec_false (fun h => h rfl); done)))
        | (apply W.condKF; exact rfl; (focus (first | exact dec_true (show ((k : Nat) : Int) < (a.lat.2.2.length : Int) by omega) | exact dec_false (fun h => h rfl); done)))
        | (apply QL.neqS tOk; exact rfl; exact rfl; exact rfl; exact rfl; exact rfl; exact rfl; exact rfl; exact factLt)
        | (show WL _ _ _ _ _ _ _; first | apply WL.nil | (refine WL.au (k := ?_)))
        | (show QL _ _ _ _ _ _ _; first | apply QL.nil | (refine QL.au (k := ?_)) | (apply QL.index tOk; exact rfl; exact rfl; exact rfl; exact rfl; exact rfl; exact rfl; exact rfl; exact rfl; assumption; (exact extA); exact rfl; omega; assumption; intro b off h; have hcc := h; first | (obtain ⟨h1, h2, h3, h4, h5, h6, _⟩ := h) | (obtain ⟨h1, h2, h3, _⟩ := h) | (obtain ⟨h1, h2, _⟩ := h) | (obtain ⟨h1, _⟩ := h)))
        | (show Z _ _ _ _ _; first | apply Z.then_normal | apply Z.block_normal)
        | (show W _ _ _ _ _ _; first | apply W.seq | apply W.region | apply W.block | apply W.skip | (apply W.regionD tMix; kernel_rfl)))
      exact Z.again1 ⟨by omega, eq_snoc heq hx hy rfl⟩ ⟨rfl, rfl, rfl, trivial⟩
    · repeat' (first
        | (apply W.condKT; exact rfl; (focus (first | exact dec_true (show ((k : Nat) : Int) < (a.lat.2.2.length : Int) by omega) | exact dec_true (ne_iff enc3_inj hxy); done)))
        | (apply QL.neqS tOk; exact rfl; exact rfl; exact rfl; exact rfl; exact rfl; exact rfl; exact rfl; exact factLt)
        | (show WL _ _ _ _ _ _ _; first | apply WL.nil | (refine WL.au (k := ?_)))
        | (show QL _ _ _ _ _ _ _; first | apply QL.nil | (refine QL.au (k := ?_)) | (apply QL.index tOk; exact rfl; exact rfl; exact rfl; exact rfl; exact rfl; exact rfl; exact rfl; exact rfl; assumption; (exact extA); exact rfl; omega; assumption; intro b off h; have hcc := h; first | (obtain ⟨h1, h2, h3, h4, h5, h6, _⟩ := h) | (obtain ⟨h1, h2, h3, _⟩ := h) | (obtain ⟨h1, h2, _⟩ := h) | (obtain ⟨h1, _⟩ := h)))
        | (show Z _ _ _ _ _; first | apply Z.then_normal | apply Z.then_ret | apply Z.block_ret)
        | (show W _ _ _ _ _ _; first | apply W.seq | apply W.region | apply W.block | apply W.skip | apply W.ret | (apply W.regionD tMix; kernel_rfl)))
      exact Z.body1 Try.results32 rfl fun m => ⟨congrArg Value.bool (dec_false (fun h => ne_at hx hy hxy (congrArg CirT.lat h))).symm, Ext.at (by (exact extA)) m⟩
  have e6 := eq_all heq l0 (by omega)
  repeat' (first
    | (apply W.condKF; exact rfl; (focus (exact dec_false (show ¬ ((k : Nat) : Int) < (a.lat.2.2.length : Int) by omega); done)))
    | (show WL _ _ _ _ _ _ _; first | apply WL.nil | (refine WL.au (k := ?_)))
    | (show Z _ _ _ _ _; first | apply Z.then_normal | apply Z.then_exit | apply Z.block_exit)
    | (show W _ _ _ _ _ _; first | apply W.seq | apply W.region | apply W.block | apply W.exit))
  clear heq hlt hk
  have Ra1 := hCa.gates.row.ext hX
  have Rb1 := hCb.gates.row.ext hX
  have hln1 := Ra1.len
  refine W.loop1 a.gates.2.2.length (fun k => k ≤ a.gates.2.2.length ∧ ∀ i, i < k → a.gates.2.2[i]? = b.gates.2.2[i]?) (fun k => [(2, .pointer (some ⟨gA, 0, none⟩)), (3, .pointer (some ⟨gB, 0, none⟩)), (6, .int .i64 k)]) ⟨by omega, fun i hi => by omega⟩ (fun k h => h.1) ⟨rfl, rfl, rfl, trivial⟩ ?_
  rintro k ⟨hk, heq⟩
  by_cases hlt : k < a.gates.2.2.length
  · obtain ⟨x, hx⟩ := getI a.gates.2.2 hlt
    obtain ⟨y, hy⟩ := getI b.gates.2.2 (show k < b.gates.2.2.length by omega)
    by_cases hxy : x = y
    · subst hxy
      repeat' (first
        | (apply W.condKT; exact rfl; (focus (first | exact dec_true (show ((k : Nat) : Int) < (a.gates.2.2.length : Int) by omega) | exact dec_false (fun h => h rfl); done)))
        | (apply W.condKF; exact rfl; (focus (first | exact dec_true (show ((k : Nat) : Int) < (a.gates.2.2.length : Int) by omega) | exact dec_false (fun h => h rfl); done)))
        | (apply QL.neqS tOk; exact rfl; exact rfl; exact rfl; exact rfl; exact rfl; exact rfl; exact rfl; exact factGt)
        | (show WL _ _ _ _ _ _ _; first | apply WL.nil | (refine WL.au (k := ?_)))
        | (show QL _ _ _ _ _ _ _; first | apply QL.nil | (refine QL.au (k := ?_)) | (apply QL.index tOk; exact rfl; exact rfl; exact rfl; exact rfl; exact rfl; exact rfl; exact rfl; exact rfl; assumption; (exact extA); exact rfl; omega; assumption; intro b off h; have hcc := h; first | (obtain ⟨h1, h2, h3, h4, h5, h6, _⟩ := h) | (obtain ⟨h1, h2, h3, _⟩ := h) | (obtain ⟨h1, h2, _⟩ := h) | (obtain ⟨h1, _⟩ := h)))
        | (show Z _ _ _ _ _; first | apply Z.then_normal | apply Z.block_normal)
        | (show W _ _ _ _ _ _; first | apply W.seq | apply W.region | apply W.block | apply W.skip | (apply W.regionD tMix; kernel_rfl)))
      exact Z.again1 ⟨by omega, eq_snoc heq hx hy rfl⟩ ⟨rfl, rfl, rfl, trivial⟩
    · repeat' (first
        | (apply W.condKT; exact rfl; (focus (first | exact dec_true (show ((k : Nat) : Int) < (a.gates.2.2.length : Int) by omega) | exact dec_true (ne_iff enc3_inj hxy); done)))
        | (apply QL.neqS tOk; exact rfl; exact rfl; exact rfl; exact rfl; exact rfl; exact rfl; exact rfl; exact factGt)
        | (show WL _ _ _ _ _ _ _; first | apply WL.nil | (refine WL.au (k := ?_)))
        | (show QL _ _ _ _ _ _ _; first | apply QL.nil | (refine QL.au (k := ?_)) | (apply QL.index tOk; exact rfl; exact rfl; exact rfl; exact rfl; exact rfl; exact rfl; exact rfl; exact rfl; assumption; (exact extA); exact rfl; omega; assumption; intro b off h; have hcc := h; first | (obtain ⟨h1, h2, h3, h4, h5, h6, _⟩ := h) | (obtain ⟨h1, h2, h3, _⟩ := h) | (obtain ⟨h1, h2, _⟩ := h) | (obtain ⟨h1, _⟩ := h)))
        | (show Z _ _ _ _ _; first | apply Z.then_normal | apply Z.then_ret | apply Z.block_ret)
        | (show W _ _ _ _ _ _; first | apply W.seq | apply W.region | apply W.block | apply W.skip | apply W.ret | (apply W.regionD tMix; kernel_rfl)))
      exact Z.body1 Try.results32 rfl fun m => ⟨congrArg Value.bool (dec_false (fun h => ne_at hx hy hxy (congrArg CirT.gates h))).symm, Ext.at (by (exact extA)) m⟩
  have e7 := eq_all heq l1 (by omega)
  repeat' (first
    | (apply W.condKF; exact rfl; (focus (exact dec_false (show ¬ ((k : Nat) : Int) < (a.gates.2.2.length : Int) by omega); done)))
    | (show WL _ _ _ _ _ _ _; first | apply WL.nil | (refine WL.au (k := ?_)))
    | (show Z _ _ _ _ _; first | apply Z.then_normal | apply Z.then_exit | apply Z.block_exit)
    | (show W _ _ _ _ _ _; first | apply W.seq | apply W.region | apply W.block | apply W.exit))
  clear heq hlt hk
  have Ra2 := hCa.syms.row.ext hX
  have Rb2 := hCb.syms.row.ext hX
  have hln2 := Ra2.len
  refine W.loop1 a.syms.2.2.length (fun k => k ≤ a.syms.2.2.length ∧ ∀ i, i < k → a.syms.2.2[i]? = b.syms.2.2[i]?) (fun k => [(2, .pointer (some ⟨gA, 0, none⟩)), (3, .pointer (some ⟨gB, 0, none⟩)), (7, .int .i64 k)]) ⟨by omega, fun i hi => by omega⟩ (fun k h => h.1) ⟨rfl, rfl, rfl, trivial⟩ ?_
  rintro k ⟨hk, heq⟩
  by_cases hlt : k < a.syms.2.2.length
  · obtain ⟨x, hx⟩ := getI a.syms.2.2 hlt
    obtain ⟨y, hy⟩ := getI b.syms.2.2 (show k < b.syms.2.2.length by omega)
    by_cases hxy : x = y
    · subst hxy
      repeat' (first
        | (apply W.condKT; exact rfl; (focus (first | exact dec_true (show ((k : Nat) : Int) < (a.syms.2.2.length : Int) by omega) | exact dec_false (fun h => h rfl); done)))
        | (apply W.condKF; exact rfl; (focus (first | exact dec_true (show ((k : Nat) : Int) < (a.syms.2.2.length : Int) by omega) | exact dec_false (fun h => h rfl); done)))
        | (apply QL.neqS tOk; exact rfl; exact rfl; exact rfl; exact rfl; exact rfl; exact rfl; exact rfl; exact factSy)
        | (show WL _ _ _ _ _ _ _; first | apply WL.nil | (refine WL.au (k := ?_)))
        | (show QL _ _ _ _ _ _ _; first | apply QL.nil | (refine QL.au (k := ?_)) | (apply QL.index tOk; exact rfl; exact rfl; exact rfl; exact rfl; exact rfl; exact rfl; exact rfl; exact rfl; assumption; (exact extA); exact rfl; omega; assumption; intro b off h; have hcc := h; first | (obtain ⟨h1, h2, h3, h4, h5, h6, _⟩ := h) | (obtain ⟨h1, h2, h3, _⟩ := h) | (obtain ⟨h1, h2, _⟩ := h) | (obtain ⟨h1, _⟩ := h)))
        | (show Z _ _ _ _ _; first | apply Z.then_normal | apply Z.block_normal)
        | (show W _ _ _ _ _ _; first | apply W.seq | apply W.region | apply W.block | apply W.skip | (apply W.regionD tMix; kernel_rfl)))
      exact Z.again1 ⟨by omega, eq_snoc heq hx hy rfl⟩ ⟨rfl, rfl, rfl, trivial⟩
    · repeat' (first
        | (apply W.condKT; exact rfl; (focus (first | exact dec_true (show ((k : Nat) : Int) < (a.syms.2.2.length : Int) by omega) | exact dec_true (ne_iff encY_inj hxy); done)))
        | (apply QL.neqS tOk; exact rfl; exact rfl; exact rfl; exact rfl; exact rfl; exact rfl; exact rfl; exact factSy)
        | (show WL _ _ _ _ _ _ _; first | apply WL.nil | (refine WL.au (k := ?_)))
        | (show QL _ _ _ _ _ _ _; first | apply QL.nil | (refine QL.au (k := ?_)) | (apply QL.index tOk; exact rfl; exact rfl; exact rfl; exact rfl; exact rfl; exact rfl; exact rfl; exact rfl; assumption; (exact extA); exact rfl; omega; assumption; intro b off h; have hcc := h; first | (obtain ⟨h1, h2, h3, h4, h5, h6, _⟩ := h) | (obtain ⟨h1, h2, h3, _⟩ := h) | (obtain ⟨h1, h2, _⟩ := h) | (obtain ⟨h1, _⟩ := h)))
        | (show Z _ _ _ _ _; first | apply Z.then_normal | apply Z.then_ret | apply Z.block_ret)
        | (show W _ _ _ _ _ _; first | apply W.seq | apply W.region | apply W.block | apply W.skip | apply W.ret | (apply W.regionD tMix; kernel_rfl)))
      exact Z.body1 Try.results32 rfl fun m => ⟨congrArg Value.bool (dec_false (fun h => ne_at hx hy hxy (congrArg CirT.syms h))).symm, Ext.at (by (exact extA)) m⟩
  have e8 := eq_all heq l2 (by omega)
  repeat' (first
    | (apply W.condKF; exact rfl; (focus (exact dec_false (show ¬ ((k : Nat) : Int) < (a.syms.2.2.length : Int) by omega); done)))
    | (show WL _ _ _ _ _ _ _; first | apply WL.nil | (refine WL.au (k := ?_)))
    | (show Z _ _ _ _ _; first | apply Z.then_normal | apply Z.then_exit | apply Z.block_exit)
    | (show W _ _ _ _ _ _; first | apply W.seq | apply W.region | apply W.ret | apply W.exit))
  clear heq hlt hk
  exact Z.body1 Try.results32 rfl fun m => ⟨congrArg Value.bool (dec_true (show a.t = b.t by unfold Circ.t; rw [e0, e1, e2, e3, e4, e5, e6, e7, e8])).symm, Ext.at (by (exact extA)) m⟩
end Go.Proofs.Ythpnahapiodflaa
namespace Go.Lt
open Go.RowKit
set_option linter.unusedVariables false
theorem Z.invFresh {N : Nat} {α : Type} {s : Nat} {enc : α → List Value} {d el B cap : Nat} {l : List α} {a : Option Addr} {w w' : World} {E : Env} (hx : Ext w w') (hB : B ≤ w.heap.size) (hO : Own s enc el w.heap.size w' a cap l) :
    Z N (postI N d (prRow s enc el B l) w E) .normal ((d, .slice a l.length cap) :: E) w' :=
  Z.invRow hx (hO.base hB) (.inr fun k hk => (hO.blk_lt k hk).1)
end Go.Lt
namespace Go.Proofs.Ythpnahapiodflaa
open Go Go.Lt Go.RowKit
set_option linter.unusedVariables false
set_option linter.unusedSimpArgs false
set_option maxRecDepth 20000

theorem Sep.perm7 {B : Nat} {w : World} {a b c d e f g : Piece} {rest : List Piece} (hS : Lt.Sep B w (a :: b :: c :: d :: e :: f :: g :: rest)) : Lt.Sep B w [d, e, f, a, b, c, g] := by
  refine hS.pick (fun i => if i < 3 then i + 3 else if i < 6 then i - 3 else i) (fun i x h => ?_) (fun i j hi hj hne => ?_)
  · match i, h with
    | 0, h => exact h
    | 1, h => exact h
    | 2, h => exact h
    | 3, h => exact h
    | 4, h => exact h
    | 5, h => exact h
    | 6, h => exact h
  · show (if i < 3 then i + 3 else if i < 6 then i - 3 else i) ≠ (if j < 3 then j + 3 else if j < 6 then j - 3 else j)
    have hi' : i < 7 := hi
    have hj' : j < 7 := hj
    repeat' split
    all_goals omega
set_option maxHeartbeats 16000000 in
theorem circ_Clone (c : Circ) (w : World) (hC : CAt w c) (hz : SzC c.t 100000) (hz2 : c.t.syms.length ≤ 100000) :
    Lt.Spec Try.prog 89 [c.val] w (fun v w' => Ext w w' ∧ ∃ d : Circ, v = d.val ∧ d.t = c.t ∧ OwnC w.heap.size w' d) := by
  have z1 : c.ins.2.2.length ≤ 100000 := hz.1
  have z2 : c.lat.2.2.length ≤ 100000 := hz.2.1
  have z3 : c.outs.2.2.length ≤ 100000 := hz.2.2.1
  have z4 : c.bads.2.2.length ≤ 100000 := hz.2.2.2.1
  have z5 : c.cons.2.2.length ≤ 100000 := hz.2.2.2.2.1
  have z6 : c.gates.2.2.length ≤ 100000 := hz.2.2.2.2.2
  have z7 : c.syms.2.2.length ≤ 100000 := hz2
  have Ri := hC.ins.row
  have Ro := hC.outs.row
  have Rb := hC.bads.row
  have Rn := hC.cons.row
  have Rl := hC.lat.row
  have Rg := hC.gates.row
  have Ry := hC.syms.row
  have ni := hC.ins.none
  have no := hC.outs.none
  have nb := hC.bads.none
  have nn := hC.cons.none
  have nl := hC.lat.none
  have ng := hC.gates.none
  have ny := hC.syms.none
  refine Spec.of _ Try.func89 rfl Try.ntmps89 (by kernel_rfl) rfl ?_
  repeat' (first
    | (apply WL.box; exact rfl; exact rfl; exact rfl; intro gb w' hb hge hc hx; have hcc := hc; (first | (obtain ⟨h1, h2, h3, _⟩ := hc) | (obtain ⟨h1, h2, _⟩ := hc)); (obtain ⟨gc, rfl⟩ : ∃ x, x = gb := ⟨_, rfl⟩; obtain ⟨wc, rfl⟩ : ∃ x, x = w' := ⟨_, rfl⟩; obtain ⟨hxc, rfl⟩ : ∃ x, x = hx := ⟨_, rfl⟩; have hS : Lt.Sep w.heap.size wc [pcell gc c.vals.toArray 28] := Sep.newCell Sep.none' hxc hb hge (Nat.le_refl _)))
    | (apply WL.alloc tOk; exact rfl; exact rfl; exact rfl; intro gb w' hb hge hx; replace hS := Sep.newCell (Sep.ext hS (by (exact extA))) hx hb hge (by (first | exact Nat.le_refl _ | exact Below.size (by (exact extA)))); (try simp only [List.set_cons_zero, List.set_cons_succ] at hS); (try have hR0 := hS.row (i := 0) rfl); (try have hR1 := hS.row (i := 1) rfl); (try have hR2 := hS.row (i := 2) rfl); (try have hR3 := hS.row (i := 3) rfl); (try have hR4 := hS.row (i := 4) rfl); (try have hC0 := hS.cell (i := 0) rfl); (try have hD0 := (cells_heap hC0).1); (try have hE0 := (cells_heap hC0).2.1); (try have hF0 := (cells_heap hC0).2.2.1); (try have hG0 := (cells_heap hC0).2.2.2.1); (try have hC1 := hS.cell (i := 1) rfl); (try have hD1 := (cells_heap hC1).1); (try have hE1 := (cells_heap hC1).2.1); (try have hF1 := (cells_heap hC1).2.2.1); (try have hG1 := (cells_heap hC1).2.2.2.1); (try have hC2 := hS.cell (i := 2) rfl); (try have hD2 := (cells_heap hC2).1); (try have hE2 := (cells_heap hC2).2.1); (try have hF2 := (cells_heap hC2).2.2.1); (try have hG2 := (cells_heap hC2).2.2.2.1); (try have hC3 := hS.cell (i := 3) rfl); (try have hD3 := (cells_heap hC3).1); (try have hE3 := (cells_heap hC3).2.1); (try have hF3 := (cells_heap hC3).2.2.1); (try have hG3 := (cells_heap hC3).2.2.2.1); (try have hC4 := hS.cell (i := 4) rfl); (try have hD4 := (cells_heap hC4).1); (try have hE4 := (cells_heap hC4).2.1); (try have hF4 := (cells_heap hC4).2.2.1); (try have hG4 := (cells_heap hC4).2.2.2.1); (try have hM0 := hS.map (i := 0) rfl); (try have hM1 := hS.map (i := 1) rfl); (try have hM2 := hS.map (i := 2) rfl); (try have hM3 := hS.map (i := 3) rfl); (try have hM4 := hS.map (i := 4) rfl))
    | (show WL _ _ _ _ _ _ _; apply WL.nil)
    | (show Z _ _ _ _ _; apply Z.then_normal)
    | (show W _ _ _ _ _ _; first | apply W.seq | apply W.region))
  obtain ⟨w1, rfl⟩ : ∃ x, x = w' := ⟨_, rfl⟩; obtain ⟨g2, rfl⟩ : ∃ x, x = gb := ⟨_, rfl⟩
  have hX2 : Ext w w1 := (by (exact extA))
  have hw1 : w.heap.size ≤ w1.heap.size := Below.size hX2
  have hgc : w.heap.size ≤ gc := (hS.lt (i := 1) rfl rfl).1
  have hcl := cells_heap (hS.cell (i := 1) rfl)
  obtain ⟨y0, y1, y2, y3, y4, y5, y6, y7, y8, _⟩ := hcl
  repeat' (first
    | (show W _ _ (.region 1 _ _) _ _ _; apply W.regionI 13 [.is (.pointer (some ⟨gc, 0 + 1, none⟩)), .is (rowVal c.ins), prRow 1 encI 3 w1.heap.size c.ins.2.2, .is (.pointer (some ⟨gc, 0 + 1 + 1, none⟩)), .is (rowVal c.lat), prRow 3 enc3 69 w1.heap.size c.lat.2.2, .is (.pointer (some ⟨gc, 0 + 1 + 1 + 1 + 1 + 1 + 1, none⟩)), .is (rowVal c.gates), prRow 3 enc3 106 w1.heap.size c.gates.2.2, .is (.pointer (some ⟨gc, 0 + 1 + 1 + 1 + 1 + 1 + 1 + 1, none⟩)), .is (rowVal c.syms), prRow 3 encY 110 w1.heap.size c.syms.2.2, .is (.pointer (some ⟨gc, 0 + 1, none⟩))] tMix; kernel_rfl; exact rfl; kernel_rfl; kernel_rfl; exact rfl; exact rfl)
    | (show OBL _ _ _ _ _ _ _ _; apply OBL.nil)
    | (show OBL _ _ _ _ _ _ 0 _; apply OBL.cons (ds := []); exact rfl; exact rfl; exact rfl; kernel_rfl; intro w8 hw8 rest8)
    | (show OBL _ _ _ _ _ _ 1 _; apply OBL.cons (ds := [0]); exact rfl; exact rfl; exact rfl; kernel_rfl; intro w8 hw8 rest8)
    | (show OBL _ _ _ _ _ _ 2 _; apply OBL.cons (ds := [1]); exact rfl; exact rfl; exact rfl; kernel_rfl; intro w8 hw8 rest8)
    | (show OBL _ _ _ _ _ _ 3 _; apply OBL.cons (ds := []); exact rfl; exact rfl; exact rfl; kernel_rfl; intro w8 hw8 rest8)
    | (show OBL _ _ _ _ _ _ 4 _; apply OBL.cons (ds := [3]); exact rfl; exact rfl; exact rfl; kernel_rfl; intro w8 hw8 rest8)
    | (show OBL _ _ _ _ _ _ 5 _; apply OBL.cons (ds := [4, 2]); exact rfl; exact rfl; exact rfl; kernel_rfl; intro w8 hw8 rest8)
    | (show OBL _ _ _ _ _ _ 6 _; apply OBL.cons (ds := []); exact rfl; exact rfl; exact rfl; kernel_rfl; intro w8 hw8 rest8)
    | (show OBL _ _ _ _ _ _ 7 _; apply OBL.cons (ds := [6]); exact rfl; exact rfl; exact rfl; kernel_rfl; intro w8 hw8 rest8)
    | (show OBL _ _ _ _ _ _ 8 _; apply OBL.cons (ds := [7, 5]); exact rfl; exact rfl; exact rfl; kernel_rfl; intro w8 hw8 rest8)
    | (show OBL _ _ _ _ _ _ 9 _; apply OBL.cons (ds := []); exact rfl; exact rfl; exact rfl; kernel_rfl; intro w8 hw8 rest8)
    | (show OBL _ _ _ _ _ _ 10 _; apply OBL.cons (ds := [9]); exact rfl; exact rfl; exact rfl; kernel_rfl; intro w8 hw8 rest8)
    | (show OBL _ _ _ _ _ _ 11 _; apply OBL.cons (ds := [10, 8]); exact rfl; exact rfl; exact rfl; kernel_rfl; intro w8 hw8 rest8)
    | (show OBL _ _ _ _ _ _ 12 _; apply OBL.cons (ds := [0, 1, 2, 3, 4, 6, 7, 9, 10]); exact rfl; exact rfl; exact rfl; kernel_rfl; intro w8 hw8 rest8)
    | (show NO _ _ _ _ _ _ _ _ _ _; first | apply NO.nil | (apply NO.is; exact rfl; exact rfl) | (apply NO.ex; exact rfl; exact rfl; (first | (rintro _ ⟨gl, rfl, hlb, hlge⟩) | (rintro _ ⟨ar, cr, rfl, hOr⟩))))
    | (intro w8 hw8; show NF _ _ _ _ _ _ _ _ _)
    | (show NF _ _ _ _ _ _ _ _ _; first | (apply NF.nilT; intro hap; replace hS := Sep.news [prowZ 3 encY 110 w.heap.size ar1_11 cr1_11 c.syms.2.2, prowZ 3 enc3 106 w.heap.size ar1_8 cr1_8 c.gates.2.2, prowZ 3 enc3 69 w.heap.size ar1_5 cr1_5 c.lat.2.2, prowZ 1 encI 3 w.heap.size ar1_2 cr1_2 c.ins.2.2] hS hw8 (by rintro q hq; simp only [List.mem_cons, List.not_mem_nil, or_false] at hq; rcases hq with rfl | rfl | rfl | rfl <;> exact prowZ_new (by assumption) hw1) (apartS hap) hw1; simp only [List.cons_append, List.nil_append] at hS; (try simp only [List.set_cons_zero, List.set_cons_succ] at hS); (try have hR0 := hS.row (i := 0) rfl); (try have hR1 := hS.row (i := 1) rfl); (try have hR2 := hS.row (i := 2) rfl); (try have hR3 := hS.row (i := 3) rfl); (try have hR4 := hS.row (i := 4) rfl); (try have hC0 := hS.cell (i := 0) rfl); (try have hD0 := (cells_heap hC0).1); (try have hE0 := (cells_heap hC0).2.1); (try have hF0 := (cells_heap hC0).2.2.1); (try have hG0 := (cells_heap hC0).2.2.2.1); (try have hC1 := hS.cell (i := 1) rfl); (try have hD1 := (cells_heap hC1).1); (try have hE1 := (cells_heap hC1).2.1); (try have hF1 := (cells_heap hC1).2.2.1); (try have hG1 := (cells_heap hC1).2.2.2.1); (try have hC2 := hS.cell (i := 2) rfl); (try have hD2 := (cells_heap hC2).1); (try have hE2 := (cells_heap hC2).2.1); (try have hF2 := (cells_heap hC2).2.2.1); (try have hG2 := (cells_heap hC2).2.2.2.1); (try have hC3 := hS.cell (i := 3) rfl); (try have hD3 := (cells_heap hC3).1); (try have hE3 := (cells_heap hC3).2.1); (try have hF3 := (cells_heap hC3).2.2.1); (try have hG3 := (cells_heap hC3).2.2.2.1); (try have hC4 := hS.cell (i := 4) rfl); (try have hD4 := (cells_heap hC4).1); (try have hE4 := (cells_heap hC4).2.1); (try have hF4 := (cells_heap hC4).2.2.1); (try have hG4 := (cells_heap hC4).2.2.2.1); (try have hM0 := hS.map (i := 0) rfl); (try have hM1 := hS.map (i := 1) rfl); (try have hM2 := hS.map (i := 2) rfl); (try have hM3 := hS.map (i := 3) rfl); (try have hM4 := hS.map (i := 4) rfl) ; have hC5 := hS.cell (i := 5) rfl) | (apply NF.is; exact rfl; exact rfl))
    | (show NF _ _ _ _ _ _ (2 :: _) _ _; apply NF.ex; exact rfl; exact rfl; rintro _ ⟨ar1_2, cr1_2, rfl, hOr1_2⟩)
    | (show NF _ _ _ _ _ _ (5 :: _) _ _; apply NF.ex; exact rfl; exact rfl; rintro _ ⟨ar1_5, cr1_5, rfl, hOr1_5⟩)
    | (show NF _ _ _ _ _ _ (8 :: _) _ _; apply NF.ex; exact rfl; exact rfl; rintro _ ⟨ar1_8, cr1_8, rfl, hOr1_8⟩)
    | (show NF _ _ _ _ _ _ (11 :: _) _ _; apply NF.ex; exact rfl; exact rfl; rintro _ ⟨ar1_11, cr1_11, rfl, hOr1_11⟩)
    | (show Z _ _ _ _ _; first | (apply Z.invIs; (exact extA)) | (apply Z.invFresh; (exact extA); (first | omega | exact Below.size (by (exact extA))); assumption))
    | ((show WL _ _ _ (⟨_, .call ⟨.value (.func 139), _, _⟩, _, _, _, _⟩ :: _) _ _ _); apply WL.call; exact rfl; exact rfl; exact rfl; exact rfl; exact slices_CloneI _ _ c.ins.2.2 _ (Ri.ext (by (exact extA))) ni (by omega); rintro v' w' ⟨hx, a', cap', rfl, hO⟩)
    | ((show WL _ _ _ (⟨_, .call ⟨.value (.func 140), _, _⟩, _, _, _, _⟩ :: _) _ _ _); apply WL.call; exact rfl; exact rfl; exact rfl; exact rfl; exact clone_L _ _ c.lat.2.2 _ (Rl.ext (by (exact extA))) nl (by omega); rintro v' w' ⟨hx, a', cap', rfl, hO⟩)
    | ((show WL _ _ _ (⟨_, .call ⟨.value (.func 141), _, _⟩, _, _, _, _⟩ :: _) _ _ _); apply WL.call; exact rfl; exact rfl; exact rfl; exact rfl; exact clone_G _ _ c.gates.2.2 _ (Rg.ext (by (exact extA))) ng (by omega); rintro v' w' ⟨hx, a', cap', rfl, hO⟩)
    | ((show WL _ _ _ (⟨_, .call ⟨.value (.func 142), _, _⟩, _, _, _, _⟩ :: _) _ _ _); apply WL.call; exact rfl; exact rfl; exact rfl; exact rfl; exact clone_Y _ _ c.syms.2.2 _ (Ry.ext (by (exact extA))) ny (by omega); rintro v' w' ⟨hx, a', cap', rfl, hO⟩)
    | (apply WL.storeF (w0 := w) tOk; exact rfl; exact rfl; exact rfl; exact rfl; assumption; (exact extA); exact rfl; exact rfl; exact rfl; exact rfl; (exact extA); (first | assumption | omega | (focus (apply Nat.le_trans; rotate_left; assumption; exact Below.size (by (exact extA))))); intro w' hb hX' hU; replace hS := Sep.updCell (i := 5) rfl hU hb hS (by (exact extA)) (by (first | exact Nat.le_refl _ | exact Below.size (by (exact extA)))); (try simp only [List.set_cons_zero, List.set_cons_succ] at hS); (try have hR0 := hS.row (i := 0) rfl); (try have hR1 := hS.row (i := 1) rfl); (try have hR2 := hS.row (i := 2) rfl); (try have hR3 := hS.row (i := 3) rfl); (try have hR4 := hS.row (i := 4) rfl); (try have hC0 := hS.cell (i := 0) rfl); (try have hD0 := (cells_heap hC0).1); (try have hE0 := (cells_heap hC0).2.1); (try have hF0 := (cells_heap hC0).2.2.1); (try have hG0 := (cells_heap hC0).2.2.2.1); (try have hC1 := hS.cell (i := 1) rfl); (try have hD1 := (cells_heap hC1).1); (try have hE1 := (cells_heap hC1).2.1); (try have hF1 := (cells_heap hC1).2.2.1); (try have hG1 := (cells_heap hC1).2.2.2.1); (try have hC2 := hS.cell (i := 2) rfl); (try have hD2 := (cells_heap hC2).1); (try have hE2 := (cells_heap hC2).2.1); (try have hF2 := (cells_heap hC2).2.2.1); (try have hG2 := (cells_heap hC2).2.2.2.1); (try have hC3 := hS.cell (i := 3) rfl); (try have hD3 := (cells_heap hC3).1); (try have hE3 := (cells_heap hC3).2.1); (try have hF3 := (cells_heap hC3).2.2.1); (try have hG3 := (cells_heap hC3).2.2.2.1); (try have hC4 := hS.cell (i := 4) rfl); (try have hD4 := (cells_heap hC4).1); (try have hE4 := (cells_heap hC4).2.1); (try have hF4 := (cells_heap hC4).2.2.1); (try have hG4 := (cells_heap hC4).2.2.2.1); (try have hM0 := hS.map (i := 0) rfl); (try have hM1 := hS.map (i := 1) rfl); (try have hM2 := hS.map (i := 2) rfl); (try have hM3 := hS.map (i := 3) rfl); (try have hM4 := hS.map (i := 4) rfl))
    | (show WL _ _ _ _ _ _ _; first | apply WL.nil | (refine WL.au (k := ?_)))
    | (show Z _ _ _ _ _; apply Z.then_normal)
    | (show W _ _ _ _ _ _; apply W.seq))
  obtain ⟨w2, rfl⟩ : ∃ x, x = w' := ⟨_, rfl⟩
  have hX3 : Ext w w2 := (by (exact extA))
  have hw2 : w.heap.size ≤ w2.heap.size := Below.size hX3
  replace hS : Lt.Sep w.heap.size w2 [prowZ 3 encY 110 w.heap.size ar1_11 cr1_11 c.syms.2.2, prowZ 3 enc3 106 w.heap.size ar1_8 cr1_8 c.gates.2.2, prowZ 3 enc3 69 w.heap.size ar1_5 cr1_5 c.lat.2.2, prowZ 1 encI 3 w.heap.size ar1_2 cr1_2 c.ins.2.2, pcell g2 (Value.cells (.agg #[.int .i64 0, .slice none 0 0, .slice none 0 0, .slice none 0 0, .slice none 0 0, .slice none 0 0, .slice none 0 0, .slice none 0 0, .string ⟨#[]⟩])) 28, pcell gc ([.int .i64 c.max, .slice ar1_2 c.ins.2.2.length cr1_2, .slice ar1_5 c.lat.2.2.length cr1_5, rowVal c.outs, rowVal c.bads, rowVal c.cons, .slice ar1_8 c.gates.2.2.length cr1_8, .slice ar1_11 c.syms.2.2.length cr1_11, .string c.com] : List Value).toArray 28] := hS
  have hcl := cells_heap (hS.cell (i := 5) rfl)
  clear y0 y1 y2 y3 y4 y5 y6 y7 y8
  obtain ⟨y0, y1, y2, y3, y4, y5, y6, y7, y8, _⟩ := hcl
  repeat' (first
    | (show W _ _ (.region 2 _ _) _ _ _; apply W.regionI 10 [.is (.pointer (some ⟨gc, 0 + 1 + 1 + 1, none⟩)), .is (rowVal c.outs), prRow 1 encI 3 w2.heap.size c.outs.2.2, .is (.pointer (some ⟨gc, 0 + 1 + 1 + 1 + 1, none⟩)), .is (rowVal c.bads), prRow 1 encI 3 w2.heap.size c.bads.2.2, .is (.pointer (some ⟨gc, 0 + 1 + 1 + 1 + 1 + 1, none⟩)), .is (rowVal c.cons), prRow 1 encI 3 w2.heap.size c.cons.2.2, .is (.pointer (some ⟨gc, 0 + 1 + 1 + 1, none⟩))] tMix; kernel_rfl; exact rfl; kernel_rfl; kernel_rfl; exact rfl; exact rfl)
    | (show OBL _ _ _ _ _ _ _ _; apply OBL.nil)
    | (show OBL _ _ _ _ _ _ 0 _; apply OBL.cons (ds := []); exact rfl; exact rfl; exact rfl; kernel_rfl; intro w8 hw8 rest8)
    | (show OBL _ _ _ _ _ _ 1 _; apply OBL.cons (ds := [0]); exact rfl; exact rfl; exact rfl; kernel_rfl; intro w8 hw8 rest8)
    | (show OBL _ _ _ _ _ _ 2 _; apply OBL.cons (ds := [1]); exact rfl; exact rfl; exact rfl; kernel_rfl; intro w8 hw8 rest8)
    | (show OBL _ _ _ _ _ _ 3 _; apply OBL.cons (ds := []); exact rfl; exact rfl; exact rfl; kernel_rfl; intro w8 hw8 rest8)
    | (show OBL _ _ _ _ _ _ 4 _; apply OBL.cons (ds := [3]); exact rfl; exact rfl; exact rfl; kernel_rfl; intro w8 hw8 rest8)
    | (show OBL _ _ _ _ _ _ 5 _; apply OBL.cons (ds := [4, 2]); exact rfl; exact rfl; exact rfl; kernel_rfl; intro w8 hw8 rest8)
    | (show OBL _ _ _ _ _ _ 6 _; apply OBL.cons (ds := []); exact rfl; exact rfl; exact rfl; kernel_rfl; intro w8 hw8 rest8)
    | (show OBL _ _ _ _ _ _ 7 _; apply OBL.cons (ds := [6]); exact rfl; exact rfl; exact rfl; kernel_rfl; intro w8 hw8 rest8)
    | (show OBL _ _ _ _ _ _ 8 _; apply OBL.cons (ds := [7, 5]); exact rfl; exact rfl; exact rfl; kernel_rfl; intro w8 hw8 rest8)
    | (show OBL _ _ _ _ _ _ 9 _; apply OBL.cons (ds := [0, 1, 2, 3, 4, 6, 7]); exact rfl; exact rfl; exact rfl; kernel_rfl; intro w8 hw8 rest8)
    | (show NO _ _ _ _ _ _ _ _ _ _; first | apply NO.nil | (apply NO.is; exact rfl; exact rfl) | (apply NO.ex; exact rfl; exact rfl; (first | (rintro _ ⟨gl, rfl, hlb, hlge⟩) | (rintro _ ⟨ar, cr, rfl, hOr⟩))))
    | (intro w8 hw8; show NF _ _ _ _ _ _ _ _ _)
    | (show NF _ _ _ _ _ _ _ _ _; first | (apply NF.nilT; intro hap; replace hS := Sep.news [prowZ 1 encI 3 w.heap.size ar2_8 cr2_8 c.cons.2.2, prowZ 1 encI 3 w.heap.size ar2_5 cr2_5 c.bads.2.2, prowZ 1 encI 3 w.heap.size ar2_2 cr2_2 c.outs.2.2] hS hw8 (by rintro q hq; simp only [List.mem_cons, List.not_mem_nil, or_false] at hq; rcases hq with rfl | rfl | rfl <;> exact prowZ_new (by assumption) hw2) (apartS hap) hw2; simp only [List.cons_append, List.nil_append] at hS; have hC8 := hS.cell (i := 8) rfl) | (apply NF.is; exact rfl; exact rfl))
    | (show NF _ _ _ _ _ _ (2 :: _) _ _; apply NF.ex; exact rfl; exact rfl; rintro _ ⟨ar2_2, cr2_2, rfl, hOr2_2⟩)
    | (show NF _ _ _ _ _ _ (5 :: _) _ _; apply NF.ex; exact rfl; exact rfl; rintro _ ⟨ar2_5, cr2_5, rfl, hOr2_5⟩)
    | (show NF _ _ _ _ _ _ (8 :: _) _ _; apply NF.ex; exact rfl; exact rfl; rintro _ ⟨ar2_8, cr2_8, rfl, hOr2_8⟩)
    | (show Z _ _ _ _ _; first | (apply Z.invIs; (exact extA)) | (apply Z.invFresh; (exact extA); (first | omega | exact Below.size (by (exact extA))); assumption))
    | ((show WL _ _ _ (⟨_, .call ⟨.value (.func 139), _, _⟩, _, _, _, _⟩ :: _) _ _ _); apply WL.call; exact rfl; exact rfl; exact rfl; exact rfl; exact slices_CloneI _ _ c.outs.2.2 _ (Ro.ext (by (exact extA))) no (by omega); rintro v' w' ⟨hx, a', cap', rfl, hO⟩)
    | ((show WL _ _ _ (⟨_, .call ⟨.value (.func 139), _, _⟩, _, _, _, _⟩ :: _) _ _ _); apply WL.call; exact rfl; exact rfl; exact rfl; exact rfl; exact slices_CloneI _ _ c.bads.2.2 _ (Rb.ext (by (exact extA))) nb (by omega); rintro v' w' ⟨hx, a', cap', rfl, hO⟩)
    | ((show WL _ _ _ (⟨_, .call ⟨.value (.func 139), _, _⟩, _, _, _, _⟩ :: _) _ _ _); apply WL.call; exact rfl; exact rfl; exact rfl; exact rfl; exact slices_CloneI _ _ c.cons.2.2 _ (Rn.ext (by (exact extA))) nn (by omega); rintro v' w' ⟨hx, a', cap', rfl, hO⟩)
    | (apply WL.storeF (w0 := w) tOk; exact rfl; exact rfl; exact rfl; exact rfl; assumption; (exact extA); exact rfl; exact rfl; exact rfl; exact rfl; (exact extA); (first | assumption | omega | (focus (apply Nat.le_trans; rotate_left; assumption; exact Below.size (by (exact extA))))); intro w' hb hX' hU; replace hS := Sep.updCell (i := 8) rfl hU hb hS (by (exact extA)) (by (first | exact Nat.le_refl _ | exact Below.size (by (exact extA)))); (try simp only [List.set_cons_zero, List.set_cons_succ] at hS); (try have hR0 := hS.row (i := 0) rfl); (try have hR1 := hS.row (i := 1) rfl); (try have hR2 := hS.row (i := 2) rfl); (try have hR3 := hS.row (i := 3) rfl); (try have hR4 := hS.row (i := 4) rfl); (try have hC0 := hS.cell (i := 0) rfl); (try have hD0 := (cells_heap hC0).1); (try have hE0 := (cells_heap hC0).2.1); (try have hF0 := (cells_heap hC0).2.2.1); (try have hG0 := (cells_heap hC0).2.2.2.1); (try have hC1 := hS.cell (i := 1) rfl); (try have hD1 := (cells_heap hC1).1); (try have hE1 := (cells_heap hC1).2.1); (try have hF1 := (cells_heap hC1).2.2.1); (try have hG1 := (cells_heap hC1).2.2.2.1); (try have hC2 := hS.cell (i := 2) rfl); (try have hD2 := (cells_heap hC2).1); (try have hE2 := (cells_heap hC2).2.1); (try have hF2 := (cells_heap hC2).2.2.1); (try have hG2 := (cells_heap hC2).2.2.2.1); (try have hC3 := hS.cell (i := 3) rfl); (try have hD3 := (cells_heap hC3).1); (try have hE3 := (cells_heap hC3).2.1); (try have hF3 := (cells_heap hC3).2.2.1); (try have hG3 := (cells_heap hC3).2.2.2.1); (try have hC4 := hS.cell (i := 4) rfl); (try have hD4 := (cells_heap hC4).1); (try have hE4 := (cells_heap hC4).2.1); (try have hF4 := (cells_heap hC4).2.2.1); (try have hG4 := (cells_heap hC4).2.2.2.1); (try have hM0 := hS.map (i := 0) rfl); (try have hM1 := hS.map (i := 1) rfl); (try have hM2 := hS.map (i := 2) rfl); (try have hM3 := hS.map (i := 3) rfl); (try have hM4 := hS.map (i := 4) rfl))
    | (show WL _ _ _ _ _ _ _; first | apply WL.nil | (refine WL.au (k := ?_)))
    | (show Z _ _ _ _ _; apply Z.then_normal)
    | (show W _ _ _ _ _ _; first | apply W.seq | apply W.region))
  obtain ⟨w3, rfl⟩ : ∃ x, x = w' := ⟨_, rfl⟩
  obtain ⟨d, hd⟩ : ∃ d : Circ, d = ⟨c.max, (ar1_2, cr1_2, c.ins.2.2), (ar1_5, cr1_5, c.lat.2.2), (ar2_2, cr2_2, c.outs.2.2), (ar2_5, cr2_5, c.bads.2.2), (ar2_8, cr2_8, c.cons.2.2), (ar1_8, cr1_8, c.gates.2.2), (ar1_11, cr1_11, c.syms.2.2), c.com⟩ := ⟨_, rfl⟩
  have hS' : Lt.Sep w.heap.size w3 ([prowZ 1 encI 3 w.heap.size ar2_8 cr2_8 c.cons.2.2, prowZ 1 encI 3 w.heap.size ar2_5 cr2_5 c.bads.2.2, prowZ 1 encI 3 w.heap.size ar2_2 cr2_2 c.outs.2.2, prowZ 3 encY 110 w.heap.size ar1_11 cr1_11 c.syms.2.2, prowZ 3 enc3 106 w.heap.size ar1_8 cr1_8 c.gates.2.2, prowZ 3 enc3 69 w.heap.size ar1_5 cr1_5 c.lat.2.2, prowZ 1 encI 3 w.heap.size ar1_2 cr1_2 c.ins.2.2, pcell g2 (Value.cells (.agg #[.int .i64 0, .slice none 0 0, .slice none 0 0, .slice none 0 0, .slice none 0 0, .slice none 0 0, .slice none 0 0, .slice none 0 0, .string ⟨#[]⟩])) 28, pcell gc d.vals.toArray 28]) := by rw [hd]; exact hS
  have hps : d.ps w.heap.size = [prowZ 3 encY 110 w.heap.size ar1_11 cr1_11 c.syms.2.2, prowZ 3 enc3 106 w.heap.size ar1_8 cr1_8 c.gates.2.2, prowZ 3 enc3 69 w.heap.size ar1_5 cr1_5 c.lat.2.2, prowZ 1 encI 3 w.heap.size ar2_8 cr2_8 c.cons.2.2, prowZ 1 encI 3 w.heap.size ar2_5 cr2_5 c.bads.2.2, prowZ 1 encI 3 w.heap.size ar2_2 cr2_2 c.outs.2.2, prowZ 1 encI 3 w.heap.size ar1_2 cr1_2 c.ins.2.2] := by rw [hd]; rfl
  have hcap : CapC d := by
    rw [hd]
    exact ⟨⟨hOr1_2.capLe, hOr1_2.noneCap⟩, ⟨hOr1_5.capLe, hOr1_5.noneCap⟩, ⟨hOr2_2.capLe, hOr2_2.noneCap⟩, ⟨hOr2_5.capLe, hOr2_5.noneCap⟩, ⟨hOr2_8.capLe, hOr2_8.noneCap⟩, ⟨hOr1_8.capLe, hOr1_8.noneCap⟩, ⟨hOr1_11.capLe, hOr1_11.noneCap⟩⟩
  have hdt : d.t = c.t := by rw [hd]
  have hcd : Cells w3 gc 0 d.vals := cells_heap (hS'.cell (i := 8) rfl)
  have hc7 := hS'.cell (i := 7) rfl
  have hg2 : w.heap.size ≤ g2 := (hS'.lt (i := 7) rfl rfl).1
  have hX4 : Ext w w3 := (by (exact extA))
  clear hd
  repeat' (first
    | (apply WL.storeB (w0 := w) tOk; exact rfl; exact rfl; exact rfl; exact rfl; assumption; (exact extA); exact rfl; exact rfl; exact rfl; (exact extA); (first | assumption | omega | (focus (apply Nat.le_trans; rotate_left; assumption; exact Below.size (by (exact extA)); done))); intro w' hb hc hX' hU; have hcc := hc; obtain ⟨h1, h2, _⟩ := hc)
    | (show WL _ _ _ _ _ _ _; first | apply WL.nil | (refine WL.au (k := ?_)))
    | (show Z _ _ _ _ _; apply Z.then_normal)
    | (show W _ _ _ _ _ _; apply W.ret))
  refine Z.bodyC tOk Try.results89 rfl rfl rfl rfl (cells_heap hb) fun m => ⟨Ext.at (by (exact extA)) m, d, rfl, hdt, ⟨?_, hcap⟩⟩
  have hS5 := hS'.updCell (i := 7) rfl hU hb (Ext.refl _) (Below.size hX4)
  rw [hps]
  exact (Sep.perm7 hS5).ext ((Ext.refl _).at m)
end Go.Proofs.Ythpnahapiodflaa
