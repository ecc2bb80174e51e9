/- RenumMeans: what is numbered anew does what it did, and so what is trimmed. No conditions. -/
import Derived.Test.YthpnahapiodflaaRows
import Derived.Lib.SmallJoins
import Derived.KernelRfl
import Derived.WalkKit
import Derived.ProofKit
import Derived.Deep.Quiet
import Derived.Deep.LoopGhost
import Derived.StillTail
import Derived.Test.YthpnahapiodflaaProg
import Derived.OpenShut
import Derived.ShutString
import Derived.ChangeOld
import Derived.Deep.Slices
import Derived.SizedLaws
import Derived.Laws.StructEq
import Derived.Laws.CopyRow
import Derived.Laws.IdiomCopy
import Derived.Test.YthpnahapiodflaaRenumMeansP4
namespace Go.Proofs.Ythpnahapiodflaa
open Go Go.Lt Go.RowKit
set_option linter.unusedVariables false
set_option linter.unusedSimpArgs false
set_option maxRecDepth 20000

theorem addK_app : ∀ (l ks m : List Int), addK (addK ks l) m = addK ks (l ++ m)
  | [], ks, m => rfl
  | a :: l, ks, m => by
    show addK (addK _ l) m = addK _ (l ++ m)
    exact addK_app l _ m
/-- What is needed so far: all but by gates that stand ahead. -/
structure KInv (c : CirT) (ks : List Int) (k : Nat) : Prop where
  sound : ∀ v ∈ ks, NeedC c v
  full : ∀ v, NeedC c v → (∀ (p j : Nat) (g : T3), (ordL c.gates)[p]? = some j → c.gates[j]? = some g → NeedC c (g.1 / 2) → (g.2.1 / 2 = v ∨ g.2.2 / 2 = v) → k ≤ p) → v ∈ ks
theorem KInv.start {c : CirT} (h : GoodC' c) {ks : List Int} (hk : ∀ v, v ∈ ks ↔ v ∈ c.roots.map (· / 2)) : KInv c ks (ordL c.gates).length := by
  refine ⟨fun v hv => ?_, fun v hv hp => ?_⟩
  · obtain ⟨l, hl, rfl⟩ := List.mem_map.1 ((hk v).1 hv)
    exact .root hl
  · have key : ∀ g ∈ c.gates, NeedC c (g.1 / 2) → (g.2.1 / 2 = v ∨ g.2.2 / 2 = v) → False := fun g hg hn hc => by
      obtain ⟨i, hi⟩ := List.mem_iff_getElem?.1 hg
      obtain ⟨p, hpp⟩ := List.mem_iff_getElem?.1 (ord_all h (lt_of_get hi))
      have h1 := hp p i g hpp hi hn hc
      have h2 := lt_of_get hpp
      omega
    cases hv with
    | root hl => exact (hk _).2 (List.mem_map.2 ⟨_, hl, rfl⟩)
    | left hg hn => exact absurd (key _ hg hn (.inl rfl)) id
    | right hg hn => exact absurd (key _ hg hn (.inr rfl)) id
theorem KInv.need {c : CirT} {ks : List Int} {k j : Nat} {g : T3} (hK : KInv c ks (k + 1)) (hj : (ordL c.gates)[k]? = some j) (hg : c.gates[j]? = some g) : g.1 / 2 ∈ ks ↔ NeedC c (g.1 / 2) := by
  refine ⟨hK.sound _, fun hn => hK.full _ hn fun p i x hp hx _ hc => ?_⟩
  have hO := (ordL_is c.gates).1
  obtain ⟨x', hx', _, hr⟩ := (hO p i hp).1
  rw [hx] at hx'; cases hx'
  have hjT : j ∈ (ordL c.gates).take p := Classical.byContradiction fun hn => by
    have := hr j g hg hn
    rcases hc with hc | hc
    · exact this.1 hc.symm
    · exact this.2 hc.symm
  obtain ⟨q, hq, he⟩ := List.mem_take_iff_getElem.1 hjT
  have hkl := lt_of_get hj
  have e2 : (ordL c.gates)[k] = j := by rw [List.getElem?_eq_getElem hkl] at hj; exact Option.some.inj hj
  have : q = k := (List.getElem_inj (h₀ := by omega) (h₁ := hkl) hO.nodup).1 (by rw [he, e2])
  omega
theorem KInv.skip {c : CirT} {ks : List Int} {k j : Nat} {g : T3} (hK : KInv c ks (k + 1)) (hj : (ordL c.gates)[k]? = some j) (hg : c.gates[j]? = some g) (hn : g.1 / 2 ∉ ks) : KInv c ks k := by
  refine ⟨hK.sound, fun v hv hp => hK.full v hv fun p i x h1 h2 h3 h4 => ?_⟩
  have h5 := hp p i x h1 h2 h3 h4
  by_cases hpk : p = k
  · subst hpk
    rw [hj] at h1; cases h1
    rw [hg] at h2; cases h2
    exact absurd ((hK.need hj hg).2 h3) hn
  · omega
theorem KInv.take {c : CirT} {ks : List Int} {k j : Nat} {g : T3} (hK : KInv c ks (k + 1)) (hj : (ordL c.gates)[k]? = some j) (hg : c.gates[j]? = some g) (hn : g.1 / 2 ∈ ks) : KInv c (addK ks [g.2.1 / 2, g.2.2 / 2]) k := by
  have hnd := hK.sound _ hn
  have hgm := List.mem_of_getElem? hg
  refine ⟨fun v hv => ?_, fun v hv hp => ?_⟩
  · rcases (addK_mem _ _ _).1 hv with hv | hv
    · exact hK.sound v hv
    · simp only [List.mem_cons, List.not_mem_nil, or_false] at hv
      rcases hv with rfl | rfl
      · exact .left hgm hnd
      · exact .right hgm hnd
  · rw [addK_mem]
    by_cases hc : v = g.2.1 / 2 ∨ v = g.2.2 / 2
    · right
      simpa using hc
    · left
      refine hK.full v hv fun p i x h1 h2 h3 h4 => ?_
      have h5 := hp p i x h1 h2 h3 h4
      by_cases hpk : p = k
      · subst hpk
        rw [hj] at h1; cases h1
        rw [hg] at h2; cases h2
        exact absurd (h4.imp Eq.symm Eq.symm) hc
      · omega
theorem KInv.done {c : CirT} {ks : List Int} (hK : KInv c ks 0) (v : Int) : v ∈ ks ↔ NeedC c v := ⟨hK.sound v, fun h => hK.full v h fun _ _ _ _ _ _ _ => Nat.zero_le _⟩
theorem old_ne {α : Type} {s : Nat} {enc : α → List Value} {w : World} {a : Option Addr} {l : List α} {r : Nat} (hE : Enc s enc) (R : Row s enc w a l) (hr : w.heap.size ≤ r) : l ≠ [] → ∀ k, blk a = some k → some r ≠ some k := fun hl k hk he => by
  obtain ⟨q, hq, hlt⟩ := Row.blk_lt hE R hl
  rw [hq] at hk
  have h1 := Option.some.inj hk
  have h2 := Option.some.inj he
  omega
theorem new_ne {g r : Nat} (h : r ≠ g) {α : Type} {l : List α} : l ≠ [] → ∀ k, blk (some (⟨g, 0, none⟩ : Addr)) = some k → some r ≠ some k := fun _ k hk he => by
  simp only [blk, Option.map_some, Option.some.injEq] at hk
  have h2 := Option.some.inj he
  omega
theorem updMapB {r : Nat} {w w' : World} (h : But w (some r) w') : Upd r (some ⟨r, 0, none⟩) w w' := ⟨h, fun k hk => by have h9 : r = k := Option.some.inj hk; omega⟩
/-- What holds the map, and the map. -/
noncomputable abbrev mpP (g3 rm : Nat) (ks : List Int) : List Piece := [pcell g3 #[.map (some rm)] 125, pmap encK isB rm (keysL true ks)]
theorem renum_TrimS (wc w : World) (g3 rm : Nat) (ks L : List Int) (a : Option Addr) (cap : Nat) (rest : List Piece) (hX : Ext wc w) (hS : Lt.Sep wc.heap.size w (mpP g3 rm ks ++ rest)) (R : Row 1 encI w a L) (hRr : L ≠ [] → ∀ k, blk a = some k → some rm ≠ some k) (hL : ∀ x ∈ L, 0 ≤ x ∧ x ≤ 100000000) :
    Lt.Spec Try.prog 110 [.slice a L.length cap, .pointer (some ⟨g3, 0, none⟩)] w (fun v w' => v = .tuple #[] ∧ Ext wc w' ∧ Lt.Sep wc.heap.size w' (mpP g3 rm (addK ks (L.map (· / 2))) ++ rest)) := by
  have hM : MapIs encK isB w rm (keysL true ks) := hS.map (i := 1) rfl
  have hrm := (hS.lt (i := 1) rfl rfl).1
  have hne : g3 ≠ rm := fun he => by
    rcases hS.apart 0 1 _ _ rfl rfl (by decide) with h | h
    · cases h
    · exact h (by show some g3 = some rm; rw [he])
  refine (renum_Trim1 w g3 rm ks L a cap (cells_heap (hS.cell (i := 0) rfl)).1 hne hM R hRr hL).mono ?_
  rintro v w' ⟨rfl, hB, hM'⟩
  exact ⟨rfl, (updMapB hB).ext hX hrm, Sep.updMap (i := 1) rfl (updMapB hB) hM' hS (Ext.refl _) (Below.size hX)⟩
theorem Sep.updOld2 {B B' g : Nat} {w w' : World} {ps : List Piece} (hS : Lt.Sep B w ps) (hU : Upd B' (some ⟨g, 0, none⟩) w w') (hg : g < B) : Lt.Sep B w' ps := by
  refine ⟨fun i p h => ⟨p.keep (hS.holds i p h).1 (fun k hk => hU.grown.block k ((hS.holds i p h).2 k hk).2 (fun he => ?_)), fun k hk => ⟨((hS.holds i p h).2 k hk).1, Nat.lt_of_lt_of_le ((hS.holds i p h).2 k hk).2 hU.grown.size⟩⟩, hS.apart⟩
  have h1 := ((hS.holds i p h).2 k hk).1
  simp only [blk, Option.map_some, Option.some.injEq] at he
  omega
theorem slices_DeleteFunc0 (w : World) (a : Option Addr) (cap f : Nat) (us : List Value) :
    Pure Try.prog 113 [.slice a ([] : List T3).length cap, .func (.func f) #[] us.toArray] w (.slice a ([] : List T3).length cap) := by
  refine Spec.of _ Try.func113 rfl Try.ntmps113 (by kernel_rfl) rfl ?_
  repeat' (first
    | (((show WL _ _ _ (⟨_, .call ⟨.value (.func 153), _, _⟩, _, _, _, _⟩ :: _) _ _ _); apply WL.call; exact rfl; exact rfl; exact rfl; exact rfl; exact slices_IndexFuncG a cap [] f us (fun _ => true) _ (Row.nil _ _ _ _) (Nat.zero_le _) (fun x hx => by cases hx); rintro v' w1 ⟨hx1, ⟨rfl, hno⟩ | ⟨i, x, rfl, hix, hpx, hno⟩⟩))
    | (show WL _ _ _ _ _ _ _; first | apply WL.nil | (refine WL.au (k := ?_)))
    | (show Z _ _ _ _ _; apply Z.then_normal)
    | (show W _ _ _ _ _ _; first | apply W.seq | apply W.region))
  · refine W.condKT rfl (dec_true rfl) ?_
    repeat' (first
      | (show WL _ _ _ _ _ _ _; first | apply WL.nil | (refine WL.au (k := ?_)))
      | (show Z _ _ _ _ _; first | apply Z.then_normal | apply Z.then_ret)
      | (show W _ _ _ _ _ _; first | apply W.seq | apply W.region | apply W.ret))
    exact Z.body1 Try.results113 rfl fun m => ⟨rfl, hx1.at m⟩
  · simp at hix
set_option maxHeartbeats 32000000 in
theorem renum_Trim (c : Circ) (w : World) (hC : CAt w c) (hg : GoodC' c.t) (hz : SzC c.t 100000) (hz7 : c.t.syms.length ≤ 100000) :
    Lt.Spec Try.prog 51 [c.val] w (fun v w' => Ext w w' ∧ ∃ d : Circ, v = d.val ∧ d.t = trimC c.t ∧ CAt w' d) := by
  have z2 : c.lat.2.2.length ≤ 100000 := hz.2.1
  have z6 : c.gates.2.2.length ≤ 100000 := hz.2.2.2.2.2
  have hm : 0 ≤ c.max ∧ c.max ≤ 16777216 := hg.max
  have hown : ∀ x ∈ c.t.own, 2 ≤ x ∧ x % 2 = 0 ∧ x ≤ 2 * c.max := hg.own
  have hused : ∀ x ∈ c.t.used, 0 ≤ x ∧ x ≤ 100000000 := fun x hx => by have : 0 ≤ x ∧ x ≤ 2 * c.max + 1 := hg.used x hx; omega
  refine Spec.of _ Try.func51 rfl Try.ntmps51 (by kernel_rfl) rfl ?_
  repeat' (first
    | (apply WL.box; exact rfl; exact rfl; exact rfl; intro gb w' hb hge hc hx; have hcc := hc; (first | (obtain ⟨h1, h2, h3, _⟩ := hc) | (obtain ⟨h1, h2, _⟩ := hc)); (obtain ⟨gc, rfl⟩ : ∃ x, x = gb := ⟨_, rfl⟩; obtain ⟨wc, rfl⟩ : ∃ x, x = w' := ⟨_, rfl⟩; obtain ⟨hxc, rfl⟩ : ∃ x, x = hx := ⟨_, rfl⟩; have hcells : Cells wc gc 0 c.vals := hcc))
    | (apply WL.alloc tOk; exact rfl; exact rfl; exact rfl; intro gb w' hb hge hx; (first | (have h_0 := g2; clear h_0; obtain ⟨g3, rfl⟩ : ∃ x, x = gb := ⟨_, rfl⟩; obtain ⟨hb3, rfl⟩ : ∃ x, x = hb := ⟨_, rfl⟩; obtain ⟨hge3, rfl⟩ : ∃ x, x = hge := ⟨_, rfl⟩; obtain ⟨hx3, rfl⟩ : ∃ x, x = hx := ⟨_, rfl⟩) | (obtain ⟨g2, rfl⟩ : ∃ x, x = gb := ⟨_, rfl⟩; obtain ⟨w2, rfl⟩ : ∃ x, x = w' := ⟨_, rfl⟩; obtain ⟨hx2, rfl⟩ : ∃ x, x = hx := ⟨_, rfl⟩; obtain ⟨hb2, rfl⟩ : ∃ x, x = hb := ⟨_, rfl⟩; obtain ⟨hge2, rfl⟩ : ∃ x, x = hge := ⟨_, rfl⟩)))
    | ((apply WL.makeMap (kv := encK) (vv := isB); exact rfl; exact rfl; intro rm w3 hM3 hge3m hx3m))
    | (apply WL.storeB (w0 := w3) tOk; exact rfl; exact rfl; exact rfl; exact rfl; assumption; (exact extA); exact rfl; exact rfl; exact rfl; (exact extA); (first | assumption | omega | (focus (apply Nat.le_trans; rotate_left; assumption; exact Below.size (by (exact extA)); done))); intro w' hb hc hX' hU; have hcc := hc; obtain ⟨h1, h2, _⟩ := hc; (obtain ⟨w4, rfl⟩ : ∃ x, x = w' := ⟨_, rfl⟩; obtain ⟨hb4, rfl⟩ : ∃ x, x = hb := ⟨_, rfl⟩; obtain ⟨hX4, rfl⟩ : ∃ x, x = hX' := ⟨_, rfl⟩))
    | (show WL _ _ _ _ _ _ _; first | apply WL.nil | (refine WL.au (k := ?_)))
    | (show Z _ _ _ _ _; apply Z.then_normal)
    | (show W _ _ _ _ _ _; first | apply W.seq | apply W.region))
  have hX4w : Ext wc w4 := (by (exact extA))
  obtain ⟨zC, hzC⟩ : ∃ z : Array Value, z = Value.cells (.agg #[.int .i64 0, .slice none 0 0, .slice none 0 0, .slice none 0 0, .slice none 0 0, .slice none 0 0, .slice none 0 0, .slice none 0 0, .string ⟨#[]⟩]) := ⟨_, rfl⟩
  obtain ⟨PG, hPG⟩ : ∃ P, P = pcell g2 zC 28 := ⟨_, rfl⟩
  have hS2 : Lt.Sep wc.heap.size w2 [PG] := by
    have hb2' : w2.heap[g2]? = some (.cells zC 28 (0, 0)) := by rw [hzC]; exact hb2
    rw [hPG]; exact Sep.newCell Sep.none' hx2 hb2' hge2 (Nat.le_refl _)
  have hS4 : Lt.Sep wc.heap.size w4 (mpP g3 rm [] ++ [PG]) := Sep.newCell (Sep.newMap hS2 (show Ext w2 w3 from (by (exact extA))) hM3 hge3m (Below.size hx2)) hX4 hb4 hge3 (Below.size (by (exact extA)))
  have hrm : wc.heap.size ≤ rm := (hS4.lt (i := 1) rfl rfl).1
  have hwc : w.heap.size ≤ wc.heap.size := Below.size hxc
  have hoL : ∀ l ∈ c.outs.2.2, 0 ≤ l ∧ l ≤ 100000000 := fun l hl => hused l (List.mem_append_left _ (List.mem_append_left _ (List.mem_append_left _ (List.mem_append_left _ hl))))
  have hbL : ∀ l ∈ c.bads.2.2, 0 ≤ l ∧ l ≤ 100000000 := fun l hl => hused l (used_bad (c := c.t) hl)
  have hnL : ∀ l ∈ c.cons.2.2, 0 ≤ l ∧ l ≤ 100000000 := fun l hl => hused l (used_con (c := c.t) hl)
  obtain ⟨y0, y1, y2, y3, y4, y5, y6, _⟩ := hcells.ext hX4w
  clear hb4 hb3 hM3 hU hcc h1 h2
  repeat' (first
    | ((show WL _ _ _ (⟨_, .call ⟨.value (.tmp _), _, _⟩, _, _, _, _⟩ :: _) _ _ _; apply WL.call; exact rfl; exact rfl; exact rfl; exact rfl; exact renum_TrimS wc w4 g3 rm [] c.outs.2.2 _ _ [PG] hX4w hS4 (hC.outs.row.ext (hxc.trans hX4w)) (old_ne encI_ok hC.outs.row (Nat.le_trans hwc hrm)) hoL; rintro v' w5 ⟨rfl, hX5, hS5⟩))
    | (show WL _ _ _ _ _ _ _; first | apply WL.nil | (refine WL.au (k := ?_)))
    | (show Z _ _ _ _ _; apply Z.then_normal)
    | (show W _ _ _ _ _ _; first | apply W.seq | apply W.region))
  clear y0 y1 y2 y3 y4 y5 y6
  obtain ⟨y0, y1, y2, y3, y4, y5, y6, _⟩ := hcells.ext hX5
  repeat' (first
    | ((show WL _ _ _ (⟨_, .call ⟨.value (.tmp _), _, _⟩, _, _, _, _⟩ :: _) _ _ _; apply WL.call; exact rfl; exact rfl; exact rfl; exact rfl; exact renum_TrimS wc w5 g3 rm _ c.bads.2.2 _ _ [PG] hX5 hS5 (hC.bads.row.ext (hxc.trans hX5)) (old_ne encI_ok hC.bads.row (Nat.le_trans hwc hrm)) hbL; rintro v' w6 ⟨rfl, hX6, hS6⟩))
    | (show WL _ _ _ _ _ _ _; first | apply WL.nil | (refine WL.au (k := ?_)))
    | (show Z _ _ _ _ _; apply Z.then_normal)
    | (show W _ _ _ _ _ _; first | apply W.seq | apply W.region))
  clear y0 y1 y2 y3 y4 y5 y6
  obtain ⟨y0, y1, y2, y3, y4, y5, y6, _⟩ := hcells.ext hX6
  repeat' (first
    | ((show WL _ _ _ (⟨_, .call ⟨.value (.tmp _), _, _⟩, _, _, _, _⟩ :: _) _ _ _; apply WL.call; exact rfl; exact rfl; exact rfl; exact rfl; exact renum_TrimS wc w6 g3 rm _ c.cons.2.2 _ _ [PG] hX6 hS6 (hC.cons.row.ext (hxc.trans hX6)) (old_ne encI_ok hC.cons.row (Nat.le_trans hwc hrm)) hnL; rintro v' w7 ⟨rfl, hX7, hS7⟩))
    | (show WL _ _ _ _ _ _ _; first | apply WL.nil | (refine WL.au (k := ?_)))
    | (show Z _ _ _ _ _; apply Z.then_normal)
    | (show W _ _ _ _ _ _; first | apply W.seq | apply W.region))
  clear y0 y1 y2 y3 y4 y5 y6
  obtain ⟨y0, y1, y2, y3, y4, y5, y6, _⟩ := hcells.ext hX7
  obtain ⟨K0, hK0⟩ : ∃ K, K = addK (addK (addK [] (c.outs.2.2.map (· / 2))) (c.bads.2.2.map (· / 2))) (c.cons.2.2.map (· / 2)) := ⟨_, rfl⟩
  rw [← hK0] at hS7
  repeat' (first
    | (show WL _ _ _ _ _ _ _; first | apply WL.nil | (refine WL.au (k := ?_)))
    | (show Z _ _ _ _ _; apply Z.then_normal)
    | (show W _ _ _ _ _ _; apply W.block))
  refine W.loopW c.lat.2.2.length (fun k w' => k ≤ c.lat.2.2.length ∧ Ext wc w' ∧ Lt.Sep wc.heap.size w' (mpP g3 rm (addK K0 ((c.lat.2.2.take k).map (fun x => x.2.1 / 2))) ++ [PG])) (fun k => [(1, .pointer (some ⟨gc, 0, none⟩)), (2, .pointer (some ⟨g2, 0, none⟩)), (3, .pointer (some ⟨g3, 0, none⟩)), (4, .func (.func 110) #[] #[.pointer (some ⟨g3, 0, none⟩)]), (27, rowVal c.lat), (28, .int .i64 c.lat.2.2.length), (29, .int .i64 k)]) ⟨Nat.zero_le _, hX7, hS7⟩ (fun k w' h => h.1) ⟨rfl, rfl, rfl, rfl, rfl, rfl, rfl, trivial⟩ ?_
  clear hS4 hS5 hS6 hS7 y0 y1 y2 y3 y4 y5 y6 hX5 hX6 hX7
  rintro k w8 ⟨hk, hX8, hS8⟩
  obtain ⟨y0, y1, y2, y3, y4, y5, y6, _⟩ := hcells.ext hX8
  have Rl := hC.lat.row.ext (hxc.trans hX8)
  by_cases hlt : k < c.lat.2.2.length
  · obtain ⟨x, hgx⟩ := getI c.lat.2.2 hlt
    have hxu := hused x.2.1 (used_next (c := c.t) (List.mem_of_getElem? hgx))
    repeat' (first
      | (show WL _ _ _ _ _ _ _; first | apply WL.nil | (refine WL.au (k := ?_)))
      | (show Z _ _ _ _ _; apply Z.then_normal)
      | (show W _ _ _ _ _ _; first | apply W.seq | apply W.region))
    refine W.condKT rfl (dec_true (by omega)) ?_
    repeat' (first
      | (apply WL.alloc tOk; exact rfl; exact rfl; exact rfl; intro gb w' hb hge hx; (obtain ⟨g6, rfl⟩ : ∃ x, x = gb := ⟨_, rfl⟩; obtain ⟨hge6, rfl⟩ : ∃ x, x = hge := ⟨_, rfl⟩))
      | (apply WL.storeB (w0 := w8) tOk; exact rfl; exact rfl; exact rfl; exact rfl; assumption; (exact extA); exact rfl; exact rfl; exact rfl; (exact extA); (first | assumption | omega | (focus (apply Nat.le_trans; rotate_left; assumption; exact Below.size (by (exact extA)); done))); intro w' hb hc hX' hU; have hcc := hc; obtain ⟨h1, h2, _⟩ := hc; (obtain ⟨w9, rfl⟩ : ∃ x, x = w' := ⟨_, rfl⟩; obtain ⟨hb9, rfl⟩ : ∃ x, x = hb := ⟨_, rfl⟩; obtain ⟨hX9, rfl⟩ : ∃ x, x = hX' := ⟨_, rfl⟩; have hC6 := cells_heap hb9; obtain ⟨i0, i1, i2, _⟩ := hC6))
      | (apply WL.lit tOk; exact rfl; exact rfl; exact rfl; exact rfl; exact rfl; exact rfl; (first | exact rfl | kernel_rfl | (simp [Instr.fill, catCells]; done)); exact rfl; intro gb w' hb hge hc hx; have hO := Own.of_block ([x.2.1]) encI_ok hb hge rfl; (obtain ⟨g36, rfl⟩ : ∃ x, x = gb := ⟨_, rfl⟩; obtain ⟨w10, rfl⟩ : ∃ x, x = w' := ⟨_, rfl⟩; obtain ⟨hx10, rfl⟩ : ∃ x, x = hx := ⟨_, rfl⟩; obtain ⟨hO10, rfl⟩ : ∃ x, x = hO := ⟨_, rfl⟩))
      | (show WL _ _ _ _ _ _ _; first | apply WL.nil | (refine WL.au (k := ?_)) | (apply WL.index tOk; exact rfl; exact rfl; exact rfl; exact rfl; exact rfl; exact rfl; exact rfl; exact rfl; assumption; (exact extA); exact rfl; omega; assumption; intro b off h; have hcc := h; first | (obtain ⟨h1, h2, h3, h4, h5, h6, _⟩ := h) | (obtain ⟨h1, h2, h3, _⟩ := h) | (obtain ⟨h1, h2, _⟩ := h) | (obtain ⟨h1, _⟩ := h)))
      | (show Z _ _ _ _ _; apply Z.then_normal)
      | (show W _ _ _ _ _ _; first | apply W.seq | apply W.region | apply W.block | apply W.skip))
    have hX810 : Ext w8 w10 := (by (exact extA))
    have hX10w : Ext wc w10 := hX8.trans hX810
    have hS10 := hS8.ext hX810
    have hrl : rm < w8.heap.size := (hS8.lt (i := 1) rfl rfl).2
    have hg36 : w8.heap.size ≤ g36 := Nat.le_trans (Below.size hX9) (hO10.blk_lt g36 rfl).1
    have R36 : Row 1 encI w10 (some ⟨g36, 0, none⟩) [x.2.1] := hO10.row encI_ok
    have e1 : addK (addK K0 ((c.lat.2.2.take k).map (fun x => x.2.1 / 2))) ([x.2.1].map (· / 2)) = addK K0 ((c.lat.2.2.take (k + 1)).map (fun x => x.2.1 / 2)) := by
      rw [addK_app, take_succ' hgx, List.map_append]; rfl
    repeat' (first
      | ((show WL _ _ _ (⟨_, .call ⟨.value (.tmp _), _, _⟩, _, _, _, _⟩ :: _) _ _ _; apply WL.call; exact rfl; exact rfl; exact rfl; exact rfl; exact renum_TrimS wc w10 g3 rm _ [x.2.1] _ _ [PG] hX10w hS10 R36 (new_ne (by omega)) (fun l hl => by rw [List.mem_singleton.1 hl]; exact hxu); rintro v' w11 ⟨rfl, hX11, hS11⟩))
      | (show WL _ _ _ _ _ _ _; first | apply WL.nil | (refine WL.au (k := ?_)))
      | (show Z _ _ _ _ _; first | apply Z.then_normal | apply Z.block_normal)
      | (show W _ _ _ _ _ _; apply W.region))
    rw [e1] at hS11
    exact Z.againW ⟨by omega, hX11, hS11⟩ ⟨rfl, rfl, rfl, rfl, rfl, rfl, rfl, trivial⟩
  obtain rfl : k = c.lat.2.2.length := by omega
  rw [List.take_length] at hS8
  have hks : ∀ v, v ∈ addK K0 (c.lat.2.2.map (fun x => x.2.1 / 2)) ↔ v ∈ c.t.roots.map (· / 2) := by
    intro v
    rw [hK0]
    simp only [addK_mem, List.map_append, List.mem_append, List.not_mem_nil, false_or, List.map_map, CirT.roots, Function.comp_def]
  have hK := KInv.start hg hks
  generalize addK K0 (c.lat.2.2.map (fun x => x.2.1 / 2)) = ks at hS8 hK
  have h7 : ¬ Twice c.t := fun ⟨i, x, h1, h2⟩ => by
    have h3 := List.pairwise_iff_getElem.1 (List.nodup_iff_pairwise_ne.1 hg.once)
    obtain ⟨j, hj, he⟩ := List.mem_take_iff_getElem.1 h2
    obtain ⟨hi, he2⟩ := List.getElem?_eq_some_iff.1 h1
    exact h3 j i (by omega) hi (by omega) (by rw [he, he2])
  have honce : Once c.gates.2.2 := once_of (c := c.t) h7 fun x hx => (hown x hx).2.1
  have hgm : ∀ g ∈ c.gates.2.2, g.1 ∈ c.t.own ∧ g.2.1 ∈ c.t.used ∧ g.2.2 ∈ c.t.used := fun g hg =>
    ⟨List.mem_append.2 (.inr (List.mem_map.2 ⟨g, hg, rfl⟩)), List.mem_append.2 (.inr (List.mem_flatMap.2 ⟨g, hg, by simp⟩)), List.mem_append.2 (.inr (List.mem_flatMap.2 ⟨g, hg, by simp⟩))⟩
  have hgG := hg
  have hok : gsOk c.gates.2.2 := fun g hg => by
    obtain ⟨r1, r2, r3⟩ := hgm g hg
    have := hown _ r1
    have e2 : 0 ≤ g.2.1 ∧ g.2.1 ≤ 2 * c.max + 1 := hgG.used _ r2
    have e3 : 0 ≤ g.2.2 ∧ g.2.2 ≤ 2 * c.max + 1 := hgG.used _ r3
    omega
  have hcc8 : Cells w8 gc 0 c.vals := hcells.ext hX8
  repeat' (first
    | (show WL _ _ _ _ _ _ _; first | apply WL.nil | (refine WL.au (k := ?_)))
    | (show Z _ _ _ _ _; apply Z.then_normal)
    | (show W _ _ _ _ _ _; first | apply W.seq | apply W.region))
  refine W.condKF rfl (dec_false (by omega)) ?_
  repeat' (first
    | ((show WL _ _ _ (⟨_, .call ⟨.value (.func 111), _, _⟩, _, _, _, _⟩ :: _) _ _ _); apply WL.call; exact rfl; exact rfl; exact rfl; exact rfl; exact circ_Order c _ (hC.gates.row.ext (hxc.trans (hX8.trans (by (exact extA))))) hok (by omega) honce; rintro v' w' ⟨hx, a', cap', rfl, hO⟩; (obtain ⟨hOd, rfl⟩ : ∃ x, x = hO := ⟨_, rfl⟩; obtain ⟨hxd, rfl⟩ : ∃ x, x = hx := ⟨_, rfl⟩; obtain ⟨w9, rfl⟩ : ∃ x, x = w' := ⟨_, rfl⟩; obtain ⟨ad, rfl⟩ : ∃ x, x = a' := ⟨_, rfl⟩; obtain ⟨cd, rfl⟩ : ∃ x, x = cap' := ⟨_, rfl⟩))
    | (show WL _ _ _ _ _ _ _; first | apply WL.nil | (refine WL.au (k := ?_)))
    | (show Z _ _ _ _ _; first | apply Z.then_normal | apply Z.then_exit | apply Z.block_exit)
    | (show W _ _ _ _ _ _; first | apply W.seq | apply W.region | apply W.exit))
  have hX89 : Ext w8 w9 := (by (exact extA))
  obtain ⟨OL, hOL⟩ : ∃ L, L = natI (ordL c.gates.2.2) := ⟨_, rfl⟩
  rw [← hOL] at hOd ⊢
  have hOll : OL.length = (ordL c.gates.2.2).length := by rw [hOL]; exact List.length_map _
  have hole := (ordL_is c.gates.2.2).1.le
  have hS9 := hS8.ext hX89
  have hg8 : w8.heap.size ≤ w8.heap.size := Nat.le_refl _
  repeat' (first
    | (((show WL _ _ _ (⟨_, .call ⟨.value (.func 112), _, _⟩, _, _, _, _⟩ :: _) _ _ _); apply WL.call; exact rfl; exact rfl; exact rfl; exact rfl; exact slices_Reverse w8 w9 ad cd OL hX89 (hOd.base (Below.size (by (exact extA)))) (by omega); rintro v' w10 ⟨rfl, hO10, hB10, hX10⟩))
    | (show WL _ _ _ _ _ _ _; first | apply WL.nil | (refine WL.au (k := ?_)))
    | (show Z _ _ _ _ _; apply Z.then_normal)
    | (show W _ _ _ _ _ _; first | apply W.seq | apply W.region | apply W.block))
  have hX8w := hX8
  have hS10 : Lt.Sep wc.heap.size w10 (mpP g3 rm ks ++ [PG, prow 1 encI 3 wc.heap.size ad cd OL.reverse]) := Sep.rot (Sep.newRow' hS8 hX10 hO10 (Below.size hX8))
  have hK0' : KInv c.t ks (OL.length - 0) := by rw [hOll]; exact hK
  refine W.loopW OL.length (fun k w' => k ≤ OL.length ∧ Ext wc w' ∧ ∃ ks, KInv c.t ks (OL.length - k) ∧ Lt.Sep wc.heap.size w' (mpP g3 rm ks ++ [PG, prow 1 encI 3 wc.heap.size ad cd OL.reverse])) (fun k => [(1, .pointer (some ⟨gc, 0, none⟩)), (2, .pointer (some ⟨g2, 0, none⟩)), (3, .pointer (some ⟨g3, 0, none⟩)), (4, .func (.func 110) #[] #[.pointer (some ⟨g3, 0, none⟩)]), (43, .slice ad OL.length cd), (44, .int .i64 OL.length), (45, .int .i64 k)]) ⟨Nat.zero_le _, hX8.trans hX10, ks, hK0', hS10⟩ (fun k w' h => h.1) ⟨rfl, rfl, rfl, rfl, rfl, rfl, rfl, trivial⟩ ?_
  clear hS10 hK0' hK hS9 hS8 hO10 hB10 hOd hX8w hcc8 y0 y1 y2 y3 y4 y5 y6 hX10 hX89 hxd hX8
  rintro k w11 ⟨hk, hX11, ks, hK, hS⟩
  obtain ⟨y0, y1, y2, y3, y4, y5, y6, _⟩ := hcells.ext hX11
  have hX11w : Ext w w11 := hxc.trans hX11
  by_cases hlt : k < OL.length
  · obtain ⟨i, hi⟩ := getI (ordL c.gates.2.2) (show OL.length - 1 - k < (ordL c.gates.2.2).length by omega)
    obtain ⟨g, hgg⟩ := getI c.gates.2.2 ((ordL_is c.gates.2.2).1.lt i (List.mem_of_getElem? hi))
    have hOi : OL.reverse[((k : Nat) : Int).toNat]? = some (i : Int) := by
      rw [Int.toNat_natCast, List.getElem?_reverse hlt, hOL, natI, List.getElem?_map, ← natI, ← hOL, hi]; rfl
    have hgi : c.gates.2.2[((i : Nat) : Int).toNat]? = some g := by rw [Int.toNat_natCast]; exact hgg
    have hlr : OL.reverse.length = OL.length := List.length_reverse
    have Rg := hC.gates.row.ext hX11w
    have hOo := hS.row (i := 3) rfl
    have RO := hOo.row encI_ok
    have hMp := hS.map (i := 1) rfl
    have hc3 := (cells_heap (hS.cell (i := 0) rfl)).1
    have hrl : rm < w11.heap.size := (hS.lt (i := 1) rfl rfl).2
    obtain ⟨r1, r2, r3⟩ := hgm g (List.mem_of_getElem? hgg)
    have b1 := hown _ r1
    have b2 := hused _ r2
    have b3 := hused _ r3
    have hK1 : KInv c.t ks ((OL.length - (k + 1)) + 1) := by rw [show OL.length - (k + 1) + 1 = OL.length - k by omega]; exact hK
    have hi' : (ordL c.t.gates)[OL.length - (k + 1)]? = some i := by rw [show OL.length - (k + 1) = OL.length - 1 - k by omega]; exact hi
    repeat' (first
      | (show WL _ _ _ _ _ _ _; first | apply WL.nil | (refine WL.au (k := ?_)))
      | (show Z _ _ _ _ _; apply Z.then_normal)
      | (show W _ _ _ _ _ _; first | apply W.seq | apply W.region))
    refine W.condKT rfl (dec_true (by omega)) ?_
    repeat' (first
      | ((apply WL.indexO tOk; exact rfl; exact rfl; exact rfl; exact rfl; exact rfl; exact rfl; exact rfl; exact rfl; exact hOo; exact (by (exact extA)); exact encI_ok; exact hlr; omega; exact hOi; intro gb ha hc; obtain ⟨h1, _⟩ := hc))
      | (apply WL.alloc tOk; exact rfl; exact rfl; exact rfl; intro gb w' hb hge hx; (obtain ⟨g10, rfl⟩ : ∃ x, x = gb := ⟨_, rfl⟩; obtain ⟨hge10, rfl⟩ : ∃ x, x = hge := ⟨_, rfl⟩))
      | (apply WL.storeB (w0 := w11) tOk; exact rfl; exact rfl; exact rfl; exact rfl; assumption; (exact extA); exact rfl; exact rfl; exact rfl; (exact extA); (first | assumption | omega | (focus (apply Nat.le_trans; rotate_left; assumption; exact Below.size (by (exact extA)); done))); intro w' hb hc hX' hU; have hcc := hc; obtain ⟨h1, h2, _⟩ := hc; (obtain ⟨w12, rfl⟩ : ∃ x, x = w' := ⟨_, rfl⟩; obtain ⟨hb12, rfl⟩ : ∃ x, x = hb := ⟨_, rfl⟩; obtain ⟨hX12, rfl⟩ : ∃ x, x = hX' := ⟨_, rfl⟩; have hC10 := cells_heap hb12; obtain ⟨i0, i1, i2, _⟩ := hC10))
      | ((apply WL.lookKeys tOk keyI; exact rfl; exact rfl; exact rfl; exact rfl; exact rfl; exact rfl; exact rfl; exact rfl; exact hMp.ext (by (exact extA))))
      | (show WL _ _ _ _ _ _ _; first | apply WL.nil | (refine WL.au (k := ?_)) | (apply WL.index tOk; exact rfl; exact rfl; exact rfl; exact rfl; exact rfl; exact rfl; exact rfl; exact rfl; assumption; (exact extA); exact rfl; omega; assumption; intro b off h; have hcc := h; first | (obtain ⟨h1, h2, h3, h4, h5, h6, _⟩ := h) | (obtain ⟨h1, h2, h3, _⟩ := h) | (obtain ⟨h1, h2, _⟩ := h) | (obtain ⟨h1, _⟩ := h)))
      | (show Z _ _ _ _ _; apply Z.then_normal)
      | (show W _ _ _ _ _ _; first | apply W.seq | apply W.region | apply W.block | apply W.skip))
    by_cases hin : g.1 / 2 ∈ ks
    · have hK2 := hK1.take hi' hgg hin
      refine W.condKT rfl (dec_true hin) ?_
      repeat' (first
        | (apply WL.lit tOk; exact rfl; exact rfl; exact rfl; exact rfl; exact rfl; exact rfl; (first | exact rfl | kernel_rfl | (simp [Instr.fill, catCells]; done)); exact rfl; intro gb w' hb hge hc hx; have hO := Own.of_block ([g.2.1, g.2.2]) encI_ok hb hge rfl; (obtain ⟨g64, rfl⟩ : ∃ x, x = gb := ⟨_, rfl⟩; obtain ⟨w13, rfl⟩ : ∃ x, x = w' := ⟨_, rfl⟩; obtain ⟨hx13, rfl⟩ : ∃ x, x = hx := ⟨_, rfl⟩; obtain ⟨hO13, rfl⟩ : ∃ x, x = hO := ⟨_, rfl⟩))
        | (show WL _ _ _ _ _ _ _; (refine WL.au (k := ?_)))
        | (show W _ _ _ _ _ _; apply W.region))
      have hX13 : Ext w11 w13 := (by (exact extA))
      have hg64 : w11.heap.size ≤ g64 := Nat.le_trans (Below.size hX12) (hO13.blk_lt g64 rfl).1
      have R64 : Row 1 encI w13 (some ⟨g64, 0, none⟩) [g.2.1, g.2.2] := hO13.row encI_ok
      repeat' (first
        | ((show WL _ _ _ (⟨_, .call ⟨.value (.tmp _), _, _⟩, _, _, _, _⟩ :: _) _ _ _; apply WL.call; exact rfl; exact rfl; exact rfl; exact rfl; exact renum_TrimS wc w13 g3 rm ks [g.2.1, g.2.2] _ _ [PG, prow 1 encI 3 wc.heap.size ad cd OL.reverse] (hX11.trans hX13) (hS.ext hX13) R64 (new_ne (by omega)) (fun l hl => by simp only [List.mem_cons, List.not_mem_nil, or_false] at hl; rcases hl with rfl | rfl; exact b2; exact b3); rintro v' w14 ⟨rfl, hX14, hS14⟩))
        | (show WL _ _ _ _ _ _ _; first | apply WL.nil | (refine WL.au (k := ?_)))
        | (show Z _ _ _ _ _; first | apply Z.then_normal | apply Z.block_normal)
        | (show W _ _ _ _ _ _; apply W.region))
      exact Z.againW ⟨by omega, hX14, _, hK2, hS14⟩ ⟨rfl, rfl, rfl, rfl, rfl, rfl, rfl, trivial⟩
    · have hK2 := hK1.skip hi' hgg hin
      refine W.condKF rfl (dec_false hin) ?_
      repeat' (first
        | (show WL _ _ _ _ _ _ _; first | apply WL.nil | (refine WL.au (k := ?_)))
        | (show Z _ _ _ _ _; first | apply Z.then_normal | apply Z.block_normal)
        | (show W _ _ _ _ _ _; first | apply W.region | apply W.skip))
      exact Z.againW ⟨by omega, hX11.trans hX12, ks, hK2, hS.ext hX12⟩ ⟨rfl, rfl, rfl, rfl, rfl, rfl, rfl, trivial⟩
  obtain rfl : k = OL.length := by omega
  rw [Nat.sub_self] at hK
  have hmem := hK.done
  have hcc11 : Cells w11 gc 0 c.vals := hcells.ext hX11
  repeat' (first
    | (show WL _ _ _ _ _ _ _; first | apply WL.nil | (refine WL.au (k := ?_)))
    | (show Z _ _ _ _ _; apply Z.then_normal)
    | (show W _ _ _ _ _ _; first | apply W.seq | apply W.region))
  refine W.condKF rfl (dec_false (by omega)) ?_
  repeat' (first
    | (((show WL _ _ _ (⟨_, .call ⟨.value (.func 89), _, _⟩, _, _, _, _⟩ :: _) _ _ _); apply WL.call; exact rfl; exact rfl; exact rfl; exact rfl; exact circ_Clone c w11 (hC.ext hX11w) hz hz7; rintro v' w12 ⟨hx12, d, rfl, hdt, hOd⟩))
    | (apply WL.alloc tOk; exact rfl; exact rfl; exact rfl; intro gb w' hb hge hx; (obtain ⟨g11, rfl⟩ : ∃ x, x = gb := ⟨_, rfl⟩; obtain ⟨w13, rfl⟩ : ∃ x, x = w' := ⟨_, rfl⟩; obtain ⟨hx13, rfl⟩ : ∃ x, x = hx := ⟨_, rfl⟩; obtain ⟨hge11, rfl⟩ : ∃ x, x = hge := ⟨_, rfl⟩))
    | (apply WL.storeB (w0 := w12) tOk; exact rfl; exact rfl; exact rfl; exact rfl; assumption; (exact extA); exact rfl; exact rfl; exact rfl; (exact extA); (first | assumption | omega | (focus (apply Nat.le_trans; rotate_left; assumption; exact Below.size (by (exact extA)); done))); intro w' hb hc hX' hU; have hcc := hc; obtain ⟨h1, h2, _⟩ := hc; (obtain ⟨w14, rfl⟩ : ∃ x, x = w' := ⟨_, rfl⟩; obtain ⟨hb14, rfl⟩ : ∃ x, x = hb := ⟨_, rfl⟩; obtain ⟨hX14, rfl⟩ : ∃ x, x = hX' := ⟨_, rfl⟩))
    | (show WL _ _ _ _ _ _ _; first | apply WL.nil | (refine WL.au (k := ?_)))
    | (show Z _ _ _ _ _; first | apply Z.then_normal | apply Z.then_exit | apply Z.block_exit)
    | (show W _ _ _ _ _ _; first | apply W.seq | apply W.region | apply W.exit))
  have hX11_14 : Ext w11 w14 := hx12.trans hX14
  have hS14 : Lt.Sep w11.heap.size w14 (pcell g11 d.vals.toArray 28 :: d.ps w11.heap.size) := Sep.newCell hOd.sep hX14 hb14 hge11 (Below.size hx12)
  have hSm := hS.ext hX11_14
  have hc2 : w11.heap[g2]? = some (.cells zC 28 (0, 0)) := by rw [hPG] at hS; exact hS.cell (i := 2) rfl
  clear hcc h1 h2 hU
  have hdg : d.gates.2.2 = c.gates.2.2 := congrArg CirT.gates hdt
  obtain ⟨y0, y1, y2, y3, y4, y5, y6, y7, y8, _⟩ := cells_heap (hS14.cell (i := 0) rfl)
  have hgl3 : g3 < w11.heap.size := (hS.lt (i := 0) rfl rfl).2
  have hrl3 : rm < w11.heap.size := (hS.lt (i := 1) rfl rfl).2
  have hc3 : w14.cell? ⟨g3, 0, none⟩ = some (.map (some rm)) := (cells_heap (hSm.cell (i := 0) rfl)).1
  have hM3 : MapIs encK isB w14 rm (keysL true ks) := hSm.map (i := 1) rfl
  have hdel : Lt.Spec Try.prog 113 [.slice d.gates.1 d.gates.2.2.length d.gates.2.1, .func (.func 114) #[] #[.pointer (some ⟨g3, 0, none⟩)]] w14 (fun v w15 => v = .slice d.gates.1 (c.gates.2.2.filter (keepG c.t)).length d.gates.2.1 ∧ Ext w11 w15 ∧ ∃ P : Piece, (∀ w16, P.P w16 → Row 3 enc3 w16 d.gates.1 (c.gates.2.2.filter (keepG c.t))) ∧ Lt.Sep w11.heap.size w15 [pcell g11 d.vals.toArray 28, prowZ 3 encY 110 w11.heap.size d.syms.1 d.syms.2.1 d.syms.2.2, P, prowZ 3 enc3 69 w11.heap.size d.lat.1 d.lat.2.1 d.lat.2.2, prowZ 1 encI 3 w11.heap.size d.cons.1 d.cons.2.1 d.cons.2.2, prowZ 1 encI 3 w11.heap.size d.bads.1 d.bads.2.1 d.bads.2.2, prowZ 1 encI 3 w11.heap.size d.outs.1 d.outs.2.1 d.outs.2.2, prowZ 1 encI 3 w11.heap.size d.ins.1 d.ins.2.1 d.ins.2.2]) := by
    by_cases hne : d.gates.2.2 = []
    · have e : c.gates.2.2.filter (keepG c.t) = [] := by rw [← hdg, hne]; rfl
      rw [e, hne]
      refine (slices_DeleteFunc0 w14 d.gates.1 d.gates.2.1 114 [.pointer (some ⟨g3, 0, none⟩)]).mono ?_
      rintro v w15 ⟨rfl, hx15⟩
      exact ⟨rfl, hX11_14.trans hx15, _, fun w16 _ => Row.nil _ _ _ _, hS14.ext hx15⟩
    · have hO : Own 3 enc3 106 w11.heap.size w14 d.gates.1 d.gates.2.1 d.gates.2.2 := hS14.rowZ (i := 2) rfl hne
      refine (slices_DeleteFuncG w11 w14 d.gates.1 d.gates.2.1 d.gates.2.2 114 [.pointer (some ⟨g3, 0, none⟩)] (fun g => !dec (g.1 / 2 ∈ ks)) (keepG c.t) hX11_14 hO (by rw [hdg]; exact z6) (fun x _ => congrArg (! ·) (dec_congr (hmem _))) (fun x hx w1 hB => ?_)).mono ?_
      · rw [hdg] at hx
        have hgx := hown _ (hgm x hx).1
        refine renum_Trim2 w1 g3 rm ks x (But.cell hB hc3 (fun he => ?_)) (hM3.keep (hB.block rm hM3.lt (fun he => ?_))) (by omega)
        · have := (hO.blk_lt g3 he).1; omega
        · have := (hO.blk_lt rm he.symm).1; omega
      · rintro v w15 ⟨rfl, hO15, hB15, hX15⟩
        rw [hdg] at hO15
        refine ⟨by rw [hdg], hX15, prow 3 enc3 106 w11.heap.size d.gates.1 d.gates.2.1 (c.gates.2.2.filter (keepG c.t)), fun w16 h => Own.row enc3_ok h, ?_⟩
        exact hS14.upd (i := 2) (p' := prow 3 enc3 106 w11.heap.size d.gates.1 d.gates.2.1 (c.gates.2.2.filter (keepG c.t))) rfl (by rw [prowZ_b hne]; exact hB15) hO15 (.inl (prowZ_b hne).symm) (Below.size hX11_14)
  repeat' (first
    | (((show WL _ _ _ (⟨_, .call ⟨.value (.func 113), _, _⟩, _, _, _, _⟩ :: _) _ _ _); apply WL.call; exact rfl; exact rfl; exact rfl; exact rfl; exact hdel; rintro v' w15 ⟨rfl, hX15, P, hP, hS15⟩))
    | (show WL _ _ _ _ _ _ _; (refine WL.au (k := ?_))))
  have hS := hS15
  clear hSm hS14 hS15
  have hC0 := hS.cell (i := 0) rfl
  repeat' (first
    | (apply WL.storeF (w0 := w11) tOk; exact rfl; exact rfl; exact rfl; exact rfl; assumption; (exact extA); exact rfl; exact rfl; exact rfl; exact rfl; (exact extA); (first | assumption | omega | (focus (apply Nat.le_trans; rotate_left; assumption; exact Below.size (by (exact extA))))); intro w' hb hX' hU; replace hS := Sep.updCell (i := 0) rfl hU hb hS (by (exact extA)) (by (first | exact Nat.le_refl _ | exact Below.size (by (exact extA)))); (try simp only [List.set_cons_zero, List.set_cons_succ] at hS); (try have hR0 := hS.row (i := 0) rfl); (try have hR1 := hS.row (i := 1) rfl); (try have hR2 := hS.row (i := 2) rfl); (try have hR3 := hS.row (i := 3) rfl); (try have hR4 := hS.row (i := 4) rfl); (try have hC0 := hS.cell (i := 0) rfl); (try have hD0 := (cells_heap hC0).1); (try have hE0 := (cells_heap hC0).2.1); (try have hF0 := (cells_heap hC0).2.2.1); (try have hG0 := (cells_heap hC0).2.2.2.1); (try have hC1 := hS.cell (i := 1) rfl); (try have hD1 := (cells_heap hC1).1); (try have hE1 := (cells_heap hC1).2.1); (try have hF1 := (cells_heap hC1).2.2.1); (try have hG1 := (cells_heap hC1).2.2.2.1); (try have hC2 := hS.cell (i := 2) rfl); (try have hD2 := (cells_heap hC2).1); (try have hE2 := (cells_heap hC2).2.1); (try have hF2 := (cells_heap hC2).2.2.1); (try have hG2 := (cells_heap hC2).2.2.2.1); (try have hC3 := hS.cell (i := 3) rfl); (try have hD3 := (cells_heap hC3).1); (try have hE3 := (cells_heap hC3).2.1); (try have hF3 := (cells_heap hC3).2.2.1); (try have hG3 := (cells_heap hC3).2.2.2.1); (try have hC4 := hS.cell (i := 4) rfl); (try have hD4 := (cells_heap hC4).1); (try have hE4 := (cells_heap hC4).2.1); (try have hF4 := (cells_heap hC4).2.2.1); (try have hG4 := (cells_heap hC4).2.2.2.1); (try have hM0 := hS.map (i := 0) rfl); (try have hM1 := hS.map (i := 1) rfl); (try have hM2 := hS.map (i := 2) rfl); (try have hM3 := hS.map (i := 3) rfl); (try have hM4 := hS.map (i := 4) rfl))
    | (show WL _ _ _ _ _ _ _; apply WL.nil)
    | (show Z _ _ _ _ _; apply Z.then_normal)
    | (show W _ _ _ _ _ _; first | apply W.seq | apply W.region))
  obtain ⟨dd, hdd⟩ : ∃ dd : Circ, dd = ⟨d.max, d.ins, d.lat, d.outs, d.bads, d.cons, (d.gates.1, d.gates.2.1, c.gates.2.2.filter (keepG c.t)), d.syms, d.com⟩ := ⟨_, rfl⟩
  have hcd : Cells w' g11 0 dd.vals := by rw [hdd]; exact cells_heap (hS.cell (i := 0) rfl)
  have hX16 : Ext w11 w' := hX'
  have hb2' : w'.heap[g2]? = some (.cells (Value.cells (.agg #[.int .i64 0, .slice none 0 0, .slice none 0 0, .slice none 0 0, .slice none 0 0, .slice none 0 0, .slice none 0 0, .slice none 0 0, .string ⟨#[]⟩])) 28 (0, 0)) := by
    rw [← hzC, hX16.block g2 (heap_lt hc2)]; exact hc2
  obtain ⟨w16, rfl⟩ : ∃ x, x = w' := ⟨_, rfl⟩
  have hg2w : w.heap.size ≤ g2 := Nat.le_trans hwc hge2
  have hg2l := heap_lt hc2
  have hXw16 : Ext w w16 := hX11w.trans hX16
  clear hU
  repeat' (first
    | (apply WL.storeB (w0 := w) tOk; exact rfl; exact rfl; exact rfl; exact rfl; assumption; (exact extA); exact rfl; exact rfl; exact rfl; (exact extA); (first | assumption | omega | (focus (apply Nat.le_trans; rotate_left; assumption; exact Below.size (by (exact extA)); done))); intro w' hb hc hX' hU; have hcc := hc; obtain ⟨h1, h2, _⟩ := hc; (obtain ⟨w17, rfl⟩ : ∃ x, x = w' := ⟨_, rfl⟩; obtain ⟨hb17, rfl⟩ : ∃ x, x = hb := ⟨_, rfl⟩; obtain ⟨hX17, rfl⟩ : ∃ x, x = hX' := ⟨_, rfl⟩))
    | (show WL _ _ _ _ _ _ _; first | apply WL.nil | (refine WL.au (k := ?_)))
    | (show Z _ _ _ _ _; apply Z.then_normal)
    | (show W _ _ _ _ _ _; apply W.ret))
  have hS17 := Sep.updOld2 hS hU hg2l
  have hcap := hOd.cap
  have hddt : dd.t = trimC c.t := by
    rw [hdd]
    show (⟨d.max, d.ins.2.2, d.lat.2.2, d.outs.2.2, d.bads.2.2, d.cons.2.2, c.gates.2.2.filter (keepG c.t), d.syms.2.2, d.com⟩ : CirT) = _
    unfold trimC
    rw [show d.max = c.max from congrArg CirT.max hdt, show d.ins.2.2 = c.ins.2.2 from congrArg CirT.ins hdt, show d.lat.2.2 = c.lat.2.2 from congrArg CirT.lat hdt, show d.outs.2.2 = c.outs.2.2 from congrArg CirT.outs hdt, show d.bads.2.2 = c.bads.2.2 from congrArg CirT.bads hdt, show d.cons.2.2 = c.cons.2.2 from congrArg CirT.cons hdt, show d.syms.2.2 = c.syms.2.2 from congrArg CirT.syms hdt, show d.com = c.com from congrArg CirT.com hdt]
  have hCd : CAt w17 dd := by
    rw [hdd]
    refine ⟨⟨rowZ_row2 encI_ok hS17 (i := 7) rfl, hcap.ins.1, hcap.ins.2⟩, ⟨rowZ_row2 enc3_ok hS17 (i := 3) rfl, hcap.lat.1, hcap.lat.2⟩, ⟨rowZ_row2 encI_ok hS17 (i := 6) rfl, hcap.outs.1, hcap.outs.2⟩, ⟨rowZ_row2 encI_ok hS17 (i := 5) rfl, hcap.bads.1, hcap.bads.2⟩,
      ⟨rowZ_row2 encI_ok hS17 (i := 4) rfl, hcap.cons.1, hcap.cons.2⟩, ⟨hP _ (hS17.holds 2 _ rfl).1, ?_, hcap.gates.2⟩, ⟨rowZ_row2 encY_ok hS17 (i := 1) rfl, hcap.syms.1, hcap.syms.2⟩⟩
    have h1 := hcap.gates.1
    rw [hdg] at h1
    exact Nat.le_trans (List.length_filter_le _ _) h1
  exact Z.bodyC tOk Try.results51 rfl rfl rfl rfl (cells_heap hb17) fun m => ⟨hX17.at m, dd, rfl, hddt, hCd.ext ((Ext.refl _).at m)⟩
end Go.Proofs.Ythpnahapiodflaa
namespace Go.Proofs.Ythpnahapiodflaa
open Go Go.Lt Go.RowKit
set_option linter.unusedVariables false
set_option linter.unusedSimpArgs false
set_option maxRecDepth 20000

/-- A literal has a new one. -/
def LitOk (A : List Int) (l : Int) : Prop := 0 ≤ l ∧ l ≤ 4294967296 ∧ ∃ z, A[(l / 2).toNat]? = some z ∧ 0 ≤ z ∧ z % 2 = 0 ∧ z ≤ 4294967296
theorem net_litOk {c : CirT} (h : GoodC' c) (hz : SzC c 100000) {l : Int} (hl : l ∈ c.used ∨ l ∈ c.own) : LitOk (cNet c).2 l := by
  have hm := h.max
  have hn := net_len h hz
  rcases hl with hl | hl
  · have hu := h.used l hl
    obtain ⟨z, h1, h2, h3, h4⟩ := net_lit h hl
    exact ⟨hu.1, by omega, z, h1, h2, h3, by omega⟩
  · have ho := h.own l hl
    obtain ⟨k, hk⟩ := List.mem_iff_getElem?.1 (seq_all h hl)
    have h1 := (cNet_ok h).1.has k l hk
    have h2 := lt_of_get hk
    have h3 := (cNet_ok h).1.len1
    exact ⟨by omega, by omega, _, h1, by omega, by omega, by omega⟩
end Go.Proofs.Ythpnahapiodflaa
namespace Go.Lt
open Go.RowKit
set_option linter.unusedVariables false
section
variable {P : Program} {N : Nat} {e : Env} {w : World} {T : Tab} {ti : TI}
theorem Z.bodyCT {fn : Func} {R : Value → World → Prop} {b ty : Nat} {vs : List Value} {t u : Nat} {x : Value} (hT : OkTab P T) (hr : fn.results = #[.cell t ty, .tmp u]) (hv : get e t = some (.pointer (some ⟨b, 0, none⟩))) (hx : get e u = some x)
    (ht : tget T ty = some ti) (ha : isAggD ti.desc = true) (hs : ti.size = vs.length) (hc : Cells w b 0 vs) (hR : ∀ m, R (.tuple #[.agg vs.toArray, x]) (at' w m)) :
    Z N (bodyPost P fn fun x w' => ∃ v, x = .returned v ∧ R v w') .ret e w := ⟨fun a m hf => by
  have h1 := run_isAgg' (hT.at ht) (at' w m); rw [ha] at h1
  have h3 := run_sizeOf' (hT.at ht) (at' w m); rw [hs] at h3
  have h2 := run_loadCellsFrom (P := P) (acc := #[]) (off := 0) (i := 0) (b := b) (hc.ext ((Ext.refl w).at m))
  refine bodyPost_ret (v := .tuple #[.agg vs.toArray, x]) ?_ hf.defers ⟨_, rfl, hR m⟩
  have h4 := hf.slots _ _ hv
  have h5 := hf.slots _ _ hx
  simp [results, hr, Array.getD_eq_getD_getElem?, h4, h5, asAddr, loadVar, h1, h3, loadCells, h2]⟩
end
end Go.Lt
namespace Go.Proofs.Ythpnahapiodflaa
open Go Go.Lt Go.RowKit
set_option linter.unusedVariables false
set_option linter.unusedSimpArgs false
set_option maxRecDepth 20000

/-- It holds as long as the blocks from b on stay as they are in w. -/
def Stay (b : Nat) (w : World) (P : World → Prop) : Prop := ∀ w', w.heap.size ≤ w'.heap.size → (∀ k, b ≤ k → k < w.heap.size → w'.heap[k]? = w.heap[k]?) → P w'
theorem Sep.stay {B b : Nat} {w : World} {ps : List Piece} (hS : Lt.Sep B w ps) (hb : b ≤ B) : Stay b w (fun w' => Lt.Sep B w' ps) := by
  intro w' hsz hk
  refine ⟨fun i p h => ⟨p.keep (hS.holds i p h).1 (fun k hp => hk k (Nat.le_trans hb ((hS.holds i p h).2 k hp).1) ((hS.holds i p h).2 k hp).2), fun k hp => ⟨((hS.holds i p h).2 k hp).1, Nat.lt_of_lt_of_le ((hS.holds i p h).2 k hp).2 hsz⟩⟩, hS.apart⟩
theorem Own.stay {α : Type} {s : Nat} {enc : α → List Value} {el B b cap : Nat} {w w' : World} {a : Option Addr} {l : List α} (h : Own s enc el B w a cap l) (hb : b ≤ B) (hk : ∀ k, b ≤ k → k < w.heap.size → w'.heap[k]? = w.heap[k]?) : Own s enc el B w' a cap l :=
  h.keep fun k hp => hk k (Nat.le_trans hb (h.blk_lt k hp).1) (h.blk_lt k hp).2
end Go.Proofs.Ythpnahapiodflaa
namespace Go.Proofs.Ythpnahapiodflaa
open Go Go.Lt Go.RowKit
set_option linter.unusedVariables false
set_option linter.unusedSimpArgs false
set_option maxRecDepth 20000

theorem renum_Number1 (w : World) (g5 : Nat) (aa : Option Addr) (ca : Nat) (A : List Int) (l : Int) (hc : w.cell? ⟨g5, 0, none⟩ = some (.slice aa A.length ca)) (R : Row 1 encI w aa A) (h : LitOk A l) :
    Still Try.prog 88 [.int .i64 l, .pointer (some ⟨g5, 0, none⟩)] w (.int .i64 (litI A l)) := by
  obtain ⟨h0, h1, z, hz, z0, z2, z3⟩ := h
  have hlt := lt_of_get hz
  have hl := R.len
  have e0 : litI A l = xorI z (l % 2) := litI_some hz
  refine Spec.of _ Try.func88 rfl Try.ntmps88 (by kernel_rfl) rfl ?_
  repeat' (first
    | (apply WL.andA; exact rfl; exact rfl; exact rfl; exact rfl)
    | (apply WL.xorI; exact rfl; exact rfl; exact rfl; exact rfl; omega; omega)
    | (show WL _ _ _ _ _ _ _; first | apply WL.nil | (refine WL.au (k := ?_)) | (apply WL.index tOk; exact rfl; exact rfl; exact rfl; exact rfl; exact rfl; exact rfl; exact rfl; exact rfl; assumption; (exact extA); exact rfl; omega; assumption; intro b off h; have hcc := h; first | (obtain ⟨h1, h2, h3, h4, h5, h6, _⟩ := h) | (obtain ⟨h1, h2, h3, _⟩ := h) | (obtain ⟨h1, h2, _⟩ := h) | (obtain ⟨h1, _⟩ := h)))
    | (show Z _ _ _ _ _; apply Z.then_normal)
    | (show W _ _ _ _ _ _; first | apply W.seq | apply W.region | apply W.ret))
  exact Z.body1 Try.results88 rfl fun m => ⟨by rw [e0], m, rfl⟩
abbrev encRI : RowV Int → List Value := encRow
theorem encRI_ok : Enc 1 encRI := encRow_ok
/-- Another block, older than all pieces, is written. -/
theorem Sep.updOld {B B' g : Nat} {w w' : World} {ps : List Piece} (hS : Lt.Sep B w ps) (hU : Upd B' (some ⟨g, 0, none⟩) w w') (hg : g < B) : Lt.Sep B w' ps := by
  refine ⟨fun i p h => ⟨p.keep (hS.holds i p h).1 (fun k hk => hU.grown.block k ((hS.holds i p h).2 k hk).2 (fun he => ?_)), fun k hk => ⟨((hS.holds i p h).2 k hk).1, Nat.lt_of_lt_of_le ((hS.holds i p h).2 k hk).2 hU.grown.size⟩⟩, hS.apart⟩
  have h1 := ((hS.holds i p h).2 k hk).1
  simp only [blk, Option.map_some, Option.some.injEq] at he
  omega
theorem set_same {α : Type} {l : List α} {i : Nat} {x : α} (h : l[i]? = some x) : l.set i x = l := by
  apply List.ext_getElem?
  intro j
  rw [List.getElem?_set]
  split
  · rename_i hij; subst hij
    split
    · exact h.symm
    · rw [List.getElem?_eq_none (by omega)]
  · rfl
/-- Some of a list's first ones in other numbers. -/
def mapT {α : Type} (f : α → α) (L : List α) (k : Nat) : List α := (L.take k).map f ++ L.drop k
theorem mapT_0 {α : Type} (f : α → α) (L : List α) : mapT f L 0 = L := by simp [mapT]
theorem mapT_all {α : Type} (f : α → α) (L : List α) : mapT f L L.length = L.map f := by simp [mapT]
theorem mapT_len {α : Type} (f : α → α) (L : List α) (k : Nat) (h : k ≤ L.length) : (mapT f L k).length = L.length := by
  unfold mapT; rw [List.length_append, List.length_map, List.length_take, List.length_drop]; omega
theorem mapT_get {α : Type} {f : α → α} {L : List α} {k : Nat} {x : α} (h : L[k]? = some x) : (mapT f L k)[k]? = some x := by
  have hk := lt_of_get h
  have hl : ((L.take k).map f).length = k := by rw [List.length_map, List.length_take]; omega
  unfold mapT
  rw [List.getElem?_append_right (by omega), hl, Nat.sub_self, List.getElem?_drop, Nat.add_zero]; exact h
theorem mapT_set {α : Type} {f : α → α} {L : List α} {k : Nat} {x : α} (h : L[k]? = some x) : (mapT f L k).set k (f x) = mapT f L (k + 1) := by
  have hk := lt_of_get h
  have hl : ((L.take k).map f).length = k := by rw [List.length_map, List.length_take]; omega
  unfold mapT
  rw [take_succ' h, List.map_append, List.set_append_right _ _ (by omega), hl, Nat.sub_self, List.drop_eq_getElem_cons hk, List.set_cons_zero, List.append_assoc]
  rfl

/-- The gates among a net's first nodes. -/
def gTo (N : List (Int × Int)) : Nat → List T3
  | 0 => []
  | k + 1 => match N[k]? with | some x => if 0 ≤ x.1 then gTo N k ++ [gateG k x] else gTo N k | none => gTo N k
theorem gTo_yes {N : List (Int × Int)} {k : Nat} {x : Int × Int} (h : N[k]? = some x) (h0 : 0 ≤ x.1) : gTo N (k + 1) = gTo N k ++ [gateG k x] := by rw [gTo, h]; exact if_pos h0
theorem gTo_no {N : List (Int × Int)} {k : Nat} {x : Int × Int} (h : N[k]? = some x) (h0 : ¬ 0 ≤ x.1) : gTo N (k + 1) = gTo N k := by rw [gTo, h]; exact if_neg h0
theorem gTo_in {m : Nat} {N : List (Int × Int)} (h : OnlyG m N) : ∀ k, k ≤ m → gTo N k = []
  | 0, _ => rfl
  | k + 1, hk => by
    obtain ⟨x, hx⟩ := getI N (show k < N.length by have := h.le; omega)
    rw [gTo_no hx (by rw [h.inp k x hx (by omega)]; decide)]
    exact gTo_in h k (by omega)
theorem gTo_all {m : Nat} {N : List (Int × Int)} (h : OnlyG m N) : ∀ j, m + j ≤ N.length → gTo N (m + j) = gatesG N m j
  | 0, _ => by rw [Nat.add_zero, gTo_in h m (Nat.le_refl _)]; rfl
  | j + 1, hj => by
    obtain ⟨x, hx⟩ := getI N (show m + j < N.length by omega)
    rw [← Nat.add_assoc, gTo_yes hx (h.gate _ x hx (by omega)), gTo_all h j (by omega)]
    unfold gatesG
    rw [List.range_succ, List.map_append, List.map_singleton, getD_of hx]
theorem gTo_len (N : List (Int × Int)) : ∀ k, (gTo N k).length ≤ k
  | 0 => Nat.le_refl _
  | k + 1 => by
    have := gTo_len N k
    rw [gTo]
    split
    · split
      · rw [List.length_append, List.length_singleton]; omega
      · omega
    · omega
noncomputable def latP (A : List Int) (x : T3) : T3 := (litI A x.1, litI A x.2.1, if x.2.2 = x.1 then litI A x.1 else x.2.2)
theorem latP_yes {A : List Int} {x : T3} (h : x.2.2 = x.1) : latP A x = (litI A x.1, litI A x.2.1, litI A x.1) := by unfold latP; rw [if_pos h]
theorem latP_no {A : List Int} {x : T3} (h : ¬ x.2.2 = x.1) : latP A x = (litI A x.1, litI A x.2.1, x.2.2) := by unfold latP; rw [if_neg h]
theorem latP_all {c : CirT} (h : GoodC' c) : c.lat.map (latP (cNet c).2) = (numC c).lat := by
  apply List.ext_getElem?
  intro k
  by_cases hk : k < c.lat.length
  · obtain ⟨x, hx⟩ := getI c.lat hk
    rw [List.getElem?_map, hx, num_lat hx]
    show some (latP _ x) = _
    unfold latP
    rw [net_own h (seq_lat hx)]
  · rw [List.getElem?_eq_none (by rw [List.length_map]; omega), List.getElem?_eq_none (by rw [num_latlen]; omega)]
set_option maxHeartbeats 32000000 in
theorem renum_NumberS (c : Circ) (w : World) (hC : CAt w c) (hg : GoodC' c.t) (hz : SzC c.t 100000) (hz7 : c.t.syms.length ≤ 100000) :
    Lt.Spec Try.prog 30 [c.val] w (fun v w' => Ext w w' ∧ ∃ (d : Circ) (aa : Option Addr) (ca : Nat), v = .tuple #[d.val, .slice aa (cNet c.t).2.length ca] ∧ d.t = numC c.t ∧ CAt w' d ∧ Row 1 encI w' aa (cNet c.t).2 ∧ Stay w.heap.size w' (fun w9 => CAt w9 d)) := by
  have z1 : c.ins.2.2.length ≤ 100000 := hz.1
  have z2 : c.lat.2.2.length ≤ 100000 := hz.2.1
  have z3 : c.outs.2.2.length ≤ 100000 := hz.2.2.1
  have z4 : c.bads.2.2.length ≤ 100000 := hz.2.2.2.1
  have z5 : c.cons.2.2.length ≤ 100000 := hz.2.2.2.2.1
  have hnl := net_len hg hz
  have hgn := (cNet_ok hg).2
  obtain ⟨A, hA⟩ : ∃ A, A = (cNet c.t).2 := ⟨_, rfl⟩
  obtain ⟨NN, hNN⟩ : ∃ N, N = (cNet c.t).1 := ⟨_, rfl⟩
  have oki : ∀ l ∈ c.ins.2.2, LitOk A l := fun l hl => by rw [hA]; exact net_litOk hg hz (.inr (List.mem_append_left _ (List.mem_append_left _ hl)))
  have oku : ∀ l ∈ c.t.used, LitOk A l := fun l hl => by rw [hA]; exact net_litOk hg hz (.inl hl)
  have okw : ∀ l ∈ c.t.own, LitOk A l := fun l hl => by rw [hA]; exact net_litOk hg hz (.inr hl)
  have oko : ∀ l ∈ c.outs.2.2, LitOk A l := fun l hl => oku l (List.mem_append_left _ (List.mem_append_left _ (List.mem_append_left _ (List.mem_append_left _ hl))))
  have okb : ∀ l ∈ c.bads.2.2, LitOk A l := fun l hl => oku l (used_bad (c := c.t) hl)
  have okc : ∀ l ∈ c.cons.2.2, LitOk A l := fun l hl => oku l (used_con (c := c.t) hl)
  refine Spec.of _ Try.func30 rfl Try.ntmps30 (by kernel_rfl) rfl ?_
  repeat' (first
    | (apply WL.box; exact rfl; exact rfl; exact rfl; intro gb w' hb hge hc hx; have hcc := hc; (first | (obtain ⟨h1, h2, h3, _⟩ := hc) | (obtain ⟨h1, h2, _⟩ := hc)); (obtain ⟨gc, rfl⟩ : ∃ x, x = gb := ⟨_, rfl⟩; obtain ⟨wc, rfl⟩ : ∃ x, x = w' := ⟨_, rfl⟩; obtain ⟨hxc, rfl⟩ : ∃ x, x = hx := ⟨_, rfl⟩; have hcells : Cells wc gc 0 c.vals := hcc))
    | (apply WL.alloc tOk; exact rfl; exact rfl; exact rfl; intro gb w' hb hge hx; (first | (have h_0 := g2; clear h_0; obtain ⟨g5, rfl⟩ : ∃ x, x = gb := ⟨_, rfl⟩; obtain ⟨hb5, rfl⟩ : ∃ x, x = hb := ⟨_, rfl⟩; obtain ⟨hge5, rfl⟩ : ∃ x, x = hge := ⟨_, rfl⟩; obtain ⟨hx5, rfl⟩ : ∃ x, x = hx := ⟨_, rfl⟩) | (obtain ⟨g2, rfl⟩ : ∃ x, x = gb := ⟨_, rfl⟩; obtain ⟨w2, rfl⟩ : ∃ x, x = w' := ⟨_, rfl⟩; obtain ⟨hx2, rfl⟩ : ∃ x, x = hx := ⟨_, rfl⟩; obtain ⟨hb2, rfl⟩ : ∃ x, x = hb := ⟨_, rfl⟩; obtain ⟨hge2, rfl⟩ : ∃ x, x = hge := ⟨_, rfl⟩)))
    | (((show WL _ _ _ (⟨_, .call ⟨.value (.func 87), _, _⟩, _, _, _, _⟩ :: _) _ _ _); apply WL.call; exact rfl; exact rfl; exact rfl; exact rfl; exact circ_Net c _ (hC.ext (by (exact extA))) hg hz; rintro v' w3 ⟨hx3, an, cn, aa, ca, rfl, hOn, hOa⟩))
    | (apply WL.storeB (w0 := w3) tOk; exact rfl; exact rfl; exact rfl; exact rfl; assumption; (exact extA); exact rfl; exact rfl; exact rfl; (exact extA); (first | assumption | omega | (focus (apply Nat.le_trans; rotate_left; assumption; exact Below.size (by (exact extA)); done))); intro w' hb hc hX' hU; have hcc := hc; obtain ⟨h1, h2, _⟩ := hc; (obtain ⟨wk, rfl⟩ : ∃ x, x = w' := ⟨_, rfl⟩; obtain ⟨hbk, rfl⟩ : ∃ x, x = hb := ⟨_, rfl⟩; obtain ⟨hXk, rfl⟩ : ∃ x, x = hX' := ⟨_, rfl⟩))
    | (show WL _ _ _ _ _ _ _; first | apply WL.nil | (refine WL.au (k := ?_)))
    | (show Z _ _ _ _ _; apply Z.then_normal)
    | (show W _ _ _ _ _ _; first | apply W.seq | apply W.region))
  have hX3k : Ext w3 wk := hXk
  have hXwk : Ext w wk := hxc.trans (hx2.trans (hx3.trans hXk))
  have hc5 : wk.cell? ⟨g5, 0, none⟩ = some (.slice aa (cNet c.t).2.length ca) := (cells_heap hbk).1
  have RNk : Row 2 encN wk an (cNet c.t).1 := (hOn.row encN_ok).ext hXk
  have RAk : Row 1 encI wk aa (cNet c.t).2 := (hOa.row encI_ok).ext hXk
  have hg5k : g5 < wk.heap.size := heap_lt hbk
  clear hU hcc h1 h2
  repeat' (first
    | (((show WL _ _ _ (⟨_, .call ⟨.value (.func 89), _, _⟩, _, _, _, _⟩ :: _) _ _ _); apply WL.call; exact rfl; exact rfl; exact rfl; exact rfl; exact circ_Clone c wk (hC.ext hXwk) hz hz7; rintro v' w6 ⟨hx6, d, rfl, hdt, hOd⟩))
    | (apply WL.alloc tOk; exact rfl; exact rfl; exact rfl; intro gb w' hb hge hx; (obtain ⟨g7, rfl⟩ : ∃ x, x = gb := ⟨_, rfl⟩; obtain ⟨w7, rfl⟩ : ∃ x, x = w' := ⟨_, rfl⟩; obtain ⟨hb7, rfl⟩ : ∃ x, x = hb := ⟨_, rfl⟩; obtain ⟨hge7, rfl⟩ : ∃ x, x = hge := ⟨_, rfl⟩; obtain ⟨hx7, rfl⟩ : ∃ x, x = hx := ⟨_, rfl⟩))
    | (apply WL.storeB (w0 := w6) tOk; exact rfl; exact rfl; exact rfl; exact rfl; assumption; (exact extA); exact rfl; exact rfl; exact rfl; (exact extA); (first | assumption | omega | (focus (apply Nat.le_trans; rotate_left; assumption; exact Below.size (by (exact extA)); done))); intro w' hb hc hX' hU; have hcc := hc; obtain ⟨h1, h2, _⟩ := hc; (obtain ⟨w8, rfl⟩ : ∃ x, x = w' := ⟨_, rfl⟩; obtain ⟨hb8, rfl⟩ : ∃ x, x = hb := ⟨_, rfl⟩; obtain ⟨hX8, rfl⟩ : ∃ x, x = hX' := ⟨_, rfl⟩))
    | (show WL _ _ _ _ _ _ _; first | apply WL.nil | (refine WL.au (k := ?_)))
    | (show Z _ _ _ _ _; apply Z.then_normal)
    | (show W _ _ _ _ _ _; first | apply W.seq | apply W.region))
  have hS : Lt.Sep wk.heap.size w8 (pcell g7 d.vals.toArray 28 :: d.ps wk.heap.size) := Sep.newCell hOd.sep hX8 hb8 hge7 (Below.size hx6)
  have hg7 : wk.heap.size ≤ g7 := (hS.lt (i := 0) rfl rfl).1
  have hXk8 : Ext wk w8 := hx6.trans hX8
  clear hU hcc h1 h2 hb7
  obtain ⟨y0, y1, y2, y3, y4, y5, y6, y7, y8, _⟩ := cells_heap (hS.cell (i := 0) rfl)
  have hC0 := hS.cell (i := 0) rfl
  clear y0 y1 y2 y3 y4 y5 y6 y7 y8
  repeat' (first
    | (apply WL.storeF (w0 := wk) tOk; exact rfl; exact rfl; exact rfl; exact rfl; assumption; (exact extA); exact rfl; exact rfl; exact rfl; exact rfl; (exact extA); (first | assumption | omega | (focus (apply Nat.le_trans; rotate_left; assumption; exact Below.size (by (exact extA))))); intro w' hb hX' hU; replace hS := Sep.updCell (i := 0) rfl hU hb hS (by (exact extA)) (by (first | exact Nat.le_refl _ | exact Below.size (by (exact extA)))); (try simp only [List.set_cons_zero, List.set_cons_succ] at hS); (try have hR0 := hS.row (i := 0) rfl); (try have hR1 := hS.row (i := 1) rfl); (try have hR2 := hS.row (i := 2) rfl); (try have hR3 := hS.row (i := 3) rfl); (try have hR4 := hS.row (i := 4) rfl); (try have hC0 := hS.cell (i := 0) rfl); (try have hD0 := (cells_heap hC0).1); (try have hE0 := (cells_heap hC0).2.1); (try have hF0 := (cells_heap hC0).2.2.1); (try have hG0 := (cells_heap hC0).2.2.2.1); (try have hC1 := hS.cell (i := 1) rfl); (try have hD1 := (cells_heap hC1).1); (try have hE1 := (cells_heap hC1).2.1); (try have hF1 := (cells_heap hC1).2.2.1); (try have hG1 := (cells_heap hC1).2.2.2.1); (try have hC2 := hS.cell (i := 2) rfl); (try have hD2 := (cells_heap hC2).1); (try have hE2 := (cells_heap hC2).2.1); (try have hF2 := (cells_heap hC2).2.2.1); (try have hG2 := (cells_heap hC2).2.2.2.1); (try have hC3 := hS.cell (i := 3) rfl); (try have hD3 := (cells_heap hC3).1); (try have hE3 := (cells_heap hC3).2.1); (try have hF3 := (cells_heap hC3).2.2.1); (try have hG3 := (cells_heap hC3).2.2.2.1); (try have hC4 := hS.cell (i := 4) rfl); (try have hD4 := (cells_heap hC4).1); (try have hE4 := (cells_heap hC4).2.1); (try have hF4 := (cells_heap hC4).2.2.1); (try have hG4 := (cells_heap hC4).2.2.2.1); (try have hM0 := hS.map (i := 0) rfl); (try have hM1 := hS.map (i := 1) rfl); (try have hM2 := hS.map (i := 2) rfl); (try have hM3 := hS.map (i := 3) rfl); (try have hM4 := hS.map (i := 4) rfl))
    | (show WL _ _ _ _ _ _ _; first | apply WL.nil | (refine WL.au (k := ?_)))
    | (show Z _ _ _ _ _; apply Z.then_normal)
    | (show W _ _ _ _ _ _; first | apply W.seq | apply W.region))
  obtain ⟨y0, y1, y2, y3, y4, y5, y6, y7, y8, _⟩ := cells_heap (hS.cell (i := 0) rfl)
  repeat' (first
    | (apply WL.lit tOk; exact rfl; exact rfl; exact rfl; exact rfl; exact rfl; exact rfl; (first | exact rfl | kernel_rfl | (simp [Instr.fill, catCells]; done)); exact rfl; intro gb w' hb hge hc hx; have hO := Own.of_block ([d.ins, d.outs, d.bads, d.cons]) encRI_ok hb hge rfl; (obtain ⟨g36, rfl⟩ : ∃ x, x = gb := ⟨_, rfl⟩; obtain ⟨w9, rfl⟩ : ∃ x, x = w' := ⟨_, rfl⟩; obtain ⟨hx9, rfl⟩ : ∃ x, x = hx := ⟨_, rfl⟩; obtain ⟨hO9, rfl⟩ : ∃ x, x = hO := ⟨_, rfl⟩))
    | (show WL _ _ _ _ _ _ _; first | apply WL.nil | (refine WL.au (k := ?_)))
    | (show Z _ _ _ _ _; apply Z.then_normal)
    | (show W _ _ _ _ _ _; apply W.block))
  have hSv : Lt.Sep wk.heap.size w9 (prow 1 encRI 23 wk.heap.size (some ⟨g36, 0, none⟩) 4 [d.ins, d.outs, d.bads, d.cons] :: pcell g7 ([.int .i64 ((cNet c.t).1.length : Nat), rowVal d.ins, rowVal d.lat, rowVal d.outs, rowVal d.bads, rowVal d.cons, .slice none 0 0, rowVal d.syms, .string d.com] : List Value).toArray 28 :: d.ps wk.heap.size) := Sep.newRow' hS hx9 hO9 (Below.size (by (exact extA)))
  have hXk9 : Ext wk w9 := (by (exact extA))
  clear hS hC0 y0 y1 y2 y3 y4 y5 y6 y7 y8
  obtain ⟨f, hf⟩ : ∃ f, f = litI (cNet c.t).2 := ⟨_, rfl⟩
  obtain ⟨L, hL⟩ : ∃ L : Nat → Nat → List Int → List Int, L = fun k j l => if j < k then l.map f else l := ⟨_, rfl⟩
  obtain ⟨PS, hPS⟩ : ∃ PS : Nat → List Piece, PS = fun k => [prow 1 encRI 23 wk.heap.size (some ⟨g36, 0, none⟩) 4 [d.ins, d.outs, d.bads, d.cons], pcell g7 ([.int .i64 ((cNet c.t).1.length : Nat), rowVal d.ins, rowVal d.lat, rowVal d.outs, rowVal d.bads, rowVal d.cons, .slice none 0 0, rowVal d.syms, .string d.com] : List Value).toArray 28, prowZ 3 encY 110 wk.heap.size d.syms.1 d.syms.2.1 d.syms.2.2, prowZ 3 enc3 106 wk.heap.size d.gates.1 d.gates.2.1 d.gates.2.2, prowZ 3 enc3 69 wk.heap.size d.lat.1 d.lat.2.1 (d.lat.2.2), prowZ 1 encI 3 wk.heap.size d.cons.1 d.cons.2.1 (L k 3 d.cons.2.2), prowZ 1 encI 3 wk.heap.size d.bads.1 d.bads.2.1 (L k 2 d.bads.2.2), prowZ 1 encI 3 wk.heap.size d.outs.1 d.outs.2.1 (L k 1 d.outs.2.2), prowZ 1 encI 3 wk.heap.size d.ins.1 d.ins.2.1 (L k 0 d.ins.2.2)] := ⟨_, rfl⟩
  have hS0 : Lt.Sep wk.heap.size w9 (PS 0) := by rw [hPS, hL]; exact hSv
  have hdi : d.ins.2.2 = c.ins.2.2 := congrArg CirT.ins hdt
  have hdo : d.outs.2.2 = c.outs.2.2 := congrArg CirT.outs hdt
  have hdb : d.bads.2.2 = c.bads.2.2 := congrArg CirT.bads hdt
  have hdc : d.cons.2.2 = c.cons.2.2 := congrArg CirT.cons hdt
  have hdl : d.lat.2.2 = c.lat.2.2 := congrArg CirT.lat hdt
  rw [← hA] at hf
  have hk4 : ∀ k, k < 4 → ∃ (ix : Nat) (q : RowV Int), ([d.ins, d.outs, d.bads, d.cons] : List (RowV Int))[k]? = some q ∧ ix ≠ 0 ∧ (PS k)[ix]? = some (prowZ 1 encI 3 wk.heap.size q.1 q.2.1 q.2.2) ∧ (PS k).set ix (prowZ 1 encI 3 wk.heap.size q.1 q.2.1 (q.2.2.map f)) = PS (k + 1) ∧ (∀ l ∈ q.2.2, LitOk A l) ∧ q.2.2.length ≤ 100000 := by
    intro k hk
    rw [hPS, hL]
    match k, hk with
    | 0, _ => exact ⟨8, d.ins, rfl, by decide, rfl, rfl, by rw [hdi]; exact oki, by rw [hdi]; exact z1⟩
    | 1, _ => exact ⟨7, d.outs, rfl, by decide, rfl, rfl, by rw [hdo]; exact oko, by rw [hdo]; exact z3⟩
    | 2, _ => exact ⟨6, d.bads, rfl, by decide, rfl, rfl, by rw [hdb]; exact okb, by rw [hdb]; exact z4⟩
    | 3, _ => exact ⟨5, d.cons, rfl, by decide, rfl, rfl, by rw [hdc]; exact okc, by rw [hdc]; exact z5⟩
  clear hSv
  refine W.loopW 4 (fun k w' => k ≤ 4 ∧ Ext wk w' ∧ Lt.Sep wk.heap.size w' (PS k)) (fun k => [(2, .pointer (some ⟨g2, 0, none⟩)), (4, .slice an (cNet c.t).1.length cn), (5, .pointer (some ⟨g5, 0, none⟩)), (6, .func (.func 88) #[] #[.pointer (some ⟨g5, 0, none⟩)]), (7, .pointer (some ⟨g7, 0, none⟩)), (36, .slice (some ⟨g36, 0, none⟩) 4 4), (37, .int .i64 4), (38, .int .i64 k)]) ⟨Nat.zero_le _, hXk9, hS0⟩ (fun k w' h => h.1) ⟨rfl, rfl, rfl, rfl, rfl, rfl, rfl, rfl, trivial⟩ ?_
  clear hS0 hXk9
  rintro k w10 ⟨hk, hX10, hS⟩
  by_cases hlt : k < 4
  · obtain ⟨ix, q, hq, hix, hpi, hset, okq, zq⟩ := hk4 k hlt
    have hR36 : Row 1 encRI w10 (some ⟨g36, 0, none⟩) [d.ins, d.outs, d.bads, d.cons] := by
      have h0 : (PS k)[0]? = some (prow 1 encRI 23 wk.heap.size (some ⟨g36, 0, none⟩) 4 [d.ins, d.outs, d.bads, d.cons]) := by rw [hPS]; rfl
      exact (hS.row h0).row encRI_ok
    have hql : ([d.ins, d.outs, d.bads, d.cons] : List (RowV Int)).length = 4 := rfl
    repeat' (first
      | (show WL _ _ _ _ _ _ _; first | apply WL.nil | (refine WL.au (k := ?_)))
      | (show Z _ _ _ _ _; apply Z.then_normal)
      | (show W _ _ _ _ _ _; first | apply W.seq | apply W.region))
    refine W.condKT rfl (dec_true (by omega)) ?_
    repeat' (first
      | (show WL _ _ _ _ _ _ _; first | apply WL.nil | (refine WL.au (k := ?_)) | (apply WL.index tOk; exact rfl; exact rfl; exact rfl; exact rfl; exact rfl; exact rfl; exact rfl; exact rfl; assumption; (exact extA); exact rfl; omega; assumption; intro b off h; have hcc := h; first | (obtain ⟨h1, h2, h3, h4, h5, h6, _⟩ := h) | (obtain ⟨h1, h2, h3, _⟩ := h) | (obtain ⟨h1, h2, _⟩ := h) | (obtain ⟨h1, _⟩ := h)))
      | (show Z _ _ _ _ _; apply Z.then_normal)
      | (show W _ _ _ _ _ _; first | apply W.seq | apply W.region | apply W.block | apply W.skip))
    refine W.loopW q.2.2.length (fun i w' => i ≤ q.2.2.length ∧ Ext wk w' ∧ Lt.Sep wk.heap.size w' ((PS k).set ix (prowZ 1 encI 3 wk.heap.size q.1 q.2.1 (mapT f q.2.2 i)))) (fun i => [(2, .pointer (some ⟨g2, 0, none⟩)), (4, .slice an (cNet c.t).1.length cn), (5, .pointer (some ⟨g5, 0, none⟩)), (6, .func (.func 88) #[] #[.pointer (some ⟨g5, 0, none⟩)]), (7, .pointer (some ⟨g7, 0, none⟩)), (36, .slice (some ⟨g36, 0, none⟩) 4 4), (37, .int .i64 4), (38, .int .i64 k), (9, .slice q.1 q.2.2.length q.2.1), (42, .slice q.1 q.2.2.length q.2.1), (43, .int .i64 q.2.2.length), (44, .int .i64 i)]) ⟨Nat.zero_le _, hX10, by rw [mapT_0, set_same hpi]; exact hS⟩ (fun i w' h => h.1) ⟨rfl, rfl, rfl, rfl, rfl, rfl, rfl, rfl, rfl, rfl, rfl, rfl, trivial⟩ ?_
    rintro i w11 ⟨hi, hX11, hS11⟩
    have hml := mapT_len f q.2.2 i hi
    by_cases hli : i < q.2.2.length
    · obtain ⟨x, hxx⟩ := getI q.2.2 hli
      have hpi2 : ((PS k).set ix (prowZ 1 encI 3 wk.heap.size q.1 q.2.1 (mapT f q.2.2 i)))[ix]? = some (prowZ 1 encI 3 wk.heap.size q.1 q.2.1 (mapT f q.2.2 i)) := List.getElem?_set_self (lt_of_get hpi)
      have hne : mapT f q.2.2 i ≠ [] := fun h => by rw [h] at hml; simp at hml; omega
      have hOw := hS11.rowZ hpi2 hne
      have hgx : (mapT f q.2.2 i)[((i : Nat) : Int).toNat]? = some x := by rw [Int.toNat_natCast]; exact mapT_get hxx
      have hcall := fun (w0 : World) (h0 : Ext wk w0) => renum_Number1 w0 g5 aa ca A x (by rw [hA]; exact h0.cell hc5) (by rw [hA]; exact RAk.ext h0) (okq x (List.mem_of_getElem? hxx))
      have hfx : litI A x = f x := by rw [hf]
      rw [hfx] at hcall
      repeat' (first
        | (show WL _ _ _ _ _ _ _; first | apply WL.nil | (refine WL.au (k := ?_)))
        | (show Z _ _ _ _ _; apply Z.then_normal)
        | (show W _ _ _ _ _ _; first | apply W.seq | apply W.region))
      refine W.condKT rfl (dec_true (by omega)) ?_
      repeat' (first
        | ((apply WL.indexO tOk; exact rfl; exact rfl; exact rfl; exact rfl; exact rfl; exact rfl; exact rfl; exact rfl; exact hOw; exact (by (exact extA)); exact encI_ok; exact hml; omega; assumption; intro gb ha hc; have hcc := hc; obtain ⟨h1, _⟩ := hc; have hOz := hOw; rw [ha] at hOz))
        | ((show WL _ _ _ (⟨_, .call ⟨.value (.tmp _), _, _⟩, _, _, _, _⟩ :: _) _ _ _; apply WL.callS; exact rfl; exact rfl; exact rfl; exact rfl; exact hcall _ (by (exact extA))))
        | (apply WL.storeO (z' := (f x)) tOk; exact rfl; exact rfl; exact rfl; exact rfl; assumption; (exact extA); exact rfl; exact rfl; exact rfl; exact encI_ok; assumption; exact rfl; (exact extA); intro w' hO hX' hU)
        | (show WL _ _ _ _ _ _ _; first | apply WL.nil | (refine WL.au (k := ?_)))
        | (show Z _ _ _ _ _; first | apply Z.then_normal | apply Z.block_normal)
        | (show W _ _ _ _ _ _; first | apply W.seq | apply W.region | apply W.block | apply W.skip))
      rw [← ha] at hU hO
      have hS2 := Sep.updRowZ hpi2 hne (set_ne hne) hU hO (.inl rfl) hS11 (by (exact extA)) (Below.size (by (exact extA)))
      rw [Int.toNat_natCast, mapT_set hxx, List.set_set] at hS2
      exact Z.againW ⟨by omega, hX', hS2⟩ ⟨rfl, rfl, rfl, rfl, rfl, rfl, rfl, rfl, rfl, rfl, rfl, rfl, trivial⟩
    · obtain rfl : i = q.2.2.length := by omega
      rw [mapT_all, hset] at hS11
      repeat' (first
        | (show WL _ _ _ _ _ _ _; first | apply WL.nil | (refine WL.au (k := ?_)))
        | (show Z _ _ _ _ _; apply Z.then_normal)
        | (show W _ _ _ _ _ _; first | apply W.seq | apply W.region))
      refine W.condKF rfl (dec_false (by omega)) ?_
      repeat' (first
        | (show WL _ _ _ _ _ _ _; first | apply WL.nil | (refine WL.au (k := ?_)))
        | (show Z _ _ _ _ _; first | apply Z.then_normal | apply Z.block_normal | apply Z.then_exit | apply Z.block_exit)
        | (show W _ _ _ _ _ _; first | apply W.region | apply W.exit))
      exact Z.againW ⟨by omega, hX11, hS11⟩ ⟨rfl, rfl, rfl, rfl, rfl, rfl, rfl, rfl, trivial⟩
  obtain rfl : k = 4 := by omega
  repeat' (first
    | (show WL _ _ _ _ _ _ _; first | apply WL.nil | (refine WL.au (k := ?_)))
    | (show Z _ _ _ _ _; apply Z.then_normal)
    | (show W _ _ _ _ _ _; first | apply W.seq | apply W.region))
  refine W.condKF rfl (dec_false (by omega)) ?_
  repeat' (first
    | (show WL _ _ _ _ _ _ _; (refine WL.au (k := ?_)))
    | (show Z _ _ _ _ _; first | apply Z.then_normal | apply Z.then_exit | apply Z.block_exit)
    | (show W _ _ _ _ _ _; first | apply W.seq | apply W.region | apply W.exit))
  obtain ⟨PL, hPL⟩ : ∃ PL : List T3 → List Piece, PL = fun ll => [prow 1 encRI 23 wk.heap.size (some ⟨g36, 0, none⟩) 4 [d.ins, d.outs, d.bads, d.cons], pcell g7 ([.int .i64 ((cNet c.t).1.length : Nat), rowVal d.ins, rowVal d.lat, rowVal d.outs, rowVal d.bads, rowVal d.cons, .slice none 0 0, rowVal d.syms, .string d.com] : List Value).toArray 28, prowZ 3 encY 110 wk.heap.size d.syms.1 d.syms.2.1 d.syms.2.2, prowZ 3 enc3 106 wk.heap.size d.gates.1 d.gates.2.1 d.gates.2.2, prowZ 3 enc3 69 wk.heap.size d.lat.1 d.lat.2.1 ll, prowZ 1 encI 3 wk.heap.size d.cons.1 d.cons.2.1 (d.cons.2.2.map f), prowZ 1 encI 3 wk.heap.size d.bads.1 d.bads.2.1 (d.bads.2.2.map f), prowZ 1 encI 3 wk.heap.size d.outs.1 d.outs.2.1 (d.outs.2.2.map f), prowZ 1 encI 3 wk.heap.size d.ins.1 d.ins.2.1 (d.ins.2.2.map f)] := ⟨_, rfl⟩
  have hS4 : Lt.Sep wk.heap.size w10 (PL d.lat.2.2) := by rw [hPS, hL] at hS; rw [hPL]; exact hS
  have hPc : ∀ ll, (PL ll)[1]? = some (pcell g7 ([.int .i64 ((cNet c.t).1.length : Nat), rowVal d.ins, rowVal d.lat, rowVal d.outs, rowVal d.bads, rowVal d.cons, .slice none 0 0, rowVal d.syms, .string d.com] : List Value).toArray 28) := fun ll => by rw [hPL]; rfl
  have hPl : ∀ ll, (PL ll)[4]? = some (prowZ 3 enc3 69 wk.heap.size d.lat.1 d.lat.2.1 ll) := fun ll => by rw [hPL]; rfl
  have hPs : ∀ ll l2, (PL ll).set 4 (prowZ 3 enc3 69 wk.heap.size d.lat.1 d.lat.2.1 l2) = PL l2 := fun ll l2 => by rw [hPL]; rfl
  clear hS hk4 hPS
  obtain ⟨y0, y1, y2, _⟩ := cells_heap (hS4.cell (hPc _))
  repeat' (first
    | (show WL _ _ _ _ _ _ _; first | apply WL.nil | (refine WL.au (k := ?_)))
    | (show Z _ _ _ _ _; apply Z.then_normal)
    | (show W _ _ _ _ _ _; apply W.block))
  refine W.loopW d.lat.2.2.length (fun k w' => k ≤ d.lat.2.2.length ∧ Ext wk w' ∧ Lt.Sep wk.heap.size w' (PL (mapT (latP A) d.lat.2.2 k))) (fun k => [(2, .pointer (some ⟨g2, 0, none⟩)), (4, .slice an (cNet c.t).1.length cn), (5, .pointer (some ⟨g5, 0, none⟩)), (6, .func (.func 88) #[] #[.pointer (some ⟨g5, 0, none⟩)]), (7, .pointer (some ⟨g7, 0, none⟩)), (58, rowVal d.lat), (59, .int .i64 d.lat.2.2.length), (60, .int .i64 k)]) ⟨Nat.zero_le _, hX10, by rw [mapT_0]; exact hS4⟩ (fun k w' h => h.1) ⟨rfl, rfl, rfl, rfl, rfl, rfl, rfl, rfl, trivial⟩ ?_
  clear hS4 hX10 y0 y1 y2 hlt hk
  rintro k w11 ⟨hk, hX11, hS⟩
  have hml := mapT_len (latP A) d.lat.2.2 k hk
  by_cases hlt : k < d.lat.2.2.length
  · obtain ⟨x, hxx⟩ := getI d.lat.2.2 hlt
    have hxm : x ∈ c.lat.2.2 := by rw [← hdl]; exact List.mem_of_getElem? hxx
    have ok1 : LitOk A x.1 := okw x.1 (List.mem_append_left _ (List.mem_append_right _ (List.mem_map.2 ⟨x, hxm, rfl⟩)))
    have ok2 : LitOk A x.2.1 := oku x.2.1 (used_next (c := c.t) hxm)
    have hne : mapT (latP A) d.lat.2.2 k ≠ [] := fun h => by rw [h] at hml; simp at hml; omega
    have hOw := hS.rowZ (hPl _) hne
    have hgx : (mapT (latP A) d.lat.2.2 k)[((k : Nat) : Int).toNat]? = some x := by rw [Int.toNat_natCast]; exact mapT_get hxx
    have hcall := fun (l : Int) (ok : LitOk A l) (w0 : World) (h0 : Ext wk w0) => renum_Number1 w0 g5 aa ca A l (by rw [hA]; exact h0.cell hc5) (by rw [hA]; exact RAk.ext h0) ok
    have hcallP := fun (l : Int) (ok : LitOk A l) (w0 : World) (h0 : Ext wk w0) => (hcall l ok w0 h0).mono (R' := fun v w' => v = .int .i64 (litI A l) ∧ Ext w0 w') (fun v w' ⟨h1, m, h2⟩ => ⟨h1, by rw [h2]; exact (Ext.refl _).at m⟩)
    repeat' (first
      | (show WL _ _ _ _ _ _ _; first | apply WL.nil | (refine WL.au (k := ?_)))
      | (show Z _ _ _ _ _; apply Z.then_normal)
      | (show W _ _ _ _ _ _; first | apply W.seq | apply W.region))
    refine W.condKT rfl (dec_true (by omega)) ?_
    repeat' (first
      | ((apply WL.indexO tOk; exact rfl; exact rfl; exact rfl; exact rfl; exact rfl; exact rfl; exact rfl; exact rfl; exact hOw; exact (by (exact extA)); exact enc3_ok; exact hml; omega; assumption; intro gb ha hc; have hcc := hc; obtain ⟨h1, h2, h3, _⟩ := hc))
      | (apply WL.alloc tOk; exact rfl; exact rfl; exact rfl; intro gb w' hb hge hx; (obtain ⟨g13, rfl⟩ : ∃ x, x = gb := ⟨_, rfl⟩; obtain ⟨hge13, rfl⟩ : ∃ x, x = hge := ⟨_, rfl⟩))
      | (apply WL.storeB (w0 := w11) tOk; exact rfl; exact rfl; exact rfl; exact rfl; assumption; (exact extA); exact rfl; exact rfl; exact rfl; (exact extA); (first | assumption | omega | (focus (apply Nat.le_trans; rotate_left; assumption; exact Below.size (by (exact extA)); done))); intro w' hb hc hX' hU; have hcc := hc; obtain ⟨h1, h2, _⟩ := hc; (obtain ⟨w12, rfl⟩ : ∃ x, x = w' := ⟨_, rfl⟩; obtain ⟨hb13, rfl⟩ : ∃ x, x = hb := ⟨_, rfl⟩; obtain ⟨hX12, rfl⟩ : ∃ x, x = hX' := ⟨_, rfl⟩; have hC13 := cells_heap hb13; obtain ⟨i0, i1, i2, _⟩ := hC13))
      | (show WL _ _ _ _ _ _ _; first | apply WL.nil | (refine WL.au (k := ?_)))
      | (show Z _ _ _ _ _; apply Z.then_normal)
      | (show W _ _ _ _ _ _; first | apply W.seq | apply W.region | apply W.block | apply W.skip))
    have hPl5 : ∀ (p : Piece) ll, (p :: PL ll)[5]? = some (prowZ 3 enc3 69 wk.heap.size d.lat.1 d.lat.2.1 ll) := fun p ll => hPl ll
    have hPs5 : ∀ (p : Piece) ll l2, (p :: PL ll).set 5 (prowZ 3 enc3 69 wk.heap.size d.lat.1 d.lat.2.1 l2) = p :: PL l2 := fun p ll l2 => congrArg (p :: ·) (hPs ll l2)
    have hXk12 : Ext wk w12 := hX11.trans hX12
    have hS13 : Lt.Sep wk.heap.size w12 (pcell g13 (enc3 x).toArray 69 :: PL (mapT (latP A) d.lat.2.2 k)) := Sep.newCell hS hX12 hb13 hge13 (Below.size hX11)
    clear hU hcc h1 h2 h3 hOw
    refine W.cutT (σ := (List T3 × Int) × World) (fun s => Ext wk s.2 ∧ Lt.Sep wk.heap.size s.2 (pcell g13 (enc3 x).toArray 69 :: PL s.1.1) ∧ s.1.1.length = d.lat.2.2.length ∧ s.1.1[((k : Nat) : Int).toNat]? = some (x.1, x.2.1, s.1.2) ∧ ((s.1.1.set ((k : Nat) : Int).toNat (litI A x.1, x.2.1, s.1.2)).set ((k : Nat) : Int).toNat (litI A x.1, litI A x.2.1, s.1.2)) = mapT (latP A) d.lat.2.2 (k + 1)) (fun s => [(2, .pointer (some ⟨g2, 0, none⟩)), (4, .slice an (cNet c.t).1.length cn), (5, .pointer (some ⟨g5, 0, none⟩)), (6, .func (.func 88) #[] #[.pointer (some ⟨g5, 0, none⟩)]), (7, .pointer (some ⟨g7, 0, none⟩)), (12, .int .i64 k), (13, .pointer (some ⟨g13, 0, none⟩)), (58, rowVal d.lat), (59, .int .i64 d.lat.2.2.length), (60, .int .i64 k)]) (fun s => s.2) ?_ ?_
    · by_cases hres : x.2.2 = x.1
      · refine W.condKT rfl (dec_true hres) ?_
        have hOw := hS13.rowZ (hPl5 _ _) hne
        obtain ⟨n0, n1, n2, _⟩ := cells_heap (hS13.cell (i := 2) (hPc _))
        repeat' (first
          | (show W _ _ (.region 18 _ _) _ _ _; apply W.regionGX (.fl true 0 (.fl true 2 (.fl true 3 (.fl true 4 (.fl false 1 (.fl false 5 (.fl false 6 (.fl true 7 (.fl true 8 (.br 9 .done .stop)))))))))) [5, 6] tMix; kernel_rfl)
          | (apply SX.flP; exact rfl; (exact extA); exact rfl; exact rfl; exact rfl; exact rfl; (focus (intro w9 hw9; exact hcallP x.1 ok1 _ (hXk12.trans (Ext.trans (by (exact extA)) hw9)))))
          | ((show FL _ _ _ _ (⟨_, .indexAddr _ _ _, _, _, _, _⟩ :: _) _ _ _; apply FL.indexO tOk; exact rfl; exact rfl; exact rfl; exact rfl; exact rfl; exact rfl; exact rfl; exact rfl; (first | exact hOn | exact hOw); exact (by (exact extA)); exact enc3_ok; (first | exact hmn | exact hml); omega; (first | exact hgn | exact hgx); intro gb ha hc; (first | (have hOz := hOn; rw [ha] at hOz) | (have hOz := hOw; rw [ha] at hOz))))
          | ((show WL _ _ _ (⟨none, .store _ (.tmp 78) _, _, _, _, _⟩ :: _) _ _ _; apply WL.storeOF (w0 := wk) (z' := ((x.1, x.2.1, litI A x.1) : T3)) (i := ((k : Nat) : Int).toNat) [.int .i64 x.1, .int .i64 x.2.1] [] tOk; exact rfl; exact rfl; exact rfl; exact rfl; exact hOz; exact (by (exact extA)); exact rfl; exact rfl; exact rfl; exact rfl; exact rfl; exact enc3_ok; (first | exact hgn | exact hgx); exact rfl; exact (by (exact extA)); intro w' hO hX' hU; rw [← ha] at hU hO; skip))
          | (show SX _ _ _ _ _ _ _ _ _; first | (apply SX.done; intro w' hx) | (apply SX.fl0; exact rfl) | (apply SX.fl1; exact rfl; (exact extA)) | (apply SX.br1; exact rfl; intro w' hx))
          | (show FL _ _ _ _ _ _ _ _; first | apply FL.nilX | (apply FL.loadE tOk; exact rfl; exact rfl; exact rfl; exact rfl; exact rfl; assumption))
          | (show FL _ _ _ _ _ _ _ _; (refine FL.au (k := ?_)))
          | (show Z _ _ _ _ _; (apply Z.sxL; exact rfl))
          | (show WL _ _ _ _ _ _ _; apply WL.nil))
        all_goals
          have hS14 := Sep.updRowZ (hPl5 _ _) hne (set_ne hne) hU hO (.inl rfl) hS13 (by (exact extA)) (Below.size (by (exact extA)))
          rw [hPs5] at hS14
          refine Z.cut ((_, litI A x.1), _) ⟨(by (exact extA)), Sep.ext hS14 (by (exact extA)), ?_, ?_, ?_⟩ ⟨rfl, rfl, rfl, rfl, rfl, rfl, rfl, rfl, rfl, rfl, trivial⟩ rfl
          · rw [List.length_set]; exact hml
          · exact List.getElem?_set_self (by omega)
          · rw [List.set_set, List.set_set, ← latP_yes hres, Int.toNat_natCast]; exact mapT_set hxx
      · refine W.condKF rfl (dec_false hres) ?_
        repeat' (first
          | (show W _ _ _ _ _ _; apply W.skip))
        refine Z.cut ((mapT (latP A) d.lat.2.2 k, x.2.2), _) ⟨hXk12, hS13, hml, hgx, ?_⟩ ⟨rfl, rfl, rfl, rfl, rfl, rfl, rfl, rfl, rfl, rfl, trivial⟩ rfl
        rw [List.set_set, ← latP_no hres, Int.toNat_natCast]; exact mapT_set hxx
    rintro ⟨⟨ll, r3⟩, w13⟩ ⟨hX13, hS14, hml, hgx, hfin⟩
    dsimp only at hX13 hS14 hml hgx hfin ⊢
    have hne2 : ll ≠ [] := fun h => by rw [h] at hml; simp at hml; omega
    have hOw := hS14.rowZ (hPl5 _ _) hne2
    obtain ⟨n0, n1, n2, _⟩ := cells_heap (hS14.cell (i := 2) (hPc _))
    obtain ⟨i0, i1, i2, _⟩ := cells_heap (hS14.cell (i := 0) rfl)

    have zl : d.lat.2.2.length ≤ 100000 := by rw [hdl]; exact z2
    have hlb : ∀ q, blk d.lat.1 = some q → wk.heap.size ≤ q := fun q hq => (hS14.lt (hPl5 _ _) (by rw [prowZ_b hne2]; exact hq)).1
    have hap : ∀ (j : Nat) (q : Piece) (g : Nat), (pcell g13 (enc3 x).toArray 69 :: PL ll)[j]? = some q → 5 ≠ j → q.b = some g → blk d.lat.1 ≠ some g := fun j q g hj hne9 hb9 he => by
      rcases hS14.apart 5 j _ q (hPl5 _ _) hj hne9 with h | h
      · rw [prowZ_b hne2, he] at h; cases h
      · rw [prowZ_b hne2, he, hb9] at h; exact h rfl
    have hn7 : blk d.lat.1 ≠ some g7 := hap 2 _ g7 (hPc _) (by decide) rfl
    have hn13 : blk d.lat.1 ≠ some g13 := hap 0 _ g13 rfl (by decide) rfl
    have hn5 : blk d.lat.1 ≠ some g5 := fun he => by have := hlb g5 he; omega
    have hcallB := fun (l : Int) (ok : LitOk A l) (w0 : World) (h0 : But w13 (blk d.lat.1) w0) => renum_Number1 w0 g5 aa ca A l (by rw [hA]; exact But.cell h0 (hX13.cell hc5) hn5) (by
      rw [hA]
      refine (RAk.ext hX13).keep fun k hk => h0.block k ?_ ?_
      · exact Nat.lt_of_lt_of_le ((hOa.ext hXk).blk_lt k hk).2 (Below.size hX13)
      · intro he; have h1 := hlb k he.symm; have h2 := ((hOa.ext hXk).blk_lt k hk).2; omega) ok
    repeat' (first
      | (show W _ _ (.region 19 _ _) _ _ _; apply W.regionGB (.fl true 0 (.fl true 2 (.fl true 3 (.fl true 5 (.fl true 6 (.fl true 7 (.fl true 10 (.fl true 11 (.fl false 1 (.fl false 4 (.fl false 8 (.fl false 12 (.fl false 9 (.fl false 13 (.fl true 14 (.fl true 15 (.br 16 (.fl true 17 (.fl true 18 (.br 19 .done .stop))) .stop))))))))))))))))) [4, 8, 9, 12, 13, 14, 15, 16] (blk d.lat.1) tMix; kernel_rfl)
      | (apply SG.flS; exact rfl; (focus ((intro m; first | assumption | (apply Ext.at; (exact extA)) | apply But.of_at; first | exact But.upd (by assumption) | exact But.ext (by (exact extA)) | (refine But.trans ?_ (But.upd (by assumption)); exact But.ext (by (exact extA))) | exact But.at _ _ _); done)); exact rfl; exact rfl; exact rfl; exact rfl; (focus (intro w9 hw9; exact hcallB x.1 ok1 _ hw9)))
      | (apply SG.flS; exact rfl; (focus ((intro m; first | assumption | (apply Ext.at; (exact extA)) | apply But.of_at; first | exact But.upd (by assumption) | exact But.ext (by (exact extA)) | (refine But.trans ?_ (But.upd (by assumption)); exact But.ext (by (exact extA))) | exact But.at _ _ _); done)); exact rfl; exact rfl; exact rfl; exact rfl; (focus (intro w9 hw9; exact hcallB x.2.1 ok2 _ hw9)))
      | ((show FL _ _ _ _ (⟨_, .indexAddr _ _ _, _, _, _, _⟩ :: _) _ _ _; apply FL.indexO tOk; exact rfl; exact rfl; exact rfl; exact rfl; exact rfl; exact rfl; exact rfl; exact rfl; (first | exact hOn | exact hOw); exact (by (exact extA)); exact enc3_ok; (first | exact hmn | exact hml); omega; (first | exact hgn | exact hgx); intro gb ha hc; (first | (have hOz := hOn; rw [ha] at hOz) | (have hOz := hOw; rw [ha] at hOz))))
      | ((show WL _ _ _ (⟨none, .store _ (.tmp 94) _, _, _, _, _⟩ :: _) _ _ _; apply WL.storeOF (w0 := wk) (z := ((x.1, x.2.1, r3) : T3)) (z' := ((litI A x.1, x.2.1, r3) : T3)) (i := ((k : Nat) : Int).toNat) [] [.int .i64 x.2.1, .int .i64 r3] tOk; exact rfl; exact rfl; exact rfl; exact rfl; exact hOz; exact (by (exact extA)); exact rfl; exact rfl; exact rfl; exact rfl; exact rfl; exact enc3_ok; (first | exact hgn | exact hgx); exact rfl; exact (by (exact extA)); intro w' hO hX' hU; rw [← ha] at hU hO; have hOn := hO; have hmn : (ll.set ((k : Nat) : Int).toNat (litI A x.1, x.2.1, r3)).length = d.lat.2.2.length := (List.length_set).trans hml; have hgn : (ll.set ((k : Nat) : Int).toNat (litI A x.1, x.2.1, r3))[((k : Nat) : Int).toNat]? = some (litI A x.1, x.2.1, r3) := List.getElem?_set_self (by omega); have hS15 := Sep.updRowZ (hPl5 _ _) hne2 (set_ne hne2) hU hO (.inl rfl) hS14 (by (exact extA)) (Below.size (by (exact extA))); rw [hPs5] at hS15; obtain ⟨m0, m1, m2, _⟩ := cells_heap (hS15.cell (i := 2) (hPc _)); have hU1 := hU; clear hOz))
      | ((show WL _ _ _ (⟨none, .store _ (.tmp 96) _, _, _, _, _⟩ :: _) _ _ _; apply WL.storeOF (w0 := wk) (z := ((litI A x.1, x.2.1, r3) : T3)) (z' := ((litI A x.1, litI A x.2.1, r3) : T3)) (i := ((k : Nat) : Int).toNat) [.int .i64 (litI A x.1)] [.int .i64 r3] tOk; exact rfl; exact rfl; exact rfl; exact rfl; exact hOz; exact (by (exact extA)); exact rfl; exact rfl; exact rfl; exact rfl; exact rfl; exact enc3_ok; (first | exact hgn | exact hgx); exact rfl; exact (by (exact extA)); intro w' hO hX' hU; rw [← ha] at hU hO; skip))
      | (show WL _ _ _ _ _ _ _; first | apply WL.nil | (refine WL.au (k := ?_)))
      | (show SG _ _ _ _ _ _ _ _ _; first | apply SG.done | (apply SG.fl0; exact rfl) | (apply SG.fl1; exact rfl; (focus ((intro m; first | assumption | (apply Ext.at; (exact extA)) | apply But.of_at; first | exact But.upd (by assumption) | exact But.ext (by (exact extA)) | (refine But.trans ?_ (But.upd (by assumption)); exact But.ext (by (exact extA))) | exact But.at _ _ _); done))) | (apply SG.br1; exact rfl))
      | (show FL _ _ _ _ _ _ _ _; first | apply FL.nilS | (refine FL.au (k := ?_)) | (apply FL.loadG tOk; exact rfl; exact rfl; exact rfl; exact rfl; exact rfl; (first | assumption | (focus (apply Ext.cell; rotate_left; assumption; (exact extA); done))); (first | (focus (intro h; cases h; done)) | (focus (intro h; have h9 := hBC _ h; (try simp only at h9); omega)) | assumption | (focus (intro h; simp only [blk, Option.map_some, Option.some.injEq] at h; omega)))))
      | (show Z _ _ _ _ _; first | (apply Z.sgL; exact rfl) | (apply Z.sgE; (focus ((intro m; first | assumption | (apply Ext.at; (exact extA)) | apply But.of_at; first | exact But.upd (by assumption) | exact But.ext (by (exact extA)) | (refine But.trans ?_ (But.upd (by assumption)); exact But.ext (by (exact extA))) | exact But.at _ _ _); done))))
      | (show Z _ _ _ _ _; first | apply Z.then_normal | apply Z.block_normal)
      | (show W _ _ _ _ _ _; apply W.region))
    all_goals
      have hS16 := Sep.updRowZ (hPl5 _ _) (set_ne hne2) (set_ne (set_ne hne2)) hU hO (.inl rfl) hS15 (by (exact extA)) (Below.size (by (exact extA)))
      rw [hPs5, hfin] at hS16
      exact Z.againW ⟨by omega, (by (exact extA)), Sep.ext (hS16.drop 1) (by (exact extA))⟩ ⟨rfl, rfl, rfl, rfl, rfl, rfl, rfl, rfl, trivial⟩
  obtain rfl : k = d.lat.2.2.length := by omega
  rw [mapT_all] at hS
  clear hml hPs
  obtain ⟨y0, y1, y2, y3, y4, y5, y6, _⟩ := cells_heap (hS.cell (hPc _))
  repeat' (first
    | (show WL _ _ _ _ _ _ _; first | apply WL.nil | (refine WL.au (k := ?_)))
    | (show Z _ _ _ _ _; apply Z.then_normal)
    | (show W _ _ _ _ _ _; first | apply W.seq | apply W.region))
  refine W.condKF rfl (dec_false (by omega)) ?_
  repeat' (first
    | (show WL _ _ _ _ _ _ _; first | apply WL.nil | (refine WL.au (k := ?_)))
    | (show Z _ _ _ _ _; first | apply Z.then_normal | apply Z.then_exit | apply Z.block_exit)
    | (show W _ _ _ _ _ _; first | apply W.seq | apply W.region | apply W.block | apply W.exit))
  obtain ⟨PM, hPM⟩ : ∃ PM : Piece → List Piece, PM = fun p => (PL (d.lat.2.2.map (latP A))).set 1 p := ⟨_, rfl⟩
  have hPm : ∀ (q p : Piece), (q :: PM p)[2]? = some p := fun q p => by rw [hPM, hPL]; rfl
  have hPmm : ∀ (q p p2 : Piece), (q :: PM p).set 2 p2 = q :: PM p2 := fun q p p2 => by rw [hPM, hPL]; rfl
  have hPm0 : ∀ (q q2 p : Piece), (q :: PM p).set 0 q2 = q2 :: PM p := fun q q2 p => rfl
  have hS0 : Lt.Sep wk.heap.size w11 (prow 3 enc3 106 wk.heap.size none 0 (gTo (cNet c.t).1 0) :: PM (pcell g7 ([.int .i64 ((cNet c.t).1.length : Nat), rowVal d.ins, rowVal d.lat, rowVal d.outs, rowVal d.bads, rowVal d.cons, .slice none (gTo (cNet c.t).1 0).length 0, rowVal d.syms, .string d.com] : List Value).toArray 28)) := by
    refine Sep.newRow (?_ : Lt.Sep wk.heap.size w11 (PM _)) (Ext.refl _) Own.nil (fun k hk => by cases hk) (Below.size hX11)
    rw [hPM, hPL]; rw [hPL] at hS; exact hS
  refine W.loopW (cNet c.t).1.length (fun k w' => k ≤ (cNet c.t).1.length ∧ Ext wk w' ∧ ∃ ag cg, Lt.Sep wk.heap.size w' (prow 3 enc3 106 wk.heap.size ag cg (gTo (cNet c.t).1 k) :: PM (pcell g7 ([.int .i64 ((cNet c.t).1.length : Nat), rowVal d.ins, rowVal d.lat, rowVal d.outs, rowVal d.bads, rowVal d.cons, .slice ag (gTo (cNet c.t).1 k).length cg, rowVal d.syms, .string d.com] : List Value).toArray 28))) (fun k => [(2, .pointer (some ⟨g2, 0, none⟩)), (5, .pointer (some ⟨g5, 0, none⟩)), (7, .pointer (some ⟨g7, 0, none⟩)), (98, .slice an (cNet c.t).1.length cn), (99, .int .i64 (cNet c.t).1.length), (100, .int .i64 k)]) ⟨Nat.zero_le _, hX11, none, 0, hS0⟩ (fun k w' h => h.1) ⟨rfl, rfl, rfl, rfl, rfl, rfl, trivial⟩ ?_
  clear hS0 hX11 hS y0 y1 y2 y3 y4 y5 y6
  rintro k w11 ⟨hk, hX11, ag, cg, hS⟩
  have RN := RNk.ext hX11
  have hgl := gTo_len (cNet c.t).1 k
  have hRg := hS.row (i := 0) rfl
  have hC2 := hS.cell (hPm _ _)
  by_cases hlt : k < (cNet c.t).1.length
  · obtain ⟨x, hxx⟩ := getI (cNet c.t).1 hlt
    have hgx : (cNet c.t).1[((k : Nat) : Int).toNat]? = some x := by rw [Int.toNat_natCast]; exact hxx
    repeat' (first
      | (show WL _ _ _ _ _ _ _; first | apply WL.nil | (refine WL.au (k := ?_)))
      | (show Z _ _ _ _ _; apply Z.then_normal)
      | (show W _ _ _ _ _ _; first | apply W.seq | apply W.region))
    refine W.condKT rfl (dec_true (by omega)) ?_
    repeat' (first
      | (apply WL.alloc tOk; exact rfl; exact rfl; exact rfl; intro gb w' hb hge hx; (obtain ⟨g15, rfl⟩ : ∃ x, x = gb := ⟨_, rfl⟩; obtain ⟨hge15, rfl⟩ : ∃ x, x = hge := ⟨_, rfl⟩))
      | (apply WL.storeB (w0 := w11) tOk; exact rfl; exact rfl; exact rfl; exact rfl; assumption; (exact extA); exact rfl; exact rfl; exact rfl; (exact extA); (first | assumption | omega | (focus (apply Nat.le_trans; rotate_left; assumption; exact Below.size (by (exact extA)); done))); intro w' hb hc hX' hU; have hcc := hc; obtain ⟨h1, h2, _⟩ := hc; (obtain ⟨w12, rfl⟩ : ∃ x, x = w' := ⟨_, rfl⟩; obtain ⟨hb15, rfl⟩ : ∃ x, x = hb := ⟨_, rfl⟩; obtain ⟨hX12, rfl⟩ : ∃ x, x = hX' := ⟨_, rfl⟩; have hC15 := cells_heap hb15; obtain ⟨i0, i1, _⟩ := hC15))
      | (show WL _ _ _ _ _ _ _; first | apply WL.nil | (refine WL.au (k := ?_)) | (apply WL.index tOk; exact rfl; exact rfl; exact rfl; exact rfl; exact rfl; exact rfl; exact rfl; exact rfl; assumption; (exact extA); exact rfl; omega; assumption; intro b off h; have hcc := h; first | (obtain ⟨h1, h2, h3, h4, h5, h6, _⟩ := h) | (obtain ⟨h1, h2, h3, _⟩ := h) | (obtain ⟨h1, h2, _⟩ := h) | (obtain ⟨h1, _⟩ := h)))
      | (show Z _ _ _ _ _; apply Z.then_normal)
      | (show W _ _ _ _ _ _; first | apply W.seq | apply W.region | apply W.block | apply W.skip))
    by_cases h0x : 0 ≤ x.1
    · have hgt := hgn.gate hxx h0x
      have e1 := gTo_yes hxx h0x
      have e2 : gateG k x = (2 * (k : Int) + 2, max x.1 x.2, min x.1 x.2) := by unfold gateG; rw [show 2 * ((k : Int) + 1) = 2 * (k : Int) + 2 by omega]
      rw [e2] at e1
      have hX12k : Ext wk w12 := hX11.trans hX12
      have hS12 := hS.ext hX12
      have hC2' := hS12.cell (hPm _ _)
      obtain ⟨y0, y1, y2, y3, y4, y5, y6, _⟩ := cells_heap hC2'
      clear hcc h1 h2 hU
      skip
      refine W.condKT rfl (dec_true h0x) ?_
      repeat' (first
        | (apply WL.min; exact rfl; exact rfl; exact rfl; exact rfl)
        | (apply WL.max; exact rfl; exact rfl; exact rfl; exact rfl)
        | ((show WL _ _ _ (⟨_, .build 106 _, _, _, _, _⟩ :: _) _ _ _; apply WL.build (cs := [.int .i64 (2 * (k : Int) + 2), .int .i64 (max x.1 x.2), .int .i64 (min x.1 x.2)]) tOk; exact rfl; exact rfl; exact rfl; exact rfl; exact rfl; exact rfl; (first | kernel_rfl | exact rfl); kernel_rfl))
        | (apply WL.lit tOk; exact rfl; exact rfl; exact rfl; exact rfl; exact rfl; exact rfl; (first | exact rfl | kernel_rfl | (simp [Instr.fill, catCells]; done)); exact rfl; intro gb w' hb hge hc hx)
        | (apply WL.append1 (z := (((2 * (k : Int) + 2, max x.1 x.2, min x.1 x.2) : T3))) tOk enc3_ok; exact rfl; exact rfl; exact rfl; exact rfl; exact rfl; exact rfl; exact rfl; exact rfl; exact rfl; exact rfl; assumption; (exact extA); (first | exact rfl | (focus (simp only [List.length_set]; done)) | (focus (simp; done)) | (focus (simp [*]; done)) | omega | (focus (simp only [List.length_set]; omega))); (first | assumption | (refine Cells.ext ?_ (by assumption); exact extA)); exact rfl; exact rfl; (exact extA); (first | omega | (simp; omega) | (simp at *; omega)); intro a' cap' w' hO hX' hU hF)
        | (show WL _ _ _ _ _ _ _; (refine WL.au (k := ?_)))
        | (show W _ _ _ _ _ _; apply W.region))
      have hS13 := Sep.updRow (i := 0) rfl hU hO hF hS12 (by (exact extA)) (Below.size (by (exact extA)))
      rw [hPm0] at hS13
      have hC3 := hS13.cell (hPm _ _)
      have hX13 : Ext wk w' := (by (exact extA))
      clear hU hF hb
      repeat' (first
        | ((apply WL.storeF (w0 := wk) tOk; exact rfl; exact rfl; exact rfl; exact rfl; exact hC3; exact (by (exact extA)); exact rfl; exact rfl; exact rfl; exact rfl; exact (by (exact extA)); exact hg7; intro w' hb hX' hU))
        | (show WL _ _ _ _ _ _ _; first | apply WL.nil | (refine WL.au (k := ?_)))
        | (show Z _ _ _ _ _; first | apply Z.then_normal | apply Z.block_normal)
        | (show W _ _ _ _ _ _; apply W.region))
      have hS14 := hS13.updCell (hPm _ _) hU hb (by (exact extA)) (Below.size (by (exact extA)))
      rw [hPmm] at hS14
      exact Z.againW ⟨by omega, hX', a', cap', by rw [e1]; exact hS14⟩ ⟨rfl, rfl, rfl, rfl, rfl, rfl, trivial⟩
    · have e1 := gTo_no hxx h0x
      skip
      refine W.condKF rfl (dec_false h0x) ?_
      repeat' (first
        | (show WL _ _ _ _ _ _ _; first | apply WL.nil | (refine WL.au (k := ?_)))
        | (show Z _ _ _ _ _; first | apply Z.then_normal | apply Z.block_normal)
        | (show W _ _ _ _ _ _; first | apply W.region | apply W.skip))
      exact Z.againW ⟨by omega, hX11.trans hX12, ag, cg, by rw [e1]; exact hS.ext hX12⟩ ⟨rfl, rfl, rfl, rfl, rfl, rfl, trivial⟩
  obtain rfl : k = (cNet c.t).1.length := by omega
  obtain ⟨dd, hdd⟩ : ∃ dd : Circ, dd = ⟨((cNet c.t).1.length : Nat), (d.ins.1, d.ins.2.1, d.ins.2.2.map f), (d.lat.1, d.lat.2.1, d.lat.2.2.map (latP A)), (d.outs.1, d.outs.2.1, d.outs.2.2.map f), (d.bads.1, d.bads.2.1, d.bads.2.2.map f), (d.cons.1, d.cons.2.1, d.cons.2.2.map f), (ag, cg, gTo (cNet c.t).1 (cNet c.t).1.length), d.syms, d.com⟩ := ⟨_, rfl⟩
  have hdv : dd.vals = ([.int .i64 ((cNet c.t).1.length : Nat), rowVal d.ins, rowVal d.lat, rowVal d.outs, rowVal d.bads, rowVal d.cons, .slice ag (gTo (cNet c.t).1 (cNet c.t).1.length).length cg, rowVal d.syms, .string d.com] : List Value) := by
    rw [hdd]
    show ([.int .i64 ((cNet c.t).1.length : Nat), .slice d.ins.1 (d.ins.2.2.map f).length d.ins.2.1, .slice d.lat.1 (d.lat.2.2.map (latP A)).length d.lat.2.1, .slice d.outs.1 (d.outs.2.2.map f).length d.outs.2.1, .slice d.bads.1 (d.bads.2.2.map f).length d.bads.2.1, .slice d.cons.1 (d.cons.2.2.map f).length d.cons.2.1, _, _, _] : List Value) = _
    simp only [List.length_map]
  rw [← hdv] at hC2
  have hg2k : g2 < wk.heap.size := Nat.lt_of_lt_of_le (heap_lt hb2) (Below.size (hx3.trans hXk))
  have hg25 : g2 ≠ g5 := fun he => by have := heap_lt hb2; have h9 : w2.heap.size ≤ g5 := Nat.le_trans (Below.size hx3) hge5; omega
  repeat' (first
    | (show WL _ _ _ _ _ _ _; first | apply WL.nil | (refine WL.au (k := ?_)))
    | (show Z _ _ _ _ _; apply Z.then_normal)
    | (show W _ _ _ _ _ _; first | apply W.seq | apply W.region))
  refine W.condKF rfl (dec_false (by omega)) ?_
  repeat' (first
    | (show Z _ _ _ _ _; first | apply Z.then_normal | apply Z.then_exit | apply Z.block_exit)
    | (show W _ _ _ _ _ _; first | apply W.seq | apply W.exit))
  have hcd : Cells w11 g7 0 dd.vals := cells_heap hC2
  have hc5w : w11.cell? ⟨g5, 0, none⟩ = some (.slice aa (cNet c.t).2.length ca) := hX11.cell hc5
  have hq7 : blk (some (⟨g2, 0, none⟩ : Addr)) ≠ some g7 := fun he => by simp only [blk, Option.map_some, Option.some.injEq] at he; omega
  have hq5 : blk (some (⟨g2, 0, none⟩ : Addr)) ≠ some g5 := fun he => by simp only [blk, Option.map_some, Option.some.injEq] at he; exact hg25 he
  have hb2' := hb2
  have hX2 : Ext w2 w11 := hx3.trans (hXk.trans hX11)
  have hg2w : w.heap.size ≤ g2 := Nat.le_trans (Below.size hxc) hge2
  repeat' (first
    | (show W _ _ (.region 27 _ _) _ _ _; apply W.regionGB (.fl false 0 (.fl false 1 (.br 2 (.fl true 3 .done) .stop))) [1, 2] (blk (some ⟨g2, 0, none⟩)) tMix; kernel_rfl)
    | (apply WL.storeB (w0 := w) tOk; exact rfl; exact rfl; exact rfl; exact rfl; assumption; (exact extA); exact rfl; exact rfl; exact rfl; (exact extA); (first | assumption | omega | (focus (apply Nat.le_trans; rotate_left; assumption; exact Below.size (by (exact extA)); done))); intro w' hb hc hX' hU; have hcc := hc; obtain ⟨h1, h2, _⟩ := hc)
    | (show WL _ _ _ _ _ _ _; apply WL.nil)
    | (show SG _ _ _ _ _ _ _ _ _; first | apply SG.done | (apply SG.fl0; exact rfl) | (apply SG.fl1; exact rfl; (focus ((intro m; first | assumption | (apply Ext.at; (exact extA)) | apply But.of_at; first | exact But.upd (by assumption) | exact But.ext (by (exact extA)) | (refine But.trans ?_ (But.upd (by assumption)); exact But.ext (by (exact extA))) | exact But.at _ _ _); done))) | (apply SG.br1; exact rfl))
    | (show FL _ _ _ _ _ _ _ _; first | apply FL.nilS | (refine FL.au (k := ?_)) | (apply FL.loadG tOk; exact rfl; exact rfl; exact rfl; exact rfl; exact rfl; (first | assumption | (focus (apply Ext.cell; rotate_left; assumption; (exact extA); done))); (first | (focus (intro h; cases h; done)) | (focus (intro h; have h9 := hBC _ h; (try simp only at h9); omega)) | assumption | (focus (intro h; simp only [blk, Option.map_some, Option.some.injEq] at h; omega)))) | (apply FL.loadAG tOk; exact rfl; exact rfl; exact rfl; exact rfl; exact rfl; (first | assumption | (focus (apply Cells.ext; rotate_left; assumption; (exact extA); done))); exact rfl; (first | (focus (intro h; cases h; done)) | (focus (intro h; have h9 := hBC _ h; (try simp only at h9); omega)) | assumption | (focus (intro h; simp only [blk, Option.map_some, Option.some.injEq] at h; omega)))))
    | (show Z _ _ _ _ _; (apply Z.sgE; (focus ((intro m; first | assumption | (apply Ext.at; (exact extA)) | apply But.of_at; first | exact But.upd (by assumption) | exact But.ext (by (exact extA)) | (refine But.trans ?_ (But.upd (by assumption)); exact But.ext (by (exact extA))) | exact But.at _ _ _); done))))
    | (show Z _ _ _ _ _; apply Z.then_normal)
    | (show W _ _ _ _ _ _; apply W.ret))
  have hS' := Sep.updOld hS hU hg2k
  have hz0 : ∀ (q p : Piece), (q :: PM p)[9]? = some (prowZ 1 encI 3 wk.heap.size d.ins.1 d.ins.2.1 (d.ins.2.2.map f)) ∧ (q :: PM p)[8]? = some (prowZ 1 encI 3 wk.heap.size d.outs.1 d.outs.2.1 (d.outs.2.2.map f)) ∧ (q :: PM p)[7]? = some (prowZ 1 encI 3 wk.heap.size d.bads.1 d.bads.2.1 (d.bads.2.2.map f)) ∧ (q :: PM p)[6]? = some (prowZ 1 encI 3 wk.heap.size d.cons.1 d.cons.2.1 (d.cons.2.2.map f)) ∧ (q :: PM p)[5]? = some (prowZ 3 enc3 69 wk.heap.size d.lat.1 d.lat.2.1 (d.lat.2.2.map (latP A))) ∧ (q :: PM p)[3]? = some (prowZ 3 encY 110 wk.heap.size d.syms.1 d.syms.2.1 d.syms.2.2) := fun q p => by
    rw [hPM, hPL]; exact ⟨rfl, rfl, rfl, rfl, rfl, rfl⟩
  obtain ⟨p9, p8, p7, p6, p5, p3⟩ := hz0 (prow 3 enc3 106 wk.heap.size ag cg (gTo (cNet c.t).1 (cNet c.t).1.length)) (pcell g7 dd.vals.toArray 28)
  rw [← hdv] at hS'
  have hc := hOd.cap
  have mkC : ∀ w9 : World, Lt.Sep wk.heap.size w9 (prow 3 enc3 106 wk.heap.size ag cg (gTo (cNet c.t).1 (cNet c.t).1.length) :: PM (pcell g7 dd.vals.toArray 28)) → CAt w9 dd := by
    intro w9 hS9
    rw [hdd]
    have o0 := hS9.row (i := 0) rfl
    exact ⟨⟨rowZ_row2 encI_ok hS9 p9, by rw [List.length_map]; exact hc.ins.1, hc.ins.2⟩, ⟨rowZ_row2 enc3_ok hS9 p5, by rw [List.length_map]; exact hc.lat.1, hc.lat.2⟩, ⟨rowZ_row2 encI_ok hS9 p8, by rw [List.length_map]; exact hc.outs.1, hc.outs.2⟩, ⟨rowZ_row2 encI_ok hS9 p7, by rw [List.length_map]; exact hc.bads.1, hc.bads.2⟩,
      ⟨rowZ_row2 encI_ok hS9 p6, by rw [List.length_map]; exact hc.cons.1, hc.cons.2⟩, ⟨o0.row enc3_ok, o0.capLe, o0.noneCap⟩, ⟨rowZ_row2 encY_ok hS9 p3, hc.syms.1, hc.syms.2⟩⟩
  have hCd : CAt w' dd := mkC w' hS'
  have hwk : w.heap.size ≤ wk.heap.size := Below.size hXwk
  have hst : Stay w.heap.size w' (fun w9 => CAt w9 dd) := fun w9 hsz hk => mkC w9 (Sep.stay hS' hwk w9 hsz hk)
  have RAf : Row 1 encI w' aa (cNet c.t).2 := by
    have hOa' : Own 1 encI 3 w2.heap.size w11 aa ca (cNet c.t).2 := hOa.ext (hXk.trans hX11)
    refine (Own.keep hOa' fun k hk => hU.grown.block k (hOa'.blk_lt k hk).2 ?_).row encI_ok
    intro he
    have h1 := (hOa'.blk_lt k hk).1
    have h2 := heap_lt hb2
    simp only [blk, Option.map_some, Option.some.injEq] at he
    omega
  have hdt2 : dd.t = numC c.t := by
    have ho := net_only_all hg
    have hgT := gTo_all ho ((cNet c.t).1.length - (c.t.ins.length + c.t.lat.length)) (by have := ho.le; omega)
    rw [show c.t.ins.length + c.t.lat.length + ((cNet c.t).1.length - (c.t.ins.length + c.t.lat.length)) = (cNet c.t).1.length by have := ho.le; omega] at hgT
    have e7 : (numC c.t).gates = gatesG (cNet c.t).1 (c.t.ins.length + c.t.lat.length) ((cNet c.t).1.length - (c.t.ins.length + c.t.lat.length)) := by
      show gatesG (cNet c.t).1 (c.t.ins.length + (nextN c.t).length) ((cNet c.t).1.length - (c.t.ins.length + (nextN c.t).length)) = _
      rw [nextN_len]
    rw [hdd]
    show (⟨((cNet c.t).1.length : Nat), d.ins.2.2.map f, d.lat.2.2.map (latP A), d.outs.2.2.map f, d.bads.2.2.map f, d.cons.2.2.map f, gTo (cNet c.t).1 (cNet c.t).1.length, d.syms.2.2, d.com⟩ : CirT) = _
    rw [hdi, hdl, hdo, hdb, hdc, show d.syms.2.2 = c.syms.2.2 from congrArg CirT.syms hdt, show d.com = c.com from congrArg CirT.com hdt, hgT, ← e7, hf, hA, latP_all (c := c.t) hg, num_ins (c := c.t) hg]
    rfl
  have hc2 : Cells w' g2 0 dd.vals := cells_heap hb
  exact Z.bodyCT tOk Try.results30 rfl rfl rfl rfl rfl hc2 fun m => ⟨hX'.at m, dd, aa, ca, rfl, hdt2, hCd.ext ((Ext.refl _).at m), RAf.ext ((Ext.refl _).at m), hst⟩
theorem renum_Number (c : Circ) (w : World) (hC : CAt w c) (hg : GoodC' c.t) (hz : SzC c.t 100000) (hz7 : c.t.syms.length ≤ 100000) :
    Lt.Spec Try.prog 30 [c.val] w (fun v w' => Ext w w' ∧ ∃ (d : Circ) (aa : Option Addr) (ca : Nat), v = .tuple #[d.val, .slice aa (cNet c.t).2.length ca] ∧ d.t = numC c.t ∧ CAt w' d ∧ Row 1 encI w' aa (cNet c.t).2) :=
  (renum_NumberS c w hC hg hz hz7).mono fun v w' ⟨h1, d, aa, ca, h2, h3, h4, h5, _⟩ => ⟨h1, d, aa, ca, h2, h3, h4, h5⟩
end Go.Proofs.Ythpnahapiodflaa
namespace Go.Proofs.Ythpnahapiodflaa
open Go Go.Lt Go.RowKit
set_option linter.unusedVariables false
set_option linter.unusedSimpArgs false
set_option maxRecDepth 20000

/-- A machine in memory: the circuit, its net, and where its variables are. -/
structure MAt (w : World) (gm : Nat) (c : Circ) (rn : RowV (Int × Int)) (ra : RowV Int) : Prop where
  cells : Cells w gm 0 (c.vals ++ [rowVal rn, rowVal ra])
  cat : CAt w c
  net : Row 2 encN w rn.1 rn.2.2
  at_ : Row 1 encI w ra.1 ra.2.2
  en : rn.2.2 = (cNet c.t).1
  ea : ra.2.2 = (cNet c.t).2
  good : GoodC' c.t
  size : SzC c.t 100000
theorem MAt.ext {w w' : World} {gm : Nat} {c : Circ} {rn : RowV (Int × Int)} {ra : RowV Int} (h : MAt w gm c rn ra) (hx : Ext w w') : MAt w' gm c rn ra :=
  ⟨h.cells.ext hx, h.cat.ext hx, h.net.ext hx, h.at_.ext hx, h.en, h.ea, h.good, h.size⟩

end Go.Proofs.Ythpnahapiodflaa
namespace Go.Lt
open Go.RowKit
set_option linter.unusedVariables false

theorem OwnRR.nil {α : Type} {s : Nat} {enc : α → List Value} {el elO B : Nat} {w : World} {a : Option Addr} {cap : Nat} (h : Own 1 encRow elO B w a cap ([] : List (RowV α))) : OwnRR s enc el elO B w a cap [] :=
  ⟨h, fun i r hr => by simp at hr, fun i r hr => by simp at hr, fun i j r q hr => by simp at hr⟩
/-- Rows told, and one more that is not put behind yet. -/
structure RR1 {α : Type} (s : Nat) (enc : α → List Value) (el elO B : Nat) (w : World) (a : Option Addr) (cap : Nat) (rs : List (RowV α)) (b : Option Addr) (dp : Nat) (S : List α) : Prop where
  rr : OwnRR s enc el elO B w a cap rs
  own : Own s enc el B w b dp S
  apartO : blk b = none ∨ blk b ≠ blk a
  apart : ∀ (i : Nat) (q : RowV α), rs[i]? = some q → blk q.1 = none ∨ blk q.1 ≠ blk b
section
variable {α : Type} {s : Nat} {enc : α → List Value} {el elO B : Nat} {w w1 w2 w3 : World} {a a' b : Option Addr} {cap cap' dp : Nat} {rs : List (RowV α)} {S : List α}
theorem RR1.ext (h : RR1 s enc el elO B w a cap rs b dp S) (hx : Ext w w1) : RR1 s enc el elO B w1 a cap rs b dp S := ⟨h.rr.ext hx, h.own.ext hx, h.apartO, h.apart⟩
theorem RR1.new (h : OwnRR s enc el elO B w1 a cap rs) (hx : Ext w1 w2) (hO : Own s enc el w1.heap.size w2 b dp S) (hB : B ≤ w1.heap.size) : RR1 s enc el elO B w2 a cap rs b dp S := by
  refine ⟨h.ext hx, hO.base hB, ?_, fun i q hq => ?_⟩
  · cases hb : blk b with
    | none => exact .inl rfl
    | some k =>
      refine .inr fun he => ?_
      have h1 := (hO.blk_lt k hb).1
      have h2 := (h.outer.blk_lt k he.symm).2
      omega
  · cases hb : blk q.1 with
    | none => exact .inl rfl
    | some k =>
      refine .inr fun he => ?_
      have h1 := ((h.inner i q hq).blk_lt k hb).2
      have h2 := (hO.blk_lt k he.symm).1
      omega
theorem RR1.first {g c0 : Nat} (hO : Own s enc el B w b dp S) (h : Own 1 encRow elO B w (some ⟨g, 0, none⟩) c0 ([] : List (RowV α))) (hg : ∀ k, blk b = some k → k ≠ g) : RR1 s enc el elO B w (some ⟨g, 0, none⟩) c0 [] b dp S := by
  refine ⟨OwnRR.nil h, hO, ?_, fun i q hq => by simp at hq⟩
  cases hb : blk b with
  | none => exact .inl rfl
  | some k =>
    refine .inr fun he => hg k hb ?_
    simp only [blk, Option.map_some, Option.some.injEq] at he; exact he
theorem RR1.push (h : RR1 s enc el elO B w2 a cap rs b dp S) (hU : Upd B a w2 w3) (hO : Own 1 encRow elO B w3 a' cap' (rs ++ [(b, dp, S)])) (hF : blk a' = blk a ∨ ∃ k, blk a' = some k ∧ w2.heap.size ≤ k) : OwnRR s enc el elO B w3 a' cap' (rs ++ [(b, dp, S)]) := by
  obtain ⟨hr, ho, hA, hI⟩ := h
  have get : ∀ (i : Nat) (q : RowV α), (rs ++ [(b, dp, S)])[i]? = some q → (i < rs.length ∧ rs[i]? = some q) ∨ (i = rs.length ∧ q = (b, dp, S)) := fun i q hq => by
    by_cases hi : i < rs.length
    · rw [List.getElem?_append_left hi] at hq; exact .inl ⟨hi, hq⟩
    · rw [List.getElem?_append_right (by omega)] at hq
      have h0 := lt_of_get hq
      simp at h0
      have h1 : i - rs.length = 0 := by omega
      rw [h1] at hq
      simp at hq
      exact .inr ⟨by omega, hq.symm⟩
  have lt2 : ∀ (i : Nat) (q : RowV α) (k : Nat), (rs ++ [(b, dp, S)])[i]? = some q → blk q.1 = some k → k < w2.heap.size := fun i q k hq hk => by
    rcases get i q hq with ⟨_, hq⟩ | ⟨_, rfl⟩
    · exact ((hr.inner i q hq).blk_lt k hk).2
    · exact (ho.blk_lt k hk).2
  have apA : ∀ (i : Nat) (q : RowV α), (rs ++ [(b, dp, S)])[i]? = some q → blk q.1 = none ∨ blk q.1 ≠ blk a := fun i q hq => by
    rcases get i q hq with ⟨_, hq⟩ | ⟨_, rfl⟩
    · exact hr.apartO i q hq
    · exact hA
  refine ⟨hO, fun i q hq => ?_, fun i q hq => ?_, fun i j q p h1 h2 hne => ?_⟩
  · rcases get i q hq with ⟨_, hq'⟩ | ⟨_, rfl⟩
    · exact hU.own (hr.inner i q hq') (hr.apartO i q hq')
    · exact hU.own ho hA
  · rcases hF with hF | ⟨k, hk, hle⟩
    · rw [hF]; exact apA i q hq
    · cases hb : blk q.1 with
      | none => exact .inl rfl
      | some b =>
        refine .inr fun he => ?_
        have := lt2 i q b hq hb
        rw [hk] at he
        have := Option.some.inj he
        omega
  · rcases get i q h1 with ⟨_, h1'⟩ | ⟨rfl, rfl⟩
    · rcases get j p h2 with ⟨_, h2'⟩ | ⟨rfl, rfl⟩
      · exact hr.apart i j q p h1' h2' hne
      · exact hI i q h1'
    · rcases get j p h2 with ⟨_, h2'⟩ | ⟨rfl, rfl⟩
      · show blk b = none ∨ blk b ≠ blk p.1
        cases hb : blk b with
        | none => exact .inl rfl
        | some k =>
          refine .inr fun he => ?_
          rcases hI j p h2' with h3 | h3
          · rw [h3] at he; cases he
          · exact h3 (by rw [hb]; exact he.symm)
      · exact absurd rfl hne
end
theorem OwnRR.base {α : Type} {s : Nat} {enc : α → List Value} {el elO B C : Nat} {w : World} {a : Option Addr} {cap : Nat} {rs : List (RowV α)} (h : OwnRR s enc el elO C w a cap rs) (hB : B ≤ C) : OwnRR s enc el elO B w a cap rs := ⟨h.outer.base hB, fun i r hr => (h.inner i r hr).base hB, h.apartO, h.apart⟩
theorem OwnRR.row {α : Type} {s : Nat} {enc : α → List Value} {el elO B : Nat} {w : World} {a : Option Addr} {cap : Nat} {rs : List (RowV α)} (h : OwnRR s enc el elO B w a cap rs) (hE : Enc s enc) {i : Nat} {r : RowV α} (hr : rs[i]? = some r) : Row s enc w r.1 r.2.2 := (h.inner i r hr).row hE
theorem OwnRR.at {α : Type} {s : Nat} {enc : α → List Value} {el elO B : Nat} {w : World} {a : Option Addr} {cap : Nat} {rs : List (RowV α)} (h : OwnRR s enc el elO B w a cap rs) (m : Nat) : OwnRR s enc el elO B (at' w m) a cap rs := h.ext ((Ext.refl w).at m)
end Go.Lt
namespace Go.Proofs.Ythpnahapiodflaa
open Go Go.Lt Go.RowKit
set_option linter.unusedVariables false
set_option linter.unusedSimpArgs false
set_option maxRecDepth 20000

abbrev encRB : RowV Bool → List Value := encRow
/-- A run by value: its rows, with where they lie. -/
structure RunV where
  st : RowV Bool
  ins : RowV (RowV Bool)
abbrev RunV.val (r : RunV) : Value := .agg #[rowVal r.st, rowVal r.ins]
abbrev RunV.s (r : RunV) : List Bool := r.st.2.2
abbrev RunV.i (r : RunV) : List (List Bool) := r.ins.2.2.map (·.2.2)
structure RAt (w : World) (r : RunV) : Prop where
  st : Row 1 encB w r.st.1 r.st.2.2
  ins : Row 1 encRB w r.ins.1 r.ins.2.2
  each : ∀ x ∈ r.ins.2.2, Row 1 encB w x.1 x.2.2
theorem RAt.ext {w w' : World} {r : RunV} (h : RAt w r) (hx : Ext w w') : RAt w' r := ⟨h.st.ext hx, h.ins.ext hx, fun x h1 => (h.each x h1).ext hx⟩
end Go.Proofs.Ythpnahapiodflaa
namespace Go.Proofs.Ythpnahapiodflaa
open Go Go.Lt Go.RowKit
set_option linter.unusedVariables false
set_option linter.unusedSimpArgs false
set_option maxRecDepth 20000

/-- The values of a machine in a step, by value. -/
structure VAt (w : World) (c : Circ) (s i : List Bool) (rv : RowV Bool) (ra : RowV Int) : Prop where
  vals : Row 1 encB w rv.1 rv.2.2
  at_ : Row 1 encI w ra.1 ra.2.2
  ev : rv.2.2 = stepV c.t s i
  ea : ra.2.2 = (cNet c.t).2
  good : GoodC' c.t
  size : SzC c.t 100000
theorem VAt.ext {w w' : World} {c : Circ} {s i : List Bool} {rv : RowV Bool} {ra : RowV Int} (h : VAt w c s i rv ra) (hx : Ext w w') : VAt w' c s i rv ra := ⟨h.vals.ext hx, h.at_.ext hx, h.ev, h.ea, h.good, h.size⟩
end Go.Proofs.Ythpnahapiodflaa
namespace Go.Lt
open Go.RowKit
set_option linter.unusedVariables false
section
variable {P : Program} {N : Nat} {e : Env} {w : World} {C : World → Prop} {ops : List Oper} {l : List Oper} {Kf : Act → Prop} {Q : Exit → Act → World → Prop} {T : Tab}
  {d : Nat} {tt t ty : TypeId} {ps : String} {af : Array Edge} {g : Option (Nat × Bool)} {x y : Operand} {i : TI} {el : TypeId}
theorem QL.neNilS {q : Addr} (hT : OkTab P T) (hg : gate ops e g = some true) (hd : Nat.blt d N = true) (hx : ev e x = some (.pointer (some q))) (hy : ev e y = some (.pointer none)) (ht : tget T t = some i) (htd : i.desc = .pointer el) (k : QL P N C ops.toArray l ((d, .bool true) :: e) Q) : QL P N C ops.toArray (⟨some d, .binOp .neq t x y ty, tt, ps, af, g⟩ :: l) e Q := by
  refine QL.step hg hd ?_ k
  have := (yneNil (P := P) (dd := some d) (ty := ty) (tt := tt) (ps := ps) (af := af) (g := g) hT hx hy ht htd)
  rw [dec_true (by simp)] at this
  exact this.in
theorem QL.eqNilS {q : Addr} (hT : OkTab P T) (hg : gate ops e g = some true) (hd : Nat.blt d N = true) (hx : ev e x = some (.pointer (some q))) (hy : ev e y = some (.pointer none)) (ht : tget T t = some i) (htd : i.desc = .pointer el) (k : QL P N C ops.toArray l ((d, .bool false) :: e) Q) : QL P N C ops.toArray (⟨some d, .binOp .eql t x y ty, tt, ps, af, g⟩ :: l) e Q := by
  refine QL.step hg hd ?_ k
  have := (yeqNil (P := P) (dd := some d) (ty := ty) (tt := tt) (ps := ps) (af := af) (g := g) hT hx hy ht htd)
  rw [dec_false (by simp)] at this
  exact this.in
theorem FL.neNilS {q : Addr} (hT : OkTab P T) (hg : gate ops e g = some true) (hd : Nat.blt d N = true) (hx : ev e x = some (.pointer (some q))) (hy : ev e y = some (.pointer none)) (ht : tget T t = some i) (htd : i.desc = .pointer el) (k : FL P N ops.toArray C l ((d, .bool true) :: e) w Kf) : FL P N ops.toArray C (⟨some d, .binOp .neq t x y ty, tt, ps, af, g⟩ :: l) e w Kf := by
  refine FL.step hg hd ?_ k
  have := (yneNil (P := P) (dd := some d) (ty := ty) (tt := tt) (ps := ps) (af := af) (g := g) hT hx hy ht htd)
  rw [dec_true (by simp)] at this
  exact this.in
theorem FL.eqNilS {q : Addr} (hT : OkTab P T) (hg : gate ops e g = some true) (hd : Nat.blt d N = true) (hx : ev e x = some (.pointer (some q))) (hy : ev e y = some (.pointer none)) (ht : tget T t = some i) (htd : i.desc = .pointer el) (k : FL P N ops.toArray C l ((d, .bool false) :: e) w Kf) : FL P N ops.toArray C (⟨some d, .binOp .eql t x y ty, tt, ps, af, g⟩ :: l) e w Kf := by
  refine FL.step hg hd ?_ k
  have := (yeqNil (P := P) (dd := some d) (ty := ty) (tt := tt) (ps := ps) (af := af) (g := g) hT hx hy ht htd)
  rw [dec_false (by simp)] at this
  exact this.in
end
end Go.Lt
namespace Go.Proofs.Ythpnahapiodflaa
open Go Go.Lt Go.RowKit
set_option linter.unusedVariables false
set_option linter.unusedSimpArgs false
set_option maxRecDepth 20000

theorem num_sz {c : CirT} (h : GoodC' c) (hz : SzC c 100000) : SzC (numC c) 100000 := by
  obtain ⟨z1, z2, z3, z4, z5, z6⟩ := hz
  refine ⟨by rw [num_inslen]; exact z1, by rw [num_latlen]; exact z2, ?_, ?_, ?_, ?_⟩
  · show (c.outs.map _).length ≤ _; rw [List.length_map]; exact z3
  · show (c.bads.map _).length ≤ _; rw [List.length_map]; exact z4
  · show (c.cons.map _).length ≤ _; rw [List.length_map]; exact z5
  · rw [← gatesR_all h, gatesR_len (Nat.le_refl _)]
    exact Nat.le_trans (ordL_is c.gates).1.le z6
end Go.Proofs.Ythpnahapiodflaa
namespace Go.Proofs.Ythpnahapiodflaa
open Go Go.Lt Go.RowKit
set_option linter.unusedVariables false
set_option linter.unusedSimpArgs false
set_option maxRecDepth 20000

/-- The example. -/
abbrev exR : CirT := ⟨3, [6], [(2, 7, 0)], [], [], [], [], [], ⟨#[]⟩⟩
abbrev exS : CirT := ⟨2, [2], [(4, 3, 0)], [], [], [], [], [], ⟨#[]⟩⟩
theorem exR_good : GoodC' exR := by
  refine ⟨by decide, fun x hx => ?_, fun x hx => ?_, fun x hx => ?_, ?_, fun x hx h => ?_, ?_⟩
  · have : x = 6 ∨ x = 2 := by simpa using hx
    rcases this with rfl | rfl <;> decide
  · have : x = 7 := by simpa using hx
    subst this; decide
  · have : x = (2, 7, 0) := by simpa using hx
    subst this; exact .inl rfl
  · simp
  · have : x = 7 := by simpa using hx
    subst this; simp
  · show (ordL []).length = 0
    rw [ordL_nil]; rfl
theorem exR_net : cNet exR = ([(-1, 0), (-1, 0)], [0, 4, -1, 2]) := by
  unfold cNet
  rw [show exR.gates = [] from rfl, ordL_nil]
  rfl
theorem exR_num : numC exR = exS := by
  have h7 : litI [0, 4, -1, 2] 7 = 3 := rfl
  unfold numC genC nextN resN restN
  rw [exR_net]
  show (⟨2, evenL 0 1, latsG 1 [litI [0, 4, -1, 2] 7] [if (0 : Int) = 2 then _ else 0], [], [], [], gatesG _ _ 0, [], _⟩ : CirT) = _
  rw [h7]
  rfl
end Go.Proofs.Ythpnahapiodflaa
namespace Go.Proofs.Ythpnahapiodflaa
open Go Go.Lt Go.RowKit
set_option linter.unusedVariables false
set_option linter.unusedSimpArgs false
set_option maxRecDepth 20000

set_option maxRecDepth 20000 in
set_option maxHeartbeats 16000000 in
theorem law16_lives (w : World) : Pure Try.prog 28 [] w (.bool true) := by
  refine Spec.of _ Try.func28 rfl Try.ntmps28 (by kernel_rfl) rfl ?_
  repeat' (first
    | ((show WL _ _ _ (⟨_, .build 28 _, _, _, _, _⟩ :: _) _ _ _; apply WL.build (cs := [.int .i64 3, .slice (some ⟨g1, 0, none⟩) 1 1, .slice (some ⟨g2, 0, none⟩) 1 1, .slice none 0 0, .slice none 0 0, .slice none 0 0, .slice none 0 0, .slice none 0 0, .string ⟨#[]⟩]) tOk; exact rfl; exact rfl; exact rfl; exact rfl; exact rfl; exact rfl; (first | kernel_rfl | exact rfl); kernel_rfl))
    | (apply WL.build tOk; exact rfl; exact rfl; exact rfl; exact rfl; exact rfl; exact rfl; exact rfl; kernel_rfl)
    | (apply WL.lit tOk; exact rfl; exact rfl; exact rfl; exact rfl; exact rfl; exact rfl; (first | exact rfl | kernel_rfl | (simp [Instr.fill, catCells]; done)); exact rfl; intro gb w' hb hge hc hx; have hO := Own.of_block ([(6 : Int)]) encI_ok hb hge rfl; (obtain ⟨g1, rfl⟩ : ∃ x, x = gb := ⟨_, rfl⟩; obtain ⟨w1, rfl⟩ : ∃ x, x = w' := ⟨_, rfl⟩; obtain ⟨hx1, rfl⟩ : ∃ x, x = hx := ⟨_, rfl⟩; obtain ⟨hO1, rfl⟩ : ∃ x, x = hO := ⟨_, rfl⟩))
    | (apply WL.lit tOk; exact rfl; exact rfl; exact rfl; exact rfl; exact rfl; exact rfl; (first | exact rfl | kernel_rfl | (simp [Instr.fill, catCells]; done)); exact rfl; intro gb w' hb hge hc hx; have hO := Own.of_block ([((2, 7, 0) : T3)]) enc3_ok hb hge rfl; (obtain ⟨g2, rfl⟩ : ∃ x, x = gb := ⟨_, rfl⟩; obtain ⟨w3, rfl⟩ : ∃ x, x = w' := ⟨_, rfl⟩; obtain ⟨hx2, rfl⟩ : ∃ x, x = hx := ⟨_, rfl⟩; obtain ⟨hO2, rfl⟩ : ∃ x, x = hO := ⟨_, rfl⟩))
    | (show WL _ _ _ _ _ _ _; first | apply WL.nil | (refine WL.au (k := ?_)))
    | (show Z _ _ _ _ _; apply Z.then_normal)
    | (show W _ _ _ _ _ _; first | apply W.seq | apply W.region))
  obtain ⟨c, hc⟩ : ∃ c : Circ, c = ⟨3, (some ⟨g1, 0, none⟩, 1, [6]), (some ⟨g2, 0, none⟩, 1, [(2, 7, 0)]), (none, 0, []), (none, 0, []), (none, 0, []), (none, 0, []), (none, 0, []), ⟨#[]⟩⟩ := ⟨_, rfl⟩
  have hct : c.t = exR := by rw [hc]
  have hX2 : Ext w1 w3 := (by (exact extA))
  have hX : Ext w w3 := (by (exact extA))
  have nilK : ∀ {α : Type} (w0 : World) (s : Nat) (enc : α → List Value), RowK s enc w0 ((none, 0, []) : RowV α) := fun w0 s enc => ⟨Row.nil _ _ _ _, Nat.le_refl _, fun _ => rfl⟩
  have hC : CAt w3 c := by
    rw [hc]
    exact ⟨⟨(hO1.row encI_ok).ext hX2, Nat.le_refl _, fun h => by cases h⟩, ⟨hO2.row enc3_ok, Nat.le_refl _, fun h => by cases h⟩, nilK _ _ _, nilK _ _ _, nilK _ _ _, nilK _ _ _, nilK _ _ _⟩
  have hz : SzC c.t 100000 := by rw [hct]; unfold SzC; simp
  have hz7 : c.t.syms.length ≤ 100000 := by rw [hct]; simp
  have hgc : GoodC' c.t := by rw [hct]; exact exR_good
  have hnew := renum_Number c w3 hC hgc hz hz7
  have hv : c.val = .agg #[.int .i64 3, .slice (some ⟨g1, 0, none⟩) 1 1, .slice (some ⟨g2, 0, none⟩) 1 1, .slice none 0 0, .slice none 0 0, .slice none 0 0, .slice none 0 0, .slice none 0 0, .string ⟨#[]⟩] := by rw [hc]; rfl
  rw [hv, hct, exR_num, exR_net] at hnew
  repeat' (first
    | (((show WL _ _ _ (⟨_, .call ⟨.value (.func 30), _, _⟩, _, _, _, _⟩ :: _) _ _ _); apply WL.call; exact rfl; exact rfl; exact rfl; exact rfl; exact hnew; rintro v' w4 ⟨hx4, d, aa, ca, rfl, hdt, hCd, RA⟩))
    | (apply WL.alloc tOk; exact rfl; exact rfl; exact rfl; intro gb w' hb hge hx; (obtain ⟨g5, rfl⟩ : ∃ x, x = gb := ⟨_, rfl⟩; obtain ⟨hge5, rfl⟩ : ∃ x, x = hge := ⟨_, rfl⟩))
    | (apply WL.storeB (w0 := w4) tOk; exact rfl; exact rfl; exact rfl; exact rfl; assumption; (exact extA); exact rfl; exact rfl; exact rfl; (exact extA); (first | assumption | omega | (focus (apply Nat.le_trans; rotate_left; assumption; exact Below.size (by (exact extA)); done))); intro w' hb hc hX' hU; have hcc := hc; obtain ⟨h1, h2, _⟩ := hc; (obtain ⟨w5, rfl⟩ : ∃ x, x = w' := ⟨_, rfl⟩; obtain ⟨hb5, rfl⟩ : ∃ x, x = hb := ⟨_, rfl⟩; obtain ⟨hX5, rfl⟩ : ∃ x, x = hX' := ⟨_, rfl⟩; have hcd := cells_heap hb5))
    | (apply WL.lit tOk; exact rfl; exact rfl; exact rfl; exact rfl; exact rfl; exact rfl; (first | exact rfl | kernel_rfl | (simp [Instr.fill, catCells]; done)); exact rfl; intro gb w' hb hge hc hx; have hO := Own.of_block ([(2 : Int)]) encI_ok hb hge rfl; (obtain ⟨g12, rfl⟩ : ∃ x, x = gb := ⟨_, rfl⟩; obtain ⟨w12, rfl⟩ : ∃ x, x = w' := ⟨_, rfl⟩; obtain ⟨hx12, rfl⟩ : ∃ x, x = hx := ⟨_, rfl⟩; obtain ⟨hO12, rfl⟩ : ∃ x, x = hO := ⟨_, rfl⟩))
    | (apply WL.lit tOk; exact rfl; exact rfl; exact rfl; exact rfl; exact rfl; exact rfl; (first | exact rfl | kernel_rfl | (simp [Instr.fill, catCells]; done)); exact rfl; intro gb w' hb hge hc hx; have hO := Own.of_block ([((4, 3, 0) : T3)]) enc3_ok hb hge rfl; (obtain ⟨g14, rfl⟩ : ∃ x, x = gb := ⟨_, rfl⟩; obtain ⟨w14, rfl⟩ : ∃ x, x = w' := ⟨_, rfl⟩; obtain ⟨hx14, rfl⟩ : ∃ x, x = hx := ⟨_, rfl⟩; obtain ⟨hO14, rfl⟩ : ∃ x, x = hO := ⟨_, rfl⟩))
    | ((show WL _ _ _ (⟨_, .build 28 _, _, _, _, _⟩ :: _) _ _ _; apply WL.build (cs := [.int .i64 2, .slice (some ⟨g12, 0, none⟩) 1 1, .slice (some ⟨g14, 0, none⟩) 1 1, .slice none 0 0, .slice none 0 0, .slice none 0 0, .slice none 0 0, .slice none 0 0, .string ⟨#[]⟩]) tOk; exact rfl; exact rfl; exact rfl; exact rfl; exact rfl; exact rfl; (first | kernel_rfl | exact rfl); kernel_rfl))
    | (apply WL.build tOk; exact rfl; exact rfl; exact rfl; exact rfl; exact rfl; exact rfl; exact rfl; kernel_rfl)
    | (show WL _ _ _ _ _ _ _; first | apply WL.nil | (refine WL.au (k := ?_)))
    | (show Z _ _ _ _ _; apply Z.then_normal)
    | (show W _ _ _ _ _ _; first | apply W.seq | apply W.region))
  obtain ⟨e, he⟩ : ∃ e : Circ, e = ⟨2, (some ⟨g12, 0, none⟩, 1, [2]), (some ⟨g14, 0, none⟩, 1, [(4, 3, 0)]), (none, 0, []), (none, 0, []), (none, 0, []), (none, 0, []), (none, 0, []), ⟨#[]⟩⟩ := ⟨_, rfl⟩
  have het : e.t = exS := by rw [he]
  have hX12 : Ext w12 w14 := (by (exact extA))
  have hX5' : Ext w5 w14 := (by (exact extA))
  have hCe : CAt w14 e := by
    rw [he]
    exact ⟨⟨(hO12.row encI_ok).ext hX12, Nat.le_refl _, fun h => by cases h⟩, ⟨hO14.row enc3_ok, Nat.le_refl _, fun h => by cases h⟩, nilK _ _ _, nilK _ _ _, nilK _ _ _, nilK _ _ _, nilK _ _ _⟩
  have hCd14 : CAt w14 d := hCd.ext (hX5.trans hX5')
  have RA14 := RA.ext (hX5.trans hX5')
  have hsm := fun (w0 : World) (h0 : Ext w14 w0) => ref11_Same d e w0 (hCd14.ext h0) (hCe.ext h0)
  rw [dec_true (show d.t = e.t by rw [hdt, het])] at hsm
  have hev : e.val = .agg #[.int .i64 2, .slice (some ⟨g12, 0, none⟩) 1 1, .slice (some ⟨g14, 0, none⟩) 1 1, .slice none 0 0, .slice none 0 0, .slice none 0 0, .slice none 0 0, .slice none 0 0, .string ⟨#[]⟩] := by rw [he]; rfl
  rw [hev] at hsm
  have hX14 : Ext w w14 := hX.trans (hx4.trans (hX5.trans hX5'))
  repeat' (first
    | (((show WL _ _ _ (⟨_, .call ⟨.value (.func 32), _, _⟩, _, _, _, _⟩ :: _) _ _ _); apply WL.callP; exact rfl; exact rfl; exact rfl; exact rfl; exact hsm _ (Ext.refl _); intro w15 hx15))
    | (apply WL.lit tOk; exact rfl; exact rfl; exact rfl; exact rfl; exact rfl; exact rfl; (first | exact rfl | kernel_rfl | (simp [Instr.fill, catCells]; done)); exact rfl; intro gb w' hb hge hc hx; have hO := Own.of_block ([(0 : Int), 4, -1, 2]) encI_ok hb hge rfl; (obtain ⟨g19, rfl⟩ : ∃ x, x = gb := ⟨_, rfl⟩; obtain ⟨w19, rfl⟩ : ∃ x, x = w' := ⟨_, rfl⟩; obtain ⟨hx19, rfl⟩ : ∃ x, x = hx := ⟨_, rfl⟩; obtain ⟨hO19, rfl⟩ : ∃ x, x = hO := ⟨_, rfl⟩; have R19 := hO19.row encI_ok; have hin := ref_Ints aa (some ⟨g19, 0, none⟩) ca 4 [0, 4, -1, 2] [0, 4, -1, 2] w19 (RA14.ext (by (exact extA))) R19; rw [dec_true rfl] at hin))
    | (((show WL _ _ _ (⟨_, .call ⟨.value (.func 33), _, _⟩, _, _, _, _⟩ :: _) _ _ _); apply WL.callS; exact rfl; exact rfl; exact rfl; exact rfl; exact hin))
    | (show WL _ _ _ _ _ _ _; first | apply WL.nil | (refine WL.au (k := ?_)))
    | (show Z _ _ _ _ _; apply Z.then_normal)
    | (show W _ _ _ _ _ _; apply W.ret))
  exact Z.body1 Try.results28 rfl fun m => ⟨rfl, Ext.at (hX14.trans (by (exact extA))) m⟩
end Go.Proofs.Ythpnahapiodflaa
namespace Go.Proofs.Ythpnahapiodflaa
open Go Go.Lt Go.RowKit
set_option linter.unusedVariables false
set_option linter.unusedSimpArgs false
set_option maxRecDepth 20000

/-- What a circuit uses is used in other numbers. -/
theorem num_mem {c : CirT} (h : GoodC' c) {l : Int} (hl : l ∈ c.used) : litI (cNet c).2 l ∈ (numC c).used := by
  rcases List.mem_append.1 hl with hl | hl
  · rcases List.mem_append.1 hl with hl | hl
    · rcases List.mem_append.1 hl with hl | hl
      · rcases List.mem_append.1 hl with hl | hl
        · exact List.mem_append_left _ (List.mem_append_left _ (List.mem_append_left _ (List.mem_append_left _ (List.mem_map.2 ⟨l, hl, rfl⟩))))
        · exact used_bad (List.mem_map.2 ⟨l, hl, rfl⟩)
      · exact used_con (List.mem_map.2 ⟨l, hl, rfl⟩)
    · obtain ⟨x, hx, rfl⟩ := List.mem_map.1 hl
      obtain ⟨k, hk⟩ := List.mem_iff_getElem?.1 hx
      have := num_lat hk
      exact used_next (x := (_, litI (cNet c).2 x.2.1, _)) (List.mem_of_getElem? this)
  · obtain ⟨g, hg, hm⟩ := List.mem_flatMap.1 hl
    have e := gatesR_all h
    obtain ⟨i, hi⟩ := List.mem_iff_getElem?.1 hg
    have hio := ord_all h (lt_of_get hi)
    refine List.mem_append_right _ (List.mem_flatMap.2 ⟨gateR (cNet c).2 g, ?_, ?_⟩)
    · rw [← e]
      unfold gatesR
      rw [List.take_length]
      exact List.mem_map.2 ⟨i, hio, by rw [gAt_of hi]⟩
    · simp only [List.mem_cons, List.not_mem_nil, or_false] at hm ⊢
      unfold gateR
      dsimp only
      rcases hm with rfl | rfl
      · by_cases hh : litI (cNet c).2 g.2.2 ≤ litI (cNet c).2 g.2.1
        · left; omega
        · right; omega
      · by_cases hh : litI (cNet c).2 g.2.2 ≤ litI (cNet c).2 g.2.1
        · right; omega
        · left; omega
theorem means1 (a b : Option Addr) (ca cb : Nat) (V : List Bool) (A : List Int) (l z : Int) (w : World) (RV : Row 1 encB w a V) (RA : Row 1 encI w b A) (hl : 0 ≤ l ∧ l ≤ 100000000) (hz : A[(l / 2).toNat]? = some z) (h0 : 0 ≤ z) (hv : z / 2 < V.length) (hb : z ≤ 100000000) :
    Still Try.prog 55 [.slice a V.length ca, .slice b A.length cb, .int .i64 l] w (.bool (ofL V (litI A l))) := by
  have hlt := lt_of_get hz
  have hRl := RA.len
  have e := litV_ref (V := V) hz h0
  refine Spec.of _ Try.func55 rfl Try.ntmps55 (by kernel_rfl) rfl ?_
  repeat' (first
    | ((show WL _ _ _ (⟨_, .call ⟨.value (.func 44), _, _⟩, _, _, _, _⟩ :: _) _ _ _); apply WL.callS; exact rfl; exact rfl; exact rfl; exact rfl; exact ref07_Of _ _ V z _ RV ⟨h0, hv, by omega⟩)
    | (show WL _ _ _ _ _ _ _; first | apply WL.nil | (refine WL.au (k := ?_)) | (apply WL.index tOk; exact rfl; exact rfl; exact rfl; exact rfl; exact rfl; exact rfl; exact rfl; exact rfl; assumption; (exact extA); exact rfl; omega; assumption; intro b off h; have hcc := h; first | (obtain ⟨h1, h2, h3, h4, h5, h6, _⟩ := h) | (obtain ⟨h1, h2, h3, _⟩ := h) | (obtain ⟨h1, h2, _⟩ := h) | (obtain ⟨h1, _⟩ := h)))
    | (show Z _ _ _ _ _; apply Z.then_normal)
    | (show W _ _ _ _ _ _; first | apply W.seq | apply W.region | apply W.ret))
  refine Z.body1 Try.results55 rfl fun m => ⟨?_, m, rfl⟩
  rw [← e]
  cases ofL V z <;> by_cases h : l % 2 = 1 <;> simp [h, dec_true, dec_false, dec_decide]
set_option maxHeartbeats 32000000 in
theorem law_RenumMeans (c : Circ) (bo : Option Addr) (bc : Nat) (ins : List Bool) (w : World) (hC : CAt w c) (RB : Row 1 encB w bo ins) : Pure Try.prog 11 [c.val, .slice bo ins.length bc] w (.bool true) := by
  by_cases hf : FewC c.t 30 ∧ c.max ≤ 300 ∧ GoodC' c.t
  rotate_left
  · refine Spec.of _ Try.func11 rfl Try.ntmps11 (by kernel_rfl) rfl ?_
    repeat' (first
      | (apply WL.box; exact rfl; exact rfl; exact rfl; intro gb w' hb hge hc hx; have hcc := hc; (first | (obtain ⟨h1, h2, h3, _⟩ := hc) | (obtain ⟨h1, h2, _⟩ := hc)))
      | (apply W.condKT; exact rfl; (focus (first | (rw [dec_false hf]; rfl); done)))
      | ((show WL _ _ _ (⟨_, .call ⟨.value (.func 27), _, _⟩, _, _, _, _⟩ :: _) _ _ _); apply WL.callP; exact rfl; exact rfl; exact rfl; exact rfl; exact law11_Small c 30 _ (hC.ext (by (exact extA))) (by decide); intro w' hx)
      | ((show WL _ _ _ (⟨_, .call ⟨.value (.func 28), _, _⟩, _, _, _, _⟩ :: _) _ _ _); apply WL.callP; exact rfl; exact rfl; exact rfl; exact rfl; exact law16_lives _; intro w' hx)
      | (show WL _ _ _ _ _ _ _; first | apply WL.nil | (refine WL.au (k := ?_)))
      | (show Z _ _ _ _ _; first | apply Z.then_normal | apply Z.then_ret)
      | (show W _ _ _ _ _ _; first | apply W.seq | apply W.region | apply W.ret))
    exact Z.body1 Try.results11 rfl fun m => ⟨rfl, Ext.at (by (exact extA)) m⟩
  have hf' := hf
  obtain ⟨hfew, hmx, hg⟩ := hf'
  obtain ⟨hz, hz7⟩ := few_sz2 hfew (by decide)
  have hkf : (!dec (FewC c.t 30 ∧ c.max ≤ 300 ∧ GoodC' c.t)) = false := by rw [dec_true hf]; rfl
  have hgt := trim_good hg
  have hzt : SzC (trimC c.t) 100000 := trim_sz hz
  have hzt7 : (trimC c.t).syms.length ≤ 100000 := hz7
  have hgn := num_good hgt hzt
  have hzn := num_sz hgt hzt
  have hck : chkC (numC (trimC c.t)) = 0 := chkC_good.2 hgn
  have hm : 0 ≤ c.max ∧ c.max ≤ 16777216 := hg.max
  have z2 : c.lat.2.2.length ≤ 100000 := hz.2.1
  have z4 : c.bads.2.2.length ≤ 100000 := hz.2.2.2.1
  have z5 : c.cons.2.2.length ≤ 100000 := hz.2.2.2.2.1
  refine Spec.of _ Try.func11 rfl Try.ntmps11 (by kernel_rfl) rfl ?_
  repeat' (first
    | (apply WL.box; exact rfl; exact rfl; exact rfl; intro gb w' hb hge hc hx; have hcc := hc; (first | (obtain ⟨h1, h2, h3, _⟩ := hc) | (obtain ⟨h1, h2, _⟩ := hc)); (obtain ⟨g1, rfl⟩ : ∃ x, x = gb := ⟨_, rfl⟩; obtain ⟨wc, rfl⟩ : ∃ x, x = w' := ⟨_, rfl⟩; obtain ⟨hxc, rfl⟩ : ∃ x, x = hx := ⟨_, rfl⟩; have hcells : Cells wc g1 0 c.vals := hcc))
    | (apply W.condKF; exact rfl; (focus (with_reducible exact hkf; done)))
    | ((show WL _ _ _ (⟨_, .call ⟨.value (.func 27), _, _⟩, _, _, _, _⟩ :: _) _ _ _); apply WL.callP; exact rfl; exact rfl; exact rfl; exact rfl; exact law11_Small c 30 _ (hC.ext (by (exact extA))) (by decide); intro w' hx)
    | (((show WL _ _ _ (⟨_, .call ⟨.value (.func 29), _, _⟩, _, _, _, _⟩ :: _) _ _ _); apply WL.call; exact rfl; exact rfl; exact rfl; exact rfl; exact law11_Own c _ (hC.ext (by (exact extA))) hz hz7; rintro v' w4 ⟨hx4, d, rfl, hdt, hOd⟩; have hCd := hOd.at))
    | (show WL _ _ _ _ _ _ _; first | apply WL.nil | (refine WL.au (k := ?_)))
    | (show Z _ _ _ _ _; apply Z.then_normal)
    | (show W _ _ _ _ _ _; first | apply W.seq | apply W.region | apply W.skip))
  have hXw4 : Ext w w4 := (by (exact extA))
  have hc4 : Cells w4 g1 0 c.vals := hcells.ext (by (exact extA))
  repeat' (first
    | (((show WL _ _ _ (⟨_, .call ⟨.value (.func 51), _, _⟩, _, _, _, _⟩ :: _) _ _ _); apply WL.call; exact rfl; exact rfl; exact rfl; exact rfl; exact renum_Trim d _ hCd (by rw [hdt]; exact hg) (by rw [hdt]; exact hz) (by rw [hdt]; exact hz7); rintro v' w6 ⟨hx6, e, rfl, he, hE⟩)))
  have het : e.t = trimC c.t := by rw [he, hdt]
  have hnum := renum_Number e w6 hE (by rw [het]; exact hgt) (by rw [het]; exact hzt) (by rw [het]; exact hzt7)
  rw [het] at hnum
  repeat' (first
    | (((show WL _ _ _ (⟨_, .call ⟨.value (.func 30), _, _⟩, _, _, _, _⟩ :: _) _ _ _); apply WL.call; exact rfl; exact rfl; exact rfl; exact rfl; exact hnum; rintro v' w7 ⟨hx7, n, aa, ca, rfl, hnt, hCn, RAt⟩))
    | (show WL _ _ _ _ _ _ _; (refine WL.au (k := ?_))))
  repeat' (first
    | (apply WL.alloc tOk; exact rfl; exact rfl; exact rfl; intro gb w' hb hge hx; (obtain ⟨g5, rfl⟩ : ∃ x, x = gb := ⟨_, rfl⟩; obtain ⟨hge5, rfl⟩ : ∃ x, x = hge := ⟨_, rfl⟩; obtain ⟨hb5, rfl⟩ : ∃ x, x = hb := ⟨_, rfl⟩; obtain ⟨hx5, rfl⟩ : ∃ x, x = hx := ⟨_, rfl⟩)))
  repeat' (first
    | (apply WL.storeB (w0 := w7) tOk; exact rfl; exact rfl; exact rfl; exact rfl; assumption; (exact extA); exact rfl; exact rfl; exact rfl; (exact extA); (first | assumption | omega | (focus (apply Nat.le_trans; rotate_left; assumption; exact Below.size (by (exact extA)); done))); intro w' hb hc hX' hU; have hcc := hc; obtain ⟨h1, h2, _⟩ := hc; (obtain ⟨w8, rfl⟩ : ∃ x, x = w' := ⟨_, rfl⟩; obtain ⟨hb8, rfl⟩ : ∃ x, x = hb := ⟨_, rfl⟩; obtain ⟨hX8, rfl⟩ : ∃ x, x = hX' := ⟨_, rfl⟩; have hcn := cells_heap hb8))
    | (show WL _ _ _ _ _ _ _; first | apply WL.nil | (refine WL.au (k := ?_)))
    | (show Z _ _ _ _ _; apply Z.then_normal)
    | (show W _ _ _ _ _ _; first | apply W.seq | apply W.region))
  have hX48 : Ext w4 w8 := hx6.trans (hx7.trans hX8)
  have hXw8 : Ext w w8 := hXw4.trans hX48
  have hC8 := hC.ext hXw8
  have hN8 := hCn.ext hX8
  have xC : Cells w8 g1 0 c.vals := hc4.ext hX48
  have xN : Cells w8 g5 0 n.vals := hcn
  have RB8 := RB.ext hXw8
  clear hcc h1 h2 hU
  have hAl : (cNet (trimC c.t)).2.length = c.max.toNat + 1 := (cNet_ok hgt).1.len2
  obtain ⟨A', hA'⟩ : ∃ A, A = (cNet (trimC c.t)).2 := ⟨_, rfl⟩
  rw [← hA'] at RAt hAl ⊢
  have hlb : n.bads.2.2.length = c.bads.2.2.length := by
    rw [show n.bads.2.2 = (numC (trimC c.t)).bads from congrArg CirT.bads hnt]; exact List.length_map _
  have hln : n.cons.2.2.length = c.cons.2.2.length := by
    rw [show n.cons.2.2 = (numC (trimC c.t)).cons from congrArg CirT.cons hnt]; exact List.length_map _
  have hlo : n.outs.2.2.length = c.outs.2.2.length := by
    rw [show n.outs.2.2 = (numC (trimC c.t)).outs from congrArg CirT.outs hnt]; exact List.length_map _
  have hll : n.lat.2.2.length = c.lat.2.2.length := by
    rw [show n.lat.2.2 = (numC (trimC c.t)).lat from congrArg CirT.lat hnt]; exact num_latlen
  have s4 := fun (w0 : World) (h0 : Ext w8 w0) => ref11_Check n w0 (hN8.ext h0) (by rw [hnt]; exact hzn)
  rw [hnt, hck] at s4
  have k0 : dec ((0 : Int) ≠ 0) = false := dec_false (fun h => h rfl)
  have k1 : dec ((A'.length : Int) ≠ c.max + 1) = false := dec_false (by omega)
  have k2 : dec ((n.bads.2.2.length : Int) ≠ (c.bads.2.2.length : Int)) = false := dec_false (by omega)
  have k3 : dec ((n.cons.2.2.length : Int) ≠ (c.cons.2.2.length : Int)) = false := dec_false (by omega)
  have k4 : dec ((n.lat.2.2.length : Int) ≠ (c.lat.2.2.length : Int)) = false := dec_false (by omega)
  have k5 : dec ((n.outs.2.2.length : Int) ≠ (c.outs.2.2.length : Int)) = false := dec_false (by omega)
  obtain ⟨y0, y1, y2, y3, y4, y5, y6, _⟩ := id xC
  obtain ⟨n0, n1, n2, n3, n4, n5, n6, _⟩ := id xN
  repeat' (first
    | (apply WL.gF; exact rfl; exact rfl; (focus (first | with_reducible exact k0 | with_reducible exact k1 | with_reducible exact k2 | with_reducible exact k3 | with_reducible exact k4 | with_reducible exact k5; done)))
    | (((show WL _ _ _ (⟨_, .call ⟨.value (.func 53), _, _⟩, _, _, _, _⟩ :: _) _ _ _); apply WL.callP; exact rfl; exact rfl; exact rfl; exact rfl; exact s4 _ (by (exact extA)); intro w' hx))
    | (show WL _ _ _ _ _ _ _; first | apply WL.nil | (refine WL.au (k := ?_)))
    | (show Z _ _ _ _ _; apply Z.then_normal))
  refine W.condKF rfl k5 ?_
  have hX9 : Ext w8 w' := (by (exact extA))
  obtain ⟨w9, rfl⟩ : ∃ x, x = w' := ⟨_, rfl⟩
  clear y0 y1 y2 y3 y4 y5 y6 n0 n1 n2 n3 n4 n5 n6
  have xC9 := Cells.ext hX9 xC
  have xN9 := Cells.ext hX9 xN
  repeat' (first
    | (((show WL _ _ _ (⟨_, .call ⟨.value (.func 54), _, _⟩, _, _, _, _⟩ :: _) _ _ _); apply WL.call; exact rfl; exact rfl; exact rfl; exact rfl; exact ref11_Net c _ (hC8.ext hX9) hg hz; rintro v' w10 ⟨hx10, a1, c1, a2, c2, rfl, hO1, hO2⟩))
    | (show WL _ _ _ _ _ _ _; first | apply WL.nil | (refine WL.au (k := ?_)))
    | (show Z _ _ _ _ _; apply Z.then_normal)
    | (show W _ _ _ _ _ _; first | apply W.seq | apply W.region | apply W.skip))
  have xC10 := Cells.ext hx10 xC9
  have xN10 := Cells.ext hx10 xN9
  have hnet2 := ref11_Net n w10 (hN8.ext (hX9.trans hx10)) (by rw [hnt]; exact hgn) (by rw [hnt]; exact hzn)
  rw [hnt] at hnet2
  repeat' (first
    | (((show WL _ _ _ (⟨_, .call ⟨.value (.func 54), _, _⟩, _, _, _, _⟩ :: _) _ _ _); apply WL.call; exact rfl; exact rfl; exact rfl; exact rfl; exact hnet2; rintro v' w11 ⟨hx11, a3, c3, a4, c4, rfl, hO3, hO4⟩))
    | (show WL _ _ _ _ _ _ _; first | apply WL.nil | (refine WL.au (k := ?_)))
    | (show Z _ _ _ _ _; apply Z.then_normal)
    | (show W _ _ _ _ _ _; first | apply W.seq | apply W.region))
  have R1 := (hO1.row encN_ok).ext hx11
  have R2 := (hO2.row encI_ok).ext hx11
  have R3 := hO3.row encN_ok
  have R4 := hO4.row encI_ok
  have hnl1 := net_len hg hz
  have hnl2 := net_len hgn hzn
  have hX811 : Ext w8 w11 := hX9.trans (hx10.trans hx11)
  repeat' (first
    | (((show WL _ _ _ (⟨_, .call ⟨.value (.func 41), _, _⟩, _, _, _, _⟩ :: _) _ _ _); apply WL.call; exact rfl; exact rfl; exact rfl; exact rfl; (first | exact ref07_Values _ _ _ _ (cNet c.t).1 ins _ (R1.ext (by (exact extA))) (RB8.ext (hX811.trans (by (exact extA)))) (cNet_ok hg).2 (by omega) | exact ref07_Values _ _ _ _ (cNet (numC (trimC c.t))).1 ins _ (R3.ext (by (exact extA))) (RB8.ext (hX811.trans (by (exact extA)))) (cNet_ok hgn).2 (by omega)); (first | (have h_0 := av; clear h_0; rintro v' w13 ⟨hx13, av2, cv2, rfl, hV2⟩) | (rintro v' w12 ⟨hx12, av, cv, rfl, hV⟩))))
    | (show WL _ _ _ _ _ _ _; first | apply WL.nil | (refine WL.au (k := ?_)))
    | (show Z _ _ _ _ _; apply Z.then_normal)
    | (show W _ _ _ _ _ _; first | apply W.seq | apply W.region | apply W.block))
  have hX1113 : Ext w11 w13 := (by (exact extA))
  have hX13 : Ext w8 w13 := hX811.trans hX1113
  have RV : Row 1 encB w13 av (values (cNet c.t).1 ins) := (hV.row encB_ok).ext hx13
  have RV2 : Row 1 encB w13 av2 (values (cNet (numC (trimC c.t))).1 ins) := hV2.row encB_ok
  have RP := R2.ext hX1113
  have RQ := R4.ext hX1113
  have hpair : ∀ l ∈ (trimC c.t).used, ∃ bb, (∀ w0, Ext w13 w0 → Pure Try.prog 55 [.slice av (values (cNet c.t).1 ins).length cv, .slice a2 (cNet c.t).2.length c2, .int .i64 l] w0 (.bool bb)) ∧ (∀ w0, Ext w13 w0 → Pure Try.prog 55 [.slice av2 (values (cNet (numC (trimC c.t))).1 ins).length cv2, .slice a4 (cNet (numC (trimC c.t))).2.length c4, .int .i64 (litI A' l)] w0 (.bool bb)) := by
    intro l hl
    have hlu := (trim_used hl).1
    have hlb1 : 0 ≤ l ∧ l ≤ 2 * c.max + 1 := hg.used l hlu
    have hlD : litI A' l ∈ (numC (trimC c.t)).used := by
      have := num_mem hgt hl
      rw [← hA'] at this; exact this
    have hlb2 := hgn.used _ hlD
    have hmx2 := hgn.max
    obtain ⟨z, z1, z2, z3, z4⟩ := net_lit hg hlu
    obtain ⟨u, u1, u2, u3, u4⟩ := net_lit hgn hlD
    have e1 : litW (numC (trimC c.t)) ins (litI A' l) = litW c.t ins l := by
      rw [hA', num_litW hgt hzt ins hl, trim_lit hg ins hl]
    refine ⟨litW c.t ins l, fun w0 h0 => ?_, fun w0 h0 => ?_⟩
    · exact (means1 av a2 cv c2 _ _ l z w0 (RV.ext h0) (RP.ext h0) (by omega) z1 z2 (by rw [values_len']; omega) (by omega)).mono (R' := fun v w' => v = .bool (litW c.t ins l) ∧ Ext w0 w') fun v w' ⟨h1, m, h2⟩ => ⟨h1, by rw [h2]; exact (Ext.refl _).at m⟩
    · rw [← e1]
      exact (means1 av2 a4 cv2 c4 _ _ (litI A' l) u w0 (RV2.ext h0) (RQ.ext h0) (by omega) u1 u2 (by rw [values_len']; omega) (by omega)).mono (R' := fun v w' => v = .bool (litW (numC (trimC c.t)) ins (litI A' l)) ∧ Ext w0 w') fun v w' ⟨h1, m, h2⟩ => ⟨h1, by rw [h2]; exact (Ext.refl _).at m⟩
  have xCb : ∀ w0, Ext w13 w0 → Cells w0 g1 0 c.vals := fun w0 h0 => Cells.ext (hX13.trans h0) xC
  have xNb : ∀ w0, Ext w13 w0 → Cells w0 g5 0 n.vals := fun w0 h0 => Cells.ext (hX13.trans h0) xN
  have hCb := hC8.ext hX13
  have hNb := hN8.ext hX13
  have hXw13 : Ext w w13 := hXw8.trans hX13
  obtain ⟨V, hVe⟩ : ∃ V, V = values (cNet c.t).1 ins := ⟨_, rfl⟩
  obtain ⟨V2, hV2e⟩ : ∃ V, V = values (cNet (numC (trimC c.t))).1 ins := ⟨_, rfl⟩
  obtain ⟨P, hPe⟩ : ∃ P, P = (cNet c.t).2 := ⟨_, rfl⟩
  obtain ⟨Q, hQe⟩ : ∃ P, P = (cNet (numC (trimC c.t))).2 := ⟨_, rfl⟩
  rw [← hVe, ← hV2e, ← hPe, ← hQe] at hpair ⊢
  have hnb : n.bads.2.2 = c.bads.2.2.map (litI A') := by rw [hA']; exact congrArg CirT.bads hnt
  have hnn : n.cons.2.2 = c.cons.2.2.map (litI A') := by rw [hA']; exact congrArg CirT.cons hnt
  have hnl : n.lat.2.2 = (numC (trimC c.t)).lat := congrArg CirT.lat hnt
  clear hV hV2 hO1 hO2 hO3 hO4 R1 R2 R3 R4 RV RV2 RP RQ xC9 xN9 xC10 xN10 s4 hnum hnet2 k0 k1 k2 k3 k4 k5
  refine W.loopW c.bads.2.2.length (fun k w' => k ≤ c.bads.2.2.length ∧ Ext w13 w') (fun k => [(2, .pointer (some ⟨g1, 0, none⟩)), (5, .pointer (some ⟨g5, 0, none⟩)), (8, .slice a2 P.length c2), (10, .slice a4 Q.length c4), (11, .slice av V.length cv), (12, .slice av2 V2.length cv2), (13, .func (.func 55) #[] #[]), (14, .int .i64 k)]) ⟨Nat.zero_le _, Ext.refl _⟩ (fun k w' h => h.1) ⟨rfl, rfl, rfl, rfl, rfl, rfl, rfl, rfl, trivial⟩ ?_
  rintro k w14 ⟨hk, hX14⟩
  obtain ⟨y0, y1, y2, y3, y4, y5, y6, _⟩ := xCb w14 hX14
  obtain ⟨n0, n1, n2, n3, n4, n5, n6, _⟩ := xNb w14 hX14
  have RC := hCb.bads.row.ext hX14
  have RN := hNb.bads.row.ext hX14
  by_cases hlt : k < c.bads.2.2.length
  · obtain ⟨l, hl⟩ := getI c.bads.2.2 hlt
    have hln2 : n.bads.2.2[((k : Nat) : Int).toNat]? = some (litI A' l) := by rw [Int.toNat_natCast, hnb, List.getElem?_map, hl]; rfl
    have hl2 : c.bads.2.2[((k : Nat) : Int).toNat]? = some l := by rw [Int.toNat_natCast]; exact hl
    have hkn : k < n.bads.2.2.length := by rw [hlb]; exact hlt
    obtain ⟨bb, p1, p2⟩ := hpair l (used_bad (c := trimC c.t) (List.mem_of_getElem? hl))
    repeat' (first
      | (show WL _ _ _ _ _ _ _; first | apply WL.nil | (refine WL.au (k := ?_)))
      | (show Z _ _ _ _ _; apply Z.then_normal)
      | (show W _ _ _ _ _ _; first | apply W.seq | apply W.region))
    refine W.condKT rfl (dec_true (by omega)) ?_
    repeat' (first
      | (show W _ _ (.region 13 _ _) _ _ _; apply W.regionGX (.fl true 0 (.fl true 1 (.fl true 2 (.fl true 3 (.fl true 5 (.fl true 9 (.fl true 10 (.fl true 11 (.fl true 12 (.fl true 14 (.fl false 4 (.fl true 6 (.fl false 7 (.fl false 13 (.fl true 15 (.fl false 16 (.fl false 8 (.fl false 17 (.fl true 18 .done))))))))))))))))))) [7, 8, 13, 15, 16, 17, 18] tMix; kernel_rfl)
      | (apply SX.flP; exact rfl; (exact extA); exact rfl; exact rfl; exact rfl; exact rfl; (focus (intro w9 hw9; exact p1 _ (hX14.trans (Ext.trans (by (exact extA)) hw9)))))
      | (apply SX.flP; exact rfl; (exact extA); exact rfl; exact rfl; exact rfl; exact rfl; (focus (intro w9 hw9; exact p2 _ (hX14.trans (Ext.trans (by (exact extA)) hw9)))))
      | (show SX _ _ _ _ _ _ _ _ _; first | (apply SX.done; intro w' hx) | (apply SX.fl0; exact rfl) | (apply SX.fl1; exact rfl; (exact extA)))
      | (show FL _ _ _ _ _ _ _ _; first | apply FL.nilX | (apply FL.loadE tOk; exact rfl; exact rfl; exact rfl; exact rfl; exact rfl; assumption) | (apply FL.indexE tOk; exact rfl; exact rfl; exact rfl; exact rfl; exact rfl; exact rfl; exact rfl; exact rfl; assumption; exact rfl; omega; assumption; intro b off h; have hcc := h; first | (obtain ⟨h1, h2, h3, h4, h5, h6, _⟩ := h) | (obtain ⟨h1, h2, h3, _⟩ := h) | (obtain ⟨h1, h2, _⟩ := h) | (obtain ⟨h1, _⟩ := h)))
      | (show FL _ _ _ _ _ _ _ _; (refine FL.au (k := ?_)))
      | (show Z _ _ _ _ _; apply Z.then_normal)
      | (show W _ _ _ _ _ _; first | apply W.seq | apply W.block | apply W.skip))
    all_goals
      refine W.condKF rfl (dec_false (fun h => h rfl)) ?_
      repeat' (first
        | (show WL _ _ _ _ _ _ _; first | apply WL.nil | (refine WL.au (k := ?_)))
        | (show Z _ _ _ _ _; first | apply Z.then_normal | apply Z.block_normal)
        | (show W _ _ _ _ _ _; first | apply W.region | apply W.skip))
      exact Z.againW ⟨by omega, (by (exact extA))⟩ ⟨rfl, rfl, rfl, rfl, rfl, rfl, rfl, rfl, trivial⟩
  obtain rfl : k = c.bads.2.2.length := by omega
  repeat' (first
    | (show WL _ _ _ _ _ _ _; first | apply WL.nil | (refine WL.au (k := ?_)))
    | (show Z _ _ _ _ _; apply Z.then_normal)
    | (show W _ _ _ _ _ _; first | apply W.seq | apply W.region))
  refine W.condKF rfl (dec_false (by omega)) ?_
  repeat' (first
    | (show WL _ _ _ _ _ _ _; first | apply WL.nil | (refine WL.au (k := ?_)))
    | (show Z _ _ _ _ _; first | apply Z.then_normal | apply Z.then_exit | apply Z.block_exit)
    | (show W _ _ _ _ _ _; first | apply W.seq | apply W.region | apply W.block | apply W.exit))
  have hX14' := hX14
  clear y0 y1 y2 y3 y4 y5 y6 n0 n1 n2 n3 n4 n5 n6 RC RN
  refine W.loopW c.cons.2.2.length (fun k w' => k ≤ c.cons.2.2.length ∧ Ext w13 w') (fun k => [(2, .pointer (some ⟨g1, 0, none⟩)), (5, .pointer (some ⟨g5, 0, none⟩)), (8, .slice a2 P.length c2), (10, .slice a4 Q.length c4), (11, .slice av V.length cv), (12, .slice av2 V2.length cv2), (13, .func (.func 55) #[] #[]), (15, .int .i64 k)]) ⟨Nat.zero_le _, hX14'⟩ (fun k w' h => h.1) ⟨rfl, rfl, rfl, rfl, rfl, rfl, rfl, rfl, trivial⟩ ?_
  rintro k w14 ⟨hk, hX14⟩
  obtain ⟨y0, y1, y2, y3, y4, y5, y6, _⟩ := xCb w14 hX14
  obtain ⟨n0, n1, n2, n3, n4, n5, n6, _⟩ := xNb w14 hX14
  have RC := hCb.cons.row.ext hX14
  have RN := hNb.cons.row.ext hX14
  by_cases hlt : k < c.cons.2.2.length
  · obtain ⟨l, hl⟩ := getI c.cons.2.2 hlt
    have hln2 : n.cons.2.2[((k : Nat) : Int).toNat]? = some (litI A' l) := by rw [Int.toNat_natCast, hnn, List.getElem?_map, hl]; rfl
    have hl2 : c.cons.2.2[((k : Nat) : Int).toNat]? = some l := by rw [Int.toNat_natCast]; exact hl
    have hkn : k < n.cons.2.2.length := by rw [hln]; exact hlt
    obtain ⟨bb, p1, p2⟩ := hpair l (used_con (c := trimC c.t) (List.mem_of_getElem? hl))
    repeat' (first
      | (show WL _ _ _ _ _ _ _; first | apply WL.nil | (refine WL.au (k := ?_)))
      | (show Z _ _ _ _ _; apply Z.then_normal)
      | (show W _ _ _ _ _ _; first | apply W.seq | apply W.region))
    refine W.condKT rfl (dec_true (by omega)) ?_
    repeat' (first
      | (show W _ _ (.region 18 _ _) _ _ _; apply W.regionGX (.fl true 0 (.fl true 1 (.fl true 2 (.fl true 3 (.fl true 5 (.fl true 9 (.fl true 10 (.fl true 11 (.fl true 12 (.fl true 14 (.fl false 4 (.fl true 6 (.fl false 7 (.fl false 13 (.fl true 15 (.fl false 16 (.fl false 8 (.fl false 17 (.fl true 18 .done))))))))))))))))))) [7, 8, 13, 15, 16, 17, 18] tMix; kernel_rfl)
      | (apply SX.flP; exact rfl; (exact extA); exact rfl; exact rfl; exact rfl; exact rfl; (focus (intro w9 hw9; exact p1 _ (hX14.trans (Ext.trans (by (exact extA)) hw9)))))
      | (apply SX.flP; exact rfl; (exact extA); exact rfl; exact rfl; exact rfl; exact rfl; (focus (intro w9 hw9; exact p2 _ (hX14.trans (Ext.trans (by (exact extA)) hw9)))))
      | (show SX _ _ _ _ _ _ _ _ _; first | (apply SX.done; intro w' hx) | (apply SX.fl0; exact rfl) | (apply SX.fl1; exact rfl; (exact extA)))
      | (show FL _ _ _ _ _ _ _ _; first | apply FL.nilX | (apply FL.loadE tOk; exact rfl; exact rfl; exact rfl; exact rfl; exact rfl; assumption) | (apply FL.indexE tOk; exact rfl; exact rfl; exact rfl; exact rfl; exact rfl; exact rfl; exact rfl; exact rfl; assumption; exact rfl; omega; assumption; intro b off h; have hcc := h; first | (obtain ⟨h1, h2, h3, h4, h5, h6, _⟩ := h) | (obtain ⟨h1, h2, h3, _⟩ := h) | (obtain ⟨h1, h2, _⟩ := h) | (obtain ⟨h1, _⟩ := h)))
      | (show FL _ _ _ _ _ _ _ _; (refine FL.au (k := ?_)))
      | (show Z _ _ _ _ _; apply Z.then_normal)
      | (show W _ _ _ _ _ _; first | apply W.seq | apply W.block | apply W.skip))
    all_goals
      refine W.condKF rfl (dec_false (fun h => h rfl)) ?_
      repeat' (first
        | (show WL _ _ _ _ _ _ _; first | apply WL.nil | (refine WL.au (k := ?_)))
        | (show Z _ _ _ _ _; first | apply Z.then_normal | apply Z.block_normal)
        | (show W _ _ _ _ _ _; first | apply W.region | apply W.skip))
      exact Z.againW ⟨by omega, (by (exact extA))⟩ ⟨rfl, rfl, rfl, rfl, rfl, rfl, rfl, rfl, trivial⟩
  obtain rfl : k = c.cons.2.2.length := by omega
  repeat' (first
    | (show WL _ _ _ _ _ _ _; first | apply WL.nil | (refine WL.au (k := ?_)))
    | (show Z _ _ _ _ _; apply Z.then_normal)
    | (show W _ _ _ _ _ _; first | apply W.seq | apply W.region))
  refine W.condKF rfl (dec_false (by omega)) ?_
  repeat' (first
    | (show WL _ _ _ _ _ _ _; first | apply WL.nil | (refine WL.au (k := ?_)))
    | (show Z _ _ _ _ _; first | apply Z.then_normal | apply Z.then_exit | apply Z.block_exit)
    | (show W _ _ _ _ _ _; first | apply W.seq | apply W.region | apply W.block | apply W.exit))
  have hX14' := hX14
  clear y0 y1 y2 y3 y4 y5 y6 n0 n1 n2 n3 n4 n5 n6 RC RN
  refine W.loopW c.lat.2.2.length (fun k w' => k ≤ c.lat.2.2.length ∧ Ext w13 w') (fun k => [(2, .pointer (some ⟨g1, 0, none⟩)), (5, .pointer (some ⟨g5, 0, none⟩)), (8, .slice a2 P.length c2), (10, .slice a4 Q.length c4), (11, .slice av V.length cv), (12, .slice av2 V2.length cv2), (13, .func (.func 55) #[] #[]), (16, .int .i64 k)]) ⟨Nat.zero_le _, hX14'⟩ (fun k w' h => h.1) ⟨rfl, rfl, rfl, rfl, rfl, rfl, rfl, rfl, trivial⟩ ?_
  rintro k w14 ⟨hk, hX14⟩
  obtain ⟨y0, y1, y2, y3, y4, y5, y6, _⟩ := xCb w14 hX14
  obtain ⟨n0, n1, n2, n3, n4, n5, n6, _⟩ := xNb w14 hX14
  have RC := hCb.lat.row.ext hX14
  have RN := hNb.lat.row.ext hX14
  by_cases hlt : k < c.lat.2.2.length
  · obtain ⟨l, hl⟩ := getI c.lat.2.2 hlt
    have hln2 : n.lat.2.2[((k : Nat) : Int).toNat]? = some (2 * (((c.t.ins.length + k : Nat) : Int) + 1), litI A' l.2.1, if l.2.2 = l.1 then litI A' l.1 else l.2.2) := by rw [Int.toNat_natCast, hnl, hA']; exact num_lat (c := trimC c.t) hl
    have hl2 : c.lat.2.2[((k : Nat) : Int).toNat]? = some l := by rw [Int.toNat_natCast]; exact hl
    have hkn : k < n.lat.2.2.length := by rw [hll]; exact hlt
    obtain ⟨bb, p1, p2⟩ := hpair l.2.1 (used_next (c := trimC c.t) (List.mem_of_getElem? hl))
    repeat' (first
      | (show WL _ _ _ _ _ _ _; first | apply WL.nil | (refine WL.au (k := ?_)))
      | (show Z _ _ _ _ _; apply Z.then_normal)
      | (show W _ _ _ _ _ _; first | apply W.seq | apply W.region))
    refine W.condKT rfl (dec_true (by omega)) ?_
    repeat' (first
      | (show W _ _ (.region 23 _ _) _ _ _; apply W.regionGX (.fl true 0 (.fl true 1 (.fl true 2 (.fl true 3 (.fl true 5 (.fl true 10 (.fl true 11 (.fl true 12 (.fl true 13 (.fl true 15 (.fl false 4 (.fl true 6 (.fl true 7 (.fl false 8 (.fl false 14 (.fl true 16 (.fl true 17 (.fl false 18 (.fl false 9 (.fl false 19 (.fl true 20 .done))))))))))))))))))))) [7, 8, 9, 14, 16, 17, 18, 19, 20] tMix; kernel_rfl)
      | (apply SX.flP; exact rfl; (exact extA); exact rfl; exact rfl; exact rfl; exact rfl; (focus (intro w9 hw9; exact p1 _ (hX14.trans (Ext.trans (by (exact extA)) hw9)))))
      | (apply SX.flP; exact rfl; (exact extA); exact rfl; exact rfl; exact rfl; exact rfl; (focus (intro w9 hw9; exact p2 _ (hX14.trans (Ext.trans (by (exact extA)) hw9)))))
      | (show SX _ _ _ _ _ _ _ _ _; first | (apply SX.done; intro w' hx) | (apply SX.fl0; exact rfl) | (apply SX.fl1; exact rfl; (exact extA)))
      | (show FL _ _ _ _ _ _ _ _; first | apply FL.nilX | (apply FL.loadE tOk; exact rfl; exact rfl; exact rfl; exact rfl; exact rfl; assumption) | (apply FL.indexE tOk; exact rfl; exact rfl; exact rfl; exact rfl; exact rfl; exact rfl; exact rfl; exact rfl; assumption; exact rfl; omega; assumption; intro b off h; have hcc := h; first | (obtain ⟨h1, h2, h3, h4, h5, h6, _⟩ := h) | (obtain ⟨h1, h2, h3, _⟩ := h) | (obtain ⟨h1, h2, _⟩ := h) | (obtain ⟨h1, _⟩ := h)))
      | (show FL _ _ _ _ _ _ _ _; (refine FL.au (k := ?_)))
      | (show Z _ _ _ _ _; apply Z.then_normal)
      | (show W _ _ _ _ _ _; first | apply W.seq | apply W.block | apply W.skip))
    all_goals
      refine W.condKF rfl (dec_false (fun h => h rfl)) ?_
      repeat' (first
        | (show WL _ _ _ _ _ _ _; first | apply WL.nil | (refine WL.au (k := ?_)))
        | (show Z _ _ _ _ _; first | apply Z.then_normal | apply Z.block_normal)
        | (show W _ _ _ _ _ _; first | apply W.region | apply W.skip))
      exact Z.againW ⟨by omega, (by (exact extA))⟩ ⟨rfl, rfl, rfl, rfl, rfl, rfl, rfl, rfl, trivial⟩
  obtain rfl : k = c.lat.2.2.length := by omega
  repeat' (first
    | (show WL _ _ _ _ _ _ _; first | apply WL.nil | (refine WL.au (k := ?_)))
    | (show Z _ _ _ _ _; apply Z.then_normal)
    | (show W _ _ _ _ _ _; first | apply W.seq | apply W.region))
  refine W.condKF rfl (dec_false (by omega)) ?_
  repeat' (first
    | ((show WL _ _ _ (⟨_, .call ⟨.value (.func 28), _, _⟩, _, _, _, _⟩ :: _) _ _ _); apply WL.callP; exact rfl; exact rfl; exact rfl; exact rfl; exact law16_lives _; intro w' hx)
    | (show WL _ _ _ _ _ _ _; first | apply WL.nil | (refine WL.au (k := ?_)))
    | (show Z _ _ _ _ _; first | apply Z.then_normal | apply Z.then_exit | apply Z.block_exit)
    | (show W _ _ _ _ _ _; first | apply W.seq | apply W.region | apply W.ret | apply W.exit))
  exact Z.body1 Try.results11 rfl fun m => ⟨rfl, Ext.at (hXw13.trans (hX14.trans (by (exact extA)))) m⟩
end Go.Proofs.Ythpnahapiodflaa
namespace Go.Proofs.Ythpnahapiodflaa
open Go Go.Lt Go.ChangeShapes Go.WideShapes Go.ChangeAt Go.RowKit
set_option linter.unusedVariables false
set_option linter.unusedSimpArgs false
set_option maxRecDepth 20000
open Go.ChangeMaps (open_string shut_string)
namespace renumMeans
theorem own : ownKnob Try.prog.godebug = none := by kernel_rfl
theorem laidOut : laidOutB Try.prog = true := factLaid
set_option maxRecDepth 100000 in
theorem lifted (os : Os) (started : os.Started) (H : Type) (enc : TypeId × Value → H) :
    ReturnsInHanded {} Try.checked os 11 .any (Rows.renumMeansSpec.pre6 enc Try.prog Try.f11 Rows.renumMeansRow.domain false) (Rows.renumMeansSpec.post enc Try.prog Try.f11 false true false false) := by
  refine returnsInHanded_of_change (C := Try.checked) own started (by kernel_rfl) Try.func11
    (ChangeSpec.witness6 (enc := enc) (C := Try.checked) false ⟨#[], #[.agg #[.int .i64 0, .slice none 0 0, .slice none 0 0, .slice none 0 0, .slice none 0 0, .slice none 0 0, .slice none 0 0, .slice none 0 0, .string ⟨#[]⟩], .slice none 0 0], []⟩ 8 (by kernel_rfl) (by kernel_rfl) (by kernel_rfl) (by kernel_rfl)) ?_
  intro W base args ds gs before hval0 hW hcnd _
  have hval : ∀ (j : Nat) t v, Try.f11.params[j]? = some t → args[j]? = some v → Value.okWide Try.prog W .any base t v := hval0
  have hW' := hW
  obtain ⟨p, q, hA0, hV, rfl, hfz, hnd⟩ := hW
  have hA : DataW.TrodAll enc Try.prog W 0 (fun _ => true) true Try.f11.params.toList args.toList ds p := hA0
  rw [Try.params11] at hA hval
  obtain ⟨v0, vs0, d0, ds0, p0, q0, hargs, rfl, rfl, h0, r0⟩ := trodAll_cons hA
  obtain ⟨v1, vs1, d1, ds1, p1, q1, rfl, rfl, rfl, h1, r1⟩ := trodAll_cons r0
  obtain ⟨rfl, rfl, rfl⟩ := trodAll_nil r1
  obtain rfl : args = #[v0, v1] := by cases args; simp_all
  obtain ⟨rfl, rfl⟩ := trodVars_none hV
  have k0 := h0
  have lt0 : ∀ x ∈ p0, x.block < W.heap.size := by obtain ⟨m, hm⟩ := k0; exact DataW.trod_lt m _ _ _ hm
  have k1 := h1
  have lt1 : ∀ x ∈ p1, x.block < W.heap.size := by obtain ⟨m, hm⟩ := k1; exact DataW.trod_lt m _ _ _ hm
  obtain ⟨c0, rfl, hC0⟩ := circ_of (hval 0 28 v0 rfl rfl) h0
  obtain ⟨a1, l1, cap1, rfl, hl1, hm1, hna1, R1, w1⟩ := row_of (s := 1) (reads_bool Try.underlying4) (by kernel_rfl) Try.underlying22 (fun _ => rfl) (by decide) (hval 1 22 v1 rfl rfl) h1
  clear hA0 hval0
  refine (Spec.law (law_RenumMeans c0 a1 cap1 l1 W hC0 R1)).mono fun e W' ⟨he, bel⟩ => ?_
  subst he
  exact ⟨_, rfl, _, _, _, [], _, [], hW', trodAll_mk1 (shut_bool Try.underlying4 _), (trodAll_cons_mk (Below.trod laidOut (by kernel_rfl) (of_decide_eq_true (by kernel_rfl)) k0 bel lt0) (trodAll_cons_mk (Below.trod laidOut (by kernel_rfl) (of_decide_eq_true (by kernel_rfl)) k1 bel lt1) trodAll_mk0)), rfl, bel.frame _, fun h => by cases h⟩
theorem j0 : (Rows.renumMeansRow.wf (OpenSpec.ofChange Rows.renumMeansSpec)) = true := by kernel_rfl
theorem j3 : (Try.f11.params.all (Try.prog.readableRec ·)) = true := by kernel_rfl
theorem j4 : (namedTie Try.prog Rows.renumMeansRow.named Rows.renumMeansSpec.vars) = true := by kernel_rfl
theorem j5 : ((Rows.renumMeansRow.stops == [])) = true := by kernel_rfl
theorem j7 : ((Rows.renumMeansRow.knobs == [])) = true := by kernel_rfl
theorem j9 : ((Rows.renumMeansRow.inPlace == Try.prog.inPlace 11)) = true := by kernel_rfl
theorem j10 : ((Rows.renumMeansRow.unfollowed == Try.prog.unfollowed 11)) = true := by kernel_rfl
theorem j11 : ((Rows.renumMeansRow.recurses == Try.prog.recurses 11)) = true := by kernel_rfl
theorem j12 : ((Rows.renumMeansRow.named == Try.prog.varsNamed 11)) = true := by kernel_rfl
theorem j13 : ((Rows.renumMeansRow.maps == (Try.f11.params.toList ++ Rows.renumMeansSpec.plain.varTypes Try.prog).any (Try.prog.mapsRec ·))) = true := by kernel_rfl
theorem j14 : ((Rows.renumMeansRow.ifaces == (Try.f11.params.toList ++ Rows.renumMeansSpec.plain.varTypes Try.prog).any (Try.prog.ifacesRec ·))) = true := by kernel_rfl
theorem j15 : ((Rows.renumMeansRow.mapsOut == Try.prog.mapsAmong Try.f11.resultTypes.toList)) = true := by kernel_rfl
theorem j16 : ((Rows.renumMeansRow.loops == (Try.f11.params.toList ++ Rows.renumMeansSpec.plain.varTypes Try.prog).any (Try.prog.loopsFrom ·))) = true := by kernel_rfl
theorem j17 : ((Rows.renumMeansRow.wideKeys == (Try.f11.params.toList ++ Rows.renumMeansSpec.plain.varTypes Try.prog ++ Try.f11.resultTypes.toList).any (Try.prog.wideKeysFrom ·))) = true := by kernel_rfl
theorem j18 : (Rows.renumMeansSpec.vars.all (Try.prog.varReadable ·)) = true := by kernel_rfl
theorem j19 : (Try.f11.resultTypes.all (fun t => Try.prog.readableRec t && decide (t < Try.prog.types.size))) = true := by kernel_rfl
theorem j20 : ((Rows.renumMeansRow.ifacesOut == Try.f11.resultTypes.toList.any (Try.prog.ifacesRec ·))) = true := by kernel_rfl
theorem j21 : ((Rows.renumMeansRow.loopsOut == Try.f11.resultTypes.toList.any (Try.prog.loopsFrom ·))) = true := by kernel_rfl
theorem j22 : ((Rows.renumMeansRow.plainKeys == Try.prog.plainKeys)) = true := by rw [show Rows.renumMeansRow.plainKeys = Rows.genCountsRow.plainKeys by kernel_rfl]; exact factKeys
theorem j23 : (Rows.renumMeansRow.shortTexts.isNone) = true := by kernel_rfl
theorem j26 : ((Rows.renumMeansRow.lifted == Try.prog.liftsFinal)) = true := by rw [show Rows.renumMeansRow.lifted = Rows.genCountsRow.lifted by kernel_rfl]; exact factLifts
theorem j27 : ((Try.prog.make == some Rows.renumMeansRow.make)) = true := by rw [show Rows.renumMeansRow.make = Rows.genCountsRow.make by kernel_rfl]; exact factMake
theorem j28 : ((Rows.renumMeansRow.kinds == (if Rows.renumMeansRow.domain.isEmpty then [] else Try.f11.params.toList.map fun t => match Try.prog.underlying t with | some (.int k) => some k | _ => none))) = true := by kernel_rfl
theorem j29 : ((Rows.renumMeansRow.pinned == Rows.renumMeansRow.pinnedBy)) = true := by kernel_rfl
theorem j30 : ((Rows.renumMeansRow.veiled == (Try.f11.params.toList ++ Rows.renumMeansSpec.plain.varTypes Try.prog ++ Try.f11.resultTypes.toList).any (Try.prog.veiledRec ·))) = true := by kernel_rfl
theorem j31 : (Rows.renumMeansRow.veiledFits Try.prog Try.f11.params.toList (Try.f11.params.toList ++ Rows.renumMeansSpec.plain.varTypes Try.prog ++ Try.f11.resultTypes.toList)) = true := by kernel_rfl
set_option maxRecDepth 100000 in
theorem closed : joinedFacts Try.checked.prog 11 Try.f11 Rows.renumMeansSpec Rows.renumMeansRow = true := by unfold joinedFacts; exact (band (band (band (band (band (band (band (band (band (band (band (band (band (band (band (band (band (band (band (band (band (band (band (band (band (band (band (band (band (band (band j0 factLaid) factMaps) j3) j4) j5) factStops) j7) factKnobs) j9) j10) j11) j12) j13) j14) j15) j16) j17) j18) j19) j20) j21) j22) j23) factHeard) factEnter) j26) j27) j28) j29) j30) j31)
theorem named : Try.checked.prog.funcNamed Rows.renumMeansRow.func = some 11 := by kernel_rfl
theorem over : Rows.renumMeansRow.holds Try.pinned (OpenSpec.ofChange Rows.renumMeansSpec) :=
  OpenClaim.holds_of_wide 11 Try.f11 rfl rfl rfl rfl rfl rfl rfl ⟨rfl, rfl, rfl, rfl, rfl⟩ rfl rfl rfl rfl rfl named Try.func11 closed
    (of_decide_eq_true (by kernel_rfl)) (by unfold Func.isWrapper; first | (rw [if_pos (by decide +kernel)]; kernel_rfl) | (rw [if_neg (by decide +kernel)]; exact ⟨rfl, rfl⟩))
    (fun os started H enc _ => lifted os started H enc)
/-- The statement. -/
theorem proved : Rows.RenumMeansSaid := over
end renumMeans
end Go.Proofs.Ythpnahapiodflaa
