/- Part 4 of what the claim CoiMeans needs: lemmas and contracts, printed from longer texts. No conditions. -/
import Derived.Test.YteidpnpbfagaeaaRows
import Derived.Lib.SmallJoins
import Derived.KernelRfl
import Derived.WalkKit
import Derived.ProofKit
import Derived.Deep.Quiet
import Derived.Deep.LoopGhost
import Derived.StillTail
import Derived.Test.YteidpnpbfagaeaaProg
import Derived.OpenShut
import Derived.ShutString
import Derived.ChangeOld
import Derived.Deep.Slices
import Derived.SizedLaws
import Derived.Laws.StructEq
import Derived.Laws.Externs
import Derived.MapKept
import Derived.Laws.CopyRow
import Derived.Laws.IdiomCopy
import Derived.Test.YteidpnpbfagaeaaCoiMeansP3
set_option linter.unusedVariables false
set_option linter.unusedSimpArgs false
set_option maxRecDepth 20000
set_option maxHeartbeats 32000000
namespace Go.Proofs.Yteidpnpbfagaeaa
open Go Go.Lt Go.RowKit

theorem cto_onlyQ {m : Nat} {N n : List (Int × Int)} {L : List Int} (hN : OnlyG m N) (hin : cnt n n.length <= L.length) : ∀ k, k <= n.length -> (cto N n L k).2.1 = cnt n k /\ OnlyG m (cto N n L k).2.2
 | 0, _ => ⟨rfl, hN⟩
 | k + 1, hk => by
  obtain ⟨x, hx⟩ := getI n (show k < n.length by omega)
  obtain ⟨h1, h2⟩ := cto_onlyQ hN hin k (by omega)
  rw [cto_succ hx]
  unfold cstep
  by_cases h0 : 0 <= x.1
  ·rw [if_pos h0]; exact ⟨by rw [cnt_gate hx (by omega)]; exact h1, h2.and _ _⟩
  ·have hc1 := cnt_in hx (show x.1 < 0 by omega)
   have hc2 := cnt_mono n (i := k + 1) (k := n.length) (by omega)
   rw [if_neg h0, if_pos (by omega)]; exact ⟨by rw [hc1]; dsimp only; omega, h2⟩
section
variable {c : CirT} {st la inp : List Int}
theorem fold_only (hg : GoodC' c) (h : FoldOk c st la inp) : OnlyG (inp.length + la.length) (foldV c st la inp).2 := by
 rw [fold_yes h]
 have hcn := net_cnt hg (cNet c).1.length (Nat.le_refl _)
 exact (cto_onlyQ (OnlyG.start _) (by rw [hcn, fillC_len h, inl_len]; exact Nat.min_le_right _ _) _ (Nat.le_refl _)).2
end
theorem hang_same {n : List (Int × Int)} (hg : GNt n) {a b : List Bool} {u : Nat} (h : ∀ v, 1 <= v -> Hang n u v -> InP n v -> a.getD (cnt n (v - 1)) false = b.getD (cnt n (v - 1)) false) : ∀ v, Hang n u v -> v <= n.length -> (values n a).getD v false = (values n b).getD v false := by
 intro v
 induction v using Nat.strongRecOn with
 | _ v ih =>
  intro hh hv
  match v, ih, hh, hv with
  | 0, _, _, _ => rw [values_zero, values_zero]
  | k + 1, ih, hh, hv =>
   obtain ⟨x, hx⟩ := getI n (show k < n.length by omega)
   by_cases hin : x.1 < 0
   ·rw [values_in a hx hin, values_in b hx hin]
    exact h (k + 1) (by omega) hh ⟨x, by simpa using hx, hin⟩
   ·have h0 : 0 <= x.1 := by omega
    have hgt := hg.gate hx h0
    have k1 : Kid n (k + 1) (x.1 / 2).toNat := ⟨k, x, rfl, hx, h0, .inl rfl⟩
    have k2 : Kid n (k + 1) (x.2 / 2).toNat := ⟨k, x, rfl, hx, h0, .inr rfl⟩
    rw [values_gate hg a hx h0, values_gate hg _ hx h0]
    unfold ofL
    rw [ih _ (k1.lt hg) (hh.snoc k1) (by omega), ih _ (k2.lt hg) (hh.snoc k2) (by omega)]
theorem hangL_same {n : List (Int × Int)} (hg : GNt n) {a b : List Bool} {l : Int} (hl : hasL n l) (h : ∀ v : Nat, HangL n l v -> InP n v -> a.getD (cnt n (v - 1)) false = b.getD (cnt n (v - 1)) false) : ofL (values n a) l = ofL (values n b) l := by
 unfold hasL at hl
 unfold ofL
 by_cases h2 : 2 <= l
 ·rw [hang_same hg (u := (l / 2).toNat) (fun v h1 hh hp => h v ⟨h2, by omega, by omega, by have := hh.le hg; omega, by simpa using hh⟩ hp) _ (.refl _) (by omega)]
 ·rw [show (l / 2).toNat = 0 by omega, values_zero, values_zero]
theorem hangL_self {n : List (Int × Int)} {l : Int} (h2 : 2 <= l) (hl : hasL n l) : HangL n l ((l / 2).toNat : Nat) := by
 unfold hasL at hl
 exact ⟨h2, by omega, by omega, by omega, by
  have e : (((l / 2).toNat : Nat) : Int).toNat = (l / 2).toNat := Int.toNat_natCast _
  rw [e]; exact .refl _⟩
noncomputable def freeV (c : CirT) : List Int := sel c.lat.length (fun j => (skV c).getD j 0 = 2)
def allI (m : Nat) : List Int := (List.range m).map fun u => ((u : Nat) : Int)
theorem allI_len (m : Nat) : (allI m).length = m := by simp [allI]
theorem allI_get {m k : Nat} (h : k < m) : (allI m)[k]? = some (k : Int) := by simp [allI, h]
theorem allI_mem {m : Nat} {z : Int} : z ∈ allI m ↔ 0 <= z /\ z < (m : Int) := by
 simp only [allI, List.mem_map, List.mem_range]
 constructor
 ·rintro ⟨u, h1, rfl⟩; omega
 ·intro h; exact ⟨z.toNat, by omega, by omega⟩
noncomputable abbrev storeV (c : CirT) : List Int × List (Int × Int) := foldV c (skV c) (freeV c) (allI c.ins.length)
noncomputable abbrev inSt (c : CirT) (l : Int) : Int := foldL c (skV c) (freeV c) (allI c.ins.length) l
def badL (c : CirT) (prop : Int) : Int := if 0 <= prop /\ prop < (c.bads.length : Int) then c.bads.getD prop.toNat 0 else 0
inductive Need (c : CirT) (prop : Int) : Nat -> Prop
 | base {l : Int} {v : Nat} : l ∈ badL c prop :: c.cons -> HangL (storeV c).2 (inSt c l) v -> InP (storeV c).2 v -> Need c prop v
 | step {k v : Nat} {j : Int} {t : T3} : Need c prop (c.ins.length + 1 + k) -> (freeV c)[k]? = some j -> c.lat[j.toNat]? = some t -> HangL (storeV c).2 (inSt c t.2.1) v -> InP (storeV c).2 v -> Need c prop v
noncomputable def laV (c : CirT) (prop : Int) : List Int := sel c.lat.length (fun j => ∃ k, (freeV c)[k]? = some (j : Int) /\ Need c prop (c.ins.length + 1 + k))
noncomputable def inV (c : CirT) (prop : Int) : List Int := sel c.ins.length (fun p => Need c prop (p + 1))
theorem sel_bd {m : Nat} {p : Nat -> Prop} : ∀ z ∈ sel m p, 0 <= z /\ z < (m : Int) := fun z hz => by
 obtain ⟨u, rfl, hu, _⟩ := sel_mem.1 hz
 omega
section
variable {c : CirT} {prop : Int}
theorem free_mem {j : Int} : j ∈ freeV c ↔ 0 <= j /\ j < (c.lat.length : Int) /\ (skV c).getD j.toNat 0 = 2 := by
 unfold freeV
 rw [sel_mem]
 constructor
 ·rintro ⟨u, rfl, h1, h2⟩; exact ⟨by omega, by omega, by simpa using h2⟩
 ·rintro ⟨h0, h1, h2⟩; exact ⟨j.toNat, by omega, by omega, h2⟩
theorem stuck_stOk (hg : GoodC' c) : (skV c).length = c.lat.length /\ ∀ j, j < c.lat.length -> (skV c).getD j 0 = 0 ∨ (skV c).getD j 0 = 1 ∨ (skV c).getD j 0 = 2 := ⟨stuck_len, fun _ h => stuck_three hg h⟩
theorem store_ok (hg : GoodC' c) : FoldOk c (skV c) (freeV c) (allI c.ins.length) := ⟨stuck_stOk hg, sel_bd, fun _ hz => allI_mem.1 hz⟩
theorem need_ok (hg : GoodC' c) (prop : Int) : FoldOk c (skV c) (laV c prop) (inV c prop) := ⟨stuck_stOk hg, sel_bd, sel_bd⟩
theorem la_free {j : Int} (h : j ∈ laV c prop) : j ∈ freeV c := by
 obtain ⟨u, rfl, _, k, hk, _⟩ := sel_mem.1 h
 exact List.mem_of_getElem? hk
theorem bad_kn (hg : GoodC' c) (prop : Int) : KnL c (badL c prop) := by
 unfold badL
 split
 ·obtain ⟨y, hy⟩ := getI c.bads (show prop.toNat < _ by omega)
  rw [gDo hy]; exact kLu hg (used_bad (List.mem_of_getElem? hy))
 ·exact ⟨by omega, fun h => by omega⟩
theorem want_kn (hg : GoodC' c) {l : Int} (h : l ∈ badL c prop :: c.cons) : KnL c l := by
 rcases List.mem_cons.1 h with rfl | h
 ·exact bad_kn hg prop
 ·exact kLu hg (used_con h)
def AllN (c : CirT) (prop l : Int) : Prop := ∀ v : Nat, HangL (storeV c).2 (inSt c l) v -> InP (storeV c).2 v -> Need c prop v
theorem want_all {l : Int} (h : l ∈ badL c prop :: c.cons) : AllN c prop l := fun _ h1 h2 => .base h h1 h2
theorem next_all {j : Int} {t : T3} (h : j ∈ laV c prop) (ht : c.lat[j.toNat]? = some t) : AllN c prop t.2.1 := fun _ h1 h2 => by
 obtain ⟨u, rfl, _, k, hk, hn⟩ := sel_mem.1 h
 exact .step hn hk ht h1 h2
theorem mSt_free {s : List Bool} (hg : GoodC' c) (hl : s.length = c.lat.length) (h : StkAt c s) : mSt c.lat.length (skV c) (freeV c) s = s := by
 symm
 refine tab_eq hl fun u x hx => ?_
 have hu := lGt hx
 have h3 := stuck_three hg (show u < c.lat.length by omega)
 have h4 := h u (by omega)
 rw [gDo hx] at h4
 by_cases h2 : (skV c).getD u 0 ≠ 2
 ·rw [if_pos h2]
  rcases h3 with e | e | e
  ·rw [h4.1 e, e]; rfl
  ·rw [h4.2 e, e]; rfl
  ·exact absurd e h2
 ·rw [if_neg h2, if_pos (free_mem.2 ⟨by omega, by omega, by simpa using h2⟩), gDo hx]
theorem mIn_all (i : List Bool) : mIn c.ins.length (allI c.ins.length) i = brV i c.ins.length := by
 unfold mIn
 symm
 refine tab_eq (brV_len _ _) fun u x hx => ?_
 have hu := lGt hx
 rw [brV_len] at hu
 rw [brV_get _ hu] at hx
 rw [if_pos (allI_mem.2 ⟨by omega, by omega⟩)]
 exact Option.some.inj hx
theorem insV_br (s i : List Bool) : insV c s (brV i c.ins.length) = insV c s i := by
 unfold insV
 have := brV_self (brV i c.ins.length)
 rw [brV_len] at this
 rw [this]
theorem litV_br (s i : List Bool) (l : Int) : litV c s (brV i c.ins.length) l = litV c s i l := by unfold litV stepV; rw [insV_br]
theorem mSt_stk (hg : GoodC' c) (la : List Int) (s : List Bool) : StkAt c (mSt c.lat.length (skV c) la s) := fun j hj => by
 unfold mSt
 rw [tab_getD _ _ hj]
 constructor
 ·intro e; rw [if_pos (by omega), e]; rfl
 ·intro e; rw [if_pos (by omega), e]; rfl
theorem store_lit (hg : GoodC' c) {s : List Bool} (hl : s.length = c.lat.length) (h : StkAt c s) (i : List Bool) {l : Int} (hk : KnL c l) : ofL (values (storeV c).2 (tookL (allI c.ins.length) i ++ tookL (freeV c) s)) (inSt c l) = litV c s i l := by
 have h1 := fold_lit hg (store_ok hg) s i hk
 rw [mSt_free hg hl h, mIn_all, litV_br] at h1
 exact h1
theorem took_get {la : List Int} {s : List Bool} {k : Nat} {z : Int} (h : la[k]? = some z) : (tookL la s).getD k false = s.getD z.toNat false := by
 refine gDo ?_
 unfold tookL; rw [List.getElem?_map, h]; rfl
theorem took_len (la : List Int) (s : List Bool) : (tookL la s).length = la.length := List.length_map _
theorem took_app1 {a b : List Int} {i s : List Bool} {k : Nat} {z : Int} (h : a[k]? = some z) : (tookL a i ++ tookL b s).getD k false = i.getD z.toNat false := by
 rw [List.getD_eq_getElem?_getD, List.getElem?_append_left (by rw [took_len]; exact lGt h), <- List.getD_eq_getElem?_getD]; exact took_get h
theorem took_app2 {a b : List Int} {i s : List Bool} {k : Nat} {z : Int} (h : b[k]? = some z) : (tookL a i ++ tookL b s).getD (a.length + k) false = s.getD z.toNat false := by
 rw [List.getD_eq_getElem?_getD, List.getElem?_append_right (by rw [took_len]; omega), took_len, Nat.add_sub_cancel_left, <- List.getD_eq_getElem?_getD]; exact took_get h
theorem in_var {m : Nat} {N : List (Int × Int)} (h : OnlyG m N) {v : Nat} (h1 : 1 <= v) (hp : InP N v) : v <= m := by
 obtain ⟨x, hx, h0⟩ := hp
 apply Classical.byContradiction
 intro hn
 have := h.gate (v - 1) x hx (by omega)
 omega
theorem in_mem {p : Nat} (hp : p < c.ins.length) (h : Need c prop (p + 1)) : (p : Int) ∈ inV c prop := sel_mem.2 ⟨p, rfl, hp, h⟩
theorem la_mem {k : Nat} {j : Int} (hj : (freeV c)[k]? = some j) (h : Need c prop (c.ins.length + 1 + k)) : j ∈ laV c prop := by
 have hf := free_mem.1 (List.mem_of_getElem? hj)
 have ej : ((j.toNat : Nat) : Int) = j := by omega
 exact sel_mem.2 ⟨j.toNat, ej.symm, by omega, k, by rw [ej]; exact hj, h⟩
theorem need_lit (hg : GoodC' c) {s : List Bool} (hl : s.length = c.lat.length) (h : StkAt c s) (i : List Bool) {l : Int} (hk : KnL c l) (hn : AllN c prop l) : litV c s i l = litV c (mSt c.lat.length (skV c) (laV c prop) s) (mIn c.ins.length (inV c prop) i) l := by
 have hso := store_ok hg
 have hO := fold_only hg hso
 rw [<- store_lit hg hl h i hk, <- store_lit hg (s := mSt c.lat.length (skV c) (laV c prop) s) (tab_len _ _) (mSt_stk hg (laV c prop) s) _ hk]
 refine hangL_same (fold_inv hg hso).2.2.2.2.good (foldL_has hg hso hk) fun v hv hp => ?_
 have hnv := hn v hv hp
 have h1 : 1 <= v := by have := hv.2.2.1; omega
 have hvm := in_var hO h1 hp
 rw [allI_len] at hvm
 rw [cnt_only hO (v - 1) (by rw [allI_len]; omega)]
 by_cases hvi : v - 1 < c.ins.length
 ·rw [took_app1 (allI_get hvi), took_app1 (allI_get hvi)]
  have e : ((v - 1 : Nat) : Int).toNat = v - 1 := Int.toNat_natCast _
  unfold mIn
  rw [e, tab_getD _ _ hvi, if_pos (in_mem hvi (by rw [show v - 1 + 1 = v by omega]; exact hnv))]
 ·obtain ⟨k, hkv⟩ : ∃ k, v = c.ins.length + 1 + k := ⟨v - 1 - c.ins.length, by omega⟩
  obtain ⟨j, hj⟩ := getI (freeV c) (show k < (freeV c).length by omega)
  have hjf := free_mem.1 (List.mem_of_getElem? hj)
  have e2 : v - 1 = (allI c.ins.length).length + k := by rw [allI_len]; omega
  rw [e2, took_app2 hj, took_app2 hj]
  have ej : ((j.toNat : Nat) : Int) = j := by omega
  unfold mSt
  rw [tab_getD _ _ (show j.toNat < c.lat.length by omega), if_neg (by rw [hjf.2.2]; simp), ej, if_pos (la_mem hj (by rw [<- hkv]; exact hnv))]
end

section cut
variable {n : List (Int × Int)} {m : Nat} {P : Nat -> Prop}
theorem rnk_first (h0 : ¬ P 0) (hP : ∀ v, v < m -> P (v + 1)) : ∀ k, k <= m -> rnk P k = k
 | 0, _ => by unfold rnk; rw [sel_no h0]; rfl
 | k + 1, hk => by rw [rnk_yes (hP k (by omega)), rnk_first h0 hP k (by omega)]
theorem cut_only (hg : GNt n) (hO : OnlyG m n) (h0 : ¬ P 0) (hk : ∀ v c, P v -> Kid n v c -> c = 0 ∨ P c) (hP : ∀ v, v < m -> P (v + 1)) : OnlyG m (outTo n P n.length) := by
 have hr := rnk_first h0 hP
 have hle := hO.le
 refine ⟨?_, fun i x hx hi => ?_, fun i x hx hi => ?_⟩
 ·rw [outTo_len n h0]
  have h1 := rnk_mono (P := P) hle
  rw [hr m (Nat.le_refl _)] at h1; exact h1
 ·have h1 := outTo_get (n := n) h0 (hP i hi) (show i < n.length by omega)
  rw [hr i (by omega), hx] at h1
  obtain ⟨y, hy⟩ := getI n (show i < n.length by omega)
  have e : nodeC n P i = (-1, 0) := by unfold nodeC; rw [hy]; exact if_pos (by rw [hO.inp i y hy hi]; decide)
  rw [e] at h1; exact Option.some.inj h1
 ·obtain ⟨k, h1, h2, h3, h4⟩ := outTo_all h0 hx
  obtain ⟨y, hy⟩ := getI n h1
  have hkm : m <= k := by
   rcases Nat.lt_or_ge k m with h5 | h5
   ·rw [hr k (by omega)] at h3; omega
   ·exact h5
  have hy0 := hO.gate k y hy hkm
  obtain ⟨e, c1, _⟩ := node_gate hk hy h2 hy0
  have hgt := hg.gate hy hy0
  rw [h4, e]
  exact (atL_bound (P := P) (k := k) hy0 hgt.1 c1).1
theorem few_first (hO : OnlyG m n) (hP : ∀ v, v < m -> P (v + 1)) (J : List Bool) : ∀ k, k <= n.length -> fewTo n P J k = tab (min k m) (fun i => J.getD i false)
 | 0, _ => by rw [Nat.zero_min]; rfl
 | k + 1, hk => by
  have ih := few_first hO hP J k (by omega)
  obtain ⟨x, hx⟩ := getI n (show k < n.length by omega)
  by_cases hkm : k < m
  ·have hxe := hO.inp k x hx hkm
   rw [fewTo_yes hx ⟨by rw [hxe]; decide, hP k hkm⟩, ih, cnt_only hO k (by omega), show min (k + 1) m = min k m + 1 by omega, show min k m = k by omega, tab_succ]
  ·have hx0 := hO.gate k x hx (by omega)
   rw [fewTo_no hx (fun h => by have := h.1; omega), ih, show min (k + 1) m = min k m by omega]
theorem few_all (hO : OnlyG m n) (hP : ∀ v, v < m -> P (v + 1)) {J : List Bool} (hJ : J.length = m) : fewTo n P J n.length = J := by
 rw [few_first hO hP J n.length (Nat.le_refl _), show min n.length m = m by have := hO.le; omega]
 symm
 exact tab_eq hJ fun u x hx => gDo hx
theorem ofL_add (V : List Bool) {a b : Int} (ha : 0 <= a /\ a % 2 = 0) (hb : b = 0 ∨ b = 1) : ofL V (a + b) = (ofL V a != decide (b = 1)) := by
 unfold ofL
 rcases hb with rfl | rfl
 ·rw [Int.add_zero]; simp
 ·rw [show ((a + 1) / 2).toNat = (a / 2).toNat by omega, decide_eq_true (show (a + 1) % 2 = 1 by omega), decide_eq_false (show ¬ a % 2 = 1 by omega)]; simp
theorem cut_lit (hg : GNt n) (hn : n.length <= 1048576) (hO : OnlyG m n) (h0 : ¬ P 0) (hk : ∀ v c, P v -> Kid n v c -> c = 0 ∨ P c) (hP : ∀ v, v < m -> P (v + 1)) {J : List Bool} (hJ : J.length = m) {l : Int} (hl : hasL n l) (hc : (l / 2).toNat = 0 ∨ P (l / 2).toNat) :
  ofL (values (outTo n P n.length) J) (atL P l) = ofL (values n J) l /\ hasL (outTo n P n.length) (atL P l) := by
 unfold hasL at hl
 have hev := atv_even P hc (show (l / 2).toNat <= 1048576 by omega)
 have h1 := cut_of hg h0 hk J (v := (l / 2).toNat) (by omega) hev.1
 rw [few_all hO hP hJ] at h1
 have hb := atL_bound (P := P) (k := n.length) hl.1 (by omega) hc
 constructor
 ·unfold atL
  rw [ofL_add _ ⟨hev.1, hev.2.1⟩ (by omega), h1]
  rfl
 ·unfold hasL
  rw [outTo_len n h0]
  omega
end cut
section
variable (c : CirT) (prop : Int)
noncomputable abbrev redF : List Int × List (Int × Int) := foldV c (skV c) (laV c prop) (inV c prop)
noncomputable abbrev redL (l : Int) : Int := foldL c (skV c) (laV c prop) (inV c prop) l
abbrev latD (j : Int) : T3 := c.lat.getD j.toNat (0, 0, 0)
noncomputable def nextW : List Int := (laV c prop).map fun j => redL c prop (latD c j).2.1
noncomputable def wantW : List Int := nextW c prop ++ redL c prop (badL c prop) :: c.cons.map (redL c prop)
noncomputable def firstW : Nat := (inV c prop).length + (laV c prop).length
noncomputable def keepW : List Int := wantW c prop ++ evenL 0 (firstW c prop)
noncomputable def keepP : Nat -> Prop := OfP (redF c prop).2 (keepW c prop)
noncomputable def cutW : List (Int × Int) := outTo (redF c prop).2 (keepP c prop) (redF c prop).2.length
noncomputable abbrev nowL (l : Int) : Int := atL (keepP c prop) l
noncomputable def resW : List Int := tab (laV c prop).length fun k => if 1 < (latD c ((laV c prop).getD k 0)).2.2 then 2 * ((((inV c prop).length + k : Nat) : Int) + 1) else (latD c ((laV c prop).getD k 0)).2.2
noncomputable def restW : Rest := ⟨[], [nowL c prop (redL c prop (badL c prop))], (c.cons.map (redL c prop)).map (nowL c prop), [], ⟨#[]⟩⟩
noncomputable def redC : CirT := genC (inV c prop).length ((nextW c prop).map (nowL c prop)) (resW c prop) (restW c prop) (cutW c prop)
end
section
variable {c : CirT} {prop : Int}
theorem latD_mem {j : Int} (h : j ∈ laV c prop) : latD c j ∈ c.lat /\ c.lat[j.toNat]? = some (latD c j) := by
 have hb := sel_bd j h
 obtain ⟨t, ht⟩ := getI c.lat (show j.toNat < c.lat.length by omega)
 have e : latD c j = t := gDo ht
 rw [e]; exact ⟨List.mem_of_getElem? ht, ht⟩
theorem red_len (hg : GoodC' c) (hz : SzC c 100000) : (redF c prop).2.length <= 500000 := by
 have h1 := (fold_inv hg (need_ok hg prop)).2.2.2.1
 have h2 := net_len hg hz
 have h3 : (inV c prop).length <= c.ins.length := sel_le _ _
 have h4 : (laV c prop).length <= c.lat.length := sel_le _ _
 have h5 : c.ins.length <= 100000 := hz.1
 have h6 : c.lat.length <= 100000 := hz.2.1
 show (foldV c (skV c) (laV c prop) (inV c prop)).2.length <= _
 omega
theorem red_only (hg : GoodC' c) : OnlyG (firstW c prop) (redF c prop).2 := fold_only hg (need_ok hg prop)
theorem keep0 : ¬ keepP c prop 0 := fun h => by have := h.1; omega
theorem keepK (hg : GoodC' c) : ∀ v d, keepP c prop v -> Kid (redF c prop).2 v d -> d = 0 ∨ keepP c prop d := fun _ _ h hk => of_kid (fold_inv hg (need_ok hg prop)).2.2.2.2.good h hk
theorem keepF (hg : GoodC' c) : ∀ v, v < firstW c prop -> keepP c prop (v + 1) := fun v hv => by
 have hle := (red_only (prop := prop) hg).le
 have hl : hasL (redF c prop).2 (2 * ((v : Int) + 1)) := by unfold hasL; omega
 have h1 := hangL_self (n := (redF c prop).2) (l := 2 * ((v : Int) + 1)) (by omega) hl
 rw [show (2 * ((v : Int) + 1) / 2).toNat = v + 1 by omega] at h1
 refine ⟨by omega, 2 * ((v : Int) + 1), List.mem_append_right _ (evenL_mem.2 ?_), h1⟩
 omega
theorem keepL {l : Int} (hl : hasL (redF c prop).2 l) (hm : l ∈ wantW c prop) : (l / 2).toNat = 0 ∨ keepP c prop (l / 2).toNat := by
 unfold hasL at hl
 by_cases h2 : 2 <= l
 ·exact .inr ⟨by omega, l, List.mem_append_left _ hm, hangL_self h2 hl⟩
 ·left; omega
theorem redL_has (hg : GoodC' c) {l : Int} (hl : KnL c l) : hasL (redF c prop).2 (redL c prop l) := foldL_has hg (need_ok hg prop) hl
theorem want_next {j : Int} (h : j ∈ laV c prop) : redL c prop (latD c j).2.1 ∈ wantW c prop := List.mem_append_left _ (List.mem_map.2 ⟨j, h, rfl⟩)
theorem want_want {l : Int} (h : l ∈ badL c prop :: c.cons) : redL c prop l ∈ wantW c prop := by
 refine List.mem_append_right _ ?_
 rcases List.mem_cons.1 h with rfl | h
 ·exact List.mem_cons_self ..
 ·exact List.mem_cons_of_mem _ (List.mem_map.2 ⟨l, h, rfl⟩)
theorem now_lit (hg : GoodC' c) (hz : SzC c 100000) {J : List Bool} (hJ : J.length = firstW c prop) {l : Int} (hl : KnL c l) (hm : redL c prop l ∈ wantW c prop) : ofL (values (cutW c prop) J) (nowL c prop (redL c prop l)) = ofL (values (redF c prop).2 J) (redL c prop l) /\ hasL (cutW c prop) (nowL c prop (redL c prop l)) := by
 have hh := redL_has (prop := prop) hg hl
 have hlen := red_len (prop := prop) hg hz
 exact cut_lit (fold_inv hg (need_ok hg prop)).2.2.2.2.good (Nat.le_trans hlen (by omega)) (red_only hg) keep0 (keepK hg) (keepF hg) hJ hh (keepL hh hm)
theorem now_has (hg : GoodC' c) (hz : SzC c 100000) {l : Int} (hl : KnL c l) (hm : redL c prop l ∈ wantW c prop) : hasL (cutW c prop) (nowL c prop (redL c prop l)) := (now_lit hg hz (J := List.replicate (firstW c prop) false) List.length_replicate hl hm).2
theorem cutW_len (hg : GoodC' c) (hz : SzC c 100000) : (cutW c prop).length <= 500001 := by
 have h1 := red_len (prop := prop) hg hz
 have h2 := rnk_le (keepP c prop) (redF c prop).2.length
 unfold cutW
 rw [outTo_len _ keep0]
 omega
theorem nextW_len : (nextW c prop).length = (laV c prop).length := List.length_map _
theorem red_ok (hg : GoodC' c) (hz : SzC c 100000) : GenOk (inV c prop).length ((nextW c prop).map (nowL c prop)) (resW c prop) (restW c prop) (cutW c prop) := by
 have hl := cutW_len (prop := prop) hg hz
 refine ⟨good_out (fold_inv hg (need_ok hg prop)).2.2.2.2.good keep0 (keepK hg) (Nat.le_refl _), ?_, by omega, fun z hz' => ?_, fun i hi => ?_, fun z hz' => (by cases hz'), fun z hz' => ?_, fun z hz' => ?_⟩
 ·rw [List.length_map, nextW_len]
  exact cut_only (fold_inv hg (need_ok hg prop)).2.2.2.2.good (red_only hg) keep0 (keepK hg) (keepF hg)
 ·obtain ⟨x, hx, rfl⟩ := List.mem_map.1 hz'
  obtain ⟨j, hj, rfl⟩ := List.mem_map.1 hx
  exact now_has hg hz (kLu hg (used_next (latD_mem hj).1)) (want_next hj)
 ·rw [List.length_map, nextW_len] at hi
  unfold resW
  rw [tab_getD _ _ hi]
  obtain ⟨j, hj⟩ := getI (laV c prop) hi
  rw [gDo hj]
  have hm := (latD_mem (List.mem_of_getElem? hj)).1
  have h1 := hg.res _ hm
  have h2 := lat_own hg hm
  by_cases h3 : 1 < (latD c j).2.2
  ·rw [if_pos h3]; exact .inr (.inr rfl)
  ·rw [if_neg h3]; omega
 ·rw [List.mem_singleton.1 hz']
  exact now_has hg hz (bad_kn hg prop) (want_want (List.mem_cons_self ..))
 ·obtain ⟨x, hx, rfl⟩ := List.mem_map.1 hz'
  obtain ⟨l, hl', rfl⟩ := List.mem_map.1 hx
  exact now_has hg hz (kLu hg (used_con hl')) (want_want (List.mem_cons_of_mem _ hl'))
theorem red_good (hg : GoodC' c) (hz : SzC c 100000) : GoodC' (redC c prop) := genC_good (red_ok hg hz)
theorem red_lit (hg : GoodC' c) (hz : SzC c 100000) {s : List Bool} (hl : s.length = c.lat.length) (h : StkAt c s) (i : List Bool) {l : Int} (hk : KnL c l) (hn : AllN c prop l) (hm : redL c prop l ∈ wantW c prop) :
  litV (redC c prop) (tookL (laV c prop) s) (tookL (inV c prop) i) (nowL c prop (redL c prop l)) = litV c s i l := by
 have hJ : (tookL (inV c prop) i ++ tookL (laV c prop) s).length = firstW c prop := by rw [List.length_append, took_len, took_len]; rfl
 obtain ⟨h1, h2⟩ := now_lit hg hz hJ hk hm
 unfold redC
 rw [genC_lit (red_ok hg hz) _ _ h2]
 have a1 := brV_self (tookL (inV c prop) i)
 have a2 := brV_self (tookL (laV c prop) s)
 rw [took_len] at a1 a2
 rw [List.length_map, nextW_len, a1, a2, h1]
 have h3 := fold_lit hg (need_ok hg prop) s i hk
 rw [need_lit hg hl h i hk hn]
 exact h3
theorem red_latlen : (redC c prop).lat.length = (laV c prop).length := by
 show (latsG _ _ _).length = _
 rw [latsG_len, List.length_map, nextW_len]
theorem red_inslen : (redC c prop).ins.length = (inV c prop).length := evenL_len _ _
theorem red_lat {k : Nat} {j : Int} (h : (laV c prop)[k]? = some j) : (redC c prop).lat[k]? = some (2 * ((((inV c prop).length + k : Nat) : Int) + 1), nowL c prop (redL c prop (latD c j).2.1), if 1 < (latD c j).2.2 then 2 * ((((inV c prop).length + k : Nat) : Int) + 1) else (latD c j).2.2) := by
 have hk := lGt h
 have h1 := latsG_get (a := (inV c prop).length) (next := (nextW c prop).map (nowL c prop)) (reset := resW c prop) (i := k) (by rw [List.length_map, nextW_len]; exact hk)
 refine h1.trans ?_
 have e1 : ((nextW c prop).map (nowL c prop)).getD k 0 = nowL c prop (redL c prop (latD c j).2.1) := gDo (by
  unfold nextW
  rw [List.map_map, List.getElem?_map, h]; rfl)
 have e2 : (resW c prop).getD k 0 = if 1 < (latD c j).2.2 then 2 * ((((inV c prop).length + k : Nat) : Int) + 1) else (latD c j).2.2 := by
  unfold resW
  rw [tab_getD _ _ hk, gDo h]
 rw [e1, e2]
theorem red_next (hg : GoodC' c) (hz : SzC c 100000) {s : List Bool} (hl : s.length = c.lat.length) (h : StkAt c s) (i : List Bool) : nextV (redC c prop) (tookL (laV c prop) s) (tookL (inV c prop) i) = tookL (laV c prop) (nextV c s i) := by
 apply List.ext_getElem?
 intro k
 by_cases hk : k < (laV c prop).length
 ·obtain ⟨j, hj⟩ := getI (laV c prop) hk
  have hm := latD_mem (List.mem_of_getElem? hj)
  unfold nextV tookL
  rw [List.getElem?_map, red_lat hj, List.getElem?_map, hj]
  show some (litV (redC c prop) (tookL (laV c prop) s) (tookL (inV c prop) i) (nowL c prop (redL c prop (latD c j).2.1))) = some ((nextV c s i).getD j.toNat false)
  have e : (nextV c s i).getD j.toNat false = litV c s i (latD c j).2.1 := gDo (by unfold nextV; rw [List.getElem?_map, hm.2]; rfl)
  rw [e, red_lit hg hz hl h i (kLu hg (used_next hm.1)) (next_all (List.mem_of_getElem? hj) hm.2) (want_next (List.mem_of_getElem? hj))]
 ·rw [List.getElem?_eq_none (by rw [nextV_len, red_latlen]; omega), List.getElem?_eq_none (by rw [took_len]; omega)]
theorem red_holds (hg : GoodC' c) (hz : SzC c 100000) {s : List Bool} (hl : s.length = c.lat.length) (h : StkAt c s) (i : List Bool) : HoldsP (redC c prop) (tookL (laV c prop) s) (tookL (inV c prop) i) ↔ HoldsP c s i := by
 have key : ∀ l ∈ c.cons, litV (redC c prop) (tookL (laV c prop) s) (tookL (inV c prop) i) (nowL c prop (redL c prop l)) = litV c s i l := fun l hl' =>
  red_lit hg hz hl h i (kLu hg (used_con hl')) (want_all (List.mem_cons_of_mem _ hl')) (want_want (List.mem_cons_of_mem _ hl'))
 constructor
 ·intro h1 l hl'
  rw [<- key l hl']
  exact h1 _ (List.mem_map.2 ⟨_, List.mem_map.2 ⟨l, hl', rfl⟩, rfl⟩)
 ·intro h1 x hx
  obtain ⟨y, hy, rfl⟩ := List.mem_map.1 hx
  obtain ⟨l, hl', rfl⟩ := List.mem_map.1 hy
  rw [key l hl']; exact h1 l hl'
theorem litV_zero' (hg : GoodC' c) (s i : List Bool) : litV c s i 0 = false := by
 unfold litV
 have hk : KnL c 0 := ⟨by omega, fun h => by omega⟩
 have hP := (cNet_ok hg).1
 have e : litI (cNet c).2 0 = 0 := by rw [litI_some (x := 0) (z := 0) hP.zero]; rfl
 rw [e]
 exact ofL_zero _
theorem red_bad (hg : GoodC' c) (hz : SzC c 100000) {s : List Bool} (hl : s.length = c.lat.length) (h : StkAt c s) (i : List Bool) : BadP (redC c prop) (tookL (laV c prop) s) (tookL (inV c prop) i) 0 ↔ BadP c s i prop := by
 have key := red_lit hg hz hl h i (bad_kn hg prop) (want_all (prop := prop) (List.mem_cons_self ..)) (want_want (List.mem_cons_self ..))
 have hb : BadP (redC c prop) (tookL (laV c prop) s) (tookL (inV c prop) i) 0 ↔ litV c s i (badL c prop) = true := by
  rw [<- key]
  constructor
  ·rintro ⟨_, l, h1, h2⟩
   cases h1; exact h2
  ·intro h1; exact ⟨by omega, _, rfl, h1⟩
 rw [hb]
 unfold badL
 constructor
 ·intro h1
  by_cases hp : 0 <= prop /\ prop < (c.bads.length : Int)
  ·rw [if_pos hp] at h1
   obtain ⟨y, hy⟩ := getI c.bads (show prop.toNat < _ by omega)
   rw [gDo hy] at h1
   exact ⟨hp.1, y, hy, h1⟩
  ·rw [if_neg hp, litV_zero' hg] at h1; cases h1
 ·rintro ⟨h0, y, hy, h1⟩
  have := lGt hy
  rw [if_pos ⟨h0, by omega⟩, gDo hy]; exact h1
end

def putT (la : List Int) (rs l0 : List Bool) (k : Nat) : List Bool := (List.range k).foldl (fun l q => l.set (la.getD q 0).toNat (rs.getD q false)) l0
theorem putT_succ (la : List Int) (rs l0 : List Bool) (k : Nat) : putT la rs l0 (k + 1) = (putT la rs l0 k).set (la.getD k 0).toNat (rs.getD k false) := by
 unfold putT; rw [List.range_succ, List.foldl_append]; rfl
theorem putT_len (la : List Int) (rs l0 : List Bool) : ∀ k, (putT la rs l0 k).length = l0.length
 | 0 => rfl
 | k + 1 => by rw [putT_succ, List.length_set]; exact putT_len la rs l0 k
theorem getD_setB {l : List Bool} {i p : Nat} {x d : Bool} : (l.set i x).getD p d = if p = i /\ i < l.length then x else l.getD p d := by
 rw [List.getD_eq_getElem?_getD, List.getElem?_set, List.getD_eq_getElem?_getD]
 by_cases h : i = p
 ·subst h
  rw [if_pos rfl]
  by_cases h2 : i < l.length
  ·rw [if_pos h2, if_pos ⟨rfl, h2⟩]; rfl
  ·rw [if_neg h2, if_neg (fun h => h2 h.2), List.getElem?_eq_none (by omega)]
 ·rw [if_neg h, if_neg (fun h2 => h h2.1.symm)]
theorem sel_nodup (m : Nat) (p : Nat -> Prop) : (sel m p).Nodup := by
 unfold sel
 rw [List.nodup_iff_pairwise_ne, List.pairwise_map]
 refine ((List.nodup_iff_pairwise_ne.1 (List.nodup_range (n := m))).filter _).imp fun h he => h (by omega)
theorem nodup_get {l : List Int} (h : l.Nodup) {i j : Nat} {x : Int} (hi : l[i]? = some x) (hj : l[j]? = some x) : i = j := by
 exact (List.getElem?_inj (lGt hi) h).1 (hi.trans hj.symm)
section
variable {la : List Int} {rs l0 : List Bool}
theorem putT_in (hn : la.Nodup) (hb : ∀ z ∈ la, 0 <= z /\ z < (l0.length : Int)) : ∀ k, k <= la.length -> ∀ (q : Nat) z, q < k -> la[q]? = some z -> (putT la rs l0 k).getD z.toNat false = rs.getD q false
 | 0, _, _, _, h, _ => by omega
 | k + 1, hk, q, z, hq, hz => by
  obtain ⟨y, hy⟩ := getI la (show k < la.length by omega)
  have hyb := hb y (List.mem_of_getElem? hy)
  have hzb := hb z (List.mem_of_getElem? hz)
  rw [putT_succ, getD_setB, putT_len, gDo hy]
  by_cases e : q = k
  ·subst e
   rw [hy] at hz; cases hz
   rw [if_pos ⟨rfl, by omega⟩]
  ·rw [if_neg (fun h => e (by
    have e2 : z = y := by omega
    subst e2
    exact nodup_get hn hz hy))]
   exact putT_in hn hb k (by omega) q z (by omega) hz
theorem putT_out (hb : ∀ z ∈ la, 0 <= z /\ z < (l0.length : Int)) {p : Nat} (hp : (p : Int) ∉ la) : ∀ k, k <= la.length -> (putT la rs l0 k).getD p false = l0.getD p false
 | 0, _ => rfl
 | k + 1, hk => by
  obtain ⟨y, hy⟩ := getI la (show k < la.length by omega)
  have hyb := hb y (List.mem_of_getElem? hy)
  rw [putT_succ, getD_setB, gDo hy, if_neg (fun h => hp (by
   have e2 : (p : Int) = y := by omega
   rw [e2]; exact List.mem_of_getElem? hy))]
  exact putT_out hb hp k (by omega)
theorem took_put (hn : la.Nodup) (hb : ∀ z ∈ la, 0 <= z /\ z < (l0.length : Int)) : tookL la (putT la rs l0 la.length) = brV rs la.length := by
 apply List.ext_getElem?
 intro q
 by_cases hq : q < la.length
 ·obtain ⟨z, hz⟩ := getI la hq
  unfold tookL
  rw [List.getElem?_map, hz, brV_get _ hq]
  show some ((putT la rs l0 la.length).getD z.toNat false) = _
  rw [putT_in hn hb la.length (Nat.le_refl _) q z hq hz]
 ·rw [List.getElem?_eq_none (by rw [took_len]; omega), List.getElem?_eq_none (by rw [brV_len]; omega)]
end
noncomputable def extS (c : CirT) (prop : Int) (rs : List Bool) : List Bool := putT (laV c prop) rs (c.lat.map fun t => decide (t.2.2 = 1)) (laV c prop).length
noncomputable def extI (c : CirT) (prop : Int) (r : List Bool) : List Bool := putT (inV c prop) r (List.replicate c.ins.length false) (inV c prop).length
section
variable {c : CirT} {prop : Int}
theorem extS_len (rs : List Bool) : (extS c prop rs).length = c.lat.length := by unfold extS; rw [putT_len, List.length_map]
theorem extI_len (r : List Bool) : (extI c prop r).length = c.ins.length := by unfold extI; rw [putT_len, List.length_replicate]
theorem took_extS (rs : List Bool) : tookL (laV c prop) (extS c prop rs) = brV rs (laV c prop).length := took_put (sel_nodup _ _) fun z hz => by rw [List.length_map]; exact sel_bd z hz
theorem took_extI (r : List Bool) : tookL (inV c prop) (extI c prop r) = brV r (inV c prop).length := took_put (sel_nodup _ _) fun z hz => by rw [List.length_replicate]; exact sel_bd z hz
theorem ext_starts (hg : GoodC' c) {rs : List Bool} (h : StartsP (redC c prop) rs) : StartsP c (extS c prop rs) := by
 refine ⟨extS_len rs, fun k x b hx hb => ?_⟩
 have hk := lGt hx
 have hlb : ∀ z ∈ laV c prop, 0 <= z /\ z < ((c.lat.map fun t => decide (t.2.2 = 1)).length : Int) := fun z hz => by rw [List.length_map]; exact sel_bd z hz
 have eb : (extS c prop rs).getD k false = b := gDo hb
 have hm := List.mem_of_getElem? hx
 by_cases hin : (k : Int) ∈ laV c prop
 ·obtain ⟨q, hq⟩ := List.mem_iff_getElem?.1 hin
  have h1 := putT_in (rs := rs) (sel_nodup _ _) hlb (laV c prop).length (Nat.le_refl _) q _ (lGt hq) hq
  rw [Int.toNat_natCast] at h1
  have h1' : (extS c prop rs).getD k false = rs.getD q false := h1
  rw [eb] at h1'
  have hql : q < rs.length := by rw [h.1, red_latlen]; exact lGt hq
  obtain ⟨y, hy⟩ := getI rs hql
  rw [gDo hy] at h1'
  subst h1'
  have h2 := h.2 q _ _ (red_lat hq) hy
  have e : latD c (k : Int) = x := by unfold latD; rw [Int.toNat_natCast]; exact gDo hx
  rw [e] at h2
  have h3 := lat_own hg hm
  have h4 := hg.res x hm
  dsimp only at h2
  by_cases h5 : 1 < x.2.2
  ·exact ⟨fun hh => (by have := hh.1; omega), fun hh => (by have := hh.1; omega)⟩
  ·rw [if_neg h5] at h2; exact h2
 ·have h1 := putT_out (rs := rs) hlb hin (laV c prop).length (Nat.le_refl _)
  have h1' : (extS c prop rs).getD k false = (c.lat.map fun t => decide (t.2.2 = 1)).getD k false := h1
  rw [eb, gDo (show (c.lat.map fun t => decide (t.2.2 = 1))[k]? = some (decide (x.2.2 = 1)) by rw [List.getElem?_map, hx]; rfl)] at h1'
  rw [h1']
  by_cases h5 : x.2.2 = 1
  ·rw [decide_eq_true h5]; exact ⟨fun hh => (by have := hh.1; omega), fun hh => (by cases hh.2)⟩
  ·rw [decide_eq_false h5]; exact ⟨fun hh => (by cases hh.2), fun hh => h5 hh.1⟩
end

theorem few_iff {c : CirT} {m : Int} : FewC c m ↔ (c.ins.length : Int) <= m /\ (c.lat.length : Int) <= m /\ (c.gates.length : Int) <= m /\ (c.outs.length : Int) <= m /\ (c.bads.length : Int) <= m /\ (c.cons.length : Int) <= m /\ (c.syms.length : Int) <= m /\ (c.com.size : Int) <= 300 := Iff.rfl
set_option maxRecDepth 10000 in
theorem law11_Few (c : Circ) (m : Int) (w : World) : Pure Try.prog 49 [c.val, .int .i64 m] w (.bool (dec (FewC c.t m))) := by
 by_cases f0 : (c.ins.2.2.length : Int) <= m
 rotate_left
 ·skip
  refine Spec.of _ Try.func49 rfl Try.ntmps49 (by kernel_rfl) rfl ?_
  repeat' (first | (apply WL.box; (iterate 3 exact rfl); intro gb w' hb hge hc hx; have hcc := hc; ((obtain ⟨h1, h2, h3, _⟩ := hc)); (obtain ⟨y0, y1, y2, y3, y4, y5, y6, y7, y8, _⟩ := hcc)) | (apply WL.gF; exact rfl; exact rfl; exact dFf f0) | (first | apply WL.nil | (refine WL.au (k := ?_)) | (apply WL.gdF; exact rfl; exact rfl)) | apply Z.tn | (first | apply W.seq | apply W.region | apply W.ret))
  exact Z.bd1 Try.results49 rfl fun q => ⟨congrArg Value.bool (by rw [dFf (show ¬ FewC c.t m from fun h => f0 (few_iff.1 h).1)] <;> exact dFf f0), Ext.at extA q⟩
 by_cases f1 : (c.lat.2.2.length : Int) <= m
 rotate_left
 ·skip
  refine Spec.of _ Try.func49 rfl Try.ntmps49 (by kernel_rfl) rfl ?_
  repeat' (first | (apply WL.box; (iterate 3 exact rfl); intro gb w' hb hge hc hx; have hcc := hc; ((obtain ⟨h1, h2, h3, _⟩ := hc)); (obtain ⟨y0, y1, y2, y3, y4, y5, y6, y7, y8, _⟩ := hcc)) | (apply WL.gT; exact rfl; exact rfl; (focus (exact dTt f0))) | (apply WL.gF; exact rfl; exact rfl; exact dFf f1) | (first | apply WL.nil | (refine WL.au (k := ?_)) | (apply WL.gdF; exact rfl; exact rfl)) | apply Z.tn | (first | apply W.seq | apply W.region | apply W.ret))
  exact Z.bd1 Try.results49 rfl fun q => ⟨congrArg Value.bool (by rw [dFf (show ¬ FewC c.t m from fun h => f1 (few_iff.1 h).2.1)] <;> exact dFf f1), Ext.at extA q⟩
 by_cases f2 : (c.gates.2.2.length : Int) <= m
 rotate_left
 ·skip
  refine Spec.of _ Try.func49 rfl Try.ntmps49 (by kernel_rfl) rfl ?_
  repeat' (first | (apply WL.box; (iterate 3 exact rfl); intro gb w' hb hge hc hx; have hcc := hc; ((obtain ⟨h1, h2, h3, _⟩ := hc)); (obtain ⟨y0, y1, y2, y3, y4, y5, y6, y7, y8, _⟩ := hcc)) | (apply WL.gT; exact rfl; exact rfl; (focus (first | exact dTt f0 | exact dTt f1))) | (apply WL.gF; exact rfl; exact rfl; exact dFf f2) | (first | apply WL.nil | (refine WL.au (k := ?_)) | (apply WL.gdF; exact rfl; exact rfl)) | apply Z.tn | (first | apply W.seq | apply W.region | apply W.ret))
  exact Z.bd1 Try.results49 rfl fun q => ⟨congrArg Value.bool (by rw [dFf (show ¬ FewC c.t m from fun h => f2 (few_iff.1 h).2.2.1)] <;> exact dFf f2), Ext.at extA q⟩
 by_cases f3 : (c.outs.2.2.length : Int) <= m
 rotate_left
 ·skip
  refine Spec.of _ Try.func49 rfl Try.ntmps49 (by kernel_rfl) rfl ?_
  repeat' (first | (apply WL.box; (iterate 3 exact rfl); intro gb w' hb hge hc hx; have hcc := hc; ((obtain ⟨h1, h2, h3, _⟩ := hc)); (obtain ⟨y0, y1, y2, y3, y4, y5, y6, y7, y8, _⟩ := hcc)) | (apply WL.gT; exact rfl; exact rfl; (focus (first | exact dTt f0 | exact dTt f1 | exact dTt f2))) | (apply WL.gF; exact rfl; exact rfl; exact dFf f3) | (first | apply WL.nil | (refine WL.au (k := ?_)) | (apply WL.gdF; exact rfl; exact rfl)) | apply Z.tn | (first | apply W.seq | apply W.region | apply W.ret))
  exact Z.bd1 Try.results49 rfl fun q => ⟨congrArg Value.bool (by rw [dFf (show ¬ FewC c.t m from fun h => f3 (few_iff.1 h).2.2.2.1)] <;> exact dFf f3), Ext.at extA q⟩
 by_cases f4 : (c.bads.2.2.length : Int) <= m
 rotate_left
 ·skip
  refine Spec.of _ Try.func49 rfl Try.ntmps49 (by kernel_rfl) rfl ?_
  repeat' (first | (apply WL.box; (iterate 3 exact rfl); intro gb w' hb hge hc hx; have hcc := hc; ((obtain ⟨h1, h2, h3, _⟩ := hc)); (obtain ⟨y0, y1, y2, y3, y4, y5, y6, y7, y8, _⟩ := hcc)) | (apply WL.gT; exact rfl; exact rfl; (focus (first | exact dTt f0 | exact dTt f1 | exact dTt f2 | exact dTt f3))) | (apply WL.gF; exact rfl; exact rfl; exact dFf f4) | (first | apply WL.nil | (refine WL.au (k := ?_)) | (apply WL.gdF; exact rfl; exact rfl)) | apply Z.tn | (first | apply W.seq | apply W.region | apply W.ret))
  exact Z.bd1 Try.results49 rfl fun q => ⟨congrArg Value.bool (by rw [dFf (show ¬ FewC c.t m from fun h => f4 (few_iff.1 h).2.2.2.2.1)] <;> exact dFf f4), Ext.at extA q⟩
 by_cases f5 : (c.cons.2.2.length : Int) <= m
 rotate_left
 ·skip
  refine Spec.of _ Try.func49 rfl Try.ntmps49 (by kernel_rfl) rfl ?_
  repeat' (first | (apply WL.box; (iterate 3 exact rfl); intro gb w' hb hge hc hx; have hcc := hc; ((obtain ⟨h1, h2, h3, _⟩ := hc)); (obtain ⟨y0, y1, y2, y3, y4, y5, y6, y7, y8, _⟩ := hcc)) | (apply WL.gT; exact rfl; exact rfl; (focus (first | exact dTt f0 | exact dTt f1 | exact dTt f2 | exact dTt f3 | exact dTt f4))) | (apply WL.gF; exact rfl; exact rfl; exact dFf f5) | (first | apply WL.nil | (refine WL.au (k := ?_)) | (apply WL.gdF; exact rfl; exact rfl)) | apply Z.tn | (first | apply W.seq | apply W.region | apply W.ret))
  exact Z.bd1 Try.results49 rfl fun q => ⟨congrArg Value.bool (by rw [dFf (show ¬ FewC c.t m from fun h => f5 (few_iff.1 h).2.2.2.2.2.1)] <;> exact dFf f5), Ext.at extA q⟩
 by_cases f6 : (c.syms.2.2.length : Int) <= m
 rotate_left
 ·skip
  refine Spec.of _ Try.func49 rfl Try.ntmps49 (by kernel_rfl) rfl ?_
  repeat' (first | (apply WL.box; (iterate 3 exact rfl); intro gb w' hb hge hc hx; have hcc := hc; ((obtain ⟨h1, h2, h3, _⟩ := hc)); (obtain ⟨y0, y1, y2, y3, y4, y5, y6, y7, y8, _⟩ := hcc)) | (apply WL.gT; exact rfl; exact rfl; (focus (first | exact dTt f0 | exact dTt f1 | exact dTt f2 | exact dTt f3 | exact dTt f4 | exact dTt f5))) | (apply WL.gF; exact rfl; exact rfl; exact dFf f6) | (first | apply WL.nil | (refine WL.au (k := ?_)) | (apply WL.gdF; exact rfl; exact rfl)) | apply Z.tn | (first | apply W.seq | apply W.region | apply W.ret))
  exact Z.bd1 Try.results49 rfl fun q => ⟨congrArg Value.bool (by rw [dFf (show ¬ FewC c.t m from fun h => f6 (few_iff.1 h).2.2.2.2.2.2.1)] <;> exact dFf f6), Ext.at extA q⟩
 by_cases f7 : (c.com.size : Int) <= 300
 rotate_left
 ·skip
  refine Spec.of _ Try.func49 rfl Try.ntmps49 (by kernel_rfl) rfl ?_
  repeat' (first | (apply WL.box; (iterate 3 exact rfl); intro gb w' hb hge hc hx; have hcc := hc; ((obtain ⟨h1, h2, h3, _⟩ := hc)); (obtain ⟨y0, y1, y2, y3, y4, y5, y6, y7, y8, _⟩ := hcc)) | (apply WL.gT; exact rfl; exact rfl; (focus (first | exact dTt f0 | exact dTt f1 | exact dTt f2 | exact dTt f3 | exact dTt f4 | exact dTt f5 | exact dTt f6))) | (first | apply WL.nil | (refine WL.au (k := ?_))) | apply Z.tn | (first | apply W.seq | apply W.region | apply W.ret))
  exact Z.bd1 Try.results49 rfl fun q => ⟨congrArg Value.bool (by rw [dFf (show ¬ FewC c.t m from fun h => f7 (few_iff.1 h).2.2.2.2.2.2.2)] <;> exact dFf f7), Ext.at extA q⟩
 refine Spec.of _ Try.func49 rfl Try.ntmps49 (by kernel_rfl) rfl ?_
 repeat' (first | (apply WL.box; (iterate 3 exact rfl); intro gb w' hb hge hc hx; have hcc := hc; ((obtain ⟨h1, h2, h3, _⟩ := hc)); (obtain ⟨y0, y1, y2, y3, y4, y5, y6, y7, y8, _⟩ := hcc)) | (apply WL.gT; exact rfl; exact rfl; (focus (first | exact dTt f0 | exact dTt f1 | exact dTt f2 | exact dTt f3 | exact dTt f4 | exact dTt f5 | exact dTt f6))) | (first | apply WL.nil | (refine WL.au (k := ?_))) | apply Z.tn | (first | apply W.seq | apply W.region | apply W.ret))
 exact Z.bd1 Try.results49 rfl fun q => ⟨congrArg Value.bool (by rw [dTt (show FewC c.t m from few_iff.2 ⟨f0, f1, f2, f3, f4, f5, f6, f7⟩)] <;> exact dTt f7), Ext.at extA q⟩

theorem few_sz {c : CirT} {m : Int} (hm : m <= 100000) (h : FewC c m) : SzC c 100000 := by
 obtain ⟨h1, h2, h3, h4, h5, h6, _, _⟩ := few_iff.1 h
 exact ⟨by omega, by omega, by omega, by omega, by omega, by omega⟩
theorem law11_Small (c : Circ) (m : Int) (w : World) (hC : CAt w c) (hm : m <= 100000) : Pure Try.prog 7 [c.val, .int .i64 m] w (.bool (dec (FewC c.t m /\ c.max <= 300 /\ GoodC' c.t))) := by
 by_cases f0 : FewC c.t m
 rotate_left
 ·refine Spec.of _ Try.func7 rfl Try.ntmps7 (by kernel_rfl) rfl ?_
  repeat' (first | (apply WL.box; (iterate 3 exact rfl); intro gb w' hb hge hc hx; have hcc := hc; ((obtain ⟨h1, h2, h3, _⟩ := hc)); (have hcells := hcc; obtain ⟨y0, _⟩ := hcc)) | (apply WL.callP (f := 49); (iterate 4 exact rfl); exact law11_Few c m _; intro w' hx) | (apply WL.gF; exact rfl; exact rfl; exact dFf f0) | (first | apply WL.nil | (refine WL.au (k := ?_)) | (apply WL.gdF; exact rfl; exact rfl)) | apply Z.tn | (first | apply W.seq | apply W.region | apply W.ret))
  exact Z.bd1 Try.results7 rfl fun q => ⟨congrArg Value.bool (by rw [dFf (show ¬ (FewC c.t m /\ c.max <= 300 /\ GoodC' c.t) from fun h => f0 h.1)] <;> exact dFf f0), Ext.at extA q⟩
 by_cases f1 : c.max <= 300
 rotate_left
 ·refine Spec.of _ Try.func7 rfl Try.ntmps7 (by kernel_rfl) rfl ?_
  repeat' (first | (apply WL.box; (iterate 3 exact rfl); intro gb w' hb hge hc hx; have hcc := hc; ((obtain ⟨h1, h2, h3, _⟩ := hc)); (have hcells := hcc; obtain ⟨y0, _⟩ := hcc)) | (apply WL.callP (f := 49); (iterate 4 exact rfl); exact law11_Few c m _; intro w' hx) | (apply WL.gT; exact rfl; exact rfl; (focus (exact dTt f0))) | (apply WL.gF; exact rfl; exact rfl; exact dFf f1) | (first | apply WL.nil | (refine WL.au (k := ?_)) | (apply WL.gdF; exact rfl; exact rfl)) | apply Z.tn | (first | apply W.seq | apply W.region | apply W.ret))
  exact Z.bd1 Try.results7 rfl fun q => ⟨congrArg Value.bool (by rw [dFf (show ¬ (FewC c.t m /\ c.max <= 300 /\ GoodC' c.t) from fun h => f1 h.2.1)] <;> exact dFf f1), Ext.at extA q⟩
 have hz := few_sz hm f0
 refine Spec.of _ Try.func7 rfl Try.ntmps7 (by kernel_rfl) rfl ?_
 repeat' (first | (apply WL.box; (iterate 3 exact rfl); intro gb w' hb hge hc hx; have hcc := hc; ((obtain ⟨h1, h2, h3, _⟩ := hc)); (have hcells := hcc; obtain ⟨y0, _⟩ := hcc)) | (apply WL.callP (f := 49); (iterate 4 exact rfl); exact law11_Few c m _; intro w' hx) | (apply WL.callP (f := 50); (iterate 4 exact rfl); exact ref11_Check c _ (hC.ext extA) hz; intro w' hx) | (apply WL.gT; exact rfl; exact rfl; (focus (first | exact dTt f0 | exact dTt f1; done))) | (first | apply WL.nil | (refine WL.au (k := ?_))) | apply Z.tn | (first | apply W.seq | apply W.region | apply W.ret))
 by_cases f2 : chkC c.t = 0
 ·exact Z.bd1 Try.results7 rfl fun q => ⟨congrArg Value.bool (by rw [dTt (show FewC c.t m /\ c.max <= 300 /\ GoodC' c.t from ⟨f0, f1, chkC_good.1 f2⟩)] <;> exact dTt f2), Ext.at extA q⟩
 ·exact Z.bd1 Try.results7 rfl fun q => ⟨congrArg Value.bool (by rw [dFf (show ¬ (FewC c.t m /\ c.max <= 300 /\ GoodC' c.t) from fun h => f2 (chkC_good.2 h.2.2))] <;> exact dFf f2), Ext.at extA q⟩
end Go.Proofs.Yteidpnpbfagaeaa
namespace Go.Lt
open Go.RowKit

inductive Pr where
 | any : Pr
 | is : Value -> Pr
 | ex (F : Value -> World -> Prop) (b : Value -> Option Nat) (keep : ∀ x w w', F x w -> Ext w w' -> F x w') (lt : ∀ x w k, F x w -> b x = some k -> k < w.heap.size) : Pr
def Pr.holds : Pr -> Value -> World -> Prop
 | .any, _, _ => True
 | .is v, x, _ => x = v
 | .ex F _ _ _, x, w => F x w
def Pr.bl : Pr -> Value -> Option Nat
 | .ex _ b _ _, x => b x
 | _, _ => none
theorem Pr.keeps : ∀ {p : Pr} {x : Value} {w w' : World}, p.holds x w -> Ext w w' -> p.holds x w'
 | .any, _, _, _, _, _ => trivial
 | .is _, _, _, _, h, _ => h
 | .ex _ _ k _, _, _, _, h, hx => k _ _ _ h hx
theorem Pr.lts : ∀ {p : Pr} {x : Value} {w : World} {k : Nat}, p.holds x w -> p.bl x = some k -> k < w.heap.size
 | .any, _, _, _, _, hb => by cases hb
 | .is _, _, _, _, _, hb => by cases hb
 | .ex _ _ _ l, _, _, _, h, hb => l _ _ _ h hb
def prAt : List Pr -> Nat -> Pr
 | [], _ => .any
 | p :: _, 0 => p
 | _ :: r, i + 1 => prAt r i

section
variable {P : Program} {N : Nat} {prs : List Pr} {pre : List Oper}

def need (prs : List Pr) (pre : List Oper) (w : World) (K : Env -> List (Option Nat) -> Prop) : List Nat -> Env -> List (Option Nat) -> Prop
 | [], E, bs => K E bs
 | j :: r, E, bs =>
  match dstAt pre j with
  | none => need prs pre w K r E bs
  | some d =>
   match prAt prs j with
   | .any => need prs pre w K r E bs
   | .is v => need prs pre w K r ((d, v) :: E) bs
   | .ex F b _ _ => ∀ x, F x w -> need prs pre w K r ((d, x) :: E) (b x :: bs)

def valO (pre : List Oper) (a : Act) (j : Nat) : Value :=
 match dstAt pre j with
 | some d => a.tmps.getD d undef
 | none => undef
def bsOf (prs : List Pr) (pre : List Oper) (a : Act) : List Nat -> List (Option Nat) -> List (Option Nat)
 | [], bs => bs
 | j :: r, bs =>
  match dstAt pre j with
  | none => bsOf prs pre a r bs
  | some d =>
   match prAt prs j with
   | .ex _ b _ _ => bsOf prs pre a r (b (valO pre a j) :: bs)
   | _ => bsOf prs pre a r bs

theorem Fit.cons {e : Env} {a : Act} (h : Fit N e a) {d : Nat} {v : Value} (hd : a.tmps[d]? = some v) : Fit N ((d, v) :: e) a := by
 refine ⟨h.size, h.defers, fun t u hu => ?_⟩
 rw [get_cons] at hu
 by_cases hdt : d = t
 ·subst hdt; rw [if_pos rfl] at hu; cases hu; exact hd
 ·rw [if_neg hdt] at hu; exact h.slots _ _ hu
theorem get_appE (e1 e2 : Env) (t : Nat) : get (e1 ++ e2) t = (get e1 t).or (get e2 t) := by
 induction e1 with
 | nil => simp [get]
 | cons p r ih =>
  obtain ⟨k, v⟩ := p
  rw [List.cons_append, get_cons, get_cons]
  by_cases hk : k = t
  ·rw [if_pos hk, if_pos hk]; rfl
  ·rw [if_neg hk, if_neg hk, ih]
def slotsE (a : Act) : Nat -> Env
 | 0 => []
 | n + 1 => (n, a.tmps.getD n undef) :: slotsE a n
theorem slotsE_get {a : Act} : ∀ {n t : Nat}, t < n -> get (slotsE a n) t = some (a.tmps.getD t undef)
 | n + 1, t, h => by
  rw [slotsE, get_cons]
  by_cases hk : n = t
  ·subst hk; rw [if_pos rfl]
  ·rw [if_neg hk]; exact slotsE_get (by omega)
theorem slotsE_lt {a : Act} : ∀ {n t : Nat} {v : Value}, get (slotsE a n) t = some v -> t < n
 | 0, t, v, h => by cases h
 | n + 1, t, v, h => by
  rw [slotsE, get_cons] at h
  by_cases hk : n = t
  ·omega
  ·rw [if_neg hk] at h; have := slotsE_lt h; omega
theorem getD_some {a : Act} {t : Nat} (h : t < a.tmps.size) : a.tmps[t]? = some (a.tmps.getD t undef) := by
 simp [Array.getD_eq_getD_getElem?, h]
theorem Fit.all {e : Env} {a : Act} (h : Fit N e a) : Fit N (e ++ slotsE a N) a := by
 refine ⟨h.size, h.defers, fun t u hu => ?_⟩
 rw [get_appE] at hu
 cases hg : get e t with
 | some x => rw [hg] at hu; simp at hu; subst hu; exact h.slots _ _ hg
 | none =>
  rw [hg] at hu
  simp at hu
  have hlt := slotsE_lt hu
  rw [slotsE_get hlt] at hu
  cases hu
  exact getD_some (by rw [h.size]; exact hlt)

theorem need_out {w : World} {K : Env -> List (Option Nat) -> Prop} {a : Act} (hN : ∀ j d, dstAt pre j = some d -> d < N) : ∀ (ds : List Nat) (E : Env) (bs : List (Option Nat)), need prs pre w K ds E bs -> Fit N E a -> (∀ j ∈ ds, (prAt prs j).holds (valO pre a j) w) ->
  ∃ E', K E' (bsOf prs pre a ds bs) /\ Fit N E' a /\ ∀ t, get E t ≠ none -> get E' t ≠ none
 | [], E, bs, h, hf, _ => ⟨E, h, hf, fun t ht => ht⟩
 | j :: r, E, bs, h, hf, hh => by
  have hr : ∀ k ∈ r, (prAt prs k).holds (valO pre a k) w := fun k hk => hh k (by simp [hk])
  unfold need at h
  unfold bsOf
  cases hd : dstAt pre j with
  | none => rw [hd] at h; exact need_out hN r E bs h hf hr
  | some d =>
   rw [hd] at h
   have hv : valO pre a j = a.tmps.getD d undef := by unfold valO; rw [hd]
   have hs : a.tmps[d]? = some (a.tmps.getD d undef) := getD_some (by rw [hf.size]; exact hN j d hd)
   have hj := hh j (by simp)
   cases hp : prAt prs j with
   | any => rw [hp] at h; exact need_out hN r E bs h hf hr
   | is v =>
    rw [hp] at h hj
    have hj' : valO pre a j = v := hj
    have hf' : Fit N ((d, v) :: E) a := hf.cons (by rw [hs, <- hv, hj'])
    obtain ⟨E', k1, k2, k3⟩ := need_out hN r _ bs h hf' hr
    refine ⟨E', k1, k2, fun t ht => k3 t ?_⟩
    rw [get_cons]; split
    ·simp
    ·exact ht
   | ex F b kp lt =>
    rw [hp] at h hj
    have hf' : Fit N ((d, valO pre a j) :: E) a := hf.cons (by rw [hs, <- hv])
    obtain ⟨E', k1, k2, k3⟩ := need_out hN r _ _ (h _ hj) hf' hr
    refine ⟨E', k1, k2, fun t ht => k3 t ?_⟩
    rw [get_cons]; split
    ·simp
    ·exact ht

abbrev Apart (bs : List (Option Nat)) : Prop := bs.Pairwise fun x y => x = none ∨ x ≠ y
theorem bsOf_apart {a : Act} : ∀ (ds : List Nat) (bs : List (Option Nat)), ds.Nodup -> Apart bs -> (∀ i ∈ ds, ∀ b ∈ bs, (prAt prs i).bl (valO pre a i) = none ∨ (prAt prs i).bl (valO pre a i) ≠ b) ->
  (∀ i ∈ ds, ∀ j ∈ ds, i ≠ j -> (prAt prs i).bl (valO pre a i) = none ∨ (prAt prs i).bl (valO pre a i) ≠ (prAt prs j).bl (valO pre a j)) -> Apart (bsOf prs pre a ds bs)
 | [], bs, _, h, _, _ => h
 | j :: r, bs, hn, h, h1, h2 => by
  have hn' := List.nodup_cons.1 hn
  have e1 : ∀ i ∈ r, ∀ b ∈ bs, (prAt prs i).bl (valO pre a i) = none ∨ (prAt prs i).bl (valO pre a i) ≠ b := fun i hi => h1 i (by simp [hi])
  have e2 : ∀ i ∈ r, ∀ k ∈ r, i ≠ k -> (prAt prs i).bl (valO pre a i) = none ∨ (prAt prs i).bl (valO pre a i) ≠ (prAt prs k).bl (valO pre a k) := fun i hi k hk => h2 i (by simp [hi]) k (by simp [hk])
  unfold bsOf
  cases hd : dstAt pre j with
  | none => exact bsOf_apart r bs hn'.2 h e1 e2
  | some d =>
   cases hp : prAt prs j with
   | any => exact bsOf_apart r bs hn'.2 h e1 e2
   | is v => exact bsOf_apart r bs hn'.2 h e1 e2
   | ex F b kp lt =>
    have hb : (prAt prs j).bl (valO pre a j) = b (valO pre a j) := by rw [hp]; rfl
    refine bsOf_apart r _ hn'.2 (List.pairwise_cons.2 ⟨fun y hy => ?_, h⟩) (fun i hi y hy => ?_) e2
    ·rw [<- hb]; exact h1 j (by simp) y hy
    ·rcases List.mem_cons.1 hy with rfl | hy
     ·rw [<- hb]; exact h2 i (by simp [hi]) j (by simp) (fun he => hn'.1 (he ▸ hi))
     ·exact e1 i hi y hy

def postI (N d : Nat) (p : Pr) (w : World) (E : Env) : Exit -> Act -> World -> Prop := onlyN fun a w' => ∃ v, Fit N ((d, v) :: E) a /\ Ext w w' /\ p.holds v w' /\ ∀ k, p.bl v = some k -> w.heap.size <= k
structure NO (P : Program) (N : Nat) (pre : List Oper) (prs : List Pr) (o : Oper) (d : Nat) (p : Pr) (w : World) (ds : List Nat) (E : Env) : Prop where
 go : ∀ bs, need prs pre w (fun E' _ => WL P N pre.toArray [o] E' w (postI N d p w E')) ds E bs
def depsOf (o : Oper) : List Nat := o.after.toList.filterMap fun e => if Region.binds .any e then some e.on else none
structure OBL (P : Program) (N : Nat) (pre : List Oper) (prs : List Pr) (e : Env) (w : World) (i : Nat) (l : List Oper) : Prop where
 go : ∀ (k : Nat) (o : Oper), l[k]? = some o -> ∃ d, o.dst = some d /\ d < N /\ ∀ w', Ext w w' -> ∀ rest, NO P N pre prs o d (prAt prs (i + k)) w' (depsOf o) (e ++ rest)
theorem OBL.nil {e : Env} {w : World} {i : Nat} : OBL P N pre prs e w i [] := ⟨fun k o h => by simp at h⟩
theorem OBL.cons {e : Env} {w : World} {i d : Nat} {o : Oper} {r : List Oper} {p : Pr} {ds : List Nat} (hd : o.dst = some d) (hN : Nat.blt d N = true) (hp : prAt prs i = p) (hds : depsOf o = ds)
  (h : ∀ w', Ext w w' -> ∀ rest, NO P N pre prs o d p w' ds (e ++ rest)) (k : OBL P N pre prs e w (i + 1) r) : OBL P N pre prs e w i (o :: r) := by
 refine ⟨fun j o' hj => ?_⟩
 cases j with
 | zero => simp at hj; subst hj; exact ⟨d, hd, by simpa [Nat.blt_eq] using hN, by rw [Nat.add_zero, hp, hds]; exact h⟩
 | succ j =>
  have := k.go j o' (by simpa using hj)
  rwa [show i + 1 + j = i + (j + 1) by omega] at this
theorem NO.nil {o : Oper} {d : Nat} {p : Pr} {w : World} {E : Env} (h : WL P N pre.toArray [o] E w (postI N d p w E)) : NO P N pre prs o d p w [] E := ⟨fun _ => h⟩
theorem NO.any {o : Oper} {d j : Nat} {p : Pr} {w : World} {E : Env} {r : List Nat} (hp : prAt prs j = .any) (h : NO P N pre prs o d p w r E) : NO P N pre prs o d p w (j :: r) E := ⟨fun bs => by
 unfold need
 cases dstAt pre j with
 | none => exact h.go bs
 | some d => dsimp only; rw [hp]; exact h.go bs⟩
theorem NO.is {o : Oper} {d dj j : Nat} {p : Pr} {w : World} {E : Env} {v : Value} {r : List Nat} (hd : dstAt pre j = some dj) (hp : prAt prs j = .is v) (h : NO P N pre prs o d p w r ((dj, v) :: E)) : NO P N pre prs o d p w (j :: r) E := ⟨fun bs => by
 unfold need
 rw [hd]; dsimp only; rw [hp]; exact h.go bs⟩
theorem NO.ex {o : Oper} {d dj j : Nat} {p : Pr} {w : World} {E : Env} {F : Value -> World -> Prop} {b : Value -> Option Nat} {kp : ∀ x w w', F x w -> Ext w w' -> F x w'} {lt : ∀ x w k, F x w -> b x = some k -> k < w.heap.size} {r : List Nat} (hd : dstAt pre j = some dj) (hp : prAt prs j = .ex F b kp lt)
  (h : ∀ x, F x w -> NO P N pre prs o d p w r ((dj, x) :: E)) : NO P N pre prs o d p w (j :: r) E := ⟨fun bs => by
 unfold need
 rw [hd]; dsimp only; rw [hp]; exact fun x hx => (h x hx).go _⟩

def dstsB (e : Env) : List Oper -> Bool
 | [] => true
 | o :: r => (match o.dst with
  | some d => (match get e d with | some _ => false | none => true) && r.all (fun q => match q.dst with | some d' => !Nat.beq d d' | none => true)
  | none => false) && dstsB e r
theorem dstsB_spec {e : Env} : ∀ {l : List Oper}, dstsB e l = true -> (∀ j d, dstAt l j = some d -> get e d = none) /\ ∀ i j d d', dstAt l i = some d -> dstAt l j = some d' -> i ≠ j -> d ≠ d'
  | [], _ => ⟨fun j d h => (by cases h), fun i j d d' h => (by cases h)⟩
  | o :: r, h => by
    simp only [dstsB, Bool.and_eq_true] at h
    obtain ⟨h1, h2⟩ := h
    obtain ⟨k1, k2⟩ := dstsB_spec h2
    cases hd : o.dst with
    | none => rw [hd] at h1; cases h1
    | some d0 =>
      rw [hd] at h1
      simp only [Bool.and_eq_true] at h1
      have hno : get e d0 = none := by
        cases hg : get e d0 with
        | none => rfl
        | some x => rw [hg] at h1; exact absurd h1.1 (by simp)
      have hall : ∀ j d, dstAt r j = some d -> d0 ≠ d := by
        intro j d hj
        rw [<- dstAt_eq] at hj
        cases ho : r.toArray[j]? with
        | none => rw [ho] at hj; cases hj
        | some q =>
          rw [ho] at hj
          simp only [Option.bind_some] at hj
          have hq : q ∈ r := by have : r[j]? = some q := by simpa using ho
                                exact List.mem_of_getElem? this
          have := List.all_eq_true.1 h1.2 q hq
          rw [hj] at this
          intro he
          subst he
          simp at this
      refine ⟨fun j d hj => ?_, fun i j d d' hi hj hne => ?_⟩
      · cases j with
        | zero => simp only [dstAt, hd] at hj; cases hj; exact hno
        | succ j => exact k1 j d hj
      · cases i with
        | zero =>
          simp only [dstAt, hd] at hi; cases hi
          cases j with
          | zero => exact absurd rfl hne
          | succ j => exact hall j d' hj
        | succ i =>
          cases j with
          | zero => simp only [dstAt, hd] at hj; cases hj; exact fun he => hall i d hi he.symm
          | succ j => exact k2 i j d d' hi hj (by omega)

structure InvI (N : Nat) (prs : List Pr) (pre : List Oper) (e : Env) (w0 : World) (L : Array Bool) (a : Act) (w : World) : Prop where
 ext : Ext w0 w
 fit : Fit N e a
 holds : ∀ i, i < pre.length -> L.getD i false = true -> (prAt prs i).holds (valO pre a i) w
 apart : ∀ i j, i < pre.length -> j < pre.length -> L.getD i false = true -> L.getD j false = true -> i ≠ j -> (prAt prs i).bl (valO pre a i) = none ∨ (prAt prs i).bl (valO pre a i) ≠ (prAt prs j).bl (valO pre a j)

theorem dstAt_of {l : List Oper} {i d : Nat} {o : Oper} (h : l[i]? = some o) (hd : o.dst = some d) : dstAt l i = some d := by
 rw [<- dstAt_eq, show l.toArray[i]? = some o by simpa using h]; exact hd

theorem wpAny_inv {e : Env} {w0 : World} {Q' : Exit -> Act -> World -> Prop} (hO : OBL P N pre prs e w0 0 pre) (hlow : lowB pre.toArray pre.length = true) (hd : dstsB e pre = true)
  (hK : ∀ L a w, InvI N prs pre e w0 L a w -> (∀ i, i < pre.length -> L.getD i false = true) -> Q' .normal a w) : ∀ (f : Nat) (L : Array Bool) (a : Act) (w : World), L.size = pre.length -> todo L pre.length = f -> InvI N prs pre e w0 L a w -> wpAny P .any pre.toArray Q' f L a w := by
 obtain ⟨hd1, hd2⟩ := dstsB_spec hd
 have hN : ∀ j d, dstAt pre j = some d -> d < N := fun j d hj => by
  rw [<- dstAt_eq] at hj
  cases ho : pre.toArray[j]? with
  | none => rw [ho] at hj; cases hj
  | some q =>
   rw [ho] at hj
   simp only [Option.bind_some] at hj
   obtain ⟨d', h1, h2, _⟩ := hO.go j q (by simpa using ho)
   rw [h1] at hj; cases hj; exact h2
 intro f
 induction f with
 | zero =>
  intro L a w hsz ht hI
  refine ⟨?_, hK L a w hI fun i hi => todo_zero ht hi⟩
  rw [List.eq_nil_iff_forall_not_mem]
  intro i hi
  have h1 := (mem_ready.1 hi).1
  by_cases hin : i < pre.length
  ·have := todo_zero ht hin
   simp [Array.getD_eq_getD_getElem?, show i < L.size by omega] at h1 this
   rw [this] at h1; cases h1
  ·simp [Array.getD_eq_getD_getElem?, Array.getElem?_eq_none (show L.size <= i by omega)] at h1
 | succ f ih =>
  intro L a w hsz ht hI
  have hun : ∃ i, i < pre.length /\ L.getD i false = false /\ ∀ j, j < i -> L.getD j false = true := by
   by_cases hall : ∀ i, i < pre.length -> L.getD i false = true
   ·exfalso
    have : todo L pre.length = 0 := List.countP_eq_zero.2 (fun i hi => by simp [hall i (List.mem_range.1 hi)])
    omega
   ·simp only [Classical.not_forall] at hall
    have hex : ∃ i, i < pre.length /\ L.getD i false = false := by
     obtain ⟨i, hi, hf⟩ := hall
     exact ⟨i, hi, by simpa using hf⟩
    obtain ⟨i, ⟨hi, hf⟩, hmin⟩ := exists_least (p := fun i => i < pre.length /\ L.getD i false = false) hex
    refine ⟨i, hi, hf, fun j hj => ?_⟩
    cases hb : L.getD j false with
    | true => rfl
    | false => have := hmin j ⟨by omega, hb⟩; omega
  obtain ⟨i0, hi0, hf0, hmin0⟩ := hun
  have hi0r : i0 ∈ Region.ready .any pre.toArray L := by
   obtain ⟨o, ho, hedge, _⟩ := lowB_spec hlow hi0
   exact mem_ready.2 ⟨getD_in (by omega) hf0, o, ho, fun e he hb => hmin0 _ (hedge e he hb)⟩
  refine ⟨fun h0 => (by rw [h0] at hi0r; cases hi0r), fun i hir => ?_⟩
  obtain ⟨h1, o, ho, hdeps⟩ := mem_ready.1 hir
  have hin : i < pre.length := by have := (Array.getElem?_eq_some_iff.1 ho).1; simpa using this
  have hfi : L.getD i false = false := getD_both h1
  have ho' : pre[i]? = some o := by simpa using ho
  obtain ⟨d, hod, hdN, hno⟩ := hO.go i o ho'
  rw [Nat.zero_add] at hno
  have hdi : dstAt pre i = some d := dstAt_of ho' hod
  obtain ⟨E', k1, k2, k3⟩ := need_out (K := fun E' _ => WL P N pre.toArray [o] E' w (postI N d (prAt prs i) w E')) hN (depsOf o) _ [] ((hno w hI.ext (slotsE a N)).go []) hI.fit.all (fun j hj => by
   obtain ⟨ed, hed, hj'⟩ := List.mem_filterMap.1 hj
   split at hj'
   ·rename_i hb
    cases hj'
    have hl := hdeps ed (by simpa using hed) hb
    refine hI.holds _ ?_ hl
    refine Classical.byContradiction fun hge => ?_
    simp [Array.getD_eq_getD_getElem?, Array.getElem?_eq_none (show L.size <= ed.on by omega)] at hl
   ·cases hj')
  have hfull : ∀ t, t < N -> ∃ u, get E' t = some u := fun t ht => by
   have := k3 t (by rw [get_appE, slotsE_get ht]; cases get e t <;> simp)
   cases hg : get E' t with
   | none => exact absurd hg this
   | some u => exact ⟨u, rfl⟩
  refine wpOp_of_list ho (k1.go a w.drawn k2) _ fun a' w' h' => ?_
  have h'' : ∃ v, Fit N ((d, v) :: E') a' /\ Ext w w' /\ (prAt prs i).holds v w' /\ ∀ k, (prAt prs i).bl v = some k -> w.heap.size <= k := h'
  obtain ⟨v, g1, g2, g3, g4⟩ := h''
  have same : ∀ t, t ≠ d -> t < N -> a'.tmps[t]? = a.tmps[t]? := fun t htd ht => by
   obtain ⟨u, hu⟩ := hfull t ht
   rw [k2.slots t u hu]
   exact g1.slots t u (by rw [get_cons, if_neg (fun h => htd h.symm)]; exact hu)
  have hvi : valO pre a' i = v := by
   unfold valO
   rw [hdi]
   have := g1.slots d v (by rw [get_cons, if_pos rfl])
   simp [Array.getD_eq_getD_getElem?, this]
  have hvj : ∀ j, j ≠ i -> valO pre a' j = valO pre a j := fun j hj => by
   unfold valO
   cases hdj : dstAt pre j with
   | none => rfl
   | some d' =>
    have := same d' (hd2 j i d' d hdj hdi hj) (hN j d' hdj)
    simp [Array.getD_eq_getD_getElem?, this]
  have hLi : ∀ j, j ≠ i -> (L.setIfInBounds i true).getD j false = L.getD j false := fun j hj => getD_set_ne false (Ne.symm hj)
  refine ih _ a' w' (by simp [hsz]) (by have := todo_set (listed := L) (by omega) hfi pre.length hin; omega) ⟨hI.ext.trans g2, ⟨g1.size, g1.defers, fun t u hu => ?_⟩, fun j hj hl => ?_, fun j k hj hk hlj hlk hjk => ?_⟩
  ·have htd : t ≠ d := fun h => by rw [h, hd1 i d hdi] at hu; cases hu
   have hat := hI.fit.slots t u hu
   have htN : t < N := by have := (Array.getElem?_eq_some_iff.1 hat).1; rw [hI.fit.size] at this; exact this
   rw [same t htd htN, hat]
  ·by_cases hji : j = i
   ·subst hji; rw [hvi]; exact g3
   ·rw [hLi j hji] at hl; rw [hvj j hji]; exact Pr.keeps (hI.holds j hj hl) g2
  ·by_cases hji : j = i
   ·have hki : k ≠ i := fun h => hjk (by rw [hji, h])
    rw [hLi k hki] at hlk
    rw [hji, hvi, hvj k hki]
    cases hb : (prAt prs i).bl v with
    | none => exact .inl rfl
    | some q =>
     refine .inr fun he => ?_
     have h5 := g4 q hb
     have h6 := Pr.lts (hI.holds k hk hlk) he.symm
     omega
   ·rw [hLi j hji] at hlj
    rw [hvj j hji]
    by_cases hki : k = i
    ·rw [hki, hvi]
     cases hb : (prAt prs j).bl (valO pre a j) with
     | none => exact .inl rfl
     | some q =>
      refine .inr fun he => ?_
      have h5 := g4 q he.symm
      have h6 := Pr.lts (hI.holds j hj hlj) hb
      omega
    ·rw [hLi k hki] at hlk
     rw [hvj k hki]
     exact hI.apart j k hj hk hlj hlk hjk

structure NF (P : Program) (N : Nat) (pre : List Oper) (prs : List Pr) (w : World) (K : Env -> Prop) (ds : List Nat) (E : Env) (bs : List (Option Nat)) : Prop where
 go : need prs pre w (fun E' bs' => Apart bs' -> K E') ds E bs
theorem NF.any {w : World} {K : Env -> Prop} {E : Env} {bs : List (Option Nat)} {j : Nat} {r : List Nat} (hp : prAt prs j = .any) (h : NF P N pre prs w K r E bs) : NF P N pre prs w K (j :: r) E bs := ⟨by
 unfold need
 cases dstAt pre j with
 | none => exact h.go
 | some d => dsimp only; rw [hp]; exact h.go⟩
theorem NF.is {w : World} {K : Env -> Prop} {E : Env} {bs : List (Option Nat)} {j dj : Nat} {v : Value} {r : List Nat} (hd : dstAt pre j = some dj) (hp : prAt prs j = .is v) (h : NF P N pre prs w K r ((dj, v) :: E) bs) : NF P N pre prs w K (j :: r) E bs := ⟨by
 unfold need
 rw [hd]; dsimp only; rw [hp]; exact h.go⟩
theorem NF.ex {w : World} {K : Env -> Prop} {E : Env} {bs : List (Option Nat)} {j dj : Nat} {F : Value -> World -> Prop} {b : Value -> Option Nat} {kp : ∀ x w w', F x w -> Ext w w' -> F x w'} {lt : ∀ x w k, F x w -> b x = some k -> k < w.heap.size} {r : List Nat} (hd : dstAt pre j = some dj) (hp : prAt prs j = .ex F b kp lt)
  (h : ∀ x, F x w -> NF P N pre prs w K r ((dj, x) :: E) (b x :: bs)) : NF P N pre prs w K (j :: r) E bs := ⟨by
 unfold need
 rw [hd]; dsimp only; rw [hp]; exact fun x hx => (h x hx).go⟩
theorem NF.nilT {l tail : List Oper} {w : World} {Q : Exit -> Act -> World -> Prop} {E : Env} {bs : List (Option Nat)} (h : Apart bs -> WL P N l.toArray tail E w Q) : NF P N pre prs w (fun E' => WL P N l.toArray tail E' w Q) [] E bs := ⟨h⟩
def uptoL : Nat -> List Nat
 | 0 => []
 | n + 1 => uptoL n ++ [n]
theorem mem_uptoL : ∀ {n i : Nat}, i ∈ uptoL n ↔ i < n
 | 0, i => by simp [uptoL]
 | n + 1, i => by simp only [uptoL, List.mem_append, mem_uptoL, List.mem_singleton]; omega
theorem uptoL_nodup : ∀ n : Nat, (uptoL n).Nodup
 | 0 => by simp [uptoL]
 | n + 1 => by
  simp only [uptoL]
  rw [List.nodup_append]
  exact ⟨uptoL_nodup n, by simp, fun x hx y hy => by have := mem_uptoL.1 hx; simp at hy; omega⟩

theorem inv_done {e : Env} {w0 w : World} {L : Array Bool} {a : Act} {K : Env -> Prop} (hN : ∀ j d, dstAt pre j = some d -> d < N) (hI : InvI N prs pre e w0 L a w) (hall : ∀ i, i < pre.length -> L.getD i false = true) (h : NF P N pre prs w K (uptoL pre.length) e []) : ∃ E', K E' /\ Fit N E' a := by
 obtain ⟨E', k1, k2, _⟩ := need_out hN _ _ _ h.go hI.fit (fun j hj => hI.holds j (mem_uptoL.1 hj) (hall j (mem_uptoL.1 hj)))
 exact ⟨E', k1 (bsOf_apart _ _ (uptoL_nodup _) List.Pairwise.nil (fun i _ b hb => by cases hb) fun i hi j hj hne => hI.apart i j (mem_uptoL.1 hi) (mem_uptoL.1 hj) (hall i (mem_uptoL.1 hi)) (hall j (mem_uptoL.1 hj)) hne), k2⟩
theorem InvI.start {e : Env} {w0 : World} {a : Act} {m n : Nat} (hf : Fit N e a) : InvI N prs pre e w0 (Array.replicate n false) a (at' w0 m) :=
 ⟨(Ext.refl _).at m, hf, fun i _ h => (by rw [getD_replicate_false] at h; cases h), fun i j _ _ h => (by rw [getD_replicate_false] at h; cases h)⟩
theorem OBL.lt {e : Env} {w0 : World} (hO : OBL P N pre prs e w0 0 pre) : ∀ j d, dstAt pre j = some d -> d < N := fun j d hj => by
 rw [<- dstAt_eq] at hj
 cases ho : pre.toArray[j]? with
 | none => rw [ho] at hj; cases hj
 | some q =>
  rw [ho] at hj
  simp only [Option.bind_some] at hj
  obtain ⟨d', h1, h2, _⟩ := hO.go j q (by simpa using ho)
  rw [h1] at hj; cases hj; exact h2

theorem todo_start (n m : Nat) : todo (Array.replicate m false) n = n := by
 unfold todo
 rw [List.countP_eq_length.2 (fun i _ => by rw [getD_replicate_false]; rfl)]
 simp

theorem W.regionI {id : Nat} {l tail : List Oper} {e : Env} {w : World} {Q : Exit -> Act -> World -> Prop} {ds : List Nat} (n : Nat) (prs : List Pr) (hm : P.follows .mixedOrders = true) (hB : Region.lexTailB .any l.toArray n = true) (hc : cutAt n l = some (pre, tail))
  (hlow : lowB l.toArray n = true) (hl : lowB pre.toArray n = true) (hd : dstsB e pre = true) (hds : uptoL n = ds)
  (hO : OBL P N pre prs e w 0 pre) (k : ∀ w', Ext w w' -> NF P N pre prs w' (fun E' => WL P N l.toArray tail E' w' Q) ds e []) : W P N (.region id l.toArray true) e w Q := by
 refine ⟨fun a m hf => ?_⟩
 subst hds
 obtain ⟨h1, h2⟩ := cutAt_eq hc
 simp only [Region.lexTailB, Bool.and_eq_true, decide_eq_true_eq] at hB
 obtain ⟨⟨⟨⟨hsel, hn⟩, hs⟩, hcb⟩, hlex⟩ := hB
 have hn' : n < l.length := by simpa using hn
 have hpl : pre.length = n := by rw [<- h1]; simp; omega
 have htl : tail.length = l.length - n := by rw [<- h2]; simp
 have hH : ∀ j, j < n -> pre.toArray[j]? = l.toArray[j]? := fun j hj => by rw [<- h1]; simp [hj]
 refine wp_region_any hm ?_
 have hany : wpAny P .any pre.toArray (fun x a' w' => match x with | .normal => wpList P l.toArray Q tail a' w' | _ => False) n (Array.replicate n false) a (at' w (m + 1)) := by
  have := wpAny_inv (P := P) (Q' := fun x a' w' => match x with | .normal => wpList P l.toArray Q tail a' w' | _ => False) hO (by rw [hpl]; exact hl) hd (fun L a w' hI hall => by
   obtain ⟨E', h1, h2⟩ := inv_done hO.lt hI hall (by rw [hpl]; exact k w' hI.ext)
   exact h1.go a w'.drawn h2) n (Array.replicate n false) a (at' w (m + 1)) (by simp [hpl]) (by rw [hpl]; exact todo_start _ _) (InvI.start hf)
  exact this
 have inv0 : HeadInv .any l.toArray n (Array.replicate l.toArray.size false) :=
  ⟨by simp, fun j oj _ hl => (by rw [getD_replicate_false] at hl; cases hl), fun t _ ht => getD_in (by simpa using ht) (getD_replicate_false _ _)⟩
 have key := sim (P := P) (g := l.length - n) (Q := Q) hH (by simpa using hpl) hn hs hcb hlow (fun listed a' w' hsz hfull hrest hk => ?_) (fun x a' w' hx hk => ?_) n (Array.replicate n false) (Array.replicate l.toArray.size false) a (at' w (m + 1)) (by simp) (by simp)
  (fun j hj => by rw [getD_replicate_false, getD_replicate_false]) inv0 (todo_start _ _) hany
 ·rw [show n + (l.length - n) = l.toArray.size by simp; omega] at key
  exact key
 ·have hseq : Region.seqB .any l.toArray (l.length - n) n listed = true := by
   have : ∀ (f k : Nat) (L : Array Bool), L.size = l.toArray.size -> k + f = n -> (∀ j, j < k -> L.getD j false = true) -> (∀ j, k <= j -> L.getD j false = false) -> Region.lexHead .any l.toArray (l.length - n) f k L = true -> ∃ L', L'.size = l.toArray.size /\ (∀ j, j < n -> L'.getD j false = true) /\ (∀ j, n <= j -> L'.getD j false = false) /\ Region.seqB .any l.toArray (l.length - n) n L' = true := by
    intro f
    induction f with
    | zero =>
     intro k L h1 h2 h3 h4 h5
     have hkn : k = n := by omega
     rw [hkn] at h3 h4 h5
     exact ⟨L, h1, h3, h4, h5⟩
    | succ f ih =>
     intro k L h1 h2 h3 h4 h5
     simp only [Region.lexHead, Bool.and_eq_true] at h5
     refine ih (k + 1) _ (by simpa using h1) (by omega) (fun j hj => ?_) (fun j hj => ?_) h5.2
     ·by_cases hjk : k = j
      ·subst hjk
       simp [Array.getD_eq_getD_getElem?, Array.getElem?_setIfInBounds, show k < L.size by rw [h1]; simp; omega]
      ·have := h3 j (by omega)
       simpa [Array.getD_eq_getD_getElem?, Array.getElem?_setIfInBounds, hjk] using this
     ·have := h4 j (by omega)
      simpa [Array.getD_eq_getD_getElem?, Array.getElem?_setIfInBounds, show k ≠ j by omega] using this
   obtain ⟨L', g1, g2, g3, g4⟩ := this n 0 (Array.replicate l.toArray.size false) (by simp) (by omega) (fun j hj => by omega) (fun j _ => getD_replicate_false _ _) (by simpa using hlex)
   have : listed = L' := by
    apply Array.ext
    ·rw [hsz, g1]
    ·intro i hi1 hi2
     rcases Nat.lt_or_ge i n with hlt | hge
     ·have e1 := hfull i hlt
      have e2 := g2 i hlt
      simp [Array.getD_eq_getD_getElem?, hi1] at e1
      simp [Array.getD_eq_getD_getElem?, hi2] at e2
      rw [e1, e2]
     ·have e1 := hrest i hge
      have e2 := g3 i hge
      simp [Array.getD_eq_getD_getElem?, hi1] at e1
      simp [Array.getD_eq_getD_getElem?, hi2] at e2
      rw [e1, e2]
   rw [this]; exact g4
  have := wpAny_of_seq (P := P) (md := .any) (Q' := Q) tail n listed a' w' (fun j => by rw [<- h2]; simp [List.getElem?_drop]) (by rw [htl]; exact hseq) hk
  rwa [htl] at this
 ·cases x with
  | normal => exact absurd rfl hx
  | _ => exact hk.elim

theorem Z.invIs {d : Nat} {v : Value} {w w' : World} {E : Env} (hx : Ext w w') : Z N (postI N d (.is v) w E) .normal ((d, v) :: E) w' :=
 ⟨fun a m hf => ⟨v, hf, hx.at m, rfl, fun k hk => by cases hk⟩⟩
theorem Z.invEx {d : Nat} {v : Value} {w w' : World} {E : Env} {F : Value -> World -> Prop} {b : Value -> Option Nat} {kp : ∀ x w w', F x w -> Ext w w' -> F x w'} {lt : ∀ x w k, F x w -> b x = some k -> k < w.heap.size}
  (hx : Ext w w') (hF : F v w') (hb : ∀ k, b v = some k -> w.heap.size <= k) : Z N (postI N d (.ex F b kp lt) w E) .normal ((d, v) :: E) w' :=
 ⟨fun a m hf => ⟨v, hf, hx.at m, kp _ _ _ hF ((Ext.refl w').at m), hb⟩⟩
end

def isLit (el B : Nat) (x : Value) (w : World) : Prop := ∃ gb, x = .slice (some ⟨gb, 0, none⟩) 0 0 /\ w.heap[gb]? = some (.cells #[] el (0, 0)) /\ B <= gb
def prLit (el B : Nat) : Pr := .ex (isLit el B) (fun _ => none) (fun x w w' ⟨gb, h1, h2, h3⟩ hx => ⟨gb, h1, by rw [hx.block gb (heap_lt h2)]; exact h2, h3⟩) (fun x w k _ h => by cases h)
def sliceBlk : Value -> Option Nat
 | .slice a _ _ => blk a
 | _ => none
def isRow {α : Type} (s : Nat) (enc : α -> List Value) (el B : Nat) (l : List α) (x : Value) (w : World) : Prop := ∃ a cap, x = .slice a l.length cap /\ Own s enc el B w a cap l
open Classical in
noncomputable def prRow {α : Type} (s : Nat) (enc : α -> List Value) (el B : Nat) (l : List α) : Pr := .ex (isRow s enc el B l) (fun x => if l = [] then none else sliceBlk x)
 (fun x w w' ⟨a, cap, h1, h2⟩ hx => ⟨a, cap, h1, h2.ext hx⟩) (fun x w k ⟨a, cap, h1, h2⟩ h => by
  subst h1
  by_cases hl : l = []
  ·rw [if_pos hl] at h; cases h
  ·rw [if_neg hl] at h; exact (h2.blk_lt k h).2)
section
variable {N : Nat}
theorem Z.invLit {d el B gb : Nat} {w w' : World} {E : Env} (hx : Ext w w') (hb : w'.heap[gb]? = some (.cells #[] el (0, 0))) (hge : B <= gb) : Z N (postI N d (prLit el B) w E) .normal ((d, .slice (some ⟨gb, 0, none⟩) 0 0) :: E) w' :=
 Z.invEx hx ⟨gb, rfl, hb, hge⟩ (fun k h => by cases h)
theorem Z.invRow {α : Type} {s : Nat} {enc : α -> List Value} {d el B cap : Nat} {l : List α} {a : Option Addr} {w w' : World} {E : Env} (hx : Ext w w') (hO : Own s enc el B w' a cap l) (hf : l = [] ∨ ∀ k, blk a = some k -> w.heap.size <= k) :
  Z N (postI N d (prRow s enc el B l) w E) .normal ((d, .slice a l.length cap) :: E) w' :=
 Z.invEx hx ⟨a, cap, rfl, hO⟩ (fun k h => by
  by_cases hl : l = []
  ·rw [if_pos hl] at h; cases h
  ·rw [if_neg hl] at h; exact (hf.resolve_left hl) k h)
end

theorem row_cells {α : Type} {s : Nat} {enc : α -> List Value} {w : World} {ad : Addr} {ys : List α} (hE : Enc s enc) (hr : Row s enc w (some ad) ys) : ∀ i u, (ys.flatMap enc)[i]? = some u -> w.cell? (ad.add i) = some u := by
 intro i u hu
 have hpos := hE.pos
 have hlt : i < ys.length * s := by have := (List.getElem?_eq_some_iff.1 hu).1; rwa [lFm hE.len] at this
 have hdiv : i / s < ys.length := by rw [Nat.div_lt_iff_lt_mul hpos]; exact hlt
 have hyy : ys[i / s]? = some ys[i / s] := by simp [hdiv]
 obtain ⟨bb, off, hbb, hc⟩ := hr.elem _ _ hyy
 simp only [Option.some.injEq] at hbb
 subst hbb
 have hmod : i % s < s := Nat.mod_lt _ hpos
 have h1 := getElem?_flatMap' hE.len ys (i / s) (i % s) _ hyy hmod
 have h2 : i / s * s + i % s = i := by rw [Nat.mul_comm]; exact Nat.div_add_mod i s
 rw [h2, hu] at h1
 have key : ∀ (L : List Value) (o jj : Nat) (u : Value), Cells w bb o L -> L[jj]? = some u -> w.cell? ⟨bb, o + jj, none⟩ = some u := by
  intro L
  induction L with
  | nil => intro o jj u _ h; simp at h
  | cons v r ih =>
   intro o jj u hcc h
   cases jj with
   | zero => simp only [List.getElem?_cons_zero, Option.some.injEq] at h; subst h; exact hcc.1
   | succ jj => have := ih (o + 1) jj u hcc.2 (by simpa using h); rwa [show o + 1 + jj = o + (jj + 1) by omega] at this
 have := key _ _ _ u hc h1.symm
 rw [Addr_add_none]
 rw [show off + i / s * s + i % s = off + i by omega] at this
 exact this

section rules
variable {P : Program} {N : Nat} {e : Env} {w : World} {Q : Exit -> Act -> World -> Prop} {ops : List Oper} {l : List Oper} {T : Tab}
 {d : Nat} {tt : TypeId} {ps : String} {af : Array Edge} {g : Option (Nat × Bool)} {t : TypeId} {α : Type} {s : Nat} {enc : α -> List Value} {B : Nat} {ti ei : TI} {el : TypeId}
theorem WL.append0 {x y : Operand} {b : Option Addr} {gb m c : Nat} {ys : List α} {wo w1 : World} (hT : OkTab P T) (hE : Enc s enc) (hg : gate ops e g = some true) (hd : Nat.blt d N = true)
  (hx : ev e x = some (.slice (some ⟨gb, 0, none⟩) 0 0)) (hy : ev e y = some (.slice b m c)) (ht : tget T t = some ti) (htd : ti.desc = .slice el) (he : tget T el = some ei) (hs : ei.size = s) (hz : ei.zero.cells.size = s) (hby : Nat.ble ei.bytes 1024 = true)
  (ho : wo.heap[gb]? = some (.cells #[] el (0, 0))) (hB : B <= gb) (hwo : Ext wo w) (hr : Row s enc w1 b ys) (hw1 : Ext w1 w) (hm : ys.length = m) (hmc : b = none -> c = 0) (hbd : ys.length <= 137438953472)
  (k : ∀ a' cap' w', Own s enc el B w' a' cap' ys -> Ext w w' -> (ys = [] ∨ ∀ k, blk a' = some k -> w.heap.size <= k) -> WL P N ops.toArray l ((d, .slice a' ys.length cap') :: e) w' Q) :
  WL P N ops.toArray (⟨some d, .call ⟨.builtin .append, ⟨[x, y]⟩, ⟨[t, t]⟩⟩, tt, ps, af, g⟩ :: l) e w Q := by
 have hb' := Nat.le_of_ble_eq_true hby
 have hgw : w.heap[gb]? = some (.cells #[] el (0, 0)) := by rw [hwo.block gb (heap_lt ho)]; exact ho
 have hgl := heap_lt hgw
 have hO0 : Own s enc el B w (some ⟨gb, 0, none⟩) 0 ([] : List α) := Own.ofB0 hgw hB
 obtain ⟨j, hj1, hj2, hj3, hj4⟩ := (hT.at he).info
 have hti := (hT.at ht).1
 rw [htd] at hti
 subst hm
 by_cases hy0 : ys = []
 ·subst hy0
  refine WL.eff (v := .slice (some ⟨gb, 0, none⟩) 0 0) (w' := fun m => at' w m) hg hd ?_ (fun m => ?_)
  ·intro ρ hρ m
   simp only [execOp, resolve, invoke, builtin, Sem.run_bind, Sem.run_pure, Result.andThen_ok, List.map_toArray, List.map_cons, List.map_nil, hρ _ _ hx, hρ _ _ hy]
   by_cases hb : b = none
   ·subst hb
    obtain rfl := hmc rfl
    have := run_append_nothing (P := P) (tt := tt) (n := 0) hT ht htd he (w' := at' w m) (xs := ([] : List α)) hO0 hs
    simp only [List.length_nil] at this ⊢
    rw [this]; rfl
   ·obtain ⟨ad, rfl⟩ := Option.ne_none_iff_exists'.1 hb
    have := run_append_room (P := P) (at' w m) t tt el j hti hj1 gb 0 0 #[] hgw ad 0 c [] (by simp) (fun q u hq => by simp at hq) (fun u hu => by cases hu) (by omega) (by simp)
    simp only [List.length_nil] at this ⊢
    rw [this]
    have hset : (at' w m).setRow gb #[] = at' w m := by
     have key : ∀ (u : World) (h : Array Obj), h = u.heap -> { u with heap := h } = u := fun u h e => by subst e; rfl
     unfold World.setRow
     refine key (at' w m) _ ?_
     apply Array.ext
     ·simp
     ·intro i h1 h2
      rw [Array.getElem_modify]
      split
      ·rename_i hi
       subst hi
       have : (at' w m).heap[gb]? = some (.cells #[] el (0, 0)) := hgw
       rw [Array.getElem?_eq_getElem h2] at this
       simp only [Option.some.injEq] at this
       rw [this]
      ·rfl
    simp [hset]
  ·have hX : Ext w (at' w m) := (Ext.refl w).at m
   exact k (some ⟨gb, 0, none⟩) 0 (at' w m) (hO0.ext hX) hX (.inl rfl)
 ·have hb : b ≠ none := by
   intro h
   subst h
   cases ys with
   | nil => exact hy0 rfl
   | cons z r => obtain ⟨b', off, h1, _⟩ := hr.elem 0 z rfl; cases h1
  have hpos : 0 < ys.length := by cases ys with | nil => exact absurd rfl hy0 | cons z r => simp
  have hbytes : (0 + ys.length) * ei.bytes <= 140737488355328 := by
   rw [Nat.zero_add]
   calc ys.length * ei.bytes <= 137438953472 * 1024 := Nat.mul_le_mul hbd hb'
    _ <= _ := by decide
  obtain ⟨ad, rfl⟩ := Option.ne_none_iff_exists'.1 hb
  have hnews : ∀ (q : Nat) i u, (ys.flatMap enc)[i]? = some u -> (at' w q).cell? (ad.add i) = some u := fun q i u hu => row_cells hE (hr.ext hw1) i u hu
  have hone : ∀ u ∈ ys.flatMap enc, u.oneCell' = true := fun u hu => by
   obtain ⟨z, _, hz'⟩ := List.mem_flatMap.1 hu
   exact hE.one z u hz'
  have hlY : (ys.flatMap enc).length = ys.length * j.size := by rw [lFm hE.len, hj2.trans hs]
  have hfit := growslice_fits (need := 0 + ys.length) (old := 0) (bytes := j.bytes) (by omega) (by rw [hj3]; exact hbytes)
  have hgr : ∀ q, (Builtin.append_ #[t, t] tt #[.slice (some ⟨gb, 0, none⟩) 0 0, .slice (some ad) ys.length c]).run P (at' w q) = .ok (.slice (some ⟨w.heap.size, 0, none⟩) (0 + ys.length) (grownCap (at' w q) (0 + ys.length) 0 el)) ((at' w q).drew.alloc (.cells (([] : List Value).toArray ++ (ys.flatMap enc).toArray ++ Builtin.zeroCells ei.zero.cells (grownCap (at' w q) (0 + ys.length) 0 el - (0 + ys.length))) el)) := fun q =>
   run_append_grow (P := P) (at' w q) t tt el j ei.zero hti hj1 hj4 ⟨gb, 0, none⟩ 0 0 [] (by simp) (fun i u h => by simp at h) ad ys.length c (ys.flatMap enc) hlY (hnews q) (by omega) (by simp only [Nat.zero_add]; omega) hfit
  refine ⟨fun ac q hf => ?_⟩
  unfold wpList
  rw [if_pos (by rw [gate_wanted hf (o := ⟨some d, .call ⟨.builtin .append, ⟨[x, y]⟩, ⟨[t, t]⟩⟩, tt, ps, af, g⟩) hg])]
  refine .inl ?_
  obtain ⟨v', w', hrun, h2, _, _⟩ := run_append_own (P := P) (at' w q) B t tt el j ei.zero s ei.bytes hti hj1 hj4 (hj2.trans hs) hj3 hz hE.pos (.slice (some ⟨gb, 0, none⟩) 0 0) 0 [] hO0 ad ys.length c (ys.flatMap enc)
   (by rw [lFm hE.len]) (hnews q) hone (by simp only [maxLen]; omega) hbytes (by show B <= w.heap.size; omega)
  have hg' := hgr q
  rw [hg'] at hrun
  simp only [Result.ok.injEq] at hrun
  obtain ⟨hv, hw⟩ := hrun
  have hexec : (execOp ac.eval ⟨some d, .call ⟨.builtin .append, ⟨[x, y]⟩, ⟨[t, t]⟩⟩, tt, ps, af, g⟩).run P (at' w q) = .ok (.value v') w' := by
   simp only [execOp, resolve, invoke, builtin, Sem.run_bind, Sem.run_pure, Result.andThen_ok, List.map_toArray, List.map_cons, List.map_nil, hf.eval hx, hf.eval hy, hg', hv, hw]
  unfold Oper.wp
  rw [hexec]
  have hX : Ext w w' := by rw [<- hw]; exact ⟨rfl, rfl, rfl, by simp, fun k hk => heap_alloc_old (at' w q).drew _ hk⟩
  have hO : Own s enc el B w' (some ⟨w.heap.size, 0, none⟩) (grownCap (at' w q) (0 + ys.length) 0 el) ys := by
   rw [<- hv] at h2
   simp only [List.nil_append, Nat.zero_add] at h2 ⊢
   exact h2
  subst hv
  have := (k _ _ w' hO hX (.inr fun k hk => by simp only [blk, Option.map_some, Option.some.injEq] at hk; omega)).go _ w'.drawn (hf.put (by simpa [Nat.blt_eq] using hd) _)
  simp only [Nat.zero_add] at this ⊢
  exact this
end rules

open Classical in
noncomputable def prowZ {α : Type} (s : Nat) (enc : α -> List Value) (el B : Nat) (a : Option Addr) (cap : Nat) (l : List α) : Piece :=
 ⟨if l = [] then none else blk a, fun w => l ≠ [] -> Own s enc el B w a cap l, fun {w w'} h hb hl => (h hl).keep fun k hk => hb k (by rw [if_neg hl]; exact hk)⟩
theorem prowZ_b {α : Type} {s : Nat} {enc : α -> List Value} {el B cap : Nat} {a : Option Addr} {l : List α} (hl : l ≠ []) : (prowZ s enc el B a cap l).b = blk a := if_neg hl
theorem Sep.rowZ {α : Type} {s : Nat} {enc : α -> List Value} {el B cap i : Nat} {a : Option Addr} {l : List α} {w : World} {ps : List Piece} (hS : Sep B w ps) (h : ps[i]? = some (prowZ s enc el B a cap l)) (hl : l ≠ []) : Own s enc el B w a cap l := (hS.holds i _ h).1 hl
theorem Sep.news {B : Nat} {w w' : World} {ps : List Piece} (qs : List Piece) (hS : Sep B w ps) (hx : Ext w w') (hp : ∀ q ∈ qs, q.P w' /\ ∀ k, q.b = some k -> w.heap.size <= k /\ k < w'.heap.size) (ha : Apart (qs.map (·.b))) (hB : B <= w.heap.size) : Sep B w' (qs ++ ps) := by
 induction qs with
 | nil => exact hS.ext hx
 | cons q r ih =>
  have ha' := List.pairwise_cons.1 (show List.Pairwise _ (q.b :: r.map (·.b)) from ha)
  have ih' := ih (fun p h => hp p (by simp [h])) ha'.2
  obtain ⟨hq1, hq2⟩ := hp q (by simp)
  have key : ∀ (j : Nat) (p : Piece), (r ++ ps)[j]? = some p -> (q.b = none ∨ q.b ≠ p.b) /\ (p.b = none ∨ p.b ≠ q.b) := by
   intro j p hj
   have base : q.b = none ∨ q.b ≠ p.b := by
    by_cases hlt : j < r.length
    ·rw [List.getElem?_append_left hlt] at hj
     exact ha'.1 p.b (List.mem_map.2 ⟨p, List.mem_of_getElem? hj, rfl⟩)
    ·rw [List.getElem?_append_right (by omega)] at hj
     cases hb : q.b with
     | none => exact .inl rfl
     | some k =>
      refine .inr fun he => ?_
      have h1 := (hq2 k hb).1
      have h2 := ((hS.holds _ p hj).2 k he.symm).2
      omega
   refine ⟨base, ?_⟩
   rcases base with h | h
   ·cases hb : p.b with
    | none => exact .inl rfl
    | some k => exact .inr (by rw [h]; simp)
   ·exact .inr (Ne.symm h)
  refine ⟨fun i p h => ?_, fun i j p p' h1 h2 hne => ?_⟩
  ·cases i with
   | zero => simp at h; subst h; exact ⟨hq1, fun k hk => ⟨Nat.le_trans hB (hq2 k hk).1, (hq2 k hk).2⟩⟩
   | succ i => exact ih'.holds i p (by simpa using h)
  ·cases i with
   | zero =>
    simp at h1; subst h1
    cases j with
    | zero => exact absurd rfl hne
    | succ j => exact (key j p' (by simpa using h2)).1
   | succ i =>
    cases j with
    | zero => simp at h2; subst h2; exact (key i p (by simpa using h1)).2
    | succ j => exact ih'.apart i j p p' (by simpa using h1) (by simpa using h2) (by omega)
theorem prowZ_new {α : Type} {s : Nat} {enc : α -> List Value} {el B C cap : Nat} {a : Option Addr} {l : List α} {w : World} (h : Own s enc el B w a cap l) (hB : C <= B) : (prowZ s enc el C a cap l).P w /\ ∀ k, (prowZ s enc el C a cap l).b = some k -> B <= k /\ k < w.heap.size := by
 refine ⟨fun _ => h.base hB, fun k hk => ?_⟩
 by_cases hl : l = []
 ·have : (prowZ s enc el C a cap l).b = none := if_pos hl
  rw [this] at hk; cases hk
 ·rw [prowZ_b hl] at hk; exact h.blk_lt k hk
theorem apartS {bs cs : List (Option Nat)} (h : Apart bs) (hs : List.Sublist cs bs := by repeat' (first | exact List.Sublist.slnil | apply List.Sublist.cons_cons | apply List.Sublist.cons)) : Apart cs := List.Pairwise.sublist hs h
theorem Sep.takeN {B : Nat} {w : World} {ps : List Piece} (hS : Sep B w ps) (n : Nat) : Sep B w (ps.take n) := by
 have key : ∀ (i : Nat) (p : Piece), (ps.take n)[i]? = some p -> ps[i]? = some p := fun i p h => by
  rw [List.getElem?_take] at h; split at h
  ·exact h
  ·cases h
 exact ⟨fun i p h => hS.holds i p (key i p h), fun i j p q h1 h2 hne => hS.apart i j p q (key i p h1) (key j q h2) hne⟩
end Go.Lt
namespace Go.Proofs.Yteidpnpbfagaeaa
open Go Go.Lt Go.RowKit

noncomputable def Circ.ps (B : Nat) (d : Circ) : List Piece :=
 [prowZ 3 encY 150 B d.syms.1 d.syms.2.1 d.syms.2.2, prowZ 3 enc3 89 B d.gates.1 d.gates.2.1 d.gates.2.2, prowZ 3 enc3 87 B d.lat.1 d.lat.2.1 d.lat.2.2,
  prowZ 1 encI 3 B d.cons.1 d.cons.2.1 d.cons.2.2, prowZ 1 encI 3 B d.bads.1 d.bads.2.1 d.bads.2.2, prowZ 1 encI 3 B d.outs.1 d.outs.2.1 d.outs.2.2, prowZ 1 encI 3 B d.ins.1 d.ins.2.1 d.ins.2.2]
structure CapC (d : Circ) : Prop where
 ins : d.ins.2.2.length <= d.ins.2.1 /\ (d.ins.1 = none -> d.ins.2.1 = 0)
 lat : d.lat.2.2.length <= d.lat.2.1 /\ (d.lat.1 = none -> d.lat.2.1 = 0)
 outs : d.outs.2.2.length <= d.outs.2.1 /\ (d.outs.1 = none -> d.outs.2.1 = 0)
 bads : d.bads.2.2.length <= d.bads.2.1 /\ (d.bads.1 = none -> d.bads.2.1 = 0)
 cons : d.cons.2.2.length <= d.cons.2.1 /\ (d.cons.1 = none -> d.cons.2.1 = 0)
 gates : d.gates.2.2.length <= d.gates.2.1 /\ (d.gates.1 = none -> d.gates.2.1 = 0)
 syms : d.syms.2.2.length <= d.syms.2.1 /\ (d.syms.1 = none -> d.syms.2.1 = 0)
theorem rowZ_row {α : Type} {s : Nat} {enc : α -> List Value} {el B cap i : Nat} {a : Option Addr} {l : List α} {w : World} {ps : List Piece} (hE : Enc s enc) (hS : Lt.Sep B w ps) (h : ps[i]? = some (prowZ s enc el B a cap l)) : Row s enc w a l := by
 by_cases hl : l = []
 ·subst hl; exact Row.nil s enc w a
 ·exact (hS.rowZ h hl).row hE
structure OwnC (B : Nat) (w : World) (d : Circ) : Prop where
 sep : Lt.Sep B w (d.ps B)
 cap : CapC d
theorem OwnC.at {B : Nat} {w : World} {d : Circ} (h : OwnC B w d) : CAt w d :=
 ⟨⟨rowZ_row eIk h.sep (i := 6) rfl, h.cap.ins.1, h.cap.ins.2⟩, ⟨rowZ_row enc3_ok h.sep (i := 2) rfl, h.cap.lat.1, h.cap.lat.2⟩, ⟨rowZ_row eIk h.sep (i := 5) rfl, h.cap.outs.1, h.cap.outs.2⟩, ⟨rowZ_row eIk h.sep (i := 4) rfl, h.cap.bads.1, h.cap.bads.2⟩,
  ⟨rowZ_row eIk h.sep (i := 3) rfl, h.cap.cons.1, h.cap.cons.2⟩, ⟨rowZ_row enc3_ok h.sep (i := 1) rfl, h.cap.gates.1, h.cap.gates.2⟩, ⟨rowZ_row encY_ok h.sep (i := 0) rfl, h.cap.syms.1, h.cap.syms.2⟩⟩
theorem OwnC.ext {B : Nat} {w w' : World} {d : Circ} (h : OwnC B w d) (hx : Ext w w') : OwnC B w' d := ⟨h.sep.ext hx, h.cap⟩

theorem law11_Own (c : Circ) (w : World) (hC : CAt w c) (hz : SzC c.t 100000) (hz2 : c.t.syms.length <= 100000) :
  Lt.Spec Try.prog 11 [c.val] w (fun v w' => Ext w w' /\ ∃ d : Circ, v = d.val /\ d.t = c.t /\ OwnC w.heap.size w' d) := by
 have z1 : c.ins.2.2.length <= 100000 := hz.1
 have z2 : c.lat.2.2.length <= 100000 := hz.2.1
 have z3 : c.outs.2.2.length <= 100000 := hz.2.2.1
 have z4 : c.bads.2.2.length <= 100000 := hz.2.2.2.1
 have z5 : c.cons.2.2.length <= 100000 := hz.2.2.2.2.1
 have z6 : c.gates.2.2.length <= 100000 := hz.2.2.2.2.2
 have z7 : c.syms.2.2.length <= 100000 := hz2
 have hS : Lt.Sep w.heap.size w [] := Sep.none'
 have Ri := hC.ins.row
 have Ro := hC.outs.row
 have Rb := hC.bads.row
 have Rn := hC.cons.row
 have Rl := hC.lat.row
 have Rg := hC.gates.row
 have Ry := hC.syms.row
 have ni := hC.ins.none
 have no := hC.outs.none
 have nb := hC.bads.none
 have nn := hC.cons.none
 have nl := hC.lat.none
 have ng := hC.gates.none
 have ny := hC.syms.none
 refine Spec.of _ Try.func11 rfl Try.ntmps11 (by kernel_rfl) rfl ?_
 repeat' (first | (apply WL.box; (iterate 3 exact rfl); intro gc wc hb hge hc hxc; have hcc := hc; ((obtain ⟨h1, h2, h3, _⟩ := hc)); (have hcells := hcc; obtain ⟨y0, y1, y2, y3, y4, y5, y6, y7, y8, _⟩ := hcc)) | (apply WL.alloc tOk; (iterate 3 exact rfl); intro gb w' hb hge hx; replace hS := Sep.newCell (Sep.ext hS extA) hx hb hge (by (exact Below.size extA)); (try simp only [List.set_cons_zero, List.set_cons_succ] at hS); (try have hC0 := hS.cell (i := 0) rfl); (try have hD0 := (cHp hC0).1); (try have hE0 := (cHp hC0).2.1); (try have hF0 := (cHp hC0).2.2.1); (try have hG0 := (cHp hC0).2.2.2.1); (try have hC1 := hS.cell (i := 1) rfl); (try have hD1 := (cHp hC1).1); (try have hE1 := (cHp hC1).2.1); (try have hF1 := (cHp hC1).2.2.1); (try have hG1 := (cHp hC1).2.2.2.1); (first | (have h_0 := g2; clear h_0) | (obtain ⟨g2, rfl⟩ : ∃ x, x = gb := ⟨_, rfl⟩))) | (apply WL.storeB (w0 := wc) tOk; (iterate 4 exact rfl); assumption; exact extA; (iterate 3 exact rfl); exact extA; ((focus (apply Nat.le_trans; rotate_left; assumption; exact Below.size extA; done))); intro w' hb hc hX' hU; have hcc := hc; obtain ⟨h1, h2, _⟩ := hc; (replace hS := Sep.uCl (i := 0) rfl hU hb hS extA (by (exact Below.size extA))); (try simp only [List.set_cons_zero, List.set_cons_succ] at hS); (try have hC0 := hS.cell (i := 0) rfl); (try have hD0 := (cHp hC0).1); (try have hE0 := (cHp hC0).2.1); (try have hF0 := (cHp hC0).2.2.1); (try have hG0 := (cHp hC0).2.2.2.1); (try have hC1 := hS.cell (i := 1) rfl); (try have hD1 := (cHp hC1).1); (try have hE1 := (cHp hC1).2.1); (try have hF1 := (cHp hC1).2.2.1); (try have hG1 := (cHp hC1).2.2.2.1)) | (first | apply WL.nil | (refine WL.au (k := ?_))) | apply Z.tn | (first | apply W.seq | apply W.region))
 replace hS : Lt.Sep w.heap.size w' [pcell gb c.vals.toArray 27, pcell g2 (Value.cells (.agg #[.int .i64 0, .slice none 0 0, .slice none 0 0, .slice none 0 0, .slice none 0 0, .slice none 0 0, .slice none 0 0, .slice none 0 0, .string ⟨#[]⟩])) 27] := hS
 (try simp only [List.set_cons_zero, List.set_cons_succ] at hS); (try have hC0 := hS.cell (i := 0) rfl); (try have hD0 := (cHp hC0).1); (try have hE0 := (cHp hC0).2.1); (try have hF0 := (cHp hC0).2.2.1); (try have hG0 := (cHp hC0).2.2.2.1); (try have hC1 := hS.cell (i := 1) rfl); (try have hD1 := (cHp hC1).1); (try have hE1 := (cHp hC1).2.1); (try have hF1 := (cHp hC1).2.2.1); (try have hG1 := (cHp hC1).2.2.2.1)
 obtain ⟨w1, rfl⟩ : ∃ x, x = w' := ⟨_, rfl⟩
 have hX1 : Ext wc w1 := extA
 have hX2 : Ext w w1 := extA
 have hw1 : w.heap.size <= w1.heap.size := Below.size hX2
 repeat' (first | (show W _ _ (.region 2 _ _) _ _ _; apply W.regionI 17 [prLit 3 w1.heap.size, .is (.pointer (some ⟨gc, 0 + 1, none⟩)), .is (rowVal c.ins), prRow 1 encI 3 w1.heap.size c.ins.2.2, prLit 3 w1.heap.size, .is (.pointer (some ⟨gc, 0 + 1 + 1 + 1, none⟩)), .is (rowVal c.outs), prRow 1 encI 3 w1.heap.size c.outs.2.2, prLit 3 w1.heap.size, .is (.pointer (some ⟨gc, 0 + 1 + 1 + 1 + 1, none⟩)), .is (rowVal c.bads), prRow 1 encI 3 w1.heap.size c.bads.2.2, prLit 3 w1.heap.size, .is (.pointer (some ⟨gc, 0 + 1 + 1 + 1 + 1 + 1, none⟩)), .is (rowVal c.cons), prRow 1 encI 3 w1.heap.size c.cons.2.2, .is (.pointer (some ⟨gb, 0 + 1, none⟩))] tMix; kernel_rfl; exact rfl; kernel_rfl; kernel_rfl; exact rfl; exact rfl) | apply OBL.nil | (show OBL _ _ _ _ _ _ 0 _; apply OBL.cons (ds := []); (iterate 3 exact rfl); kernel_rfl; intro w8 hw8 rest8) | (show OBL _ _ _ _ _ _ 1 _; apply OBL.cons (ds := []); (iterate 3 exact rfl); kernel_rfl; intro w8 hw8 rest8) | (show OBL _ _ _ _ _ _ 2 _; apply OBL.cons (ds := [1]); (iterate 3 exact rfl); kernel_rfl; intro w8 hw8 rest8) | (show OBL _ _ _ _ _ _ 3 _; apply OBL.cons (ds := [0, 2]); (iterate 3 exact rfl); kernel_rfl; intro w8 hw8 rest8) | (show OBL _ _ _ _ _ _ 4 _; apply OBL.cons (ds := []); (iterate 3 exact rfl); kernel_rfl; intro w8 hw8 rest8) | (show OBL _ _ _ _ _ _ 5 _; apply OBL.cons (ds := []); (iterate 3 exact rfl); kernel_rfl; intro w8 hw8 rest8) | (show OBL _ _ _ _ _ _ 6 _; apply OBL.cons (ds := [5]); (iterate 3 exact rfl); kernel_rfl; intro w8 hw8 rest8) | (show OBL _ _ _ _ _ _ 7 _; apply OBL.cons (ds := [4, 6, 3]); (iterate 3 exact rfl); kernel_rfl; intro w8 hw8 rest8) | (show OBL _ _ _ _ _ _ 8 _; apply OBL.cons (ds := []); (iterate 3 exact rfl); kernel_rfl; intro w8 hw8 rest8) | (show OBL _ _ _ _ _ _ 9 _; apply OBL.cons (ds := []); (iterate 3 exact rfl); kernel_rfl; intro w8 hw8 rest8) | (show OBL _ _ _ _ _ _ 10 _; apply OBL.cons (ds := [9]); (iterate 3 exact rfl); kernel_rfl; intro w8 hw8 rest8) | (show OBL _ _ _ _ _ _ 11 _; apply OBL.cons (ds := [8, 10, 7]); (iterate 3 exact rfl); kernel_rfl; intro w8 hw8 rest8) | (show OBL _ _ _ _ _ _ 12 _; apply OBL.cons (ds := []); (iterate 3 exact rfl); kernel_rfl; intro w8 hw8 rest8) | (show OBL _ _ _ _ _ _ 13 _; apply OBL.cons (ds := []); (iterate 3 exact rfl); kernel_rfl; intro w8 hw8 rest8) | (show OBL _ _ _ _ _ _ 14 _; apply OBL.cons (ds := [13]); (iterate 3 exact rfl); kernel_rfl; intro w8 hw8 rest8) | (show OBL _ _ _ _ _ _ 15 _; apply OBL.cons (ds := [12, 14, 11]); (iterate 3 exact rfl); kernel_rfl; intro w8 hw8 rest8) | (show OBL _ _ _ _ _ _ 16 _; apply OBL.cons (ds := [0, 1, 2, 3]); (iterate 3 exact rfl); kernel_rfl; intro w8 hw8 rest8) | (first | apply NO.nil | (apply NO.is; exact rfl; exact rfl) | (apply NO.ex; exact rfl; exact rfl; (first | (rintro _ ⟨gl, rfl, hlb, hlge⟩) | (rintro _ ⟨ar, cr, rfl, hOr⟩)))) | (intro w8 hw8; show NF _ _ _ _ _ _ _ _ _) | (first | (apply NF.nilT; intro hap; replace hS := Sep.news [prowZ 1 encI 3 w.heap.size ar2_15 cr2_15 c.cons.2.2, prowZ 1 encI 3 w.heap.size ar2_11 cr2_11 c.bads.2.2, prowZ 1 encI 3 w.heap.size ar2_7 cr2_7 c.outs.2.2, prowZ 1 encI 3 w.heap.size ar2_3 cr2_3 c.ins.2.2] hS hw8 (by rintro q hq; simp only [List.mem_cons, List.not_mem_nil, or_false] at hq; rcases hq with rfl | rfl | rfl | rfl <;> exact prowZ_new (by assumption) hw1) (apartS hap) hw1; simp only [List.cons_append, List.nil_append] at hS; (try simp only [List.set_cons_zero, List.set_cons_succ] at hS); (try have hD0 := (cHp hC0).1); (try have hE0 := (cHp hC0).2.1); (try have hF0 := (cHp hC0).2.2.1); (try have hG0 := (cHp hC0).2.2.2.1); (try have hD1 := (cHp hC1).1); (try have hE1 := (cHp hC1).2.1); (try have hF1 := (cHp hC1).2.2.1); (try have hG1 := (cHp hC1).2.2.2.1); (try have hC4 := hS.cell (i := 4) rfl); (try have hD4 := (cHp hC4).1); (try have hE4 := (cHp hC4).2.1); (try have hF4 := (cHp hC4).2.2.1); (try have hG4 := (cHp hC4).2.2.2.1)) | (apply NF.is; exact rfl; exact rfl)) | (show NF _ _ _ _ _ _ (0 :: _) _ _; apply NF.ex; exact rfl; exact rfl; rintro _ ⟨gl2_0, rfl, hlb2_0, hlge2_0⟩) | (show NF _ _ _ _ _ _ (3 :: _) _ _; apply NF.ex; exact rfl; exact rfl; rintro _ ⟨ar2_3, cr2_3, rfl, hOr2_3⟩) | (show NF _ _ _ _ _ _ (4 :: _) _ _; apply NF.ex; exact rfl; exact rfl; rintro _ ⟨gl2_4, rfl, hlb2_4, hlge2_4⟩) | (show NF _ _ _ _ _ _ (7 :: _) _ _; apply NF.ex; exact rfl; exact rfl; rintro _ ⟨ar2_7, cr2_7, rfl, hOr2_7⟩) | (show NF _ _ _ _ _ _ (8 :: _) _ _; apply NF.ex; exact rfl; exact rfl; rintro _ ⟨gl2_8, rfl, hlb2_8, hlge2_8⟩) | (show NF _ _ _ _ _ _ (11 :: _) _ _; apply NF.ex; exact rfl; exact rfl; rintro _ ⟨ar2_11, cr2_11, rfl, hOr2_11⟩) | (show NF _ _ _ _ _ _ (12 :: _) _ _; apply NF.ex; exact rfl; exact rfl; rintro _ ⟨gl2_12, rfl, hlb2_12, hlge2_12⟩) | (show NF _ _ _ _ _ _ (15 :: _) _ _; apply NF.ex; exact rfl; exact rfl; rintro _ ⟨ar2_15, cr2_15, rfl, hOr2_15⟩) | (first | (apply Z.invIs; exact extA) | (apply Z.invLit; exact extA; assumption; first | omega | (refine Nat.le_trans ?_ (by assumption); exact Below.size extA)) | (apply Z.invRow; exact extA; assumption; assumption)) | (apply WL.lit tOk; (iterate 6 exact rfl); kernel_rfl; exact rfl; intro gb w' hb hge hc hx) | (apply WL.append0 tOk eIk; (iterate 10 exact rfl); assumption; assumption; exact extA; assumption; exact extA; exact rfl; assumption; omega; intro a' cap' w' hO hx hf0) | (apply WL.storeF (w0 := wc) tOk; (iterate 4 exact rfl); assumption; exact extA; (iterate 4 exact rfl); exact extA; ((focus (apply Nat.le_trans; rotate_left; assumption; exact Below.size extA))); intro w' hb hX' hU; replace hS := Sep.uCl (i := 4) rfl hU hb hS extA (by (exact Below.size extA)); (try simp only [List.set_cons_zero, List.set_cons_succ] at hS); (try have hD0 := (cHp hC0).1); (try have hE0 := (cHp hC0).2.1); (try have hF0 := (cHp hC0).2.2.1); (try have hG0 := (cHp hC0).2.2.2.1); (try have hD1 := (cHp hC1).1); (try have hE1 := (cHp hC1).2.1); (try have hF1 := (cHp hC1).2.2.1); (try have hG1 := (cHp hC1).2.2.2.1); (try have hC4 := hS.cell (i := 4) rfl); (try have hD4 := (cHp hC4).1); (try have hE4 := (cHp hC4).2.1); (try have hF4 := (cHp hC4).2.2.1); (try have hG4 := (cHp hC4).2.2.2.1)) | (first | apply WL.nil | (refine WL.au (k := ?_))) | apply Z.tn | apply W.seq)
 obtain ⟨w2, rfl⟩ : ∃ x, x = w' := ⟨_, rfl⟩
 have hX3 : Ext wc w2 := extA
 have hw2 : w.heap.size <= w2.heap.size := Nat.le_trans (Below.size hxc) (Below.size hX3)
 repeat' (first | (show W _ _ (.region 3 _ _) _ _ _; apply W.regionI 13 [prLit 87 w2.heap.size, .is (.pointer (some ⟨gc, 0 + 1 + 1, none⟩)), .is (rowVal c.lat), prRow 3 enc3 87 w2.heap.size c.lat.2.2, prLit 89 w2.heap.size, .is (.pointer (some ⟨gc, 0 + 1 + 1 + 1 + 1 + 1 + 1, none⟩)), .is (rowVal c.gates), prRow 3 enc3 89 w2.heap.size c.gates.2.2, prLit 150 w2.heap.size, .is (.pointer (some ⟨gc, 0 + 1 + 1 + 1 + 1 + 1 + 1 + 1, none⟩)), .is (rowVal c.syms), prRow 3 encY 150 w2.heap.size c.syms.2.2, .is (.pointer (some ⟨gb, 0 + 2, none⟩))] tMix; kernel_rfl; exact rfl; kernel_rfl; kernel_rfl; exact rfl; exact rfl) | apply OBL.nil | (show OBL _ _ _ _ _ _ 0 _; apply OBL.cons (ds := []); (iterate 3 exact rfl); kernel_rfl; intro w8 hw8 rest8) | (show OBL _ _ _ _ _ _ 1 _; apply OBL.cons (ds := []); (iterate 3 exact rfl); kernel_rfl; intro w8 hw8 rest8) | (show OBL _ _ _ _ _ _ 2 _; apply OBL.cons (ds := [1]); (iterate 3 exact rfl); kernel_rfl; intro w8 hw8 rest8) | (show OBL _ _ _ _ _ _ 3 _; apply OBL.cons (ds := [0, 2]); (iterate 3 exact rfl); kernel_rfl; intro w8 hw8 rest8) | (show OBL _ _ _ _ _ _ 4 _; apply OBL.cons (ds := []); (iterate 3 exact rfl); kernel_rfl; intro w8 hw8 rest8) | (show OBL _ _ _ _ _ _ 5 _; apply OBL.cons (ds := []); (iterate 3 exact rfl); kernel_rfl; intro w8 hw8 rest8) | (show OBL _ _ _ _ _ _ 6 _; apply OBL.cons (ds := [5]); (iterate 3 exact rfl); kernel_rfl; intro w8 hw8 rest8) | (show OBL _ _ _ _ _ _ 7 _; apply OBL.cons (ds := [4, 6, 3]); (iterate 3 exact rfl); kernel_rfl; intro w8 hw8 rest8) | (show OBL _ _ _ _ _ _ 8 _; apply OBL.cons (ds := []); (iterate 3 exact rfl); kernel_rfl; intro w8 hw8 rest8) | (show OBL _ _ _ _ _ _ 9 _; apply OBL.cons (ds := []); (iterate 3 exact rfl); kernel_rfl; intro w8 hw8 rest8) | (show OBL _ _ _ _ _ _ 10 _; apply OBL.cons (ds := [9]); (iterate 3 exact rfl); kernel_rfl; intro w8 hw8 rest8) | (show OBL _ _ _ _ _ _ 11 _; apply OBL.cons (ds := [8, 10, 7]); (iterate 3 exact rfl); kernel_rfl; intro w8 hw8 rest8) | (show OBL _ _ _ _ _ _ 12 _; apply OBL.cons (ds := [0, 1, 2, 3]); (iterate 3 exact rfl); kernel_rfl; intro w8 hw8 rest8) | (first | apply NO.nil | (apply NO.is; exact rfl; exact rfl) | (apply NO.ex; exact rfl; exact rfl; (first | (rintro _ ⟨gl, rfl, hlb, hlge⟩) | (rintro _ ⟨ar, cr, rfl, hOr⟩)))) | (intro w8 hw8; show NF _ _ _ _ _ _ _ _ _) | (first | (apply NF.nilT; intro hap; replace hS := Sep.news [prowZ 3 encY 150 w.heap.size ar3_11 cr3_11 c.syms.2.2, prowZ 3 enc3 89 w.heap.size ar3_7 cr3_7 c.gates.2.2, prowZ 3 enc3 87 w.heap.size ar3_3 cr3_3 c.lat.2.2] hS hw8 (by rintro q hq; simp only [List.mem_cons, List.not_mem_nil, or_false] at hq; rcases hq with rfl | rfl | rfl <;> exact prowZ_new (by assumption) hw2) (apartS hap) hw2; simp only [List.cons_append, List.nil_append] at hS; (try simp only [List.set_cons_zero, List.set_cons_succ] at hS); (try have hD0 := (cHp hC0).1); (try have hE0 := (cHp hC0).2.1); (try have hF0 := (cHp hC0).2.2.1); (try have hG0 := (cHp hC0).2.2.2.1); (try have hD1 := (cHp hC1).1); (try have hE1 := (cHp hC1).2.1); (try have hF1 := (cHp hC1).2.2.1); (try have hG1 := (cHp hC1).2.2.2.1); (try have hD4 := (cHp hC4).1); (try have hE4 := (cHp hC4).2.1); (try have hF4 := (cHp hC4).2.2.1); (try have hG4 := (cHp hC4).2.2.2.1)) | (apply NF.is; exact rfl; exact rfl)) | (show NF _ _ _ _ _ _ (0 :: _) _ _; apply NF.ex; exact rfl; exact rfl; rintro _ ⟨gl3_0, rfl, hlb3_0, hlge3_0⟩) | (show NF _ _ _ _ _ _ (3 :: _) _ _; apply NF.ex; exact rfl; exact rfl; rintro _ ⟨ar3_3, cr3_3, rfl, hOr3_3⟩) | (show NF _ _ _ _ _ _ (4 :: _) _ _; apply NF.ex; exact rfl; exact rfl; rintro _ ⟨gl3_4, rfl, hlb3_4, hlge3_4⟩) | (show NF _ _ _ _ _ _ (7 :: _) _ _; apply NF.ex; exact rfl; exact rfl; rintro _ ⟨ar3_7, cr3_7, rfl, hOr3_7⟩) | (show NF _ _ _ _ _ _ (8 :: _) _ _; apply NF.ex; exact rfl; exact rfl; rintro _ ⟨gl3_8, rfl, hlb3_8, hlge3_8⟩) | (show NF _ _ _ _ _ _ (11 :: _) _ _; apply NF.ex; exact rfl; exact rfl; rintro _ ⟨ar3_11, cr3_11, rfl, hOr3_11⟩) | (first | (apply Z.invIs; exact extA) | (apply Z.invLit; exact extA; assumption; first | omega | (refine Nat.le_trans ?_ (by assumption); exact Below.size extA)) | (apply Z.invRow; exact extA; assumption; assumption)) | (apply WL.lit tOk; (iterate 6 exact rfl); kernel_rfl; exact rfl; intro gb w' hb hge hc hx) | (apply WL.append0 tOk enc3_ok; (iterate 10 exact rfl); assumption; assumption; exact extA; assumption; exact extA; exact rfl; assumption; omega; intro a' cap' w' hO hx hf0) | (apply WL.append0 tOk encY_ok; (iterate 10 exact rfl); assumption; assumption; exact extA; assumption; exact extA; exact rfl; assumption; omega; intro a' cap' w' hO hx hf0) | (apply WL.storeF (w0 := wc) tOk; (iterate 4 exact rfl); assumption; exact extA; (iterate 4 exact rfl); exact extA; ((focus (apply Nat.le_trans; rotate_left; assumption; exact Below.size extA))); intro w' hb hX' hU; replace hS := Sep.uCl (i := 7) rfl hU hb hS extA (by (exact Below.size extA)); (try simp only [List.set_cons_zero, List.set_cons_succ] at hS); (try have hD0 := (cHp hC0).1); (try have hE0 := (cHp hC0).2.1); (try have hF0 := (cHp hC0).2.2.1); (try have hG0 := (cHp hC0).2.2.2.1); (try have hD1 := (cHp hC1).1); (try have hE1 := (cHp hC1).2.1); (try have hF1 := (cHp hC1).2.2.1); (try have hG1 := (cHp hC1).2.2.2.1); (try have hD4 := (cHp hC4).1); (try have hE4 := (cHp hC4).2.1); (try have hF4 := (cHp hC4).2.2.1); (try have hG4 := (cHp hC4).2.2.2.1)) | (first | apply WL.nil | (refine WL.au (k := ?_))) | apply Z.tn | (first | apply W.seq | apply W.region))
 obtain ⟨d, hd⟩ : ∃ d : Circ, d = ⟨c.max, (ar2_3, cr2_3, c.ins.2.2), (ar3_3, cr3_3, c.lat.2.2), (ar2_7, cr2_7, c.outs.2.2), (ar2_11, cr2_11, c.bads.2.2), (ar2_15, cr2_15, c.cons.2.2), (ar3_7, cr3_7, c.gates.2.2), (ar3_11, cr3_11, c.syms.2.2), c.com⟩ := ⟨_, rfl⟩
 have hS' : Lt.Sep w.heap.size w' (d.ps w.heap.size ++ [pcell gb d.vals.toArray 27, pcell g2 (Value.cells (.agg #[.int .i64 0, .slice none 0 0, .slice none 0 0, .slice none 0 0, .slice none 0 0, .slice none 0 0, .slice none 0 0, .slice none 0 0, .string ⟨#[]⟩])) 27]) := by rw [hd]; exact hS
 have hcap : CapC d := by
  rw [hd]
  exact ⟨⟨hOr2_3.capLe, hOr2_3.nCp⟩, ⟨hOr3_3.capLe, hOr3_3.nCp⟩, ⟨hOr2_7.capLe, hOr2_7.nCp⟩, ⟨hOr2_11.capLe, hOr2_11.nCp⟩, ⟨hOr2_15.capLe, hOr2_15.nCp⟩, ⟨hOr3_7.capLe, hOr3_7.nCp⟩, ⟨hOr3_11.capLe, hOr3_11.nCp⟩⟩
 have hdt : d.t = c.t := by rw [hd]
 have hcd : Cells w' gb 0 d.vals := cHp (hS'.cell (i := 7) rfl)
 have hc8 := hS'.cell (i := 8) rfl
 clear hd
 obtain ⟨w3, rfl⟩ : ∃ x, x = w' := ⟨_, rfl⟩
 repeat' (first | (apply WL.storeB (w0 := wc) tOk; (iterate 4 exact rfl); assumption; exact extA; (iterate 3 exact rfl); exact extA; assumption; intro w' hb hc hX' hU; have hcc := hc; obtain ⟨h1, h2, _⟩ := hc) | (first | apply WL.nil | (refine WL.au (k := ?_))) | apply Z.tn | apply W.ret)
 exact Z.bodyC tOk Try.results11 rfl rfl rfl rfl (cHp hb) fun m => ⟨hxc.trans (Ext.at extA m), d, rfl, hdt, ⟨((hS'.uCl (i := 8) rfl hU hb (Ext.refl _) (Nat.le_trans (Below.size hxc) (Below.size extA))).takeN 7).ext ((Ext.refl _).at m), hcap⟩⟩
end Go.Proofs.Yteidpnpbfagaeaa
namespace Go.Lt
open Go.RowKit

theorem Row.keep {α : Type} {s : Nat} {enc : α -> List Value} {w w' : World} {a : Option Addr} {l : List α} (h : Row s enc w a l) (hb : ∀ k, blk a = some k -> w'.heap[k]? = w.heap[k]?) : Row s enc w' a l := by
 refine ⟨h.len, fun i x hx => ?_⟩
 obtain ⟨b, off, h1, h2⟩ := h.elem i x hx
 refine ⟨b, off, h1, ?_⟩
 have e := hb b (by rw [h1]; rfl)
 have key : ∀ (L : List Value) (o : Nat), Cells w b o L -> Cells w' b o L := by
  intro L
  induction L with
  | nil => intro o _; trivial
  | cons u r ih =>
   intro o hc
   refine ⟨?_, ih _ hc.2⟩
   have h3 := hc.1
   simp only [World.cell?] at h3 ⊢
   rw [e]; exact h3
 exact key _ _ h2
def pfro (k : Nat) (v : Option Obj) : Piece := ⟨some k, fun w => w.heap[k]? = v, fun h hb => by rw [hb k rfl]; exact h⟩
def frz (b : Nat) (w : World) : List Piece := (List.range (w.heap.size - b)).map fun i => pfro (b + i) (w.heap[b + i]?)
theorem frz_get {b : Nat} {w : World} {i : Nat} {p : Piece} (h : (frz b w)[i]? = some p) : b + i < w.heap.size /\ p = pfro (b + i) (w.heap[b + i]?) := by
 unfold frz at h
 rw [List.getElem?_map] at h
 obtain ⟨j, hj, rfl⟩ := Option.map_eq_some_iff.1 h
 obtain ⟨h1, h2⟩ := List.getElem?_eq_some_iff.1 hj
 simp at h1 h2
 subst h2
 exact ⟨by omega, rfl⟩
theorem get_app {α : Type} {l r : List α} {i : Nat} {x : α} (h : (l ++ r)[i]? = some x) : l[i]? = some x ∨ (l.length <= i /\ r[i - l.length]? = some x) := by
 by_cases hi : i < l.length
 ·rw [List.getElem?_append_left hi] at h; exact .inl h
 ·rw [List.getElem?_append_right (by omega)] at h; exact .inr ⟨by omega, h⟩
theorem Sep.freeze {B : Nat} {w1 w2 : World} {ps : List Piece} (hS : Sep B w1 ps) (hx : Ext w1 w2) (hB : B <= w1.heap.size) : Sep B w2 (ps ++ frz w1.heap.size w2) := by
 have hS' := hS.ext hx
 refine ⟨fun i p h => ?_, fun i j p q h1 h2 hne => ?_⟩
 ·rcases get_app h with h | ⟨_, h⟩
  ·exact hS'.holds i p h
  ·obtain ⟨h1, rfl⟩ := frz_get h
   exact ⟨rfl, fun k hk => by cases hk; exact ⟨by omega, h1⟩⟩
 ·have old : ∀ (i : Nat) (p : Piece) (k : Nat), ps[i]? = some p -> p.b = some k -> k < w1.heap.size := fun i p k h hk => ((hS.holds i p h).2 k hk).2
  rcases get_app h1 with h1 | ⟨l1, h1⟩
  ·rcases get_app h2 with h2 | ⟨l2, h2⟩
   ·exact hS.apart i j p q h1 h2 hne
   ·obtain ⟨_, rfl⟩ := frz_get h2
    cases hb : p.b with
    | none => exact .inl rfl
    | some k => exact .inr fun he => by have e2 := Option.some.inj he; have := old i p k h1 hb; omega
  ·obtain ⟨_, rfl⟩ := frz_get h1
   rcases get_app h2 with h2 | ⟨l2, h2⟩
   ·exact .inr fun he => by have := old j q _ h2 he.symm; omega
   ·obtain ⟨_, rfl⟩ := frz_get h2
    exact .inr fun he => by have e2 := Option.some.inj he; omega
theorem OwnRR.keep {α : Type} {s : Nat} {enc : α -> List Value} {el elO B : Nat} {w w' : World} {a : Option Addr} {cap : Nat} {rs : List (RowV α)} (h : OwnRR s enc el elO B w a cap rs) (hb : ∀ k, B <= k -> k < w.heap.size -> w'.heap[k]? = w.heap[k]?) : OwnRR s enc el elO B w' a cap rs :=
 ⟨h.outer.keep fun k hk => hb k (h.outer.blk_lt k hk).1 (h.outer.blk_lt k hk).2, fun i r hr => (h.inner i r hr).keep fun k hk => hb k ((h.inner i r hr).blk_lt k hk).1 ((h.inner i r hr).blk_lt k hk).2, h.apartO, h.apart⟩
end Go.Lt
namespace Go.Proofs.Yteidpnpbfagaeaa
open Go Go.Lt Go.RowKit

theorem Row.blk_lt {α : Type} {s : Nat} {enc : α -> List Value} {w : World} {a : Option Addr} {l : List α} (hE : Enc s enc) (h : Row s enc w a l) (hl : l ≠ []) : ∃ k, blk a = some k /\ k < w.heap.size := by
 cases l with
 | nil => exact absurd rfl hl
 | cons x r =>
  obtain ⟨b, off, h1, h2⟩ := h.elem 0 x rfl
  refine ⟨b, by rw [h1]; rfl, ?_⟩
  have hp := hE.pos
  have hxl := hE.len x
  cases hx : enc x with
  | nil => rw [hx] at hxl; simp at hxl; omega
  | cons u q => rw [hx] at h2; exact World.block_lt_of_cell? _ _ h2.1
theorem Row.but {α : Type} {s : Nat} {enc : α -> List Value} {w w' : World} {a : Option Addr} {l : List α} {b : Option Nat} (hE : Enc s enc) (h : Row s enc w a l) (hb : But w b w') (hne : l ≠ [] -> ∀ k, blk a = some k -> b ≠ some k) : Row s enc w' a l := by
 by_cases hl : l = []
 ·subst hl; exact Row.nil s enc w' a
 ·obtain ⟨k, hk, hlt⟩ := Row.blk_lt hE h hl
  exact h.keep fun q hq => by rw [hk] at hq; cases hq; exact hb.block k hlt (fun h => hne hl k hk h.symm)
structure AllI (B bk : Nat) (w : World) (a : Option Addr) (cp : Nat) (rs : List (RowV Int)) : Prop where
 own : Own 1 encRow 22 B w a cp rs
 rows : ∀ r ∈ rs, Row 1 encI w r.1 r.2.2
 ne : ∀ r ∈ rs, r.2.2 ≠ [] -> ∀ k, blk r.1 = some k -> blk a ≠ some k /\ k ≠ bk
theorem AllI.but {B bk cp : Nat} {w w' : World} {a : Option Addr} {rs : List (RowV Int)} (h : AllI B bk w a cp rs) (hb : But w (some bk) w') (hB : bk < B) : AllI B bk w' a cp rs :=
 ⟨h.own.keep fun k hk => hb.block k (h.own.blk_lt k hk).2 (fun he => by have h1 := (h.own.blk_lt k hk).1; have h2 := Option.some.inj he; omega), fun r hr => Row.but eIk (h.rows r hr) hb fun hl k hk he => (h.ne r hr hl k hk).2 (by cases he; rfl), h.ne⟩
theorem AllI.push {B bk cp cp' gb : Nat} {w w1 w2 : World} {a a' : Option Addr} {rs : List (RowV Int)} {xs : List Int} (h : AllI B bk w a cp rs) (hx : Ext w w1) (hc : Row 1 encI w1 (some ⟨gb, 0, none⟩) xs) (hge : w.heap.size <= gb) (hgl : gb < w1.heap.size) (hB : bk < w.heap.size)
  (hO : Own 1 encRow 22 B w2 a' cp' (rs ++ [(some ⟨gb, 0, none⟩, xs.length, xs)])) (hU : Upd B a w1 w2) (hF : blk a' = blk a ∨ ∃ k, blk a' = some k /\ w1.heap.size <= k) : AllI B bk w2 a' cp' (rs ++ [(some ⟨gb, 0, none⟩, xs.length, xs)]) := by
 have hgna : blk a ≠ some gb := fun he => by have := (h.own.blk_lt gb he).2; omega
 have hnew : ∀ k, k < w1.heap.size -> blk a ≠ some k -> blk a' ≠ some k := fun k hk hne => by
  rcases hF with hF | ⟨q, hq, hql⟩
  ·rw [hF]; exact hne
  ·rw [hq]; intro he; cases he; omega
 refine ⟨hO, fun r hr => ?_, fun r hr hl k hk => ?_⟩
 ·rcases List.mem_append.1 hr with hr | hr
  ·exact Row.but eIk ((h.rows r hr).ext hx) hU.grown fun hl k hk he => (h.ne r hr hl k hk).1 he
  ·obtain rfl := List.mem_singleton.1 hr
   exact Row.but eIk hc hU.grown fun hl k hk he => by cases hk; exact hgna he
 ·rcases List.mem_append.1 hr with hr | hr
  ·obtain ⟨q, hq, hlt⟩ := Row.blk_lt eIk (h.rows r hr) hl
   rw [hq] at hk
   have hqk := Option.some.inj hk
   subst hqk
   have := h.ne r hr hl q hq
   exact ⟨hnew q (Nat.lt_of_lt_of_le hlt hx.size) this.1, this.2⟩
  ·obtain rfl := List.mem_singleton.1 hr
   have hk' : gb = k := Option.some.inj hk
   subst hk'
   exact ⟨hnew gb hgl hgna, by omega⟩
end Go.Proofs.Yteidpnpbfagaeaa
namespace Go.Lt
open Go.RowKit

structure KeyF {κ : Type} (P : Program) (kt : TypeId) (kv : κ -> Value) : Prop where
 find : ∀ {ν : Type} (vv : ν -> Value) (a : κ) (w : World) (es : List MapEntry) (L : List (κ × ν)), es.map (fun e => (e.key, e.val)) = L.map (fun x => (kv x.1, vv x.2)) -> (Instr.findKey kt (kv a) es).run P w = .ok (mfind vv a L 0) w
 chk : ∀ empty a w, (Instr.checkKey empty 10000 kt (kv a)).run P w = .ok () w
 same : ∀ a, Instr.sameBits 10000 (kv a) (kv a) = true
theorem findNow_of {κ ν : Type} {d : TypeDesc} {kv : κ -> Value} {vv : ν -> Value} (h : ∀ a b, Instr.sameNow d (kv a) (kv b) = some (dec (a = b))) (a : κ) : ∀ (es : List MapEntry) (L : List (κ × ν)) (i : Nat), es.map (fun e => (e.key, e.val)) = L.map (fun x => (kv x.1, vv x.2)) -> Instr.findNow d (kv a) es i = some (mfind vv a L i)
 | [], [], i, _ => rfl
 | [], x :: r, i, h' => by simp at h'
 | e :: es, [], i, h' => by simp at h'
 | e :: es, x :: r, i, h' => by
  simp only [List.map_cons, List.cons.injEq, Prod.mk.injEq] at h'
  obtain ⟨⟨h1, h2⟩, h3⟩ := h'
  have ih := findNow_of (vv := vv) h a es r (i + 1) h3
  unfold Instr.findNow mfind
  rw [h1, h a x.1]
  cases dec (a = x.1)
  ·exact ih
  ·simp only [cond_true, h2]
theorem keyF_of {κ : Type} {P : Program} {kt : TypeId} {d : TypeDesc} {kv : κ -> Value} (hu : P.underlying kt = some d) (h : ∀ a b, Instr.sameNow d (kv a) (kv b) = some (dec (a = b))) (hc : ∀ empty a w, (Instr.checkKey empty 10000 kt (kv a)).run P w = .ok () w) (hs : ∀ a, Instr.sameBits 10000 (kv a) (kv a) = true) : KeyF P kt kv :=
 ⟨fun vv a w es L he => by
  have hu' : (underlying kt).run P w = .ok d w := by simp [underlying, program, Sem.run, hu]
  simp only [Instr.findKey, Sem.run_bind, hu', Result.andThen_ok, findNow_of h a es L 0 he]
  rfl, hc, hs⟩
theorem keyF_int {P : Program} {kt : TypeId} {k : IntKind} (hu : P.underlying kt = some (.int k)) : KeyF P kt (fun n : Int => .int k n) := by
 refine keyF_of hu (fun a b => ?_) (fun em a w => ?_) (fun a => ?_)
 ·simp only [Instr.sameNow, if_true]
  rw [dec_decide]; rfl
 ·have hu' : (underlying kt).run P w = .ok (.int k) w := by simp [underlying, program, Sem.run, hu]
  rw [show (10000 : Nat) = 9999 + 1 from rfl, Instr.checkKey]
  simp only [Sem.run_bind, hu', Result.andThen_ok]
  rfl
 ·simp [Instr.sameBits]
noncomputable def mset {κ ν : Type} (a : κ) (v : ν) : List (κ × ν) -> List (κ × ν)
 | [] => []
 | x :: r => bif dec (a = x.1) then (x.1, v) :: r else x :: mset a v r

section rules
variable {P : Program} {N : Nat} {e : Env} {w : World} {Q : Exit -> Act -> World -> Prop} {ops : List Oper} {l : List Oper} {T : Tab} {C : World -> Prop}
 {d : Nat} {tt t : TypeId} {ps : String} {af : Array Edge} {g : Option (Nat × Bool)} {x y z : Operand} {ti ei : TI} {κ ν : Type} {kt et : TypeId} {kv : κ -> Value} {vv : ν -> Value} {L : List (κ × ν)} {a : κ} {v : ν} {r : Nat}
theorem run_lookupF (hT : OkTab P T) (hk : KeyF P kt kv) (ht : tget T t = some ti) (htd : ti.desc = .map kt et) (he : tget T et = some ei) (hM : MapIs kv vv w r L) (b : Bool) :
  (Instr.lookup t (.map (some r)) (kv a) b).run P w = .ok (bif b then .tuple #[((mget a L).map vv).getD ei.zero, .bool (mget a L).isSome] else ((mget a L).map vv).getD ei.zero) w := by
 obtain ⟨es, clock, h1, h2⟩ := hM
 have hu := rUn (hT.at ht) w; rw [htd] at hu
 have hz := run_zeroValue' (hT.at he) w
 have hf := hk.find vv a w es.toList L h2
 have hg : (getObj r).run P w = .ok (.map es clock) w := by simp [getObj, Sem.run, h1]
 have hmg := mfind_get vv a L 0
 simp only [Instr.lookup, Sem.run_bind, hu, Result.andThen_ok, hg, Sem.run_pure, hk.chk, hf]
 cases hm : mfind vv a L 0 with
 | none =>
  rw [hm] at hmg
  cases hg2 : mget a L with
  | none => cases b <;> simp [hz]
  | some q => rw [hg2] at hmg; simp at hmg
 | some q =>
  rw [hm] at hmg
  cases hg2 : mget a L with
  | none => rw [hg2] at hmg; simp at hmg
  | some u =>
   rw [hg2] at hmg
   simp only [Option.map_some, Option.some.injEq] at hmg
   obtain ⟨qi, qv⟩ := q
   simp only at hmg
   subst hmg
   cases b <;> simp
theorem ylookupF [Cls C w] (hT : OkTab P T) (hk : KeyF P kt kv) (hx : ev e x = some (.map (some r))) (hy : ev e y = some (kv a)) (ht : tget T t = some ti) (htd : ti.desc = .map kt et) (he : tget T et = some ei) (hM : MapIs kv vv w r L) (b : Bool) {dd : Option Tmp} :
  YieldsIn P e C ⟨dd, .lookup t x y b, tt, ps, af, g⟩ (bif b then .tuple #[((mget a L).map vv).getD ei.zero, .bool (mget a L).isSome] else ((mget a L).map vv).getD ei.zero) := by
 intro ρ hρ w' hw'
 have hr := run_lookupF (P := P) (a := a) hT hk ht htd he (hM.ext (Cls.keeps (C := C) w' hw')) b
 simp [execOp, hρ _ _ hx, hρ _ _ hy, hr]
theorem WL.lookSomeF {v : ν} (hT : OkTab P T) (hk : KeyF P kt kv) (hg : gate ops e g = some true) (hd : Nat.blt d N = true) (hx : ev e x = some (.map (some r))) (hy : ev e y = some (kv a)) (ht : tget T t = some ti) (htd : ti.desc = .map kt et) (he : tget T et = some ei) (hM : MapIs kv vv w r L) (hm : mget a L = some v)
  (k : WL P N ops.toArray l ((d, .tuple #[vv v, .bool true]) :: e) w Q) : WL P N ops.toArray (⟨some d, .lookup t x y true, tt, ps, af, g⟩ :: l) e w Q :=
 WL.step hg hd (ylookupF (C := Same w) hT hk hx hy ht htd he hM true) (by rw [hm]; exact k)
theorem WL.lookNoneF (hT : OkTab P T) (hk : KeyF P kt kv) (hg : gate ops e g = some true) (hd : Nat.blt d N = true) (hx : ev e x = some (.map (some r))) (hy : ev e y = some (kv a)) (ht : tget T t = some ti) (htd : ti.desc = .map kt et) (he : tget T et = some ei) (hM : MapIs kv vv w r L) (hm : mget a L = none)
  (k : WL P N ops.toArray l ((d, .tuple #[ei.zero, .bool false]) :: e) w Q) : WL P N ops.toArray (⟨some d, .lookup t x y true, tt, ps, af, g⟩ :: l) e w Q :=
 WL.step hg hd (ylookupF (C := Same w) hT hk hx hy ht htd he hM true) (by rw [hm]; exact k)
theorem WL.look1F (hT : OkTab P T) (hk : KeyF P kt kv) (hg : gate ops e g = some true) (hd : Nat.blt d N = true) (hx : ev e x = some (.map (some r))) (hy : ev e y = some (kv a)) (ht : tget T t = some ti) (htd : ti.desc = .map kt et) (he : tget T et = some ei) (hM : MapIs kv vv w r L)
  (k : WL P N ops.toArray l ((d, ((mget a L).map vv).getD ei.zero) :: e) w Q) : WL P N ops.toArray (⟨some d, .lookup t x y false, tt, ps, af, g⟩ :: l) e w Q :=
 WL.step hg hd (ylookupF (C := Same w) hT hk hx hy ht htd he hM false) k
theorem QL.look1F [Cls C w] (hT : OkTab P T) (hk : KeyF P kt kv) (hg : gate ops e g = some true) (hd : Nat.blt d N = true) (hx : ev e x = some (.map (some r))) (hy : ev e y = some (kv a)) (ht : tget T t = some ti) (htd : ti.desc = .map kt et) (he : tget T et = some ei) (hM : MapIs kv vv w r L)
  (k : QL P N C ops.toArray l ((d, ((mget a L).map vv).getD ei.zero) :: e) Q) : QL P N C ops.toArray (⟨some d, .lookup t x y false, tt, ps, af, g⟩ :: l) e Q :=
 QL.step hg hd (ylookupF hT hk hx hy ht htd he hM false) k
theorem mfind_mset {κ ν : Type} {kv : κ -> Value} {vv : ν -> Value} (a : κ) (v : ν) : ∀ (L : List (κ × ν)) (i j : Nat) (q : Value), mfind vv a L i = some (j, q) -> i <= j /\ j - i < L.length /\ (L.map (fun x => (kv x.1, vv x.2))).modify (j - i) (fun p => (kv a, vv v)) = (mset a v L).map (fun x => (kv x.1, vv x.2)) /\ (L.map (fun x => kv x.1))[j - i]? = some (kv a)
 | [], i, j, q, h => by cases h
 | x :: r, i, j, q, h => by
  unfold mfind at h
  by_cases hax : a = x.1
  ·rw [dTt hax] at h
   simp only [cond_true, Option.some.injEq, Prod.mk.injEq] at h
   obtain ⟨rfl, _⟩ := h
   refine ⟨Nat.le_refl _, by simp, ?_, by simp [hax]⟩
   rw [Nat.sub_self]
   unfold mset
   rw [dTt hax]
   simp [hax]
  ·rw [dFf hax] at h
   simp only [cond_false] at h
   obtain ⟨h1, h2, h3, h4⟩ := mfind_mset (kv := kv) a v r (i + 1) j q h
   have e : j - i = (j - (i + 1)) + 1 := by omega
   refine ⟨by omega, by simp only [List.length_cons]; omega, ?_, ?_⟩
   ·rw [e]
    unfold mset
    rw [dFf hax]
    simp only [cond_false, List.map_cons, List.modify_succ_cons]
    rw [h3]
   ·rw [e]; simpa using h4
theorem WL.mapPutF {B : Nat} {w0 : World} (hT : OkTab P T) (hk : KeyF P kt kv) (hg : gate ops e g = some true) (hx : ev e x = some (.map (some r))) (hy : ev e y = some (kv a)) (hz : ev e z = some (vv v)) (ht : tget T t = some ti) (htd : ti.desc = .map kt et) (hM : MapIs kv vv w r L) (hX : Ext w0 w) (hB : w0.heap.size <= r)
  (k : ∀ w', MapIs kv vv w' r (match mget a L with | none => L ++ [(a, v)] | some _ => mset a v L) -> Ext w0 w' -> Upd r (some ⟨r, 0, none⟩) w w' -> WL P N ops.toArray l e w' Q) :
  WL P N ops.toArray (⟨none, .mapUpdate t x y z, tt, ps, af, g⟩ :: l) e w Q := by
 obtain ⟨es, clock, h1, h2⟩ := hM
 have hlt := heap_lt h1
 have hmg := mfind_get vv a L 0
 cases hm : mfind vv a L 0 with
 | none =>
  have hnew : mget a L = none := by
   cases hg2 : mget a L with
   | none => rfl
   | some u => rw [hm, hg2] at hmg; simp at hmg
  rw [hnew] at k
  refine WL.effN (w' := fun m => { at' w m with heap := w.heap.setIfInBounds r (.map (es.push { key := kv a, val := vv v, born := clock }) (clock + 1)) }) hg ?_ (fun m => ?_)
  ·intro ρ hρ m
   have hu := rUn (hT.at ht) (at' w m); rw [htd] at hu
   have hf := hk.find vv a (at' w m) es.toList L h2
   have hg : (getObj r).run P (at' w m) = .ok (.map es clock) (at' w m) := by simp [getObj, Sem.run, h1]
   rw [hm] at hf
   have hset : (setObj r (.map (es.push { key := kv a, val := vv v, born := clock }) (clock + 1))).run P (at' w m) = .ok () { at' w m with heap := w.heap.setIfInBounds r (.map (es.push { key := kv a, val := vv v, born := clock }) (clock + 1)) } := by simp [setObj, Sem.run, h1]
   have hrun : (Instr.mapUpdate t (.map (some r)) (kv a) (vv v)).run P (at' w m) = .ok () { at' w m with heap := w.heap.setIfInBounds r (.map (es.push { key := kv a, val := vv v, born := clock }) (clock + 1)) } := by
    simp only [Instr.mapUpdate, Sem.run_bind, hu, Result.andThen_ok, hg, hk.chk, hf, hset]
   simp [execOp, hρ _ _ hx, hρ _ _ hy, hρ _ _ hz, hrun]
  ·have hU : Upd r (some ⟨r, 0, none⟩) w { at' w m with heap := w.heap.setIfInBounds r (.map (es.push { key := kv a, val := vv v, born := clock }) (clock + 1)) } :=
    ⟨⟨rfl, rfl, rfl, by simp, fun q hq hne => by
     simp only [blk, Option.map_some, ne_eq, Option.some.injEq] at hne
     simp only [Array.getElem?_setIfInBounds]
     rw [if_neg (fun h => hne h.symm)]⟩, fun q hq => by simp only [blk, Option.map_some, Option.some.injEq] at hq; omega⟩
   refine k _ ⟨_, _, by simp [Array.getElem?_setIfInBounds, hlt]; exact ⟨rfl, rfl⟩, ?_⟩ (hU.ext hX hB) hU
   simp [h2]
 | some q =>
  obtain ⟨j, qv⟩ := q
  obtain ⟨u, hu2⟩ : ∃ u, mget a L = some u := by
   cases hg2 : mget a L with
   | none => rw [hm, hg2] at hmg; simp at hmg
   | some u => exact ⟨u, rfl⟩
  rw [hu2] at k
  obtain ⟨m1, m2, m3, m4⟩ := mfind_mset (kv := kv) a v L 0 j qv hm
  rw [Nat.sub_zero] at m2 m3 m4
  have hlen : es.toList.length = L.length := by have := congrArg List.length h2; simpa using this
  have hkey : (((es[j]?).map (·.key)).getD (kv a)) = kv a := by
   have h3 := congrArg (fun l => (l.map Prod.fst)[j]?) h2
   simp only [List.map_map] at h3
   have e1 : (L.map (Prod.fst ∘ fun x => (kv x.1, vv x.2)))[j]? = some (kv a) := m4
   rw [e1] at h3
   rw [List.getElem?_map] at h3
   obtain ⟨en, hen, hek⟩ := Option.map_eq_some_iff.1 h3
   have : es[j]? = some en := by simpa using hen
   rw [this]; exact hek
  refine WL.effN (w' := fun m => { at' w m with heap := w.heap.setIfInBounds r (.map (es.modify j fun e => { e with key := kv a, val := vv v }) clock) }) hg ?_ (fun m => ?_)
  ·intro ρ hρ m
   have hu := rUn (hT.at ht) (at' w m); rw [htd] at hu
   have hf := hk.find vv a (at' w m) es.toList L h2
   have hg : (getObj r).run P (at' w m) = .ok (.map es clock) (at' w m) := by simp [getObj, Sem.run, h1]
   rw [hm] at hf
   have hset : (setObj r (.map (es.modify j fun e => { e with key := kv a, val := vv v }) clock)).run P (at' w m) = .ok () { at' w m with heap := w.heap.setIfInBounds r (.map (es.modify j fun e => { e with key := kv a, val := vv v }) clock) } := by simp [setObj, Sem.run, h1]
   have hstay : (Instr.keyThatStays (kv a) (kv a)).run P (at' w m) = .ok (kv a) (at' w m) := by unfold Instr.keyThatStays; rw [hk.same a]; rfl
   have hrun : (Instr.mapUpdate t (.map (some r)) (kv a) (vv v)).run P (at' w m) = .ok () { at' w m with heap := w.heap.setIfInBounds r (.map (es.modify j fun e => { e with key := kv a, val := vv v }) clock) } := by
    simp only [Instr.mapUpdate, Sem.run_bind, hu, Result.andThen_ok, hg, hk.chk, hf, hkey, hstay, hset]
   simp [execOp, hρ _ _ hx, hρ _ _ hy, hρ _ _ hz, hrun]
  ·have hU : Upd r (some ⟨r, 0, none⟩) w { at' w m with heap := w.heap.setIfInBounds r (.map (es.modify j fun e => { e with key := kv a, val := vv v }) clock) } :=
    ⟨⟨rfl, rfl, rfl, by simp, fun q hq hne => by
     simp only [blk, Option.map_some, ne_eq, Option.some.injEq] at hne
     simp only [Array.getElem?_setIfInBounds]
     rw [if_neg (fun h => hne h.symm)]⟩, fun q hq => by simp only [blk, Option.map_some, Option.some.injEq] at hq; omega⟩
   refine k _ ⟨_, _, by simp [Array.getElem?_setIfInBounds, hlt]; exact ⟨rfl, rfl⟩, ?_⟩ (hU.ext hX hB) hU
   rw [<- m3, <- h2]
   apply List.ext_getElem?
   intro i
   simp only [Array.toList_modify, List.getElem?_map, List.getElem?_modify, Option.map_map]
   by_cases hij : j = i
   ·subst hij; simp [Function.comp_def]
   ·simp [hij, Function.comp_def]
end rules

section rules
variable {P : Program} {N : Nat} {e : Env} {w : World} {Q : Exit -> Act -> World -> Prop} {ops : List Oper} {l : List Oper} {T : Tab} {C : World -> Prop}
 {d : Nat} {tt t : TypeId} {ps : String} {af : Array Edge} {g : Option (Nat × Bool)} {x y z : Operand} {ti ei : TI} {κ ν : Type} {kt et : TypeId} {kv : κ -> Value} {vv : ν -> Value} {L : List (κ × ν)} {a : κ} {v : ν} {r : Nat}
abbrev keysL {κ ν : Type} (c : ν) (ks : List κ) : List (κ × ν) := ks.map fun k => (k, c)
theorem mget_keys {c : ν} : ∀ (ks : List κ) (a : κ), mget a (keysL c ks) = bif dec (a ∈ ks) then some c else none
 | [], a => by rw [dFf (by simp)]; rfl
 | x :: r, a => by
  show mget a ((x, c) :: keysL c r) = _
  unfold mget
  by_cases hax : a = x
  ·rw [dTt (show a = (x, c).1 from hax), dTt (by rw [hax]; simp)]; rfl
  ·rw [dFf (show ¬ a = (x, c).1 from hax), mget_keys r a]
   simp only [cond_false]
   rw [dCg (show a ∈ r ↔ a ∈ x :: r by simp [hax])]
theorem keysL_snoc {c : ν} (ks : List κ) (a : κ) : keysL c (ks ++ [a]) = keysL c ks ++ [(a, c)] := by simp
theorem WL.lookKeys {ks : List κ} (hT : OkTab P T) (hk : KeyF P kt kv) (hg : gate ops e g = some true) (hd : Nat.blt d N = true) (hx : ev e x = some (.map (some r))) (hy : ev e y = some (kv a)) (ht : tget T t = some ti) (htd : ti.desc = .map kt et) (he : tget T et = some ei) (hez : ei.zero = .bool false) (hM : MapIs kv (fun b : Bool => .bool b) w r (keysL true ks))
  (k : WL P N ops.toArray l ((d, .bool (dec (a ∈ ks))) :: e) w Q) : WL P N ops.toArray (⟨some d, .lookup t x y false, tt, ps, af, g⟩ :: l) e w Q := by
 refine WL.look1F hT hk hg hd hx hy ht htd he hM ?_
 rw [mget_keys, hez]
 by_cases h : a ∈ ks
 ·rw [dTt h] at k ⊢; exact k
 ·rw [dFf h] at k ⊢; exact k
theorem QL.lookKeys [Cls C w] {ks : List κ} (hT : OkTab P T) (hk : KeyF P kt kv) (hg : gate ops e g = some true) (hd : Nat.blt d N = true) (hx : ev e x = some (.map (some r))) (hy : ev e y = some (kv a)) (ht : tget T t = some ti) (htd : ti.desc = .map kt et) (he : tget T et = some ei) (hez : ei.zero = .bool false) (hM : MapIs kv (fun b : Bool => .bool b) w r (keysL true ks))
  (k : QL P N C ops.toArray l ((d, .bool (dec (a ∈ ks))) :: e) Q) : QL P N C ops.toArray (⟨some d, .lookup t x y false, tt, ps, af, g⟩ :: l) e Q := by
 refine QL.look1F hT hk hg hd hx hy ht htd he hM ?_
 rw [mget_keys, hez]
 by_cases h : a ∈ ks
 ·rw [dTt h] at k ⊢; exact k
 ·rw [dFf h] at k ⊢; exact k
end rules
end Go.Lt
namespace Go.Proofs.Yteidpnpbfagaeaa
open Go Go.Lt Go.RowKit

theorem keyI : KeyF Try.prog 3 (fun n : Int => .int .i64 n) := keyF_int (k := .i64) (tOk.at (t := 3) rfl).1
abbrev encK : Int -> Value := fun n => .int .i64 n
abbrev isB : Bool -> Value := fun b => .bool b

abbrev Once (gs : List G3) : Prop := ∀ (i j : Nat) (x y : G3), gs[i]? = some x -> gs[j]? = some y -> x.1 / 2 = y.1 / 2 -> i = j
def Bl (gs : List G3) (T : List Nat) (l : Int) : Prop := ∃ (j : Nat) (x : G3), gs[j]? = some x /\ j ∉ T /\ x.1 / 2 = l / 2
noncomputable def one (p : Prop) : Nat := bif dec p then 1 else 0
theorem one_yes {p : Prop} (h : p) : one p = 1 := by unfold one; rw [dTt h]; rfl
theorem one_no {p : Prop} (h : ¬ p) : one p = 0 := by unfold one; rw [dFf h]; rfl
theorem one_zero {p : Prop} : one p = 0 ↔ ¬ p := by
 by_cases h : p
 ·rw [one_yes h]; simp [h]
 ·rw [one_no h]; simp [h]
theorem one_le (p : Prop) : one p <= 1 := by
 by_cases h : p
 ·rw [one_yes h]; exact Nat.le_refl _
 ·rw [one_no h]; omega
noncomputable def lackG (gs : List G3) (T : List Nat) (g : G3) : Nat := one (Bl gs T g.2.1) + one (Bl gs T g.2.2)
theorem rdy_lack {gs : List G3} {T : List Nat} {i : Nat} {g : G3} (hg : gs[i]? = some g) : Rdy gs T i ↔ (i ∉ T /\ lackG gs T g = 0) := by
 have h0 : lackG gs T g = 0 ↔ (¬ Bl gs T g.2.1 /\ ¬ Bl gs T g.2.2) := by
  unfold lackG
  rw [Nat.add_eq_zero_iff, one_zero, one_zero]
 rw [h0]
 constructor
 ·rintro ⟨g', hg', h1, h2⟩
  rw [hg] at hg'; cases hg'
  exact ⟨h1, fun ⟨j, x, h3, h4, h5⟩ => (h2 j x h3 h4).1 h5, fun ⟨j, x, h3, h4, h5⟩ => (h2 j x h3 h4).2 h5⟩
 ·rintro ⟨h1, h2, h3⟩
  exact ⟨g, hg, h1, fun j x hx hj => ⟨fun he => h2 ⟨j, x, hx, hj, he⟩, fun he => h3 ⟨j, x, hx, hj, he⟩⟩⟩
noncomputable def hangs (g : G3) (y : G3) : Nat := one (y.1 / 2 = g.2.1 / 2) + one (y.1 / 2 = g.2.2 / 2)
theorem bl_push {gs : List G3} (ho : Once gs) {T : List Nat} {i : Nat} {y : G3} (hy : gs[i]? = some y) (hi : i ∉ T) (l : Int) : one (Bl gs T l) = one (Bl gs (T ++ [i]) l) + one (y.1 / 2 = l / 2) := by
 by_cases h : y.1 / 2 = l / 2
 ·rw [one_yes h, one_yes ⟨i, y, hy, hi, h⟩, one_no]
  rintro ⟨j, x, h1, h2, h3⟩
  exact h2 (List.mem_append_right _ (List.mem_singleton.2 (ho j i x y h1 hy (by omega))))
 ·rw [one_no h, Nat.add_zero]
  by_cases hb : Bl gs T l
  ·obtain ⟨j, x, h1, h2, h3⟩ := hb
   rw [one_yes ⟨j, x, h1, h2, h3⟩, one_yes]
   refine ⟨j, x, h1, fun hm => ?_, h3⟩
   rcases List.mem_append.1 hm with hm | hm
   ·exact h2 hm
   ·obtain rfl := List.mem_singleton.1 hm
    rw [hy] at h1; cases h1; exact h h3
  ·rw [one_no hb, one_no]
   rintro ⟨j, x, h1, h2, h3⟩
   exact hb ⟨j, x, h1, fun hm => h2 (List.mem_append_left _ hm), h3⟩
theorem lack_push {gs : List G3} (ho : Once gs) {T : List Nat} {i : Nat} {y : G3} (hy : gs[i]? = some y) (hi : i ∉ T) (g : G3) : lackG gs T g = lackG gs (T ++ [i]) g + hangs g y := by
 unfold lackG hangs
 rw [bl_push ho hy hi g.2.1, bl_push ho hy hi g.2.2]; omega
noncomputable def abv (gs : List G3) (y : G3) : Nat -> List Int
 | 0 => []
 | k + 1 => abv gs y k ++ (match gs[k]? with | some g => List.replicate (hangs g y) ((k : Nat) : Int) | none => [])
theorem abv_mem {gs : List G3} {y : G3} : ∀ {k : Nat} {x : Int}, x ∈ abv gs y k -> ∃ (j : Nat) (g : G3), x = (j : Int) /\ j < k /\ gs[j]? = some g /\ 0 < hangs g y
 | 0, x, h => by cases h
 | k + 1, x, h => by
  rw [abv] at h
  rcases List.mem_append.1 h with h | h
  ·obtain ⟨j, g, h1, h2, h3⟩ := abv_mem h
   exact ⟨j, g, h1, by omega, h3⟩
  ·cases hg : gs[k]? with
   | none => rw [hg] at h; cases h
   | some g =>
    rw [hg] at h
    obtain ⟨h1, h2⟩ := List.mem_replicate.1 h
    exact ⟨k, g, h2, by omega, hg, by omega⟩
theorem abv_count {gs : List G3} {y : G3} {j : Nat} {g : G3} (hg : gs[j]? = some g) : ∀ k, (abv gs y k).count (j : Int) = if j < k then hangs g y else 0
 | 0 => by simp [abv]
 | k + 1 => by
  rw [abv, List.count_append, abv_count hg k]
  by_cases hjk : j = k
  ·subst hjk
   rw [hg]
   simp
  ·have e0 : ((match gs[k]? with | some g => List.replicate (hangs g y) ((k : Nat) : Int) | none => []) : List Int).count (j : Int) = 0 := by
    cases gs[k]? with
    | none => rfl
    | some g' =>
     refine List.count_eq_zero.2 fun hm => ?_
     have := (List.mem_replicate.1 hm).2
     omega
   rw [e0, Nat.add_zero]
   by_cases h : j < k
   ·rw [if_pos h, if_pos (by omega)]
   ·rw [if_neg h, if_neg (by omega)]
theorem abv_len (gs : List G3) (y : G3) : ∀ k, (abv gs y k).length <= 2 * k
 | 0 => Nat.le_refl _
 | k + 1 => by
  have ih := abv_len gs y k
  rw [abv, List.length_append]
  cases gs[k]? with
  | none => simp; omega
  | some g =>
   have h1 := one_le (y.1 / 2 = g.2.1 / 2)
   have h2 := one_le (y.1 / 2 = g.2.2 / 2)
   simp only [List.length_replicate, hangs]; omega
theorem not_told {gs : List G3} {L : List Nat} (hP : PreOrd gs L) {i k : Nat} {y g : G3} (hy : gs[i]? = some y) (hg : gs[k]? = some g) (hh : 0 < hangs g y) (hi : i ∉ L) : k ∉ L := by
 intro hk
 obtain ⟨m, hm⟩ := List.mem_iff_getElem?.1 hk
 obtain ⟨g', hg', _, h2⟩ := (hP m k hm).1
 rw [hg] at hg'; cases hg'
 have h3 := h2 i y hy (fun hh => hi (List.mem_of_mem_take hh))
 unfold hangs at hh
 rw [one_no h3.1, one_no h3.2] at hh
 omega

abbrev leT (t : List Int) (p q : Nat) : Prop := ∀ a b, t[p]? = some a -> t[q]? = some b -> a <= b
def HO (t : List Int) : Prop := ∀ j, 0 < j -> j < t.length -> leT t ((j - 1) / 2) j
def UpI (t : List Int) (i : Nat) : Prop := (∀ j, 0 < j -> j < t.length -> j ≠ i -> leT t ((j - 1) / 2) j) /\ ∀ j, 0 < j -> j < t.length -> (j - 1) / 2 = i -> 0 < i -> leT t ((i - 1) / 2) j
def DownI (t : List Int) (i : Nat) : Prop := (∀ j, 0 < j -> j < t.length -> (j - 1) / 2 ≠ i -> leT t ((j - 1) / 2) j) /\ ∀ j, 0 < j -> j < t.length -> (j - 1) / 2 = i -> 0 < i -> leT t ((i - 1) / 2) j
abbrev swp (t : List Int) (i k : Nat) (a b : Int) : List Int := (t.set i b).set k a
theorem swp_len (t : List Int) (i k : Nat) (a b : Int) : (swp t i k a b).length = t.length := by simp
theorem swp_get {t : List Int} {i k : Nat} {a b : Int} (hi : t[i]? = some a) (hk : t[k]? = some b) (j : Nat) : (swp t i k a b)[j]? = if j = k then some a else if j = i then some b else t[j]? := by
 have h1 := lGt hi
 have h2 := lGt hk
 unfold swp
 by_cases e1 : j = k
 ·subst e1; rw [if_pos rfl, List.getElem?_set_self (by simpa using h2)]
 ·rw [if_neg e1, List.getElem?_set_ne (fun h => e1 h.symm)]
  by_cases e2 : j = i
  ·subst e2; rw [if_pos rfl, List.getElem?_set_self h1]
  ·rw [if_neg e2, List.getElem?_set_ne (fun h => e2 h.symm)]
theorem swp_mem {t : List Int} {i k : Nat} {a b : Int} (hi : t[i]? = some a) (hk : t[k]? = some b) (x : Int) : x ∈ swp t i k a b ↔ x ∈ t := by
 rw [List.mem_iff_getElem?, List.mem_iff_getElem?]
 constructor
 ·rintro ⟨j, hj⟩
  rw [swp_get hi hk] at hj
  split at hj
  ·cases hj; exact ⟨i, hi⟩
  ·split at hj
   ·cases hj; exact ⟨k, hk⟩
   ·exact ⟨j, hj⟩
 ·rintro ⟨j, hj⟩
  by_cases e1 : j = k
  ·subst e1
   rw [hk] at hj; cases hj
   by_cases e2 : i = j
   ·subst e2; rw [hk] at hi; cases hi; exact ⟨i, by rw [swp_get hk hk, if_pos rfl]⟩
   ·exact ⟨i, by rw [swp_get hi hk, if_neg e2, if_pos rfl]⟩
  ·by_cases e2 : j = i
   ·subst e2
    rw [hi] at hj; cases hj
    exact ⟨k, by rw [swp_get hi hk, if_pos rfl]⟩
   ·exact ⟨j, by rw [swp_get hi hk, if_neg e1, if_neg e2]; exact hj⟩
theorem UpI.stop {t : List Int} {i : Nat} (h : UpI t i) (hi : i = 0 ∨ leT t ((i - 1) / 2) i) : HO t := fun j h0 hl => by
 by_cases he : j = i
 ·subst he; rcases hi with hi | hi
  ·omega
  ·exact hi
 ·exact h.1 j h0 hl he
theorem UpI.step {t : List Int} {i : Nat} {a b : Int} (h : UpI t i) (h0 : 0 < i) (hi : t[i]? = some a) (hp : t[(i - 1) / 2]? = some b) (hab : a < b) : UpI (swp t i ((i - 1) / 2) a b) ((i - 1) / 2) := by
 have hli := lGt hi
 refine ⟨fun j j0 jl jne x y hx hy => ?_, fun j j0 jl je p0 x y hx hy => ?_⟩
 ·rw [swp_len] at jl
  rw [swp_get hi hp] at hx hy
  rw [if_neg jne] at hy
  by_cases e1 : j = i
  ·subst e1; rw [if_pos rfl] at hx hy; cases hx; cases hy; omega
  ·rw [if_neg e1] at hy
   by_cases e2 : (j - 1) / 2 = (i - 1) / 2
   ·rw [if_pos e2] at hx; cases hx
    have := h.1 j j0 jl e1 b y (by rw [e2]; exact hp) hy
    omega
   ·rw [if_neg e2] at hx
    by_cases e3 : (j - 1) / 2 = i
    ·rw [if_pos e3] at hx; cases hx
     exact h.2 j j0 jl e3 h0 _ y hp hy
    ·rw [if_neg e3] at hx
     exact h.1 j j0 jl e1 x y hx hy
 ·rw [swp_len] at jl
  rw [swp_get hi hp] at hx hy
  rw [if_neg (by omega), if_neg (by omega)] at hx
  have k1 := h.1 ((i - 1) / 2) p0 (lGt hp) (by omega) x b hx hp
  rw [if_neg (by omega)] at hy
  by_cases e1 : j = i
  ·rw [if_pos e1] at hy; cases hy; exact k1
  ·rw [if_neg e1] at hy
   have := h.1 j j0 jl e1 b y (by rw [je]; exact hp) hy
   omega
theorem DownI.stop {t : List Int} {i : Nat} (h : DownI t i) (hc : ∀ j, 0 < j -> j < t.length -> (j - 1) / 2 = i -> leT t i j) : HO t := fun j h0 hl => by
 by_cases he : (j - 1) / 2 = i
 ·rw [he]; exact hc j h0 hl he
 ·exact h.1 j h0 hl he
theorem DownI.step {t : List Int} {i f : Nat} {a b : Int} (h : DownI t i) (f0 : 0 < f) (hf : (f - 1) / 2 = i) (hi : t[i]? = some a) (hp : t[f]? = some b) (hab : b < a) (hc : ∀ j, 0 < j -> j < t.length -> (j - 1) / 2 = i -> ∀ y, t[j]? = some y -> b <= y) : DownI (swp t i f a b) f := by
 have hlf := lGt hp
 refine ⟨fun j j0 jl jne x y hx hy => ?_, fun j j0 jl je p0 x y hx hy => ?_⟩
 ·rw [swp_len] at jl
  rw [swp_get hi hp] at hx hy
  rw [if_neg jne] at hx
  by_cases e1 : (j - 1) / 2 = i
  ·rw [if_pos e1] at hx; cases hx
   by_cases e2 : j = f
   ·rw [if_pos e2] at hy; cases hy; omega
   ·rw [if_neg e2, if_neg (by omega)] at hy
    exact hc j j0 jl e1 y hy
  ·rw [if_neg e1] at hx
   rw [if_neg (fun e => e1 (by subst e; exact hf))] at hy
   by_cases e2 : j = i
   ·rw [if_pos e2] at hy; cases hy
    subst e2
    exact h.2 f f0 hlf hf j0 x _ hx hp
   ·rw [if_neg e2] at hy
    exact h.1 j j0 jl e1 x y hx hy
 ·rw [swp_len] at jl
  rw [swp_get hi hp] at hx hy
  rw [hf, if_neg (by omega), if_pos rfl] at hx; cases hx
  rw [if_neg (by omega), if_neg (by omega)] at hy
  exact h.1 j j0 jl (by omega) _ y (by rw [je]; exact hp) hy
theorem HO.min {t : List Int} (h : HO t) {a : Int} (ha : t[0]? = some a) : ∀ (i : Nat) (b : Int), t[i]? = some b -> a <= b := by
 intro i
 induction i using Nat.strongRecOn with
 | ind i ih =>
  intro b hb
  by_cases h0 : i = 0
  ·subst h0; rw [ha] at hb; cases hb; exact Int.le_refl _
  ·obtain ⟨c, hc⟩ := getI t (show (i - 1) / 2 < t.length by have := lGt hb; omega)
   have h1 := ih ((i - 1) / 2) (by omega) c hc
   have h2 := h i (by omega) (lGt hb) c b hc hb
   omega
structure AtOk (n : Nat) (t at_ : List Int) : Prop where
 len : at_.length = n
 pos : ∀ (i : Nat) (x : Int), t[i]? = some x -> 0 <= x /\ at_[x.toNat]? = some (i : Int)
 out : ∀ v : Nat, v < n -> (v : Int) ∉ t -> at_[v]? = some (-1)
theorem AtOk.inj {n : Nat} {t at_ : List Int} (h : AtOk n t at_) {i j : Nat} {x : Int} (hi : t[i]? = some x) (hj : t[j]? = some x) : i = j := by
 have h1 := (h.pos i x hi).2
 have h2 := (h.pos j x hj).2
 rw [h1] at h2
 have := Option.some.inj h2
 omega
theorem AtOk.lt {n : Nat} {t at_ : List Int} (h : AtOk n t at_) {i : Nat} {x : Int} (hi : t[i]? = some x) : 0 <= x /\ x.toNat < n := by
 have h1 := h.pos i x hi
 exact ⟨h1.1, by rw [<- h.len]; exact lGt h1.2⟩
theorem AtOk.swap {n : Nat} {t at_ : List Int} (h : AtOk n t at_) {i k : Nat} {a b : Int} (hi : t[i]? = some a) (hk : t[k]? = some b) : AtOk n (swp t i k a b) ((at_.set b.toNat (i : Int)).set a.toNat (k : Int)) := by
 have la := h.lt hi
 have lb := h.lt hk
 have hl := h.len
 refine ⟨by simp [hl], fun j x hx => ?_, fun v hv hn => ?_⟩
 ·rw [swp_get hi hk] at hx
  split at hx
  ·rename_i e; cases hx; subst e
   exact ⟨la.1, List.getElem?_set_self (by simp; omega)⟩
  ·rename_i e1
   split at hx
   ·rename_i e2; obtain rfl := Option.some.inj hx; subst e2
    refine ⟨lb.1, ?_⟩
    by_cases e3 : a.toNat = b.toNat
    ·have : a = b := by omega
     subst this
     exact absurd (h.inj hi hk) e1
    ·rw [List.getElem?_set_ne e3, List.getElem?_set_self (by omega)]
   ·rename_i e2
    have hp := h.pos j x hx
    refine ⟨hp.1, ?_⟩
    have n1 : a.toNat ≠ x.toNat := fun e => by
     have : a = x := by omega
     subst this; exact e2 (h.inj hx hi)
    have n2 : b.toNat ≠ x.toNat := fun e => by
     have : b = x := by omega
     subst this; exact e1 (h.inj hx hk)
    rw [List.getElem?_set_ne n1, List.getElem?_set_ne n2]
    exact hp.2
 ·have hn' : (v : Int) ∉ t := fun hm => hn ((swp_mem hi hk _).2 hm)
  have n1 : a.toNat ≠ v := fun e => hn' (by rw [show (v : Int) = a by omega]; exact List.mem_of_getElem? hi)
  have n2 : b.toNat ≠ v := fun e => hn' (by rw [show (v : Int) = b by omega]; exact List.mem_of_getElem? hk)
  rw [List.getElem?_set_ne n1, List.getElem?_set_ne n2]
  exact h.out v hv hn'
theorem AtOk.push {n : Nat} {t at_ : List Int} (h : AtOk n t at_) {v : Nat} (hv : v < n) (hn : (v : Int) ∉ t) : AtOk n (t ++ [(v : Int)]) (at_.set v (t.length : Int)) := by
 have hl := h.len
 refine ⟨by simp [hl], fun j x hx => ?_, fun u hu hm => ?_⟩
 ·by_cases hj : j < t.length
  ·rw [List.getElem?_append_left hj] at hx
   have hp := h.pos j x hx
   refine ⟨hp.1, ?_⟩
   rw [List.getElem?_set_ne (fun e => hn (by rw [show (v : Int) = x by omega]; exact List.mem_of_getElem? hx))]
   exact hp.2
  ·rw [List.getElem?_append_right (by omega)] at hx
   have h0 : j - t.length = 0 := by have := lGt hx; simpa using this
   obtain rfl : j = t.length := by omega
   simp at hx; subst hx
   exact ⟨by omega, by rw [Int.toNat_natCast, List.getElem?_set_self (by omega)]⟩
 ·rw [List.getElem?_set_ne (fun e => hm (by subst e; simp))]
  exact h.out u hu fun hh => hm (by simp [hh])
theorem HO.push {t : List Int} (h : HO t) (x : Int) : UpI (t ++ [x]) t.length := by
 refine ⟨fun j j0 jl jne => ?_, fun j j0 jl je _ => ?_⟩
 ·simp at jl
  intro a b ha hb
  rw [List.getElem?_append_left (by omega)] at ha hb
  exact h j j0 (by omega) a b ha hb
 ·simp at jl; omega
theorem pop_len {t : List Int} {l : Nat} {a b : Int} (hl : t.length = l + 1) : ((swp t 0 l a b).take l).length = l := by simp [hl]
theorem pop_get {t : List Int} {l : Nat} {a b : Int} (hl : t.length = l + 1) (h0 : t[0]? = some a) (hb : t[l]? = some b) (j : Nat) : ((swp t 0 l a b).take l)[j]? = if j < l then (if j = 0 then some b else t[j]?) else none := by
 rw [List.getElem?_take]
 by_cases hj : j < l
 ·rw [if_pos hj, if_pos hj, swp_get h0 hb, if_neg (by omega)]
 ·rw [if_neg hj, if_neg hj]
theorem pop_down {t : List Int} {l : Nat} {a b : Int} (h : HO t) (hl : t.length = l + 1) (h0 : t[0]? = some a) (hb : t[l]? = some b) : DownI ((swp t 0 l a b).take l) 0 := by
 refine ⟨fun j j0 jl jne x y hx hy => ?_, fun j _ _ _ h => absurd h (by omega)⟩
 rw [pop_len hl] at jl
 rw [pop_get hl h0 hb, if_pos (by omega), if_neg (by omega)] at hx hy
 exact h j j0 (by omega) x y hx hy
theorem pop_at {n : Nat} {t at_ : List Int} {l : Nat} {a b : Int} (h : AtOk n t at_) (hl : t.length = l + 1) (h0 : t[0]? = some a) (hb : t[l]? = some b) : AtOk n ((swp t 0 l a b).take l) (((at_.set b.toNat (0 : Int)).set a.toNat (l : Int)).set a.toNat (-1)) := by
 have hs := h.swap h0 hb
 have la := h.lt h0
 refine ⟨by rw [List.length_set]; exact hs.len, fun j x hx => ?_, fun v hv hn => ?_⟩
 ·have hj : j < l := by have := lGt hx; rwa [pop_len hl] at this
  rw [List.getElem?_take, if_pos hj] at hx
  have hp := hs.pos j x hx
  refine ⟨hp.1, ?_⟩
  rw [List.getElem?_set_ne (fun e => ?_)]
  ·exact hp.2
  ·have : a = x := by omega
   subst this
   have := hs.inj hx (show (swp t 0 l a b)[l]? = some a by rw [swp_get h0 hb, if_pos rfl])
   omega
 ·by_cases he : a.toNat = v
  ·subst he; exact List.getElem?_set_self (by have := hs.len; simp only [List.length_set] at this ⊢; omega)
  ·rw [List.getElem?_set_ne he]
   refine hs.out v hv fun hm => hn ?_
   obtain ⟨j, hj⟩ := List.mem_iff_getElem?.1 hm
   have hjl := lGt hj
   rw [swp_len, hl] at hjl
   by_cases e : j = l
   ·subst e
    rw [swp_get h0 hb, if_pos rfl] at hj
    cases hj
    exact absurd (by omega) he
   ·exact List.mem_iff_getElem?.2 ⟨j, by rw [List.getElem?_take, if_pos (by omega)]; exact hj⟩
theorem pop_mem {n : Nat} {t at_ : List Int} {l : Nat} {a b : Int} (h : AtOk n t at_) (hl : t.length = l + 1) (h0 : t[0]? = some a) (hb : t[l]? = some b) (x : Int) : x ∈ (swp t 0 l a b).take l ↔ (x ∈ t /\ x ≠ a) := by
 rw [<- swp_mem h0 hb]
 have hs := h.swap h0 hb
 have hla : (swp t 0 l a b)[l]? = some a := by rw [swp_get h0 hb, if_pos rfl]
 constructor
 ·intro hx
  refine ⟨List.mem_of_mem_take hx, fun he => ?_⟩
  subst he
  obtain ⟨j, hj⟩ := List.mem_iff_getElem?.1 hx
  have hjl : j < l := by have := lGt hj; rwa [pop_len hl] at this
  rw [List.getElem?_take, if_pos hjl] at hj
  have := hs.inj hj hla
  omega
 ·rintro ⟨hx, hne⟩
  obtain ⟨j, hj⟩ := List.mem_iff_getElem?.1 hx
  have hjl := lGt hj
  rw [swp_len, hl] at hjl
  by_cases e : j = l
  ·subst e; rw [hla] at hj; cases hj; exact absurd rfl hne
  ·exact List.mem_iff_getElem?.2 ⟨j, by rw [List.getElem?_take, if_pos (by omega)]; exact hj⟩
end Go.Proofs.Yteidpnpbfagaeaa
namespace Go.Lt
open Go.RowKit
section
variable {P : Program} {N : Nat} {e : Env} {w : World} {Q : Exit -> Act -> World -> Prop} {ops : List Oper} {l : List Oper}
 {d : Nat} {tt t ty : TypeId} {ps : String} {af : Array Edge} {g : Option (Nat × Bool)} {x y : Operand}
theorem order00 : FloatKind.f64.format.order 0 0 = some .eq := by decide +kernel
theorem run_f00 (op : BinOp) (b : Bool) (h : (op = .neq /\ b = false) ∨ (op = .eql /\ b = true) ∨ (op = .lss /\ b = false)) (w : World) : (binOp op t (.float .f64 0) (.float .f64 0)).run P w = .ok (.bool b) w := by
 rcases h with ⟨rfl, rfl⟩ | ⟨rfl, rfl⟩ | ⟨rfl, rfl⟩ <;> simp [binOp, Op.floatCmp, order00]
theorem yf00 {op : BinOp} {b : Bool} {dd : Option Tmp} (hx : ev e x = some (.float .f64 0)) (hy : ev e y = some (.float .f64 0)) (h : (op = .neq /\ b = false) ∨ (op = .eql /\ b = true) ∨ (op = .lss /\ b = false)) : Yields P e ⟨dd, .binOp op t x y ty, tt, ps, af, g⟩ (.bool b) := by
 intro ρ hρ w
 have h1 := run_f00 (P := P) (t := t) op b h w
 simp [execOp, hρ _ _ hx, hρ _ _ hy, h1, eqGuard]
theorem WL.f00 {op : BinOp} {b : Bool} (hg : gate ops e g = some true) (hd : Nat.blt d N = true) (hx : ev e x = some (.float .f64 0)) (hy : ev e y = some (.float .f64 0)) (h : (op = .neq /\ b = false) ∨ (op = .eql /\ b = true) ∨ (op = .lss /\ b = false))
  (k : WL P N ops.toArray l ((d, .bool b) :: e) w Q) : WL P N ops.toArray (⟨some d, .binOp op t x y ty, tt, ps, af, g⟩ :: l) e w Q := WL.step hg hd (yf00 hx hy h).in k
end
end Go.Lt
namespace Go.Proofs.Yteidpnpbfagaeaa
open Go Go.Lt Go.RowKit

def Th : Tab := [(181, ⟨.slice 187, 1, 24, .slice none 0 0⟩), (187, ⟨.float .f64, 1, 8, .float .f64 0⟩)]
theorem thOk : OkTab Try.prog Th := ⟨⟨by kernel_rfl, by kernel_rfl⟩, ⟨by kernel_rfl, by kernel_rfl⟩, trivial⟩
abbrev encF : Nat -> List Value := fun b => [.float .f64 b]
theorem encF_ok : Enc 1 encF := ⟨fun _ => rfl, fun x u hu => by simp at hu; subst hu; rfl, by decide⟩
abbrev hpP (B gh : Nat) (as_ : Option Addr) (cs : Nat) (F : List Nat) (tr : Option Addr) (ct nt : Nat) (t : List Int) (ap : Option Addr) (cp : Nat) (A : List Int) : List Piece :=
 [pcell gh #[.slice as_ F.length cs, .slice tr nt ct, .slice ap A.length cp] 183, prow 1 encF 187 B as_ cs F, prow 1 encI 3 B tr ct t, prow 1 encI 3 B ap cp A]
theorem score_Less (w : World) : Still Try.prog 174 [.float .f64 0, .float .f64 0] w (.bool false) := by
 refine Spec.of _ Try.func174 rfl Try.ntmps174 (by kernel_rfl) rfl ?_
 repeat' (first | (apply WL.f00; (iterate 4 exact rfl); first | exact .inl ⟨rfl, rfl⟩ | exact .inr (.inl ⟨rfl, rfl⟩) | exact .inr (.inr ⟨rfl, rfl⟩)) | (first | apply WL.nil | (refine WL.au (k := ?_))) | apply Z.tn | (first | apply W.seq | apply W.region | apply W.skip | apply W.ret | (apply W.condF; exact rfl)))
 exact Z.bd1 Try.results174 rfl fun m => ⟨rfl, m, rfl⟩
section
variable {B gh cs ct cp nt : Nat} {w w0 : World} {as_ tr ap : Option Addr} {F : List Nat} {t A : List Int} {rest : List Piece}
theorem heap_ahead (hS : Lt.Sep B w (hpP B gh as_ cs F tr ct nt t ap cp A ++ rest)) (hF : ∀ x ∈ F, x = 0) (xa xb : Int) (ha : 0 <= xa /\ xa.toNat < F.length) (hbb : 0 <= xb /\ xb.toNat < F.length) :
  Still Try.prog 173 [.pointer (some ⟨gh, 0, none⟩), .int .i64 xa, .int .i64 xb] w (.bool (dec (xa < xb))) := by
 have h := cHp (hS.cell (i := 0) rfl)
 have c0 := h.1
 have RF := Own.row encF_ok (hS.row (i := 1) rfl)
 obtain ⟨z1, hz1⟩ := getI F ha.2
 obtain ⟨z2, hz2⟩ := getI F hbb.2
 obtain rfl := hF z1 (List.mem_of_getElem? hz1)
 obtain rfl := hF z2 (List.mem_of_getElem? hz2)
 clear h
 refine Spec.of _ Try.func173 rfl Try.ntmps173 (by kernel_rfl) rfl ?_
 repeat' (first | (apply QL.nilc; (iterate 3 exact rfl)) | (apply QL.index thOk; (iterate 8 exact rfl); assumption; exact extA; exact rfl; omega; assumption; intro b off h; have hcc := h; obtain ⟨h1, _⟩ := h) | (apply QL.load thOk; (iterate 5 exact rfl); assumption) | (apply WL.callS (f := 174); (iterate 4 exact rfl); exact score_Less _) | (first | apply WL.nil | (refine WL.au (k := ?_))) | (first | apply QL.nil | (refine QL.au (k := ?_))) | apply Z.tn | (first | apply W.seq | apply W.region | apply W.ret | (apply W.rgD tMix; kernel_rfl)))
 exact Z.bd1 Try.results173 rfl fun m => ⟨rfl, m, rfl⟩
theorem heap_swap (hX : Ext w0 w) (hS : Lt.Sep w0.heap.size w (hpP w0.heap.size gh as_ cs F tr ct t.length t ap cp A ++ rest)) (hA : AtOk F.length t A) (i k : Nat) (ya yb : Int) (hi : t[i]? = some ya) (hk : t[k]? = some yb) (hlen : t.length <= 1048576) :
  Lt.Spec Try.prog 170 [.pointer (some ⟨gh, 0, none⟩), .int .i64 i, .int .i64 k] w (fun v w' => v = .tuple #[] /\ Ext w0 w' /\ Lt.Sep w0.heap.size w' (hpP w0.heap.size gh as_ cs F tr ct t.length (swp t i k ya yb) ap cp ((A.set yb.toNat (i : Int)).set ya.toNat (k : Int)) ++ rest)) := by
 have hgt := (hS.lt (i := 0) rfl rfl).1
 have h := cHp (hS.cell (i := 0) rfl)
 have c0 := h.1
 have c1 := h.2.1
 have c2 := h.2.2.1
 clear h
 have hR2 := hS.row (i := 2) rfl
 have hR3 := hS.row (i := 3) rfl
 have li := lGt hi
 have lk := lGt hk
 have la := hA.lt hi
 have lb := hA.lt hk
 have hAl := hA.len
 have hi' : t[((i : Nat) : Int).toNat]? = some ya := hi
 have hk' : t[((k : Nat) : Int).toNat]? = some yb := hk
 have hk2 : (t.set ((i : Nat) : Int).toNat yb)[((k : Nat) : Int).toNat]? = some yb := by
  show (t.set i yb)[k]? = some yb
  by_cases e : i = k
  ·subst e; exact List.getElem?_set_self li
  ·rw [List.getElem?_set_ne e]; exact hk
 have hs3 : ((t.set ((i : Nat) : Int).toNat yb).set ((k : Nat) : Int).toNat ya)[((i : Nat) : Int).toNat]? = some yb := by
  show (swp t i k ya yb)[i]? = _
  rw [swp_get hi hk]
  split
  ·rename_i e; subst e; rw [hi] at hk; exact hk
  ·rw [if_pos rfl]
 have hs4 : ((t.set ((i : Nat) : Int).toNat yb).set ((k : Nat) : Int).toNat ya)[((k : Nat) : Int).toNat]? = some ya := by
  show (swp t i k ya yb)[k]? = _
  rw [swp_get hi hk, if_pos rfl]
 obtain ⟨z1, hz1⟩ := getI A (show yb.toNat < A.length by omega)
 obtain ⟨z2, hz2⟩ := getI (A.set yb.toNat (i : Int)) (show ya.toNat < (A.set yb.toNat (i : Int)).length by rw [List.length_set]; omega)
 have hlk : ∀ z, (t.set ((i : Nat) : Int).toNat z).length = t.length := fun z => List.length_set
 refine Spec.of _ Try.func170 rfl Try.ntmps170 (by kernel_rfl) rfl ?_
 repeat' (first | (apply FL.nilc; (iterate 3 exact rfl)) | (show W _ _ (.region 0 _ _) _ _ _; apply W.regionGB (.fl true 0 (.fl true 1 (.fl true 2 (.fl true 4 (.fl true 5 (.fl true 6 (.fl true 7 (.fl true 9 (.fl true 10 (.fl true 11 (.fl true 12 (.fl true 14 (.fl true 17 (.fl true 18 (.fl true 19 (.fl true 21 (.fl false 3 (.fl false 8 (.fl false 13 (.fl true 15 (.fl false 16 (.fl false 20 (.fl true 22 (.fl false 23 (.fl true 24 (.br 25 (.fl true 26 (.br 27 .done .stop)) .stop)))))))))))))))))))))))))) [8, 13, 15, 16, 20, 22, 23] (none) tMix; kernel_rfl) | (show W _ _ (.region 1 _ _) _ _ _; apply W.regionGB (.fl true 0 (.fl true 1 (.fl true 2 (.fl true 4 (.fl true 5 (.fl true 6 (.fl true 8 (.fl true 11 (.fl true 12 (.fl true 13 (.fl true 15 (.fl true 16 (.fl true 17 (.fl true 19 (.fl true 22 (.fl true 23 (.fl false 3 (.fl false 7 (.fl true 9 (.fl false 10 (.fl false 14 (.fl false 18 (.fl true 20 (.fl false 21 (.fl true 24 (.br 25 (.fl true 26 (.br 27 .done .stop)) .stop)))))))))))))))))))))))))) [7, 9, 10, 14, 18, 20, 21] (none) tMix; kernel_rfl) | (apply WL.storeO tOk; (iterate 4 exact rfl); assumption; exact extA; (iterate 3 exact rfl); exact eIk; assumption; exact rfl; exact extA; intro w' hO hX' hU; (first | replace hS := Sep.uRw (i := 2) rfl hU hO (.inl rfl) hS extA (by (exact Below.size extA)) | replace hS := Sep.uRw (i := 3) rfl hU hO (.inl rfl) hS extA (by (exact Below.size extA))); (try simp only [List.set_cons_zero, List.set_cons_succ] at hS); (try have hR1 := hS.row (i := 1) rfl); (try have hR2 := hS.row (i := 2) rfl); (try have hR3 := hS.row (i := 3) rfl); (try have hC0 := hS.cell (i := 0) rfl); (try have hD0 := (cHp hC0).1); (try have hE0 := (cHp hC0).2.1); (try have hF0 := (cHp hC0).2.2.1)) | (apply FL.indexO tOk; (iterate 8 exact rfl); assumption; exact extA; exact eIk; (first | exact rfl | (focus (simp only [List.length_set]; done))); omega; assumption; intro gb ha hc; cases ha; have hcc := hc; first | (obtain ⟨h1, h2, h3, _⟩ := hc) | (obtain ⟨h1, h2, _⟩ := hc) | (obtain ⟨h1, _⟩ := hc)) | apply WL.nil | (first | apply SG.done | (apply SG.fl0; exact rfl) | (apply SG.fl1; exact rfl; (focus ((intro m; first | assumption | (apply Ext.at; exact extA) | apply But.of_at; first | exact But.upd (by assumption) | exact But.ext extA | (refine But.trans ?_ (But.upd (by assumption)); exact But.ext extA) | exact But.at _ _ _); done))) | (apply SG.br1; exact rfl)) | (first | apply FL.nilS | (refine FL.au (k := ?_)) | (apply FL.loadG tOk; (iterate 5 exact rfl); assumption; ((focus (intro h; cases h; done))))) | (apply Z.sgL; exact rfl) | apply Z.tn | apply W.seq)
 exact Z.body0n Try.results170 fun m => ⟨rfl, hX'.at m, by simpa using hS.ext ((Ext.refl _).at m)⟩
end

structure HpS (B : Nat) (w : World) (gh : Nat) (F : List Nat) (t A : List Int) (rest : List Piece) : Prop where
 at_ : AtOk F.length t A
 zero : ∀ x ∈ F, x = 0
 mem : ∃ as_ cs tr ct ap cp, Lt.Sep B w (hpP B gh as_ cs F tr ct t.length t ap cp A ++ rest)
theorem HpS.ext {B : Nat} {w w' : World} {gh : Nat} {F : List Nat} {t A : List Int} {rest : List Piece} (h : HpS B w gh F t A rest) (hx : Ext w w') : HpS B w' gh F t A rest :=
 ⟨h.at_, h.zero, let ⟨a, b, c, d, e, f, hS⟩ := h.mem; ⟨a, b, c, d, e, f, hS.ext hx⟩⟩
theorem AtOk.len_le {n : Nat} {t A : List Int} (h : AtOk n t A) : t.length <= n := by
 have key : ∀ (m : Nat) (l : List Nat), l.Nodup -> (∀ i ∈ l, i < m) -> l.length <= m := by
  intro m
  induction m with
  | zero => intro l _ hl; cases l with
   | nil => exact Nat.le_refl _
   | cons x r => exact absurd (hl x (by simp)) (Nat.not_lt_zero _)
  | succ m ih =>
   intro l hd hl
   have h1 := ih (l.erase m) (hd.erase m) fun i hi => by
    have h2 := hl i (List.mem_of_mem_erase hi)
    have h3 : i ≠ m := fun he => by subst he; exact (List.Nodup.not_mem_erase hd) hi
    omega
   rw [List.length_erase] at h1
   split at h1 <;> omega
 have h1 := key n (t.map Int.toNat) ?_ ?_
 ·rwa [List.length_map] at h1
 ·rw [List.nodup_iff_pairwise_ne, List.pairwise_map, List.pairwise_iff_getElem]
  intro i j hi hj hij he
  have p1 := h.pos i t[i] (List.getElem?_eq_getElem hi)
  have p2 := h.pos j t[j] (List.getElem?_eq_getElem hj)
  have : t[i] = t[j] := by omega
  have := h.inj (List.getElem?_eq_getElem hi) (by rw [List.getElem?_eq_getElem hj, this])
  omega
 ·intro i hi
  obtain ⟨x, hx, rfl⟩ := List.mem_map.1 hi
  obtain ⟨j, hj⟩ := List.mem_iff_getElem?.1 hx
  exact (h.lt hj).2
structure HpR (w0 w : World) (gh : Nat) (F : List Nat) (t0 : List Int) (rest : List Piece) (t A : List Int) : Prop where
 ext : Ext w0 w
 hp : HpS w0.heap.size w gh F t A rest
 mem : ∀ x, x ∈ t ↔ x ∈ t0
theorem swp_memc {t : List Int} {i k : Nat} {a b : Int} (hi : t[i]? = some a) (hk : t[k]? = some b) {t0 : List Int} (h : ∀ x, x ∈ t ↔ x ∈ t0) : ∀ x, x ∈ swp t i k a b ↔ x ∈ t0 := fun x => (swp_mem hi hk x).trans (h x)
theorem up_above (i : Nat) (h : 0 < i) : ((i : Int) - 1) / 2 = (((i - 1) / 2 : Nat) : Int) := by omega
theorem heap_up (w w0 : World) (gh : Nat) (F : List Nat) (t A : List Int) (rest : List Piece) (hX : Ext w0 w) (hH : HpS w0.heap.size w gh F t A rest) (hn : F.length <= 1048576) (i : Nat) (hi : i < t.length) (hU : UpI t i) :
  Lt.Spec Try.prog 168 [.pointer (some ⟨gh, 0, none⟩), .int .i64 i] w (fun v w' => v = .tuple #[] /\ ∃ t' A', HpR w0 w' gh F t rest t' A' /\ HO t') := by
 have htl := hH.at_.len_le
 have key : ∀ (e : Env) (Q : Exit -> Act -> World -> Prop) (c : Code), True := fun _ _ _ => trivial
 clear key
 by_cases h0 : i = 0
 ·subst h0
  refine Spec.of _ Try.func168 rfl Try.ntmps168 (by kernel_rfl) rfl ?_
  repeat' (first | (apply WL.quow; (iterate 4 exact rfl); exact ⟨⟨by decide, by decide⟩, by decide⟩) | (first | apply WL.nil | (refine WL.au (k := ?_))) | apply Z.tn | (first | apply W.seq | apply W.region | apply W.block))
  refine W.loop (fun _ : Unit => True) (fun _ => [(0, .pointer (some ⟨gh, 0, none⟩)), (1, .int .i64 0), (4, .int .i64 0)]) (fun _ => w) (fun _ => 0) () trivial ⟨rfl, rfl, rfl, trivial⟩ rfl ?_
  rintro ⟨⟩ _
  repeat' (first | (apply QL.gF; exact rfl; exact rfl; exact dFf (by decide)) | (first | apply QL.nil | (refine QL.au (k := ?_)) | (apply QL.gdF; exact rfl; exact rfl)) | (first | apply Z.tn | apply Z.tnx | apply Z.bkx) | (first | apply W.seq | apply W.exit | (apply W.condF; exact rfl) | (apply W.rgD tMix; kernel_rfl)))
  exact Z.body0n Try.results168 fun m => ⟨rfl, t, A, ⟨hX.at m, hH.ext ((Ext.refl _).at m), fun x => Iff.rfl⟩, hU.stop (.inl rfl)⟩
 ·refine Spec.of _ Try.func168 rfl Try.ntmps168 (by kernel_rfl) rfl ?_
  repeat' (first | (first | apply WL.nil | (refine WL.au (k := ?_))) | apply Z.tn | (first | apply W.seq | apply W.region | apply W.block))
  refine W.loop (fun s : Nat × List Int × List Int × World => s.1 < s.2.1.length /\ UpI s.2.1 s.1 /\ HpR w0 s.2.2.2 gh F t rest s.2.1 s.2.2.1) (fun s => [(0, .pointer (some ⟨gh, 0, none⟩)), (1, .int .i64 s.1), (4, .int .i64 ((s.1 - 1) / 2 : Nat))]) (fun s => s.2.2.2) (fun s => s.1) (i, t, A, w) ⟨hi, hU, hX, hH, fun x => Iff.rfl⟩ ⟨rfl, rfl, by rw [<- up_above i (by omega)]; exact rfl, trivial⟩ rfl ?_
  rintro ⟨j, t1, A1, w1⟩ ⟨hj, hU1, hX1, hH1, hM1⟩
  dsimp only at hj hU1 hX1 hH1 hM1
  obtain ⟨as_, cs, tr, ct, ap, cp, hS⟩ := hH1.mem
  have htl1 := hH1.at_.len_le
  have h := cHp (hS.cell (i := 0) rfl)
  have c1 := h.2.1
  clear h
  have Rt := Own.row eIk (hS.row (i := 2) rfl)
  obtain ⟨ya, hya⟩ := getI t1 hj
  obtain ⟨yb, hyb⟩ := getI t1 (show (j - 1) / 2 < t1.length by omega)
  have la := hH1.at_.lt hya
  have lb := hH1.at_.lt hyb
  have hya' : t1[((j : Nat) : Int).toNat]? = some ya := hya
  have hyb' : t1[(((j - 1) / 2 : Nat) : Int).toNat]? = some yb := hyb
  by_cases hj0 : j = 0
  ·subst hj0
   repeat' (first | (apply QL.gF; exact rfl; exact rfl; exact dFf (by show ¬ (0 : Int) < ((0 : Nat) : Int); omega)) | (first | apply QL.nil | (refine QL.au (k := ?_)) | (apply QL.gdF; exact rfl; exact rfl)) | (first | apply Z.tn | apply Z.tnx | apply Z.bkx) | (first | apply W.seq | apply W.exit | (apply W.condF; exact rfl) | (apply W.rgD tMix; kernel_rfl)))
   exact Z.body0n Try.results168 fun m => ⟨rfl, t1, A1, ⟨hX1.at m, hH1.ext ((Ext.refl _).at m), hM1⟩, hU1.stop (.inl rfl)⟩
  by_cases hlt : ya < yb
  ·have hsw := heap_swap hX1 hS hH1.at_ j ((j - 1) / 2) ya yb hya hyb (by omega)
   have hU2 := hU1.step (by omega) hya hyb hlt
   have hA2 := hH1.at_.swap hya hyb
   have hM2 := swp_memc hya hyb hM1
   by_cases hj1 : (j - 1) / 2 = 0
   ·repeat' (first | (apply QL.nilc; (iterate 3 exact rfl)) | (apply QL.gT; exact rfl; exact rfl; (focus (exact dTt (by omega)))) | (apply W.cKT; exact rfl; (focus (exact dTt (by omega)))) | (apply QL.callS (f := 173); (iterate 4 exact rfl); exact heap_ahead hS hH1.zero ya yb ⟨la.1, la.2⟩ ⟨lb.1, lb.2⟩) | (apply WL.quow; (iterate 4 exact rfl); exact ⟨⟨by omega, by omega⟩, by decide⟩) | (apply WL.call (f := 170); (iterate 4 exact rfl); exact hsw; rintro v' w2 ⟨rfl, hX2, hS2⟩) | (first | apply WL.nil | (refine WL.au (k := ?_))) | (first | apply QL.nil | (refine QL.au (k := ?_)) | (apply QL.index tOk; (iterate 8 exact rfl); assumption; exact extA; exact rfl; omega; assumption; intro b off h; have hcc := h; first | (obtain ⟨h1, h2, h3, h4, h5, h6, _⟩ := h) | (obtain ⟨h1, h2, h3, _⟩ := h) | (obtain ⟨h1, h2, _⟩ := h) | (obtain ⟨h1, _⟩ := h))) | (first | apply Z.tn | apply Z.bkn) | (first | apply W.seq | apply W.region | apply W.block | apply W.skip | (apply W.rgD tMix; kernel_rfl)))
    refine Z.again ((j - 1) / 2, swp t1 j ((j - 1) / 2) ya yb, _, w2) ⟨by show (j - 1) / 2 < (swp t1 j ((j - 1) / 2) ya yb).length; rw [swp_len]; omega, hU2, hX2, ⟨hA2, hH1.zero, as_, cs, tr, ct, ap, cp, by rw [swp_len]; exact hS2⟩, hM2⟩ (by show (j - 1) / 2 < j; omega) ⟨rfl, rfl, ?_, trivial⟩ rfl
    show some (Value.int _ _) = some (Value.int _ _)
    rw [hj1]
    exact congrArg (fun z => some (Value.int IntKind.i64 z)) (show (((0 : Nat) : Int) - 1).tdiv 2 = (((0 - 1) / 2 : Nat) : Int) by decide)
   ·repeat' (first | (apply QL.nilc; (iterate 3 exact rfl)) | (apply QL.gT; exact rfl; exact rfl; (focus (exact dTt (by omega)))) | (apply W.cKT; exact rfl; (focus (exact dTt (by omega)))) | (apply QL.callS (f := 173); (iterate 4 exact rfl); exact heap_ahead hS hH1.zero ya yb ⟨la.1, la.2⟩ ⟨lb.1, lb.2⟩) | (apply WL.call (f := 170); (iterate 4 exact rfl); exact hsw; rintro v' w2 ⟨rfl, hX2, hS2⟩) | (first | apply WL.nil | (refine WL.au (k := ?_))) | (first | apply QL.nil | (refine QL.au (k := ?_)) | (apply QL.index tOk; (iterate 8 exact rfl); assumption; exact extA; exact rfl; omega; assumption; intro b off h; have hcc := h; first | (obtain ⟨h1, h2, h3, h4, h5, h6, _⟩ := h) | (obtain ⟨h1, h2, h3, _⟩ := h) | (obtain ⟨h1, h2, _⟩ := h) | (obtain ⟨h1, _⟩ := h))) | (first | apply Z.tn | apply Z.bkn) | (first | apply W.seq | apply W.region | apply W.block | apply W.skip | (apply W.rgD tMix; kernel_rfl)))
    refine Z.again ((j - 1) / 2, swp t1 j ((j - 1) / 2) ya yb, _, w2) ⟨by show (j - 1) / 2 < (swp t1 j ((j - 1) / 2) ya yb).length; rw [swp_len]; omega, hU2, hX2, ⟨hA2, hH1.zero, as_, cs, tr, ct, ap, cp, by rw [swp_len]; exact hS2⟩, hM2⟩ (by show (j - 1) / 2 < j; omega) ⟨rfl, rfl, ?_, trivial⟩ rfl
    rw [<- up_above ((j - 1) / 2) (by omega)]; exact rfl
  ·repeat' (first | (apply QL.nilc; (iterate 3 exact rfl)) | (apply QL.gT; exact rfl; exact rfl; (focus (exact dTt (by omega)))) | (apply W.cKF; exact rfl; exact dFf hlt) | (apply QL.callS (f := 173); (iterate 4 exact rfl); exact heap_ahead hS hH1.zero ya yb ⟨la.1, la.2⟩ ⟨lb.1, lb.2⟩) | (first | apply QL.nil | (refine QL.au (k := ?_)) | (apply QL.index tOk; (iterate 8 exact rfl); assumption; exact extA; exact rfl; omega; assumption; intro b off h; have hcc := h; first | (obtain ⟨h1, h2, h3, h4, h5, h6, _⟩ := h) | (obtain ⟨h1, h2, h3, _⟩ := h) | (obtain ⟨h1, h2, _⟩ := h) | (obtain ⟨h1, _⟩ := h))) | (first | apply Z.tn | apply Z.tnx | apply Z.bkx) | (first | apply W.seq | apply W.exit | (apply W.rgD tMix; kernel_rfl)))
   refine Z.body0n Try.results168 fun m => ⟨rfl, t1, A1, ⟨hX1.at m, hH1.ext ((Ext.refl _).at m), hM1⟩, hU1.stop (.inr fun a b ha hb => ?_)⟩
   rw [hya] at hb; rw [hyb] at ha; cases ha; cases hb; omega
theorem heap_down (w w0 : World) (gh : Nat) (F : List Nat) (t A : List Int) (rest : List Piece) (hX : Ext w0 w) (hH : HpS w0.heap.size w gh F t A rest) (hn : F.length <= 1048576) (i : Nat) (hi : i < t.length ∨ t = []) (hD : DownI t i) (hi0 : i <= 1048576) :
  Lt.Spec Try.prog 171 [.pointer (some ⟨gh, 0, none⟩), .int .i64 i] w (fun v w' => v = .tuple #[] /\ ∃ t' A', HpR w0 w' gh F t rest t' A' /\ HO t') := by
 refine Spec.of _ Try.func171 rfl Try.ntmps171 (by kernel_rfl) rfl ?_
 repeat' (first | apply W.block | fail)
 refine W.loop (fun s : Nat × List Int × List Int × World => (s.1 < s.2.1.length ∨ s.2.1 = []) /\ s.1 <= 1048576 /\ DownI s.2.1 s.1 /\ HpR w0 s.2.2.2 gh F t rest s.2.1 s.2.2.1) (fun s => [(0, .pointer (some ⟨gh, 0, none⟩)), (1, .int .i64 s.1)]) (fun s => s.2.2.2) (fun s => 1048577 - s.1) (i, t, A, w) ⟨hi, hi0, hD, hX, hH, fun x => Iff.rfl⟩ ⟨rfl, rfl, trivial⟩ rfl ?_
 rintro ⟨j, t1, A1, w1⟩ ⟨hj, hj0, hD1, hX1, hH1, hM1⟩
 dsimp only at hj hj0 hD1 hX1 hH1 hM1
 obtain ⟨as_, cs, tr, ct, ap, cp, hS⟩ := hH1.mem
 have htl1 := hH1.at_.len_le
 have h := cHp (hS.cell (i := 0) rfl)
 have c1 := h.2.1
 clear h
 have Rt := Own.row eIk (hS.row (i := 2) rfl)
 repeat' (first | (first | apply WL.nil | (refine WL.au (k := ?_))) | apply Z.tn | (first | apply W.seq | apply W.region | apply W.block))
 refine W.loop (fun s : Nat × Nat => 2 * j + 1 <= s.1 /\ s.1 <= 2 * j + 3 /\ (s.2 = j ∨ (2 * j + 1 <= s.2 /\ s.2 < s.1 /\ s.2 < t1.length)) /\ (∀ q, (q = j ∨ (2 * j + 1 <= q /\ q < s.1)) -> q < t1.length -> leT t1 s.2 q) /\ (s.2 ≠ j -> ∀ a b, t1[s.2]? = some a -> t1[j]? = some b -> a < b)) (fun s => [(0, .pointer (some ⟨gh, 0, none⟩)), (1, .int .i64 j), (4, .int .i64 s.2), (5, .int .i64 s.1)]) (fun _ => w1) (fun s => 2 * j + 4 - s.1) (2 * j + 1, j) ⟨Nat.le_refl _, by omega, .inl rfl, fun q hq _ a b ha hb => by
  rcases hq with rfl | ⟨h1, h2⟩
  ·rw [ha] at hb; cases hb; exact Int.le_refl _
  ·omega, fun h => absurd rfl h⟩ ⟨rfl, rfl, rfl, by show some (Value.int _ _) = some (Value.int _ _); rw [show ((2 * j + 1 : Nat) : Int) = 2 * (j : Int) + 1 by omega], trivial⟩ rfl ?_
 rintro ⟨k, f⟩ ⟨hk1, hk2, hf, hmin, hless⟩
 dsimp only at hk1 hk2 hf hmin hless
 have efin : ∀ q : Nat, q = j ∨ (2 * j + 1 <= q /\ q < 2 * j + 3) ↔ q = j ∨ (0 < q /\ (q - 1) / 2 = j) := fun q => by omega
 by_cases hlt : k <= 2 * j + 2 /\ k < t1.length
 ·have hjl : j < t1.length := by omega
  have hfl : f < t1.length := by rcases hf with rfl | ⟨_, _, h⟩; exact hjl; exact h
  obtain ⟨yk, hyk⟩ := getI t1 hlt.2
  obtain ⟨yf, hyf⟩ := getI t1 hfl
  have lk := hH1.at_.lt hyk
  have lf := hH1.at_.lt hyf
  have hyk' : t1[((k : Nat) : Int).toNat]? = some yk := hyk
  have hyf' : t1[((f : Nat) : Int).toNat]? = some yf := hyf
  by_cases hah : yk < yf
  ·repeat' (first | (apply WL.nilc; (iterate 3 exact rfl)) | (apply QL.nilc; (iterate 3 exact rfl)) | (apply WL.gT; exact rfl; exact rfl; (focus (exact dTt (by omega)))) | (apply W.cKT; exact rfl; (focus (exact dTt (by omega)))) | (apply QL.callS (f := 173); (iterate 4 exact rfl); exact heap_ahead hS hH1.zero yk yf ⟨lk.1, lk.2⟩ ⟨lf.1, lf.2⟩) | (first | apply WL.nil | (refine WL.au (k := ?_))) | (first | apply QL.nil | (refine QL.au (k := ?_)) | (apply QL.index tOk; (iterate 8 exact rfl); assumption; exact extA; exact rfl; omega; assumption; intro b off h; have hcc := h; first | (obtain ⟨h1, h2, h3, h4, h5, h6, _⟩ := h) | (obtain ⟨h1, h2, h3, _⟩ := h) | (obtain ⟨h1, h2, _⟩ := h) | (obtain ⟨h1, _⟩ := h))) | (first | apply Z.tn | apply Z.bkn) | (first | apply W.seq | apply W.region | apply W.block | apply W.skip | (apply W.rgD tMix; kernel_rfl)))
   refine Z.again (k + 1, k) ⟨by show 2 * j + 1 <= k + 1; omega, by show k + 1 <= _; omega, .inr ⟨by show 2 * j + 1 <= k; omega, by show k < k + 1; omega, hlt.2⟩, fun q hq hql a b ha hb => ?_, fun hne a b ha hb => ?_⟩ (by show 2 * j + 4 - (k + 1) < 2 * j + 4 - k; omega) ⟨rfl, rfl, rfl, rfl, trivial⟩ rfl
   ·have ha' : t1[k]? = some a := ha
    rw [hyk] at ha'; cases ha'
    by_cases he : q = k
    ·subst he; rw [hyk] at hb; cases hb; exact Int.le_refl _
    ·have := hmin q (by rcases hq with h | h; exact .inl h; exact .inr ⟨h.1, by have : q < k + 1 := h.2; omega⟩) hql yf b hyf hb
     omega
   ·have ha' : t1[k]? = some a := ha
    rw [hyk] at ha'; cases ha'
    have := hmin j (.inl rfl) hjl yf b hyf hb
    omega
  ·repeat' (first | (apply WL.nilc; (iterate 3 exact rfl)) | (apply QL.nilc; (iterate 3 exact rfl)) | (apply WL.gT; exact rfl; exact rfl; (focus (exact dTt (by omega)))) | (apply W.cKT; exact rfl; (focus (exact dTt (by omega)))) | (apply W.cKF; exact rfl; exact dFf hah) | (apply QL.callS (f := 173); (iterate 4 exact rfl); exact heap_ahead hS hH1.zero yk yf ⟨lk.1, lk.2⟩ ⟨lf.1, lf.2⟩) | (first | apply WL.nil | (refine WL.au (k := ?_))) | (first | apply QL.nil | (refine QL.au (k := ?_)) | (apply QL.index tOk; (iterate 8 exact rfl); assumption; exact extA; exact rfl; omega; assumption; intro b off h; have hcc := h; first | (obtain ⟨h1, h2, h3, h4, h5, h6, _⟩ := h) | (obtain ⟨h1, h2, h3, _⟩ := h) | (obtain ⟨h1, h2, _⟩ := h) | (obtain ⟨h1, _⟩ := h))) | (first | apply Z.tn | apply Z.bkn) | (first | apply W.seq | apply W.region | apply W.block | apply W.skip | (apply W.rgD tMix; kernel_rfl)))
   refine Z.again (k + 1, f) ⟨by show 2 * j + 1 <= k + 1; omega, by show k + 1 <= _; omega, hf.imp id fun h => ⟨h.1, by show f < k + 1; omega, h.2.2⟩, fun q hq hql a b ha hb => ?_, hless⟩ (by show 2 * j + 4 - (k + 1) < 2 * j + 4 - k; omega) ⟨rfl, rfl, rfl, rfl, trivial⟩ rfl
   have ha' : t1[f]? = some a := ha
   rw [hyf] at ha'; cases ha'
   by_cases he : q = k
   ·subst he; rw [hyk] at hb; cases hb; omega
   ·exact hmin q (by rcases hq with h | h; exact .inl h; exact .inr ⟨h.1, by have : q < k + 1 := h.2; omega⟩) hql yf b hyf hb
 ·have hall : ∀ q, 0 < q -> q < t1.length -> (q - 1) / 2 = j -> leT t1 f q := fun q q0 ql qj => hmin q (.inr (by omega)) ql
  by_cases hfj : f = j
  ·subst hfj
   repeat' (first | (apply WL.nilc; (iterate 3 exact rfl)) | (apply W.cKT; exact rfl; (focus (exact dTt rfl))) | (apply W.cKF; exact rfl; (focus (exact dFf (by omega)))) | (first | apply WL.nil | (refine WL.au (k := ?_)) | (apply WL.gdF; exact rfl; exact rfl) | (apply WL.gD; exact rfl; exact rfl; all_goals intro _)) | (first | apply Z.tn | apply Z.tnx | apply Z.bkx | apply Z.tnr | apply Z.bkr) | (first | apply W.seq | apply W.region | apply W.ret | apply W.exit | (apply W.condF; exact rfl)))
   all_goals exact Z.body0 Try.results171 fun m => ⟨rfl, t1, A1, ⟨hX1.at m, hH1.ext ((Ext.refl _).at m), hM1⟩, hD1.stop hall⟩
  ·have hf' := hf.resolve_left hfj
   have hjl : j < t1.length := by omega
   obtain ⟨yf, hyf⟩ := getI t1 hf'.2.2
   obtain ⟨yj, hyj⟩ := getI t1 hjl
   have hlf := hless hfj yf yj hyf hyj
   have hfp : (f - 1) / 2 = j := by omega
   have hsw := heap_swap hX1 hS hH1.at_ j f yj yf hyj hyf (by omega)
   have hD2 := hD1.step (f := f) (by omega) hfp hyj hyf hlf (fun q q0 ql qj y hy => hall q q0 ql qj yf y hyf hy)
   have hA2 := hH1.at_.swap hyj hyf
   have hM2 := swp_memc hyj hyf hM1
   repeat' (first | (apply WL.nilc; (iterate 3 exact rfl)) | (apply W.cKF; exact rfl; (focus (exact dFf (by omega)))) | (apply WL.call (f := 170); (iterate 4 exact rfl); exact hsw; rintro v' w2 ⟨rfl, hX2, hS2⟩) | (first | apply WL.nil | (refine WL.au (k := ?_)) | (apply WL.gdF; exact rfl; exact rfl) | (apply WL.gD; exact rfl; exact rfl; all_goals intro _)) | (first | apply Z.tn | apply Z.bkn | apply Z.tnx | apply Z.bkx) | (first | apply W.seq | apply W.region | apply W.skip | apply W.exit | (apply W.condF; exact rfl)))
   all_goals exact Z.again (f, swp t1 j f yj yf, _, w2) ⟨.inl (by show f < (swp t1 j f yj yf).length; rw [swp_len]; exact hf'.2.2), by show f <= _; omega, hD2, hX2, ⟨hA2, hH1.zero, as_, cs, tr, ct, ap, cp, by rw [swp_len]; exact hS2⟩, hM2⟩ (by show 1048577 - f < 1048577 - j; omega) ⟨rfl, rfl, trivial⟩ rfl

abbrev hpPn (B gh : Nat) (as_ : Option Addr) (cs : Nat) (F : List Nat) (tr : Option Addr) (ct nt : Nat) (t : List Int) (ap : Option Addr) (cp na : Nat) (A : List Int) : List Piece :=
 [pcell gh #[.slice as_ F.length cs, .slice tr nt ct, .slice ap na cp] 183, prow 1 encF 187 B as_ cs F, prow 1 encI 3 B tr ct t, prow 1 encI 3 B ap cp A]
theorem HpS.mk' {B : Nat} {w : World} {gh nt na : Nat} {F : List Nat} {t A : List Int} {rest : List Piece} {as_ tr ap : Option Addr} {cs ct cp : Nat} (hA : AtOk F.length t A) (hF : ∀ x ∈ F, x = 0) (hnt : nt = t.length) (hna : na = A.length) (hS : Lt.Sep B w (hpPn B gh as_ cs F tr ct nt t ap cp na A ++ rest)) : HpS B w gh F t A rest := by
 subst hnt; subst hna; exact ⟨hA, hF, as_, cs, tr, ct, ap, cp, hS⟩
theorem heap_Len {B : Nat} {w : World} {gh : Nat} {F : List Nat} {t A : List Int} {rest : List Piece} (hH : HpS B w gh F t A rest) : Still Try.prog 169 [.pointer (some ⟨gh, 0, none⟩)] w (.int .i64 t.length) := by
 obtain ⟨as_, cs, tr, ct, ap, cp, hS⟩ := hH.mem
 have h := cHp (hS.cell (i := 0) rfl)
 have c1 := h.2.1
 clear h
 refine Spec.of _ Try.func169 rfl Try.ntmps169 (by kernel_rfl) rfl ?_
 repeat' (first | (apply WL.nilc; (iterate 3 exact rfl)) | (apply WL.eqNilS tOk; (iterate 6 exact rfl)) | (first | apply WL.nil | (refine WL.au (k := ?_))) | apply Z.tn | (first | apply W.seq | apply W.region | apply W.skip | apply W.ret | (apply W.condF; exact rfl)))
 exact Z.bd1 Try.results169 rfl fun m => ⟨rfl, m, rfl⟩
theorem heap_known {B : Nat} {w : World} {gh : Nat} {F : List Nat} {t A : List Int} {rest : List Piece} (hH : HpS B w gh F t A rest) (v : Nat) (hv : v < F.length) : Still Try.prog 167 [.pointer (some ⟨gh, 0, none⟩), .int .i64 v] w (.bool true) := by
 obtain ⟨as_, cs, tr, ct, ap, cp, hS⟩ := hH.mem
 have h := cHp (hS.cell (i := 0) rfl)
 have c2 := h.2.2.1
 clear h
 have hl := hH.at_.len
 refine Spec.of _ Try.func167 rfl Try.ntmps167 (by kernel_rfl) rfl ?_
 repeat' (first | (apply WL.nilc; (iterate 3 exact rfl)) | (apply WL.neNilS tOk; (iterate 6 exact rfl)) | (apply WL.gT; exact rfl; exact rfl; exact dTt (by omega)) | (first | apply WL.nil | (refine WL.au (k := ?_))) | apply Z.tn | (first | apply W.seq | apply W.region | apply W.ret))
 exact Z.bd1 Try.results167 rfl fun m => ⟨congrArg Value.bool (dTt (by omega)), m, rfl⟩
structure HpB (w0 w : World) (gh : Nat) (F : List Nat) (rest : List Piece) (t A : List Int) (p : Int -> Prop) : Prop where
 ext : Ext w0 w
 hp : HpS w0.heap.size w gh F t A rest
 ho : HO t
 mem : ∀ x, x ∈ t ↔ p x
theorem heap_Push (w w0 : World) (gh : Nat) (F : List Nat) (t A : List Int) (rest : List Piece) (p : Int -> Prop) (hB : HpB w0 w gh F rest t A p) (hn : F.length <= 1048576) (v : Nat) (hv : v < F.length) (hp : ¬ p v) :
  Lt.Spec Try.prog 151 [.pointer (some ⟨gh, 0, none⟩), .int .i64 v] w (fun r w' => r = .int .i64 0 /\ ∃ t' A', HpB w0 w' gh F rest t' A' (fun x => p x ∨ x = v)) := by
 obtain ⟨hX, hH, hO, hm⟩ := hB
 have hnt : (v : Int) ∉ t := fun h => hp ((hm _).1 h)
 have htl := hH.at_.len_le
 have hAl := hH.at_.len
 have hAv := hH.at_.out v hv hnt
 have hA2 := hH.at_.push hv hnt
 have hU2 := hO.push (v : Int)
 have hAv' : A[((v : Nat) : Int).toNat]? = some (-1) := hAv
 have hkn := heap_known hH v hv
 have hZ := hH.zero
 obtain ⟨as_, cs, tr, ct, ap, cp, hS⟩ := hH.mem
 have hgt := (hS.lt (i := 0) rfl rfl).1
 have hne : blk tr ≠ some gh := fun h => by
  rcases hS.apart 2 0 _ _ rfl rfl (by decide) with h1 | h1
  ·rw [show (prow 1 encI 3 w0.heap.size tr ct t).b = blk tr from rfl] at h1; rw [h1] at h; cases h
  ·exact h1 h
 have h := cHp (hS.cell (i := 0) rfl)
 have c1 := h.2.1
 have c2 := h.2.2.1
 clear h
 have hR2 := hS.row (i := 2) rfl
 have hR3 := hS.row (i := 3) rfl
 have hset : (A.set ((v : Nat) : Int).toNat (t.length : Int))[((v : Nat) : Int).toNat]? = some (t.length : Int) := List.getElem?_set_self (by show v < A.length; omega)
 refine Spec.of _ Try.func151 rfl Try.ntmps151 (by kernel_rfl) rfl ?_
 repeat' (first | (apply WL.nilc; (iterate 3 exact rfl)) | (apply FL.nilc; (iterate 3 exact rfl)) | (apply WL.callS; (iterate 4 exact rfl); exact hkn) | (apply W.cKF; exact rfl; (focus (exact dFf (by decide)))) | (show W _ _ (.region 5 _ _) _ _ _; apply W.regionGB (.fl true 0 (.fl true 1 (.fl true 2 (.fl true 4 (.fl true 5 (.fl true 6 (.fl true 7 (.fl false 3 (.fl false 8 (.fl true 9 (.fl true 10 (.br 11 .done .stop)))))))))))) [8, 9] (none) tMix; kernel_rfl) | (apply WL.storeO tOk; (iterate 4 exact rfl); assumption; exact extA; (iterate 3 exact rfl); exact eIk; assumption; exact rfl; exact extA; intro w' hO hX' hU; (replace hS := Sep.uRw (i := 3) rfl hU hO (.inl rfl) hS extA (by (exact Below.size extA))); (try simp only [List.set_cons_zero, List.set_cons_succ] at hS); (try have hR1 := hS.row (i := 1) rfl); (try have hR2 := hS.row (i := 2) rfl); (try have hR3 := hS.row (i := 3) rfl); (try have hC0 := hS.cell (i := 0) rfl); (try have hD0 := (cHp hC0).1); (try have hE0 := (cHp hC0).2.1); (try have hF0 := (cHp hC0).2.2.1)) | (apply WL.indexO tOk; (iterate 8 exact rfl); assumption; exact extA; exact eIk; (first | exact rfl | (focus (simp only [List.length_set]; done))); omega; assumption; intro gb ha hc; cases ha; have hcc := hc; first | (obtain ⟨h1, h2, h3, _⟩ := hc) | (obtain ⟨h1, h2, _⟩ := hc) | (obtain ⟨h1, _⟩ := hc)) | (apply FL.indexO tOk; (iterate 8 exact rfl); assumption; exact extA; exact eIk; exact rfl; omega; assumption; intro gb ha hc; cases ha; have hcc := hc; first | (obtain ⟨h1, h2, h3, _⟩ := hc) | (obtain ⟨h1, h2, _⟩ := hc) | (obtain ⟨h1, _⟩ := hc)) | (apply WL.lit tOk; (iterate 6 exact rfl); kernel_rfl; exact rfl; intro gb w' hb hge hc hx) | (apply WL.ap1 (z := ((v : Int))) tOk eIk; (iterate 10 exact rfl); assumption; exact extA; exact rfl; assumption; exact rfl; exact rfl; exact extA; omega; intro a' cap' w' hO hX' hU hF; (replace hS := Sep.uRw (i := 2) rfl hU hO hF hS extA (by (exact Below.size extA))); (try simp only [List.set_cons_zero, List.set_cons_succ] at hS); (try have hR1 := hS.row (i := 1) rfl); (try have hR2 := hS.row (i := 2) rfl); (try have hR3 := hS.row (i := 3) rfl); (try have hC0 := hS.cell (i := 0) rfl); (try have hD0 := (cHp hC0).1); (try have hE0 := (cHp hC0).2.1); (try have hF0 := (cHp hC0).2.2.1)) | (apply WL.storeF (w0 := w0) tOk; (iterate 4 exact rfl); assumption; exact extA; (iterate 4 exact rfl); exact extA; assumption; intro w' hb hX' hU; replace hS := Sep.uCl (i := 0) rfl hU hb hS extA (by (exact Below.size extA)); (try simp only [List.set_cons_zero, List.set_cons_succ] at hS); (try have hR1 := hS.row (i := 1) rfl); (try have hR2 := hS.row (i := 2) rfl); (try have hR3 := hS.row (i := 3) rfl); (try have hC0 := hS.cell (i := 0) rfl); (try have hD0 := (cHp hC0).1); (try have hE0 := (cHp hC0).2.1); (try have hF0 := (cHp hC0).2.2.1)) | (first | apply WL.nil | (refine WL.au (k := ?_))) | (first | apply SG.done | (apply SG.fl0; exact rfl) | (apply SG.fl1; exact rfl; (focus ((intro m; first | assumption | (apply Ext.at; exact extA) | apply But.of_at; first | exact But.upd (by assumption) | exact But.ext extA | (refine But.trans ?_ (But.upd (by assumption)); exact But.ext extA) | exact But.at _ _ _); done))) | (apply SG.br1; exact rfl)) | (first | apply FL.nilS | (refine FL.au (k := ?_)) | (apply FL.loadG tOk; (iterate 5 exact rfl); assumption; ((focus (intro h; cases h; done))))) | (apply Z.sgL; exact rfl) | (first | apply Z.tn | apply Z.bkn) | (first | apply W.seq | apply W.region | apply W.block | apply W.skip | (apply W.condF; exact rfl)))
 have hH2 : HpS w0.heap.size w' gh F (t ++ [(v : Int)]) (A.set v (t.length : Int)) rest := HpS.mk' hA2 hZ rfl (by rw [List.length_set]) hS
 have hup := heap_up w' w0 gh F (t ++ [(v : Int)]) (A.set v (t.length : Int)) rest hX' hH2 hn t.length (by simp) hU2
 repeat' (first | (apply WL.call (f := 168); (iterate 4 exact rfl); exact hup; rintro v' w2 ⟨rfl, t2, A2, hR2, hO2⟩) | (first | apply WL.nil | (refine WL.au (k := ?_))) | apply Z.tn | (first | apply W.seq | apply W.region | apply W.ret))
 refine Z.bd1 Try.results151 rfl fun m => ⟨rfl, t2, A2, hR2.ext.at m, hR2.hp.ext ((Ext.refl _).at m), hO2, fun x => ?_⟩
 rw [hR2.mem x, List.mem_append, hm x, List.mem_singleton]
theorem heap_Pop0 {w w0 : World} {gh : Nat} {F : List Nat} {A : List Int} {rest : List Piece} {p : Int -> Prop} (hB : HpB w0 w gh F rest [] A p) : Still Try.prog 152 [.pointer (some ⟨gh, 0, none⟩)] w (.tuple #[.int .i64 0, .bool false]) := by
 have hl := heap_Len hB.hp
 refine Spec.of _ Try.func152 rfl Try.ntmps152 (by kernel_rfl) rfl ?_
 repeat' (first | (apply WL.callS; (iterate 4 exact rfl); exact hl) | (apply W.cKT; exact rfl; exact dTt rfl) | (first | apply WL.nil | (refine WL.au (k := ?_))) | (first | apply Z.tn | apply Z.tnr) | (first | apply W.seq | apply W.region | apply W.ret))
 exact Z.body2 Try.results152 rfl rfl fun m => ⟨rfl, m, rfl⟩
theorem heap_Pop (w w0 : World) (gh : Nat) (F : List Nat) (t A : List Int) (rest : List Piece) (p : Int -> Prop) (hB : HpB w0 w gh F rest t A p) (hn : F.length <= 1048576) (ya : Int) (h0 : t[0]? = some ya) :
  Lt.Spec Try.prog 152 [.pointer (some ⟨gh, 0, none⟩)] w (fun r w' => r = .tuple #[.int .i64 ya, .bool true] /\ ∃ t' A', HpB w0 w' gh F rest t' A' (fun x => p x /\ x ≠ ya)) := by
 obtain ⟨hX, hH, hO, hm⟩ := hB
 have htl := hH.at_.len_le
 have hAl := hH.at_.len
 have hlen0 := lGt h0
 obtain ⟨l, hl⟩ : ∃ l, t.length = l + 1 := ⟨t.length - 1, by omega⟩
 obtain ⟨yb, hyb⟩ := getI t (show l < t.length by omega)
 have la := hH.at_.lt h0
 have hD2 := pop_down hO hl h0 hyb
 have hA2 := pop_at hH.at_ hl h0 hyb
 have hM2 := pop_mem hH.at_ hl h0 hyb
 have hL2 := pop_len (a := ya) (b := yb) hl
 have hlenc := heap_Len hH
 have hZ := hH.zero
 obtain ⟨as_, cs, tr, ct, ap, cp, hS⟩ := hH.mem
 have hsw := heap_swap hX hS hH.at_ 0 l ya yb h0 hyb (by omega)
 have h := cHp (hS.cell (i := 0) rfl)
 have c1 := h.2.1
 clear h
 have Rt := Own.row eIk (hS.row (i := 2) rfl)
 have h0' : t[(0 : Int).toNat]? = some ya := h0
 have el : ((t.length : Nat) : Int) - 1 = (l : Int) := by omega
 have hsl := swp_len t 0 l ya yb
 obtain ⟨z1, hz1⟩ := getI ((A.set yb.toNat ((0 : Nat) : Int)).set ya.toNat (l : Int)) (show ya.toNat < _ by rw [List.length_set, List.length_set]; omega)
 refine Spec.of _ Try.func152 rfl Try.ntmps152 (by kernel_rfl) rfl ?_
 repeat' (first | (apply QL.nilc; (iterate 3 exact rfl)) | (apply WL.callS; (iterate 4 exact rfl); exact hlenc) | (apply W.cKF; exact rfl; exact dFf (by omega)) | (first | apply WL.nil | (refine WL.au (k := ?_))) | (first | apply QL.nil | (refine QL.au (k := ?_)) | (apply QL.index tOk; (iterate 8 exact rfl); assumption; exact extA; exact rfl; omega; assumption; intro b off h; have hcc := h; first | (obtain ⟨h1, h2, h3, h4, h5, h6, _⟩ := h) | (obtain ⟨h1, h2, h3, _⟩ := h) | (obtain ⟨h1, h2, _⟩ := h) | (obtain ⟨h1, _⟩ := h))) | apply Z.tn | (first | apply W.seq | apply W.region | apply W.skip | (apply W.rgD tMix; kernel_rfl)))
 rw [el]
 repeat' (first | (apply WL.call (f := 170); (iterate 4 exact rfl); exact hsw; rintro v' w2 ⟨rfl, hX2, hS⟩) | apply WL.nil | apply Z.tn | apply W.seq)
 have hgt := (hS.lt (i := 0) rfl rfl).1
 have h := cHp (hS.cell (i := 0) rfl)
 have c1 := h.2.1
 have c2 := h.2.2.1
 clear h
 have hR2 := hS.row (i := 2) rfl
 have hR3 := hS.row (i := 3) rfl
 have hcap := hR2.capLe
 (try simp only [List.set_cons_zero, List.set_cons_succ] at hS); (try have hR1 := hS.row (i := 1) rfl); (try have hR2 := hS.row (i := 2) rfl); (try have hR3 := hS.row (i := 3) rfl); (try have hC0 := hS.cell (i := 0) rfl); (try have hD0 := (cHp hC0).1); (try have hE0 := (cHp hC0).2.1); (try have hF0 := (cHp hC0).2.2.1)
 repeat' (first | (apply FL.nilc; (iterate 3 exact rfl)) | (show W _ _ (.region 5 _ _) _ _ _; apply W.regionGB (.fl true 0 (.fl true 1 (.fl true 2 (.fl true 3 (.fl true 5 (.fl true 6 (.fl true 7 (.fl true 8 (.fl true 10 (.fl false 4 (.fl false 9 (.fl true 11 (.fl true 12 (.fl true 13 (.br 14 (.fl true 15 (.br 16 .done .stop)) .stop))))))))))))))) [9, 11] (none) tMix; kernel_rfl) | (apply FL.sliceH0 tOk; (iterate 7 exact rfl); omega) | (apply WL.storeO tOk; (iterate 4 exact rfl); assumption; exact extA; (iterate 3 exact rfl); exact eIk; assumption; exact rfl; exact extA; intro w' hO hX' hU; (replace hS := Sep.uRw (i := 3) rfl hU hO (.inl rfl) hS extA (by (exact Below.size extA))); (try simp only [List.set_cons_zero, List.set_cons_succ] at hS); (try have hR1 := hS.row (i := 1) rfl); (try have hR2 := hS.row (i := 2) rfl); (try have hR3 := hS.row (i := 3) rfl); (try have hC0 := hS.cell (i := 0) rfl); (try have hD0 := (cHp hC0).1); (try have hE0 := (cHp hC0).2.1); (try have hF0 := (cHp hC0).2.2.1)) | (apply FL.indexO tOk; (iterate 8 exact rfl); assumption; exact extA; exact eIk; exact rfl; omega; assumption; intro gb ha hc; cases ha; have hcc := hc; first | (obtain ⟨h1, h2, h3, _⟩ := hc) | (obtain ⟨h1, h2, _⟩ := hc) | (obtain ⟨h1, _⟩ := hc)) | (apply WL.storeF (w0 := w0) tOk; (iterate 4 exact rfl); assumption; exact extA; (iterate 4 exact rfl); exact extA; assumption; intro w' hb hX' hU; replace hS := Sep.uCl (i := 0) rfl hU hb hS extA (by (exact Below.size extA)); (try simp only [List.set_cons_zero, List.set_cons_succ] at hS); (try have hR1 := hS.row (i := 1) rfl); (try have hR2 := hS.row (i := 2) rfl); (try have hR3 := hS.row (i := 3) rfl); (try have hC0 := hS.cell (i := 0) rfl); (try have hD0 := (cHp hC0).1); (try have hE0 := (cHp hC0).2.1); (try have hF0 := (cHp hC0).2.2.1)) | (first | apply WL.nil | (refine WL.au (k := ?_))) | (first | apply SG.done | (apply SG.fl0; exact rfl) | (apply SG.fl1; exact rfl; (focus ((intro m; first | assumption | (apply Ext.at; exact extA) | apply But.of_at; first | exact But.upd (by assumption) | exact But.ext extA | (refine But.trans ?_ (But.upd (by assumption)); exact But.ext extA) | exact But.at _ _ _); done))) | (apply SG.br1; exact rfl)) | (first | apply FL.nilS | (refine FL.au (k := ?_)) | (apply FL.loadG tOk; (iterate 5 exact rfl); assumption; ((focus (intro h; cases h; done))))) | (apply Z.sgL; exact rfl) | apply Z.tn | (first | apply W.seq | apply W.region))
 have h2 := Own.take eIk (hS.row (i := 2) rfl) l
 have hS2 := Sep.re (i := 2) (p' := prow 1 encI 3 w0.heap.size tr ct ((swp t 0 l ya yb).take l)) hS rfl rfl h2
 have hH2 : HpS w0.heap.size w' gh F ((swp t 0 l ya yb).take l) (((A.set yb.toNat (0 : Int)).set ya.toNat (l : Int)).set ya.toNat (-1)) rest := HpS.mk' hA2 hZ (by rw [hL2]; rfl) (by simp) hS2
 have hdn := heap_down w' w0 gh F _ _ rest hX' hH2 hn 0 (by
  by_cases hl0 : l = 0
  ·right; subst hl0; rfl
  ·left; rw [hL2]; omega) hD2 (by omega)
 repeat' (first | (apply WL.call (f := 171); (iterate 4 exact rfl); exact hdn; rintro v' w3 ⟨rfl, t3, A3, hR3, hO3⟩) | (first | apply WL.nil | (refine WL.au (k := ?_))) | apply Z.tn | (first | apply W.seq | apply W.region | apply W.ret))
 exact Z.body2 Try.results152 rfl rfl fun m => ⟨rfl, t3, A3, hR3.ext.at m, hR3.hp.ext ((Ext.refl _).at m), hO3, fun x => by rw [hR3.mem x, hM2 x, hm x]⟩
theorem Sep.swap23 {B : Nat} {w : World} {p q r s : Piece} {ps : List Piece} (hS : Lt.Sep B w (p :: q :: r :: s :: ps)) : Lt.Sep B w (p :: q :: s :: r :: ps) := by
 refine hS.pick (fun i => if i = 2 then 3 else if i = 3 then 2 else i) (fun i x hx => ?_) (fun i j _ _ hij => ?_)
 ·match i, hx with
  | 0, hx => exact hx
  | 1, hx => exact hx
  | 2, hx => exact hx
  | 3, hx => exact hx
  | i + 4, hx => rw [if_neg (by omega), if_neg (by omega)]; exact hx
 ·show (if i = 2 then 3 else if i = 3 then 2 else i) ≠ (if j = 2 then 3 else if j = 3 then 2 else j)
  split <;> split <;> (try split) <;> (try split) <;> omega
theorem heap_New (n : Nat) (hn : n <= 1048576) (w w0 : World) (rest : List Piece) (hX : Ext w0 w) (hS : Lt.Sep w0.heap.size w rest) :
  Lt.Spec Try.prog 150 [.int .i64 n] w (fun r w' => ∃ gh F A, r = .pointer (some ⟨gh, 0, none⟩) /\ F.length = n /\ HpB w0 w' gh F rest [] A (fun _ => False)) := by
 have hB := hX.size
 have hn1 : ((n : Nat) : Int).toNat = n := by omega
 refine Spec.of _ Try.func150 rfl Try.ntmps150 (by kernel_rfl) rfl ?_
 repeat' (first | (apply WL.gF; exact rfl; exact rfl; exact dFf (by omega)) | (apply W.cKF; exact rfl; exact dFf (by omega)) | (first | apply WL.nil | (refine WL.au (k := ?_))) | apply Z.tn | (first | apply W.seq | apply W.region | apply W.skip))
 refine W.cutT (σ := Nat × Nat × Nat × World) (fun s => Lt.Sep w0.heap.size s.2.2.2 ([pcell s.1 #[.slice (some ⟨s.2.1, 0, none⟩) n n, .slice none 0 0, .slice (some ⟨s.2.2.1, 0, none⟩) n n] 183, prow 1 encF 187 w0.heap.size (some ⟨s.2.1, 0, none⟩) n (List.replicate n 0), prow 1 encI 3 w0.heap.size none 0 [], prow 1 encI 3 w0.heap.size (some ⟨s.2.2.1, 0, none⟩) n (List.replicate n 0)] ++ rest) /\ Ext w0 s.2.2.2)
  (fun s => [(0, .int .i64 n), (3, .pointer (some ⟨s.1, 0, none⟩))]) (fun s => s.2.2.2) ?_ ?_
 ·replace hS : Lt.Sep w0.heap.size w (prow 1 encI 3 w0.heap.size none 0 [] :: rest) := Sep.newRow hS (Ext.refl _) Own.nil (fun k hk => by cases hk) hB
  repeat' (first | (show W _ _ (.region 3 _ _) _ _ _; apply W.regionGB (.fl true 0 (.fl true 2 (.br 1 (.br 3 (.fl true 4 (.br 5 (.fl true 6 .done) .stop)) .stop) (.br 3 (.br 1 (.fl true 4 (.br 5 (.fl true 6 .done) .stop)) .stop) .stop)))) [] (none) tMix; kernel_rfl) | (apply WL.make (w0 := w0) (z := (0 : Nat)) thOk; (iterate 9 exact rfl); exact encF_ok; exact rfl; exact rfl; exact extA; omega; intro gb w' hO hge hx; replace hS := Sep.newRow (Sep.ext hS extA) hx hO (fun k hk => by cases hk; exact hge) (by exact Below.size extA)) | (apply WL.make (w0 := w0) (z := (0:Int)) tOk; (iterate 9 exact rfl); exact eIk; exact rfl; exact rfl; exact extA; omega; intro gb w' hO hge hx; replace hS := Sep.newRow (Sep.ext hS extA) hx hO (fun k hk => by cases hk; exact hge) (by (exact Below.size extA)); (try simp only [List.set_cons_zero, List.set_cons_succ] at hS); (try have hR0 := hS.row (i := 0) rfl); (try have hR1 := hS.row (i := 1) rfl); (try have hR2 := hS.row (i := 2) rfl)) | (apply FL.build tOk; (iterate 7 exact rfl); kernel_rfl) | (apply WL.box; (iterate 3 exact rfl); intro gb w' hb hge hc hx; have hcc := hc; ((obtain ⟨h1, h2, h3, _⟩ := hc)); replace hS := Sep.newCell (Sep.ext hS extA) hx hb hge (by (exact Below.size extA)); (try simp only [List.set_cons_zero, List.set_cons_succ] at hS); (try have hR1 := hS.row (i := 1) rfl); (try have hR2 := hS.row (i := 2) rfl); (try have hR3 := hS.row (i := 3) rfl); (try have hC0 := hS.cell (i := 0) rfl); (try have hD0 := (cHp hC0).1); (try have hE0 := (cHp hC0).2.1); (try have hF0 := (cHp hC0).2.2.1)) | apply WL.nil | (first | apply SG.done | (apply SG.fl0; exact rfl) | (apply SG.br1; exact rfl) | (apply SG.br; exact rfl)) | (first | apply FL.nilS | (refine FL.au (k := ?_))) | (apply Z.sgL; exact rfl))
  all_goals (rw [hn1] at hS; simp only [List.length_replicate] at hS)
  ·exact Z.cut (_, _, _, _) ⟨Sep.swap23 (Sep.swap12 hS), extA⟩ ⟨rfl, rfl, trivial⟩ rfl
  ·exact Z.cut (_, _, _, _) ⟨Sep.swap23 hS, extA⟩ ⟨rfl, rfl, trivial⟩ rfl
 ·rintro ⟨gh, gf, ga, w1⟩ ⟨hS, hx1⟩
  simp only at hx1 hS ⊢
  (try simp only [List.set_cons_zero, List.set_cons_succ] at hS); (try have hR1 := hS.row (i := 1) rfl); (try have hR2 := hS.row (i := 2) rfl); (try have hR3 := hS.row (i := 3) rfl); (try have hC0 := hS.cell (i := 0) rfl); (try have hD0 := (cHp hC0).1); (try have hE0 := (cHp hC0).2.1); (try have hF0 := (cHp hC0).2.2.1)
  repeat' (first | (apply WL.nilc; (iterate 3 exact rfl)) | (first | apply WL.nil | (refine WL.au (k := ?_))) | apply Z.tn | (first | apply W.seq | apply W.region | apply W.block))
  refine W.loopW n (fun k w' => k <= n /\ Ext w0 w' /\ ∃ A : List Int, A.length = n /\ (∀ u : Nat, u < k -> A[u]? = some (-1)) /\ Lt.Sep w0.heap.size w' ([pcell gh #[.slice (some ⟨gf, 0, none⟩) n n, .slice none 0 0, .slice (some ⟨ga, 0, none⟩) n n] 183, prow 1 encF 187 w0.heap.size (some ⟨gf, 0, none⟩) n (List.replicate n 0), prow 1 encI 3 w0.heap.size none 0 [], prow 1 encI 3 w0.heap.size (some ⟨ga, 0, none⟩) n A] ++ rest))
   (fun k => [(0, .int .i64 n), (3, .pointer (some ⟨gh, 0, none⟩)), (21, .int .i64 n), (22, .int .i64 k)]) ⟨Nat.zero_le _, hx1, List.replicate n 0, by simp, fun u hu => absurd hu (Nat.not_lt_zero _), hS⟩ (fun k w' h => h.1) ⟨rfl, rfl, rfl, rfl, trivial⟩ ?_
  clear hS
  rintro k w' ⟨hk, hx', A, hAl, hAk, hS⟩
  (try simp only [List.set_cons_zero, List.set_cons_succ] at hS); (try have hR1 := hS.row (i := 1) rfl); (try have hR2 := hS.row (i := 2) rfl); (try have hR3 := hS.row (i := 3) rfl); (try have hC0 := hS.cell (i := 0) rfl); (try have hD0 := (cHp hC0).1); (try have hE0 := (cHp hC0).2.1); (try have hF0 := (cHp hC0).2.2.1)
  by_cases hlt : k < n
  ·obtain ⟨z, hz⟩ := getI A (show ((k : Nat) : Int).toNat < A.length by omega)
   repeat' (first | (apply W.cKT; exact rfl; exact dTt (by omega)) | (apply WL.nilc; (iterate 3 exact rfl)) | (apply WL.storeO tOk; (iterate 4 exact rfl); assumption; exact extA; (iterate 3 exact rfl); exact eIk; assumption; exact rfl; exact extA; intro w' hO hX' hU; (replace hS := Sep.uRw (i := 3) rfl hU hO (.inl rfl) hS extA (by (exact Below.size extA))); (try simp only [List.set_cons_zero, List.set_cons_succ] at hS); (try have hR1 := hS.row (i := 1) rfl); (try have hR2 := hS.row (i := 2) rfl); (try have hR3 := hS.row (i := 3) rfl); (try have hC0 := hS.cell (i := 0) rfl); (try have hD0 := (cHp hC0).1); (try have hE0 := (cHp hC0).2.1); (try have hF0 := (cHp hC0).2.2.1)) | (apply WL.indexO tOk; (iterate 8 exact rfl); assumption; exact extA; exact eIk; ((focus (simp [*]; done))); omega; assumption; intro gb ha hc; cases ha; have hcc := hc; first | (obtain ⟨h1, h2, h3, _⟩ := hc) | (obtain ⟨h1, h2, _⟩ := hc) | (obtain ⟨h1, _⟩ := hc)) | (first | apply WL.nil | (refine WL.au (k := ?_))) | (first | apply Z.tn | apply Z.bkn) | (first | apply W.seq | apply W.region | apply W.block | apply W.skip))
   refine Z.agW ⟨by omega, hX', _, by rw [List.length_set]; exact hAl, fun u hu => ?_, hS⟩ ⟨rfl, rfl, rfl, rfl, trivial⟩
   rw [List.getElem?_set]
   split
   ·rw [if_pos (by omega)]
   ·exact hAk u (by omega)
  ·obtain rfl : k = n := by omega
   repeat' (first | (apply W.cKF; exact rfl; exact dFf (by omega)) | (first | apply WL.nil | (refine WL.au (k := ?_))) | (first | apply Z.tn | apply Z.tnx | apply Z.bkx) | (first | apply W.seq | apply W.region | apply W.ret | apply W.exit))
   refine Z.bd1 Try.results150 rfl fun m => ⟨gh, List.replicate k 0, A, rfl, by simp, hx'.at m, ?_, fun j j0 jl => absurd jl (by simp), fun x => by simp⟩
   refine HpS.ext (w := w') ?_ ((Ext.refl _).at m)
   have hS2 : Lt.Sep w0.heap.size w' (hpPn w0.heap.size gh (some ⟨gf, 0, none⟩) k (List.replicate k 0) none 0 0 [] (some ⟨ga, 0, none⟩) k k A ++ rest) := by
    unfold hpPn
    rw [show (List.replicate k 0).length = k by simp]
    exact hS
   exact HpS.mk' ⟨by simp [hAl], fun i x hx => by simp at hx, fun v hv _ => hAk v (by simpa using hv)⟩ (fun x hx => (List.mem_replicate.1 hx).2) rfl hAl.symm hS2

theorem mget_mem {κ ν : Type} {a : κ} {v : ν} : ∀ {L : List (κ × ν)}, mget a L = some v -> (a, v) ∈ L
 | [], h => by cases h
 | x :: r, h => by
  unfold mget at h
  by_cases hax : a = x.1
  ·rw [dTt hax] at h
   have h' : some x.2 = some v := h
   have := Option.some.inj h'
   subst this; subst hax; simp
  ·rw [dFf hax] at h
   exact List.mem_cons_of_mem _ (mget_mem h)
theorem mget_no {κ ν : Type} {a : κ} : ∀ {L : List (κ × ν)}, mget a L = none -> ∀ v, (a, v) ∉ L
 | [], _, v => by simp
 | x :: r, h, v => by
  unfold mget at h
  by_cases hax : a = x.1
  ·rw [dTt hax] at h; cases h
  ·rw [dFf hax] at h
   intro hm
   rcases List.mem_cons.1 hm with he | hm
   ·exact hax (by rw [<- he])
   ·exact mget_no h v hm
def plcM (gs : List G3) : Nat -> List (Int × Int)
 | 0 => []
 | k + 1 => plcM gs k ++ (match gs[k]? with | some g => [(g.1 / 2, (k : Int))] | none => [])
theorem plcM_s {gs : List G3} {k : Nat} {g : G3} (h : gs[k]? = some g) : plcM gs (k + 1) = plcM gs k ++ [(g.1 / 2, (k : Int))] := by rw [plcM, h]
theorem mem_plcM {gs : List G3} {a v : Int} : ∀ {k : Nat}, (a, v) ∈ plcM gs k ↔ ∃ (j : Nat) (g : G3), j < k /\ gs[j]? = some g /\ a = g.1 / 2 /\ v = (j : Int)
 | 0 => by simp [plcM]
 | k + 1 => by
  rw [plcM, List.mem_append, mem_plcM (k := k)]
  constructor
  ·rintro (⟨j, g, h1, h2⟩ | h)
   ·exact ⟨j, g, by omega, h2⟩
   ·cases hg : gs[k]? with
    | none => rw [hg] at h; cases h
    | some g =>
     rw [hg] at h
     simp only [List.mem_singleton, Prod.mk.injEq] at h
     exact ⟨k, g, by omega, hg, h.1, h.2⟩
  ·rintro ⟨j, g, h1, h2, h3⟩
   by_cases hj : j = k
   ·subst hj; rw [h2]; right; simp only [List.mem_singleton, Prod.mk.injEq]; exact h3
   ·exact .inl ⟨j, g, by omega, h2, h3⟩
theorem plcM_new {gs : List G3} (ho : Once gs) {k : Nat} {g : G3} (h : gs[k]? = some g) : mget (g.1 / 2) (plcM gs k) = none := by
 cases hm : mget (g.1 / 2) (plcM gs k) with
 | none => rfl
 | some v =>
  obtain ⟨j, x, h1, h2, h3, _⟩ := mem_plcM.1 (mget_mem hm)
  have := ho j k x g h2 h (by omega)
  omega
theorem plcM_some {gs : List G3} {l v : Int} (h : mget l (plcM gs gs.length) = some v) : ∃ (j : Nat) (g : G3), gs[j]? = some g /\ g.1 / 2 = l /\ v = (j : Int) := by
 obtain ⟨j, x, h1, h2, h3, h4⟩ := mem_plcM.1 (mget_mem h)
 exact ⟨j, x, h2, h3.symm, h4⟩
theorem plcM_none {gs : List G3} {l : Int} (h : mget l (plcM gs gs.length) = none) : ∀ (j : Nat) (g : G3), gs[j]? = some g -> g.1 / 2 ≠ l := fun j g hg he =>
 mget_no h (j : Int) (mem_plcM.2 ⟨j, g, lGt hg, hg, he.symm, rfl⟩)

abbrev nilR : RowV Int := (none, 0, [])
abbrev pI (B : Nat) (r : RowV Int) : Piece := prow 1 encI 3 B r.1 r.2.1 r.2.2
abbrev rst (B : Nat) (al : Option Addr) (cl : Nat) (lk : List Int) (ao : Option Addr) (co : Nat) (rs : List (RowV Int)) (rm : Nat) (M : List (Int × Int)) (ou : Option Addr) (cu : Nat) (out : List Int) (lit : RowV Int) (inn : List (RowV Int)) : List Piece :=
 [prow 1 encI 3 B al cl lk, prow 1 encRow 22 B ao co rs, pmap encK encK rm M, prow 1 encI 3 B ou cu out, pI B lit] ++ inn.map (pI B)
section
variable {B : Nat} {al : Option Addr} {cl : Nat} {lk : List Int} {ao : Option Addr} {co : Nat} {rs : List (RowV Int)} {rm : Nat} {M : List (Int × Int)} {ou : Option Addr} {cu : Nat} {out : List Int} {lit : RowV Int} {inn : List (RowV Int)} {k : Nat} {r : RowV Int}
theorem rst_in (h : inn[k]? = some r) (q : List Piece) (hq : q.length = 4) : (q ++ rst B al cl lk ao co rs rm M ou cu out lit inn)[9 + k]? = some (pI B r) := by
 rw [List.getElem?_append_right (by omega), show 9 + k - q.length = 5 + k by omega]
 show (_ :: _ :: _ :: _ :: _ :: inn.map (pI B))[5 + k]? = _
 rw [show 5 + k = k + 1 + 1 + 1 + 1 + 1 by omega]
 simp only [List.getElem?_cons_succ, List.getElem?_map, h, Option.map_some]
theorem rst_set (q : List Piece) (hq : q.length = 4) : (q ++ rst B al cl lk ao co rs rm M ou cu out lit inn).set (9 + k) (pI B r) = q ++ rst B al cl lk ao co rs rm M ou cu out lit (inn.set k r) := by
 rw [List.set_append_right _ _ (by omega), show 9 + k - q.length = k + 1 + 1 + 1 + 1 + 1 by omega]
 congr 1
 show (_ :: _ :: _ :: _ :: _ :: inn.map (pI B)).set _ _ = _
 simp only [List.set_cons_succ, <- List.map_set]
 rfl
end
theorem Sep.addNils {B : Nat} {w : World} {ps : List Piece} (hS : Lt.Sep B w ps) (n : Nat) : Lt.Sep B w (ps ++ (List.replicate n ((none, 0, []) : RowV Int)).map (pI B)) := by
 have key : ∀ (i : Nat) (p : Piece), (ps ++ (List.replicate n ((none, 0, []) : RowV Int)).map (pI B))[i]? = some p -> ps[i]? = some p ∨ p = pI B (none, 0, []) := fun i p h => by
  rcases get_app h with h | ⟨_, h⟩
  ·exact .inl h
  ·rw [List.getElem?_map, List.getElem?_replicate] at h
   split at h
   ·simp at h; exact .inr h.symm
   ·cases h
 refine ⟨fun i p h => ?_, fun i j p q h1 h2 hne => ?_⟩
 ·rcases key i p h with h | rfl
  ·exact hS.holds i p h
  ·exact ⟨Own.nil, fun k hk => by cases hk⟩
 ·rcases key i p h1 with k1 | rfl
  ·rcases key j q h2 with k2 | rfl
   ·exact hS.apart i j p q k1 k2 hne
   ·cases hb : p.b with
    | none => exact .inl rfl
    | some k => exact .inr (by simp [prow, blk])
  ·exact .inl rfl
theorem HpB.mono {w0 w : World} {gh : Nat} {F : List Nat} {rest : List Piece} {t A : List Int} {p q : Int -> Prop} (h : HpB w0 w gh F rest t A p) (k : ∀ x, p x ↔ q x) : HpB w0 w gh F rest t A q := ⟨h.ext, h.hp, h.ho, fun x => (h.mem x).trans (k x)⟩
theorem HpB.up {w0 w w' : World} {gh : Nat} {F : List Nat} {rest : List Piece} {t A : List Int} {p : Int -> Prop} (h : HpB w0 w gh F rest t A p) (hx : Ext w w') : HpB w0 w' gh F rest t A p := ⟨h.ext.trans hx, h.hp.ext hx, h.ho, h.mem⟩

theorem HpB.setLit {w0 w w' : World} {gh : Nat} {F : List Nat} {t A : List Int} {p : Int -> Prop} {al : Option Addr} {cl : Nat} {lk : List Int} {ao : Option Addr} {co : Nat} {rs : List (RowV Int)} {rm : Nat} {M : List (Int × Int)} {ou : Option Addr} {cu : Nat} {out : List Int} {lit : RowV Int} {inn : List (RowV Int)} {gt cap : Nat} {l : List Int}
  (h : HpB w0 w gh F (rst w0.heap.size al cl lk ao co rs rm M ou cu out lit inn) t A p) (hx : Ext w w') (hO : Own 1 encI 3 w0.heap.size w' (some ⟨gt, 0, none⟩) cap l) (hge : w.heap.size <= gt) : HpB w0 w' gh F (rst w0.heap.size al cl lk ao co rs rm M ou cu out (some ⟨gt, 0, none⟩, cap, l) inn) t A p := by
 obtain ⟨hX, ⟨hat, hze, as_, cs, tr, ct, ap, cp, hS⟩, hO9, hm⟩ := h
 exact ⟨hX.trans hx, ⟨hat, hze, as_, cs, tr, ct, ap, cp, hS.upd (i := 8) (p' := pI w0.heap.size (some ⟨gt, 0, none⟩, cap, l)) rfl (But.ext hx) hO (.inr ⟨gt, rfl, hge, (hO.blk_lt gt rfl).2⟩) hX.size⟩, hO9, hm⟩

theorem heap_PopO (w w0 : World) (gh : Nat) (F : List Nat) (t A : List Int) (rest : List Piece) (p : Int -> Prop) (hB : HpB w0 w gh F rest t A p) (hn : F.length <= 1048576) :
  Lt.Spec Try.prog 152 [.pointer (some ⟨gh, 0, none⟩)] w (fun r w' => ∃ nx : Option Int, r = .tuple #[.int .i64 (nx.getD 0), .bool nx.isSome] /\ (∀ y, nx = some y -> p y /\ ∀ x, p x -> y <= x) /\ (nx = none -> ∀ x, ¬ p x) /\ ∃ t' A', HpB w0 w' gh F rest t' A' (fun x => p x /\ ∀ y, nx = some y -> x ≠ y)) := by
 cases ht : t with
 | nil =>
  subst ht
  have hno : ∀ x, ¬ p x := fun x hx => by have := (hB.mem x).2 hx; cases this
  refine Spec.mono (heap_Pop0 hB) ?_
  rintro r w' ⟨rfl, m, rfl⟩
  exact ⟨none, rfl, (fun y h => by cases h), (fun _ => hno), _, _, (hB.up ((Ext.refl _).at m)).mono fun x => ⟨fun h => absurd h (hno x), fun h => h.1⟩⟩
 | cons ya tl =>
  have h0 : t[0]? = some ya := by rw [ht]; rfl
  refine Spec.mono (heap_Pop w w0 gh F t A rest p hB hn ya h0) ?_
  rintro r w' ⟨rfl, t', A', h⟩
  refine ⟨some ya, rfl, (fun y hy => ?_), (fun h => by cases h), t', A', h.mono fun x => ⟨fun hx => ⟨hx.1, fun y hy => by cases hy; exact hx.2⟩, fun hx => ⟨hx.1, hx.2 ya rfl⟩⟩⟩
  have hy' := Option.some.inj hy
  subst hy'
  refine ⟨(hB.mem ya).1 (by rw [ht]; simp), fun x hx => ?_⟩
  obtain ⟨i, hi⟩ := List.mem_iff_getElem?.1 ((hB.mem x).2 hx)
  exact hB.ho.min h0 i x hi

def litJ (g : G3) : Nat -> Int
 | 0 => g.2.1
 | _ => g.2.2
noncomputable def lackJ (gs : List G3) (g : G3) : Nat -> Nat
 | 0 => 0
 | j + 1 => lackJ gs g j + one (Bl gs [] (litJ g j))
theorem lackJ_s (gs : List G3) (g : G3) (j : Nat) : lackJ gs g (j + 1) = lackJ gs g j + one (Bl gs [] (litJ g j)) := rfl
noncomputable def hangsJ (g y : G3) : Nat -> Nat
 | 0 => 0
 | j + 1 => hangsJ g y j + one (y.1 / 2 = litJ g j / 2)
theorem lackJ2 (gs : List G3) (g : G3) : lackJ gs g 2 = lackG gs [] g := by
 show 0 + one (Bl gs [] g.2.1) + one (Bl gs [] g.2.2) = _
 rw [Nat.zero_add]; rfl
theorem hangsJ2 (g y : G3) : hangsJ g y 2 = hangs g y := by
 show 0 + one (y.1 / 2 = g.2.1 / 2) + one (y.1 / 2 = g.2.2 / 2) = _
 rw [Nat.zero_add]; rfl
theorem lackJ_le (gs : List G3) (g : G3) : ∀ j, lackJ gs g j <= j
 | 0 => Nat.le_refl _
 | j + 1 => by have := lackJ_le gs g j; have := one_le (Bl gs [] (litJ g j)); unfold lackJ; omega
theorem hangsJ_le (g y : G3) : ∀ j, hangsJ g y j <= j
 | 0 => Nat.le_refl _
 | j + 1 => by have := hangsJ_le g y j; have := one_le (y.1 / 2 = litJ g j / 2); unfold hangsJ; omega
structure StA (gs : List G3) (i : Nat) (g : G3) (j : Nat) (lk : List Int) (rs : List (RowV Int)) : Prop where
 llen : lk.length = gs.length
 old : ∀ (q : Nat) (x : G3), gs[q]? = some x -> q < i -> lk[q]? = some (lackG gs [] x : Int)
 now : lk[i]? = some (lackJ gs g j : Int)
 new : ∀ q : Nat, i < q -> q < gs.length -> lk[q]? = some 0
 rlen : rs.length = gs.length
 row : ∀ (q : Nat) (y : G3), gs[q]? = some y -> ∃ r, rs[q]? = some r /\ r.2.2 = abv gs y i ++ List.replicate (hangsJ g y j) ((i : Nat) : Int)
structure StI (gs : List G3) (i : Nat) (lk : List Int) (rs : List (RowV Int)) : Prop where
 llen : lk.length = gs.length
 old : ∀ (q : Nat) (x : G3), gs[q]? = some x -> q < i -> lk[q]? = some (lackG gs [] x : Int)
 new : ∀ q : Nat, i <= q -> q < gs.length -> lk[q]? = some 0
 rlen : rs.length = gs.length
 row : ∀ (q : Nat) (y : G3), gs[q]? = some y -> ∃ r, rs[q]? = some r /\ r.2.2 = abv gs y i
theorem StI.first (gs : List G3) : StI gs 0 (List.replicate gs.length 0) (List.replicate gs.length (none, 0, [])) :=
 ⟨by simp, fun q x _ h => absurd h (Nat.not_lt_zero _), fun q _ h => by rw [List.getElem?_replicate, if_pos h], by simp, fun q y hy => ⟨(none, 0, []), by rw [List.getElem?_replicate, if_pos (lGt hy)], rfl⟩⟩
theorem StI.enter {gs : List G3} {i : Nat} {g : G3} {lk : List Int} {rs : List (RowV Int)} (h : StI gs i lk rs) (hg : gs[i]? = some g) : StA gs i g 0 lk rs :=
 ⟨h.llen, h.old, h.new i (Nat.le_refl _) (lGt hg), fun q h1 h2 => h.new q (by omega) h2, h.rlen, fun q y hy => by obtain ⟨r, h1, h2⟩ := h.row q y hy; exact ⟨r, h1, by rw [h2]; simp [hangsJ]⟩⟩
theorem StA.leave {gs : List G3} {i : Nat} {g : G3} {lk : List Int} {rs : List (RowV Int)} (h : StA gs i g 2 lk rs) (hg : gs[i]? = some g) : StI gs (i + 1) lk rs :=
 ⟨h.llen, fun q x hx hq => by
  by_cases hqi : q = i
  ·subst hqi; rw [hg] at hx; cases hx; rw [h.now, lackJ2]
  ·exact h.old q x hx (by omega), fun q h1 h2 => h.new q (by omega) h2, h.rlen, fun q y hy => by obtain ⟨r, h1, h2⟩ := h.row q y hy; exact ⟨r, h1, by rw [h2, hangsJ2, abv, hg]⟩⟩
theorem StA.skip {gs : List G3} {i j : Nat} {g : G3} {lk : List Int} {rs : List (RowV Int)} (h : StA gs i g j lk rs) (hn : ∀ (q : Nat) (y : G3), gs[q]? = some y -> y.1 / 2 ≠ litJ g j / 2) : StA gs i g (j + 1) lk rs := by
  have e1 : one (Bl gs [] (litJ g j)) = 0 := one_no fun ⟨q, y, h1, _, h2⟩ => hn q y h1 h2
  refine ⟨h.llen, h.old, by rw [h.now, lackJ_s, e1]; rfl, h.new, h.rlen, fun q y hy => ?_⟩
  obtain ⟨r, h1, h2⟩ := h.row q y hy
  exact ⟨r, h1, by rw [h2]; conv => rhs; rw [hangsJ]
                   rw [one_no (hn q y hy)]; rfl⟩
theorem StA.take {gs : List G3} (ho : Once gs) {i j k : Nat} {g y : G3} {lk : List Int} {rs : List (RowV Int)} {r : RowV Int} {a' : Option Addr} {cap' : Nat} (h : StA gs i g j lk rs) (hy : gs[k]? = some y) (he : y.1 / 2 = litJ g j / 2) (hr : rs[k]? = some r) :
  StA gs i g (j + 1) (lk.set i ((lackJ gs g j : Int) + 1)) (rs.set k (a', cap', r.2.2 ++ [((i : Nat) : Int)])) := by
 have e1 : one (Bl gs [] (litJ g j)) = 1 := one_yes ⟨k, y, hy, by simp, he⟩
 have hil := lGt h.now
 refine ⟨by simp [h.llen], fun q x hx hq => by rw [List.getElem?_set_ne (by omega)]; exact h.old q x hx hq, ?_, fun q h1 h2 => by rw [List.getElem?_set_ne (by omega)]; exact h.new q h1 h2, by simp [h.rlen], fun q z hz => ?_⟩
 ·rw [List.getElem?_set_self hil, lackJ_s, e1]; rfl
 ·obtain ⟨r', h1, h2⟩ := h.row q z hz
  by_cases hq : k = q
  ·subst hq
   rw [hr] at h1; cases h1
   rw [hy] at hz; cases hz
   refine ⟨_, List.getElem?_set_self (lGt hr), ?_⟩
   show r.2.2 ++ _ = _
   rw [h2, hangsJ, one_yes he, List.append_assoc, List.replicate_succ']
  ·refine ⟨r', by rw [List.getElem?_set_ne hq]; exact h1, ?_⟩
   rw [h2, hangsJ, one_no fun hh => hq (ho k q y z hy hz (by omega))]; rfl
def pA (i : Nat) (lk : List Int) (x : Int) : Prop := ∃ j : Nat, x = (j : Int) /\ j < i /\ lk[j]? = some 0
def pH (T : List Nat) (lk : List Int) (x : Int) : Prop := ∃ j : Nat, x = (j : Int) /\ j ∉ T /\ lk[j]? = some 0
theorem pA_set {i : Nat} {lk : List Int} {v : Int} (x : Int) : pA i (lk.set i v) x ↔ pA i lk x := by
 constructor
 ·rintro ⟨j, h1, h2, h3⟩; exact ⟨j, h1, h2, by rwa [List.getElem?_set_ne (by omega)] at h3⟩
 ·rintro ⟨j, h1, h2, h3⟩; exact ⟨j, h1, h2, by rwa [List.getElem?_set_ne (by omega)]⟩
theorem pA_push {i : Nat} {lk : List Int} (h : lk[i]? = some 0) (x : Int) : (pA i lk x ∨ x = (i : Int)) ↔ pA (i + 1) lk x := by
 constructor
 ·rintro (⟨j, h1, h2, h3⟩ | h1)
  ·exact ⟨j, h1, by omega, h3⟩
  ·exact ⟨i, h1, by omega, h⟩
 ·rintro ⟨j, h1, h2, h3⟩
  by_cases hj : j = i
  ·subst hj; exact .inr h1
  ·exact .inl ⟨j, h1, by omega, h3⟩
theorem pA_next {i : Nat} {lk : List Int} {v : Int} (h : lk[i]? = some v) (hv : v ≠ 0) (x : Int) : pA i lk x ↔ pA (i + 1) lk x := by
 constructor
 ·rintro ⟨j, h1, h2, h3⟩; exact ⟨j, h1, by omega, h3⟩
 ·rintro ⟨j, h1, h2, h3⟩
  by_cases hj : j = i
  ·subst hj; rw [h] at h3; cases h3; exact absurd rfl hv
  ·exact ⟨j, h1, by omega, h3⟩
theorem pA_all {n : Nat} {lk : List Int} (h : lk.length = n) (x : Int) : pA n lk x ↔ pH [] lk x := by
 constructor
 ·rintro ⟨j, h1, h2, h3⟩; exact ⟨j, h1, by simp, h3⟩
 ·rintro ⟨j, h1, h2, h3⟩; exact ⟨j, h1, by have := lGt h3; omega, h3⟩
structure StB (gs : List G3) (L : List Nat) (Y : List Int) (lk : List Int) : Prop where
 llen : lk.length = gs.length
 val : ∀ (q : Nat) (x : G3), gs[q]? = some x -> lk[q]? = some ((lackG gs L x : Int) - (Y.count (q : Int) : Int))
theorem StB.rdy {gs : List G3} {L : List Nat} {lk : List Int} (h : StB gs L [] lk) (x : Int) : pH L lk x ↔ ∃ j : Nat, x = (j : Int) /\ Rdy gs L j := by
 constructor
 ·rintro ⟨j, h1, h2, h3⟩
  obtain ⟨g, hg⟩ := getI gs (show j < gs.length by have := lGt h3; have := h.llen; omega)
  have := h.val j g hg
  rw [h3] at this
  have h4 := Option.some.inj this
  simp at h4
  exact ⟨j, h1, (rdy_lack hg).2 ⟨h2, by omega⟩⟩
 ·rintro ⟨j, h1, h2⟩
  have h2' := h2
  obtain ⟨g, hg, _⟩ := h2'
  have h3 := (rdy_lack hg).1 h2
  exact ⟨j, h1, h3.1, by rw [h.val j g hg, h3.2]; simp⟩
theorem StB.next {gs : List G3} (ho : Once gs) {L : List Nat} {i : Nat} {y : G3} {lk : List Int} (hy : gs[i]? = some y) (hi : i ∉ L) (h : StB gs L (abv gs y gs.length) lk) : StB gs (L ++ [i]) [] lk := by
 refine ⟨h.llen, fun q x hx => ?_⟩
 rw [h.val q x hx, abv_count hx, if_pos (lGt hx), lack_push ho hy hi x]
 simp <;> omega
theorem StB.step {gs : List G3} (ho : Once gs) {L : List Nat} {i k m : Nat} {y g : G3} {lk : List Int} (hy : gs[i]? = some y) (hi : i ∉ L) (hg : gs[k]? = some g) (h : StB gs L ((abv gs y gs.length).take m) lk) (hk : (abv gs y gs.length)[m]? = some (k : Int)) :
  ∃ v, lk[k]? = some v /\ 1 <= v /\ v <= 2 /\ StB gs L ((abv gs y gs.length).take (m + 1)) (lk.set k (v - 1)) := by
 have h1 := h.val k g hg
 have hc := abv_count (y := y) hg gs.length
 rw [if_pos (lGt hg)] at hc
 have hl := lack_push ho hy hi g
 have hle : ((abv gs y gs.length).take (m + 1)).count (k : Int) <= hangs g y := by
  rw [<- hc]; exact (List.take_sublist _ _).count_le _
 have hs : ((abv gs y gs.length).take (m + 1)).count (k : Int) = ((abv gs y gs.length).take m).count (k : Int) + 1 := by
  rw [tkS hk, List.count_append]; simp
 have b1 := one_le (Bl gs L g.2.1)
 have b2 := one_le (Bl gs L g.2.2)
 have b3 : lackG gs L g = one (Bl gs L g.2.1) + one (Bl gs L g.2.2) := rfl
 refine ⟨_, h1, by omega, by omega, ⟨by simp [h.llen], fun q x hx => ?_⟩⟩
 by_cases hq : k = q
 ·subst hq
  rw [hg] at hx; cases hx
  rw [List.getElem?_set_self (lGt h1), hs]
  congr 1; omega
 ·rw [List.getElem?_set_ne hq, h.val q x hx, tkS hk, List.count_append]
  have : [(k : Int)].count (q : Int) = 0 := List.count_eq_zero.2 (fun hm => hq (by have := List.mem_singleton.1 hm; omega))
  rw [this]; rfl
theorem pH_dec {T : List Nat} {lk : List Int} {k : Nat} {v : Int} (h : lk[k]? = some v) (h1 : 1 <= v) (hv : v - 1 ≠ 0) (x : Int) : pH T lk x ↔ pH T (lk.set k (v - 1)) x := by
 constructor
 ·rintro ⟨j, a1, a2, a3⟩
  by_cases hj : k = j
  ·subst hj; rw [h] at a3; cases a3; omega
  ·exact ⟨j, a1, a2, by rw [List.getElem?_set_ne hj]; exact a3⟩
 ·rintro ⟨j, a1, a2, a3⟩
  by_cases hj : k = j
  ·subst hj; rw [List.getElem?_set_self (lGt h)] at a3; have := Option.some.inj a3; omega
  ·exact ⟨j, a1, a2, by rwa [List.getElem?_set_ne hj] at a3⟩
theorem pH_zero {T : List Nat} {lk : List Int} {k : Nat} {v : Int} (h : lk[k]? = some v) (h1 : 1 <= v) (hv : v - 1 = 0) (hk : k ∉ T) (x : Int) : (pH T lk x ∨ x = (k : Int)) ↔ pH T (lk.set k (v - 1)) x := by
 constructor
 ·rintro (⟨j, a1, a2, a3⟩ | a1)
  ·by_cases hj : k = j
   ·subst hj; rw [h] at a3; cases a3; omega
   ·exact ⟨j, a1, a2, by rw [List.getElem?_set_ne hj]; exact a3⟩
  ·exact ⟨k, a1, hk, by rw [List.getElem?_set_self (lGt h), hv]⟩
 ·rintro ⟨j, a1, a2, a3⟩
  by_cases hj : k = j
  ·subst hj; exact .inr a1
  ·exact .inl ⟨j, a1, a2, by rwa [List.getElem?_set_ne hj] at a3⟩
theorem pH_no {T : List Nat} {lk : List Int} {k : Nat} {v : Int} (h : lk[k]? = some v) (h1 : 1 <= v) : ¬ pH T lk (k : Int) := by
 rintro ⟨j, a1, a2, a3⟩
 have : j = k := by omega
 subst this
 rw [h] at a3; cases a3; omega
theorem pH_out {L : List Nat} {i : Nat} {lk : List Int} (x : Int) : (pH L lk x /\ x ≠ (i : Int)) ↔ pH (L ++ [i]) lk x := by
 constructor
 ·rintro ⟨⟨j, a1, a2, a3⟩, hne⟩
  refine ⟨j, a1, fun hm => ?_, a3⟩
  rcases List.mem_append.1 hm with hm | hm
  ·exact a2 hm
  ·have := List.mem_singleton.1 hm; omega
 ·rintro ⟨j, a1, a2, a3⟩
  refine ⟨⟨j, a1, fun hm => a2 (by simp [hm]), a3⟩, fun he => a2 ?_⟩
  have : j = i := by omega
  simp [this]
theorem rdy_self {gs : List G3} {L : List Nat} {i : Nat} {y : G3} (hr : Rdy gs L i) (hy : gs[i]? = some y) : hangs y y = 0 := by
 obtain ⟨g, hg, h1, h2⟩ := hr
 rw [hy] at hg; cases hg
 have := h2 i y hy h1
 unfold hangs
 rw [one_no this.1, one_no this.2]

theorem circ_Order (c : Circ) (w : World) (hG : Row 3 enc3 w c.gates.1 c.gates.2.2) (hok : gsOk c.gates.2.2) (hn : c.gates.2.2.length <= 1048576) (ho : Once c.gates.2.2) :
  Lt.Spec Try.prog 110 [c.val] w (IsFresh 1 encI 3 w (natI (ordL c.gates.2.2))) := by
 refine Spec.of _ Try.func110 rfl Try.ntmps110 (by kernel_rfl) rfl ?_
 repeat' (first | (apply WL.box; (iterate 3 exact rfl); intro gc wc hb hge hc hxc; have hcc := hc; ((obtain ⟨h1, h2, h3, _⟩ := hc)); (have hcells := hcc; obtain ⟨y0, y1, y2, y3, y4, y5, y6, _⟩ := hcc)) | (apply WL.makeMap (kv := encK) (vv := encK); exact rfl; exact rfl; intro rm w1 hM1 hge1 hx1) | (first | apply WL.nil | (refine WL.au (k := ?_))) | apply Z.tn | (first | apply W.seq | apply W.region | apply W.block))
 have Rg := hG.ext hxc
 have hwc := Below.size hxc
 have hS : Lt.Sep wc.heap.size w1 [pmap encK encK rm (plcM c.gates.2.2 0)] := Sep.newMap Sep.none' hx1 hM1 hge1 (Nat.le_refl _)
 refine W.loopW c.gates.2.2.length (fun k w' => k <= c.gates.2.2.length /\ Ext wc w' /\ Lt.Sep wc.heap.size w' [pmap encK encK rm (plcM c.gates.2.2 k)]) (fun k => [(1, .pointer (some ⟨gc, 0, none⟩)), (3, .map (some rm)), (22, rowVal c.gates), (23, .int .i64 (c.gates.2.2.length : Nat)), (24, .int .i64 k)]) ⟨Nat.zero_le _, hx1, hS⟩ (fun k w' h => h.1) ⟨rfl, rfl, rfl, rfl, rfl, trivial⟩ ?_
 clear hS
 rintro k w3 ⟨hk, hX3, hS⟩
 have hM3 := hS.map (i := 0) rfl
 have hrm := (hS.lt (i := 0) rfl rfl).1
 by_cases hlt : k < c.gates.2.2.length
 ·obtain ⟨g, hgg⟩ := getI c.gates.2.2 hlt
  have hgo := hok g (List.mem_of_getElem? hgg)
  have hnew := plcM_new ho hgg
  repeat' (first | (first | apply WL.nil | (refine WL.au (k := ?_))) | apply Z.tn | (first | apply W.seq | apply W.region))
  refine W.cKT rfl (dTt (by omega)) ?_
  repeat' (first | (apply WL.alloc tOk; (iterate 3 exact rfl); intro gb w' hb hge hx) | (apply WL.storeB (w0 := w3) tOk; (iterate 4 exact rfl); assumption; exact extA; (iterate 3 exact rfl); exact extA; assumption; intro w4 hb hc hX4 hU; have hcc := hc; obtain ⟨h1, h2, _⟩ := hc; (have hC4 := cHp hb; obtain ⟨i0, i1, i2, _⟩ := hC4)) | (apply WL.mapPutF (B := 0) (w0 := wc) (vv := encK) tOk keyI; (iterate 6 exact rfl); exact hM3.ext extA; exact extA; assumption; intro w' hM' hX' hU) | (first | apply WL.nil | (refine WL.au (k := ?_)) | (apply WL.index tOk; (iterate 8 exact rfl); assumption; exact extA; exact rfl; omega; assumption; intro b off h; have hcc := h; first | (obtain ⟨h1, h2, h3, h4, h5, h6, _⟩ := h) | (obtain ⟨h1, h2, h3, _⟩ := h) | (obtain ⟨h1, h2, _⟩ := h) | (obtain ⟨h1, _⟩ := h))) | (first | apply Z.tn | apply Z.bkn) | (first | apply W.seq | apply W.region | apply W.block | apply W.skip))
  rw [hnew] at hM'
  have hS4 := Sep.updMap (i := 0) rfl hU hM' hS extA (Below.size extA)
  exact Z.agW ⟨by omega, extA, by rw [plcM_s hgg]; exact hS4⟩ ⟨rfl, rfl, rfl, rfl, rfl, trivial⟩
 obtain rfl : k = c.gates.2.2.length := by omega
 repeat' (first | (first | apply WL.nil | (refine WL.au (k := ?_))) | apply Z.tn | (first | apply W.seq | apply W.region))
 refine W.cKF rfl (dFf (by omega)) ?_
 repeat' (first | (first | apply Z.tn | apply Z.tnx | apply Z.bkx) | (first | apply W.seq | apply W.exit))
 have y6w : w3.cell? ⟨gc, 0 + 1 + 1 + 1 + 1 + 1 + 1, none⟩ = some (rowVal c.gates) := (hcells.ext hX3).2.2.2.2.2.2.1
 have ei : ((c.gates.2.2.length : Nat) : Int).toNat = c.gates.2.2.length := by omega
 refine W.cutT (σ := Nat × Nat × World) (fun s => Ext wc s.2.2 /\ Lt.Sep wc.heap.size s.2.2 [prow 1 encI 3 wc.heap.size (some ⟨s.1, 0, none⟩) c.gates.2.2.length (List.replicate c.gates.2.2.length 0), prow 1 encRow 22 wc.heap.size (some ⟨s.2.1, 0, none⟩) c.gates.2.2.length (List.replicate c.gates.2.2.length ((none, 0, []) : RowV Int)), pmap encK encK rm (plcM c.gates.2.2 c.gates.2.2.length)]) (fun s => [(1, .pointer (some ⟨gc, 0, none⟩)), (3, .map (some rm)), (6, .slice (some ⟨s.1, 0, none⟩) c.gates.2.2.length c.gates.2.2.length), (7, .slice (some ⟨s.2.1, 0, none⟩) c.gates.2.2.length c.gates.2.2.length)]) (fun s => s.2.2) ?_ ?_
 ·repeat' (first | (show W _ _ (.region 7 _ _) _ _ _; apply W.regionGX (.fl true 0 (.fl true 4 (.fl false 1 (.fl true 2 (.fl false 5 (.fl true 6 (.br 3 (.fl true 8 (.br 7 (.fl true 9 .done) .stop)) (.br 7 (.br 3 (.fl true 8 (.fl true 9 .done)) .stop) .stop)))))))) [3, 5, 6, 7, 8] tMix; kernel_rfl) | (apply WL.make (w0 := wc) (z := (0:Int)) tOk; (iterate 9 exact rfl); exact eIk; exact rfl; exact rfl; exact extA; omega; intro gb w' hO hge hx; replace hS := Sep.newRow (Sep.ext hS extA) hx hO (fun k hk => by cases hk; exact hge) (by (exact Below.size extA)); (try simp only [List.set_cons_zero, List.set_cons_succ] at hS); (try have hR0 := hS.row (i := 0) rfl); (try have hR1 := hS.row (i := 1) rfl); (try have hM1 := hS.map (i := 1) rfl); (try have hM2 := hS.map (i := 2) rfl)) | (apply WL.make (w0 := wc) (z := nilR) tOk; (iterate 9 exact rfl); exact encRow_ok; exact rfl; exact rfl; exact extA; omega; intro gb w' hO hge hx; replace hS := Sep.newRow (Sep.ext hS extA) hx hO (fun k hk => by cases hk; exact hge) (by (exact Below.size extA)); (try simp only [List.set_cons_zero, List.set_cons_succ] at hS); (try have hR0 := hS.row (i := 0) rfl); (try have hR1 := hS.row (i := 1) rfl); (try have hM1 := hS.map (i := 1) rfl); (try have hM2 := hS.map (i := 2) rfl)) | (first | (apply SX.done; intro w' hx) | (apply SX.fl0; exact rfl) | (apply SX.fl1; exact rfl; exact extA) | (apply SX.br1; exact rfl; intro w' hx) | (apply SX.br; exact rfl; (intro w' hx))) | (first | apply FL.nilX | (apply FL.loadE tOk; (iterate 5 exact rfl); assumption)) | refine FL.au (k := ?_) | (apply Z.sxE; exact extA) | apply WL.nil)
  all_goals (rw [ei] at hS; rw [ei]; rw [List.length_replicate, List.length_replicate])
  ·exact Z.cut (_, _, w') ⟨extA, (Sep.swap01 hS).ext extA⟩ ⟨rfl, rfl, rfl, rfl, trivial⟩ rfl
  ·exact Z.cut (_, _, w') ⟨extA, hS.ext extA⟩ ⟨rfl, rfl, rfl, rfl, trivial⟩ rfl
 clear hS hX3 hM3 y6w
 rintro ⟨gl, go, w4⟩ ⟨hX4, hS⟩
 dsimp only at hX4 hS
 obtain ⟨n, hnn⟩ : ∃ n, c.gates.2.2.length = n := ⟨_, rfl⟩
 have hS4 : Lt.Sep wc.heap.size w4 (rst wc.heap.size (some ⟨gl, 0, none⟩) n (List.replicate n 0) (some ⟨go, 0, none⟩) n (List.replicate n nilR) rm (plcM c.gates.2.2 n) none 0 [] nilR (List.replicate n nilR)) := by
  have := Sep.addNils hS (n + 2)
  rw [hnn] at this
  exact this
 repeat' (first | (apply WL.call (f := 150); (iterate 4 exact rfl); exact heap_New c.gates.2.2.length hn _ wc _ extA (hS4.ext extA); rintro v' w5 ⟨gh, F, A, rfl, hFl, hB5⟩; have hX5 := HpB.ext hB5) | (first | apply WL.nil | (refine WL.au (k := ?_))) | apply Z.tn | (first | apply W.seq | apply W.region | apply W.block))
 have hFn : F.length = n := by omega
 refine W.loopW n (fun k w' => k <= n /\ ∃ lk rs lit t A, HpB wc w' gh F (rst wc.heap.size (some ⟨gl, 0, none⟩) n lk (some ⟨go, 0, none⟩) n rs rm (plcM c.gates.2.2 n) none 0 [] lit rs) t A (pA k lk) /\ StI c.gates.2.2 k lk rs) (fun k => [(1, .pointer (some ⟨gc, 0, none⟩)), (3, .map (some rm)), (6, .slice (some ⟨gl, 0, none⟩) n n), (7, .slice (some ⟨go, 0, none⟩) n n), (8, .pointer (some ⟨gh, 0, none⟩)), (48, rowVal c.gates), (49, .int .i64 (n : Nat)), (50, .int .i64 k)]) ⟨Nat.zero_le _, _, _, _, _, _, hB5.mono (fun x => ⟨fun h => h.elim, fun ⟨j, _, h, _⟩ => absurd h (Nat.not_lt_zero _)⟩), by rw [<- hnn]; exact StI.first _⟩ (fun k w' h => h.1) (by rw [<- hnn]; exact ⟨rfl, rfl, rfl, rfl, rfl, rfl, rfl, rfl, trivial⟩) ?_
 clear hS hS4 hB5 hX5 hX4
 rintro k w6 ⟨hk, lk, rs, lit, t, A, hB6, hI6⟩
 have hX6 := hB6.ext
 by_cases hlt : k < n
 ·obtain ⟨g, hgg⟩ := getI c.gates.2.2 (show k < c.gates.2.2.length by omega)
  have hgo := hok g (List.mem_of_getElem? hgg)
  repeat' (first | (first | apply WL.nil | (refine WL.au (k := ?_))) | apply Z.tn | (first | apply W.seq | apply W.region))
  refine W.cKT rfl (dTt (by omega)) ?_
  repeat' (first | (apply WL.alloc tOk; (iterate 3 exact rfl); intro gb w' hb hge hx) | (apply WL.storeB (w0 := w6) tOk; (iterate 4 exact rfl); assumption; exact extA; (iterate 3 exact rfl); exact extA; assumption; intro w7 hb hc hX7 hU; have hcc := hc; obtain ⟨h1, h2, _⟩ := hc; (have hC7 := cHp hb; obtain ⟨i0, i1, i2, _⟩ := hC7)) | (apply WL.lit tOk; (iterate 6 exact rfl); kernel_rfl; exact rfl; intro gt w8 hb hge8 hc hx8; have hO := Own.of_block ([g.2.1, g.2.2]) eIk hb hge8 rfl; (obtain ⟨hO8, rfl⟩ : ∃ x, x = hO := ⟨_, rfl⟩)) | (first | apply WL.nil | (refine WL.au (k := ?_)) | (apply WL.index tOk; (iterate 8 exact rfl); assumption; exact extA; exact rfl; omega; assumption; intro b off h; have hcc := h; first | (obtain ⟨h1, h2, h3, h4, h5, h6, _⟩ := h) | (obtain ⟨h1, h2, h3, _⟩ := h) | (obtain ⟨h1, h2, _⟩ := h) | (obtain ⟨h1, _⟩ := h))) | apply Z.tn | (first | apply W.seq | apply W.region | apply W.block | apply W.skip))
  have hB8 := hB6.setLit (show Ext w6 w8 from extA) (hO8.base (Nat.le_trans (Below.size hX6) (Below.size hX7))) (Nat.le_trans (Below.size hX7) hge8)
  have hA8 := hI6.enter hgg
  refine W.loopW 2 (fun j w' => j <= 2 /\ ∃ lk rs t A, HpB wc w' gh F (rst wc.heap.size (some ⟨gl, 0, none⟩) n lk (some ⟨go, 0, none⟩) n rs rm (plcM c.gates.2.2 n) none 0 [] (some ⟨gt, 0, none⟩, 2, [g.2.1, g.2.2]) rs) t A (pA k lk) /\ StA c.gates.2.2 k g j lk rs) (fun j => [(1, .pointer (some ⟨gc, 0, none⟩)), (3, .map (some rm)), (6, .slice (some ⟨gl, 0, none⟩) n n), (7, .slice (some ⟨go, 0, none⟩) n n), (8, .pointer (some ⟨gh, 0, none⟩)), (9, .int .i64 k), (48, rowVal c.gates), (49, .int .i64 (n : Nat)), (50, .int .i64 k), (59, .slice (some ⟨gt, 0, none⟩) 2 2), (60, .int .i64 2), (61, .int .i64 j)]) ⟨Nat.zero_le _, _, _, _, _, hB8, hA8⟩ (fun k w' h => h.1) ⟨rfl, rfl, rfl, rfl, rfl, rfl, rfl, rfl, rfl, rfl, rfl, rfl, trivial⟩ ?_
  clear hB8 hA8 hB6 hI6 hX6
  rintro j w9 ⟨hj, lk, rs, t, A, hB9, hA9⟩
  have hX9 := hB9.ext
  by_cases hjl : j < 2
  ·obtain ⟨l, hl⟩ : ∃ l, litJ g j = l := ⟨_, rfl⟩
   have hll : ([g.2.1, g.2.2] : List Int)[((j : Nat) : Int).toNat]? = some l := by
    rw [Int.toNat_natCast, <- hl]
    match j, hjl with
    | 0, _ => rfl
    | 1, _ => rfl
   have hl0 : 0 <= l /\ l <= 33554433 := by
    rw [<- hl]
    match j, hjl with
    | 0, _ => exact hgo.2.1
    | 1, _ => exact hgo.2.2
   obtain ⟨hX9, ⟨hat, hze, as_, cs, tr, ct, ap, cp, hS⟩, hO9, hm9⟩ := hB9
   have hMp := hS.map (i := 6) rfl
   have hLo := hS.row (i := 4) rfl
   have RL := (hS.row (i := 8) rfl).row eIk
   have hll3 := hA9.llen
   have hrl3 := hA9.rlen
   have hLn : lk.length = n := by omega
   have hRn : rs.length = n := by omega
   cases hmg : mget (l / 2) (plcM c.gates.2.2 n) with
   | none =>
    repeat' (first | (first | apply WL.nil | (refine WL.au (k := ?_))) | apply Z.tn | (first | apply W.seq | apply W.region))
    refine W.cKT rfl (dTt (by omega)) ?_
    repeat' (first | (apply WL.lookNoneF tOk keyI; (iterate 7 exact rfl); exact hMp; exact hmg) | (first | apply WL.nil | (refine WL.au (k := ?_)) | (apply WL.index tOk; (iterate 8 exact rfl); assumption; exact extA; exact rfl; omega; assumption; intro b off h; have hcc := h; first | (obtain ⟨h1, h2, h3, h4, h5, h6, _⟩ := h) | (obtain ⟨h1, h2, h3, _⟩ := h) | (obtain ⟨h1, h2, _⟩ := h) | (obtain ⟨h1, _⟩ := h))) | apply Z.tn | (first | apply W.seq | apply W.region | apply W.block | apply W.skip))
    refine W.cKF rfl rfl ?_
    repeat' (first | (first | apply WL.nil | (refine WL.au (k := ?_))) | (first | apply Z.tn | apply Z.bkn) | (first | apply W.region | apply W.skip))
    refine Z.agW ⟨by omega, lk, rs, t, A, ⟨extA, ⟨hat, hze, as_, cs, tr, ct, ap, cp, hS⟩, hO9, hm9⟩, hA9.skip fun q y hy he => ?_⟩ ⟨rfl, rfl, rfl, rfl, rfl, rfl, rfl, rfl, rfl, rfl, rfl, rfl, trivial⟩
    rw [<- hnn] at hmg
    exact plcM_none hmg q y hy (by rw [<- hl, he])
   | some v =>
    have hmg' := hmg
    rw [<- hnn] at hmg'
    obtain ⟨kk, y, hy, hyl, rfl⟩ := plcM_some hmg'
    have hkk := lGt hy
    obtain ⟨r, hr, hrv⟩ := hA9.row kk y hy
    have hnow := hA9.now
    have hLk : lk[((k : Nat) : Int).toNat]? = some (lackJ c.gates.2.2 g j : Int) := by rw [Int.toNat_natCast]; exact hnow
    have hRk : rs[((kk : Nat) : Int).toNat]? = some r := by rw [Int.toNat_natCast]; exact hr
    have hlj := lackJ_le c.gates.2.2 g j
    repeat' (first | (first | apply WL.nil | (refine WL.au (k := ?_))) | apply Z.tn | (first | apply W.seq | apply W.region))
    refine W.cKT rfl (dTt (by omega)) ?_
    repeat' (first | (apply WL.lookSomeF tOk keyI; (iterate 7 exact rfl); exact hMp; exact hmg) | (first | apply WL.nil | (refine WL.au (k := ?_)) | (apply WL.index tOk; (iterate 8 exact rfl); assumption; exact extA; exact rfl; omega; assumption; intro b off h; have hcc := h; first | (obtain ⟨h1, h2, h3, h4, h5, h6, _⟩ := h) | (obtain ⟨h1, h2, h3, _⟩ := h) | (obtain ⟨h1, h2, _⟩ := h) | (obtain ⟨h1, _⟩ := h))) | apply Z.tn | (first | apply W.seq | apply W.region | apply W.block | apply W.skip))
    refine W.cKT rfl rfl ?_
    repeat' (first | (apply WL.indexO tOk; (iterate 8 exact rfl); assumption; exact extA; exact eIk; ((focus (simp [*]; done))); omega; assumption; intro gb ha hc; cases ha; have hcc := hc; first | (obtain ⟨h1, h2, h3, _⟩ := hc) | (obtain ⟨h1, h2, _⟩ := hc) | (obtain ⟨h1, _⟩ := hc)) | (apply WL.storeO (z' := (((lackJ c.gates.2.2 g j : Nat) : Int) + 1)) tOk; (iterate 4 exact rfl); assumption; exact extA; (iterate 3 exact rfl); exact eIk; assumption; exact rfl; exact extA; intro w' hO hX' hU) | (first | apply WL.nil | (refine WL.au (k := ?_))) | apply Z.tn | (first | apply W.seq | apply W.region))
    obtain ⟨w10, rfl⟩ : ∃ x, x = w' := ⟨_, rfl⟩
    have hS1 : Lt.Sep wc.heap.size w10 (hpP wc.heap.size gh as_ cs F tr ct t.length t ap cp A ++ rst wc.heap.size (some ⟨gl, 0, none⟩) n (lk.set ((k : Nat) : Int).toNat (((lackJ c.gates.2.2 g j : Nat) : Int) + 1)) (some ⟨go, 0, none⟩) n rs rm (plcM c.gates.2.2 n) none 0 [] (some ⟨gt, 0, none⟩, 2, [g.2.1, g.2.2]) rs) := Sep.uRw (i := 4) rfl hU hO (.inl rfl) hS (Ext.refl _) (Below.size hX9)
    have hOu := hS1.row (i := 5) rfl
    have hIn := hS1.row (rst_in hr _ rfl)
    have hX10 : Ext wc w10 := extA
    have hrl : r.2.2.length <= 2 * n + 2 := by
     have q1 := abv_len c.gates.2.2 y k
     have q2 := hangsJ_le g y j
     rw [hrv, List.length_append, List.length_replicate]; omega
    repeat' (first | (apply WL.indexO tOk; (iterate 8 exact rfl); assumption; exact extA; exact encRow_ok; ((focus (simp [*]; done))); omega; assumption; intro gb ha hc; cases ha; have hcc := hc; first | (obtain ⟨h1, h2, h3, _⟩ := hc) | (obtain ⟨h1, h2, _⟩ := hc) | (obtain ⟨h1, _⟩ := hc)) | (apply WL.lit tOk; (iterate 6 exact rfl); kernel_rfl; exact rfl; intro gb w' hb hge hc hx) | (apply WL.ap1 (z := (((k : Nat) : Int))) tOk eIk; (iterate 10 exact rfl); assumption; exact extA; exact rfl; assumption; exact rfl; exact rfl; exact extA; omega; intro a' cap' w' hO hX' hU hF) | refine WL.au (k := ?_))
    obtain ⟨w12, rfl⟩ : ∃ x, x = w' := ⟨_, rfl⟩; obtain ⟨a2, rfl⟩ : ∃ x, x = a' := ⟨_, rfl⟩; obtain ⟨cp2, rfl⟩ : ∃ x, x = cap' := ⟨_, rfl⟩
    have hS2 := Sep.uRw (rst_in hr _ rfl) hU hO hF hS1 extA (Below.size extA)
    rw [show prow 1 encI 3 wc.heap.size a2 cp2 (r.2.2 ++ [((k : Nat) : Int)]) = pI wc.heap.size (a2, cp2, r.2.2 ++ [((k : Nat) : Int)]) from rfl, rst_set _ rfl] at hS2
    have hOu2 := hS2.row (i := 5) rfl
    have hX12 : Ext wc w12 := extA
    repeat' (first | (apply WL.indexO tOk; (iterate 8 exact rfl); assumption; exact extA; exact encRow_ok; ((focus (simp [*]; done))); omega; assumption; intro gb ha hc; cases ha; have hcc := hc; first | (obtain ⟨h1, h2, h3, _⟩ := hc) | (obtain ⟨h1, h2, _⟩ := hc) | (obtain ⟨h1, _⟩ := hc)) | (apply WL.storeO (z' := (((a2, cp2, r.2.2 ++ [((k : Nat) : Int)]) : RowV Int))) tOk; (iterate 4 exact rfl); assumption; exact extA; (iterate 3 exact rfl); exact encRow_ok; assumption; exact rfl; exact extA; intro w' hO hX' hU) | (first | apply WL.nil | (refine WL.au (k := ?_))) | (first | apply Z.tn | apply Z.bkn) | apply W.region)
    have hS3 : Lt.Sep wc.heap.size w' (hpP wc.heap.size gh as_ cs F tr ct t.length t ap cp A ++ rst wc.heap.size (some ⟨gl, 0, none⟩) n (lk.set ((k : Nat) : Int).toNat (((lackJ c.gates.2.2 g j : Nat) : Int) + 1)) (some ⟨go, 0, none⟩) n (rs.set ((kk : Nat) : Int).toNat (a2, cp2, r.2.2 ++ [((k : Nat) : Int)])) rm (plcM c.gates.2.2 n) none 0 [] (some ⟨gt, 0, none⟩, 2, [g.2.1, g.2.2]) (rs.set kk (a2, cp2, r.2.2 ++ [((k : Nat) : Int)]))) := Sep.uRw (i := 5) rfl hU hO (.inl rfl) hS2 (Ext.refl _) (Below.size hX12)
    rw [Int.toNat_natCast, Int.toNat_natCast] at hS3
    exact Z.agW ⟨by omega, _, _, t, A, ⟨extA, ⟨hat, hze, as_, cs, tr, ct, ap, cp, hS3⟩, hO9, fun x => (hm9 x).trans (pA_set x).symm⟩, hA9.take ho hy (by rw [hyl, hl]) hr⟩ ⟨rfl, rfl, rfl, rfl, rfl, rfl, rfl, rfl, rfl, rfl, rfl, rfl, trivial⟩
  obtain rfl : j = 2 := by omega
  have hI9 := hA9.leave hgg
  have hnow : lk[k]? = some (lackG c.gates.2.2 [] g : Int) := by rw [hA9.now, lackJ2]
  have hll3 := hA9.llen
  have hB9' := hB9
  obtain ⟨hX9, ⟨hat, hze, as_, cs, tr, ct, ap, cp, hS⟩, hO9, hm9⟩ := hB9'
  have hLo := hS.row (i := 4) rfl
  have hLn : lk.length = n := by omega
  have hLk : lk[((k : Nat) : Int).toNat]? = some (lackG c.gates.2.2 [] g : Int) := by rw [Int.toNat_natCast]; exact hnow
  repeat' (first | (first | apply WL.nil | (refine WL.au (k := ?_))) | apply Z.tn | (first | apply W.seq | apply W.region))
  refine W.cKF rfl (dFf (by omega)) ?_
  repeat' (first | (apply WL.indexO tOk; (iterate 8 exact rfl); assumption; exact extA; exact eIk; ((focus (simp [*]; done))); omega; assumption; intro gb ha hc; cases ha; have hcc := hc; first | (obtain ⟨h1, h2, h3, _⟩ := hc) | (obtain ⟨h1, h2, _⟩ := hc) | (obtain ⟨h1, _⟩ := hc)) | (first | apply WL.nil | (refine WL.au (k := ?_))) | (first | apply Z.tn | apply Z.tnx | apply Z.bkx) | (first | apply W.seq | apply W.region | apply W.exit))
  by_cases h0 : lackG c.gates.2.2 [] g = 0
  ·refine W.cKT rfl (dTt (by omega)) ?_
   have hnp : ¬ pA k lk (k : Int) := fun ⟨q, q1, q2, q3⟩ => by omega
   repeat' (first | (apply WL.call (f := 151); (iterate 4 exact rfl); exact heap_Push w9 wc gh F t A _ (pA k lk) hB9 (by omega) k (by omega) hnp; rintro v' w10 ⟨rfl, t1, A1, hB10⟩) | (first | apply WL.nil | (refine WL.au (k := ?_))) | (first | apply Z.tn | apply Z.bkn) | apply W.region)
   exact Z.agW ⟨by omega, _, _, _, t1, A1, hB10.mono (fun x => pA_push (by rw [hnow, h0]; rfl) x), hI9⟩ ⟨rfl, rfl, rfl, rfl, rfl, rfl, rfl, rfl, trivial⟩
  ·refine W.cKF rfl (dFf (by omega)) ?_
   repeat' (first | (first | apply WL.nil | (refine WL.au (k := ?_))) | (first | apply Z.tn | apply Z.bkn) | (first | apply W.region | apply W.skip))
   exact Z.agW ⟨by omega, _, _, _, t, A, hB9.mono (fun x => pA_next hnow (by omega) x), hI9⟩ ⟨rfl, rfl, rfl, rfl, rfl, rfl, rfl, rfl, trivial⟩
 obtain rfl : k = n := by omega
 repeat' (first | (first | apply WL.nil | (refine WL.au (k := ?_))) | apply Z.tn | (first | apply W.seq | apply W.region))
 refine W.cKF rfl (dFf (by omega)) ?_
 have hll6 := hI6.llen
 have hB7 := hB6.mono (fun x => pA_all (show lk.length = k by omega) x)
 have hSB : StB c.gates.2.2 [] [] lk := ⟨hI6.llen, fun q x hx => by rw [hI6.old q x hx (by have := lGt hx; omega)]; simp⟩
 have hrows : ∀ (q : Nat) (y : G3), c.gates.2.2[q]? = some y -> ∃ r, rs[q]? = some r /\ r.2.2 = abv c.gates.2.2 y c.gates.2.2.length := by
  rw [hnn]; exact hI6.row
 have hrl6 := hI6.rlen
 have start : ∀ (L : List Nat) (lk : List Int) (ya : Int), StB c.gates.2.2 L [] lk -> pH L lk ya -> (∀ x, pH L lk x -> ya <= x) -> ∃ i : Nat, ya = (i : Int) /\ Least c.gates.2.2 L i := fun L lk ya hS hp hm => by
  obtain ⟨i, rfl, hr⟩ := (hS.rdy ya).1 hp
  exact ⟨i, rfl, hr, fun j hj => by have := hm (j : Int) ((hS.rdy _).2 ⟨j, rfl, hj⟩); omega⟩
 repeat' (first | (apply WL.call (f := 152); (iterate 4 exact rfl); exact heap_PopO w6 wc gh F t A _ (pH [] lk) hB7 (by omega); rintro v' w7 ⟨nx, rfl, hnx1, hnx2, t1, A1, hB8⟩) | (first | apply WL.nil | (refine WL.au (k := ?_))) | (first | apply Z.tn | apply Z.tnx | apply Z.bkx) | (first | apply W.seq | apply W.region | apply W.block | apply W.exit))
 refine W.loop (σ := List Nat × Option Int × Option Addr × Nat × World) (fun s => PreOrd c.gates.2.2 s.1 /\ ∃ lk t A, HpB wc s.2.2.2.2 gh F (rst wc.heap.size (some ⟨gl, 0, none⟩) k lk (some ⟨go, 0, none⟩) k rs rm (plcM c.gates.2.2 k) s.2.2.1 s.2.2.2.1 (natI s.1) lit rs) t A (fun x => pH s.1 lk x /\ ∀ y, s.2.1 = some y -> x ≠ y) /\ StB c.gates.2.2 s.1 [] lk /\ (∀ y, s.2.1 = some y -> pH s.1 lk y /\ ∀ x, pH s.1 lk x -> y <= x) /\ (s.2.1 = none -> ∀ x, ¬ pH s.1 lk x)) (fun s => [(6, .slice (some ⟨gl, 0, none⟩) k k), (7, .slice (some ⟨go, 0, none⟩) k k), (8, .pointer (some ⟨gh, 0, none⟩)), (15, .slice s.2.2.1 (natI s.1).length s.2.2.2.1), (16, .int .i64 (s.2.1.getD 0)), (17, .bool s.2.1.isSome)]) (fun s => s.2.2.2.2) (fun s => c.gates.2.2.length + 1 - s.1.length) ([], nx, none, 0, w7) ⟨PreOrd.nil _, lk, t1, A1, hB8, hSB, hnx1, hnx2⟩ ⟨rfl, rfl, rfl, rfl, rfl, rfl, trivial⟩ rfl ?_
 clear hB7 hB8 hSB hnx1 hnx2 hB6 hI6 hX6 hll6
 rintro ⟨L, nx, ou, cu, w8⟩ ⟨hP, lk, t, A, hB8, hSB, hn1, hn2⟩
 dsimp only at hP hB8 hSB hn1 hn2 ⊢
 have hX8 := hB8.ext
 have hLle := hP.le
 cases nx with
 | none =>
  repeat' (first | (first | apply WL.nil | (refine WL.au (k := ?_))) | apply Z.tn | (first | apply W.seq | apply W.region))
  refine W.cKF rfl rfl ?_
  repeat' (first | (first | apply WL.nil | (refine WL.au (k := ?_))) | (first | apply Z.tn | apply Z.tnx | apply Z.bkx) | (first | apply W.seq | apply W.region | apply W.ret | apply W.exit))
  obtain ⟨hX9, ⟨hat, hze, as_, cs, tr, ct, ap, cp, hS⟩, hO9, hm9⟩ := hB8
  have hOut := hS.row (i := 7) rfl
  have hLo : L = ordL c.gates.2.2 := IsOrd.ord ⟨hP, fun q hq => hn2 rfl (q : Int) ((hSB.rdy _).2 ⟨q, rfl, hq⟩)⟩
  exact Z.bd1 Try.results110 rfl fun m => ⟨hxc.trans (Ext.at hX8 m), ou, cu, by rw [<- hLo], by rw [<- hLo]; exact (hOut.base hwc).ext ((Ext.refl _).at m)⟩
 | some ya =>
  obtain ⟨i, rfl, hle⟩ := start L lk ya hSB (hn1 ya rfl).1 (hn1 ya rfl).2
  obtain ⟨y, hy, hiL, hself⟩ := hle.1
  have hself := rdy_self hle.1 hy
  have hik := lGt hy
  obtain ⟨r, hr, hrv⟩ := hrows i y hy
  repeat' (first | (first | apply WL.nil | (refine WL.au (k := ?_))) | apply Z.tn | (first | apply W.seq | apply W.region))
  refine W.cKT rfl rfl ?_
  refine W.sub [(6, .slice (some ⟨gl, 0, none⟩) k k), (7, .slice (some ⟨go, 0, none⟩) k k), (8, .pointer (some ⟨gh, 0, none⟩)), (15, .slice ou (natI L).length cu), (16, .int .i64 ((i : Nat) : Int))] ⟨rfl, rfl, rfl, rfl, rfl, trivial⟩ ?_
  obtain ⟨hX9, ⟨hat, hze, as_, cs, tr, ct, ap, cp, hS⟩, hO9, hm9⟩ := hB8
  have hOut := hS.row (i := 7) rfl
  have hnl : (natI L).length = L.length := List.length_map _
  repeat' (first | (apply WL.lit tOk; (iterate 6 exact rfl); kernel_rfl; exact rfl; intro gb w' hb hge hc hx) | (apply WL.ap1 (z := (((i : Nat) : Int))) tOk eIk; (iterate 10 exact rfl); assumption; exact extA; exact rfl; assumption; exact rfl; exact rfl; exact extA; omega; intro a' cap' w' hO hX' hU hF) | (first | apply WL.nil | (refine WL.au (k := ?_))) | apply Z.tn | (first | apply W.seq | apply W.region | apply W.block | apply W.skip))
  obtain ⟨w9, rfl⟩ : ∃ x, x = w' := ⟨_, rfl⟩; obtain ⟨ou2, rfl⟩ : ∃ x, x = a' := ⟨_, rfl⟩; obtain ⟨cu2, rfl⟩ : ∃ x, x = cap' := ⟨_, rfl⟩
  have hnat : natI L ++ [((i : Nat) : Int)] = natI (L ++ [i]) := by simp [natI]
  have hS1 : Lt.Sep wc.heap.size w9 (hpP wc.heap.size gh as_ cs F tr ct t.length t ap cp A ++ rst wc.heap.size (some ⟨gl, 0, none⟩) k lk (some ⟨go, 0, none⟩) k rs rm (plcM c.gates.2.2 k) ou2 cu2 (natI (L ++ [i])) lit rs) := by
   rw [<- hnat]; exact Sep.uRw (i := 7) rfl hU hO hF hS extA (Below.size extA)
  have hX9' : Ext wc w9 := extA
  have hOu := hS1.row (i := 5) rfl
  have hRk : rs[((i : Nat) : Int).toNat]? = some r := by rw [Int.toNat_natCast]; exact hr
  rw [hnat]
  have hrl6' : rs.length = k := by omega
  repeat' (first | (apply WL.indexO tOk; (iterate 8 exact rfl); assumption; exact extA; exact encRow_ok; ((focus (simp [*]; done))); omega; assumption; intro gb ha hc; cases ha; have hcc := hc; first | (obtain ⟨h1, h2, h3, _⟩ := hc) | (obtain ⟨h1, h2, _⟩ := hc) | (obtain ⟨h1, _⟩ := hc)) | (first | apply WL.nil | (refine WL.au (k := ?_))) | apply Z.tn | apply W.block)
  have hYl : r.2.2.length <= 2 * k := by rw [hrv, hnn]; exact abv_len _ _ _
  have hm9' : ∀ x, x ∈ t ↔ pH (L ++ [i]) lk x := fun x => ((hm9 x).trans ⟨fun ⟨h1, h2⟩ => ⟨h1, h2 _ rfl⟩, fun ⟨h1, h2⟩ => ⟨h1, fun y hy => by cases hy; exact h2⟩⟩).trans (pH_out x)
  refine W.loopW r.2.2.length (fun m w' => m <= r.2.2.length /\ ∃ lk t A, HpB wc w' gh F (rst wc.heap.size (some ⟨gl, 0, none⟩) k lk (some ⟨go, 0, none⟩) k rs rm (plcM c.gates.2.2 k) ou2 cu2 (natI (L ++ [i])) lit rs) t A (pH (L ++ [i]) lk) /\ StB c.gates.2.2 L (r.2.2.take m) lk) (fun m => [(6, .slice (some ⟨gl, 0, none⟩) k k), (7, .slice (some ⟨go, 0, none⟩) k k), (8, .pointer (some ⟨gh, 0, none⟩)), (15, .slice ou2 (natI (L ++ [i])).length cu2), (117, .slice r.1 r.2.2.length r.2.1), (118, .int .i64 (r.2.2.length : Nat)), (119, .int .i64 m)]) ⟨Nat.zero_le _, lk, t, A, ⟨hX9', ⟨hat, hze, as_, cs, tr, ct, ap, cp, hS1⟩, hO9, hm9'⟩, by rw [List.take_zero]; exact hSB⟩ (fun m w' h => h.1) ⟨rfl, rfl, rfl, rfl, rfl, rfl, rfl, trivial⟩ ?_
  have hPi := hP.push hle
  clear hSB hS hS1 hO9 hm9 hm9' hat hze hOut hOu hO hX9 hX9' hn1 hn2
  rintro m w10 ⟨hm, lk, t, A, hB10, hSB⟩
  have hX10 := hB10.ext
  by_cases hml : m < r.2.2.length
  ·obtain ⟨z, hgz⟩ := getI r.2.2 hml
   have hgz' := hgz
   rw [hrv] at hgz'
   obtain ⟨kk, g, rfl, hkk, hg, hh⟩ := abv_mem (List.mem_of_getElem? hgz')
   rw [hrv] at hSB
   obtain ⟨v, hv, hv1, hv2, hSB2⟩ := hSB.step ho hy hiL hg hgz'
   rw [<- hrv] at hSB2
   have hkL : kk ∉ L ++ [i] := fun hm2 => by
    rcases List.mem_append.1 hm2 with h | h
    ·exact not_told hP hy hg hh hiL h
    ·obtain rfl := List.mem_singleton.1 h
     rw [hy] at hg; cases hg; omega
   have hB10' := hB10
   obtain ⟨_, ⟨hat, hze, as_, cs, tr, ct, ap, cp, hS⟩, hO9, hm9⟩ := hB10'
   have RL := (hS.row (rst_in hr _ rfl)).row eIk
   have hLo := hS.row (i := 4) rfl
   have hlk3 := hSB.llen
   have hLn : lk.length = k := by omega
   have hvk : lk[((kk : Nat) : Int).toNat]? = some v := by rw [Int.toNat_natCast]; exact hv
   have hvs : (lk.set ((kk : Nat) : Int).toNat (v - 1))[((kk : Nat) : Int).toNat]? = some (v - 1) := List.getElem?_set_self (by rw [Int.toNat_natCast]; omega)
   repeat' (first | (first | apply WL.nil | (refine WL.au (k := ?_))) | apply Z.tn | (first | apply W.seq | apply W.region))
   refine W.cKT rfl (dTt (by omega)) ?_
   repeat' (first | (apply WL.indexO tOk; (iterate 8 exact rfl); assumption; exact extA; exact eIk; ((focus (simp [*]; done))); omega; assumption; intro gb ha hc; cases ha; have hcc := hc; first | (obtain ⟨h1, h2, h3, _⟩ := hc) | (obtain ⟨h1, h2, _⟩ := hc) | (obtain ⟨h1, _⟩ := hc)) | (apply WL.storeO (z' := (v - 1)) tOk; (iterate 4 exact rfl); assumption; exact extA; (iterate 3 exact rfl); exact eIk; assumption; exact rfl; exact extA; intro w' hO hX' hU) | (first | apply WL.nil | (refine WL.au (k := ?_)) | (apply WL.index tOk; (iterate 8 exact rfl); assumption; exact extA; exact rfl; omega; assumption; intro b off h; have hcc := h; first | (obtain ⟨h1, h2, h3, h4, h5, h6, _⟩ := h) | (obtain ⟨h1, h2, h3, _⟩ := h) | (obtain ⟨h1, h2, _⟩ := h) | (obtain ⟨h1, _⟩ := h))) | apply Z.tn | (first | apply W.seq | apply W.region | apply W.block | apply W.skip))
   obtain ⟨w11, rfl⟩ : ∃ x, x = w' := ⟨_, rfl⟩
   have hS2 : Lt.Sep wc.heap.size w11 (hpP wc.heap.size gh as_ cs F tr ct t.length t ap cp A ++ rst wc.heap.size (some ⟨gl, 0, none⟩) k (lk.set ((kk : Nat) : Int).toNat (v - 1)) (some ⟨go, 0, none⟩) k rs rm (plcM c.gates.2.2 k) ou2 cu2 (natI (L ++ [i])) lit rs) := Sep.uRw (i := 4) rfl hU hO (.inl rfl) hS (Ext.refl _) (Below.size hX10)
   rw [Int.toNat_natCast] at hS2
   by_cases hv0 : v - 1 = 0
   ·refine W.cKT rfl (dTt hv0) ?_
    repeat' (first | (apply WL.call (f := 151); (iterate 4 exact rfl); exact heap_Push w11 wc gh F t A _ (pH (L ++ [i]) lk) ⟨hX', ⟨hat, hze, as_, cs, tr, ct, ap, cp, hS2⟩, hO9, hm9⟩ (by omega) kk (by omega) (pH_no hv hv1); rintro v' w12 ⟨rfl, t2, A2, hB12⟩) | (first | apply WL.nil | (refine WL.au (k := ?_))) | (first | apply Z.tn | apply Z.bkn) | apply W.region)
    exact Z.agW ⟨by omega, _, t2, A2, hB12.mono (fun x => pH_zero hv hv1 hv0 hkL x), hSB2⟩ ⟨rfl, rfl, rfl, rfl, rfl, rfl, rfl, trivial⟩
   ·refine W.cKF rfl (dFf hv0) ?_
    repeat' (first | (first | apply WL.nil | (refine WL.au (k := ?_))) | (first | apply Z.tn | apply Z.bkn) | (first | apply W.region | apply W.skip))
    exact Z.agW ⟨by omega, _, t, A, ⟨hX', ⟨hat, hze, as_, cs, tr, ct, ap, cp, hS2⟩, hO9, fun x => (hm9 x).trans (pH_dec hv hv1 hv0 x)⟩, hSB2⟩ ⟨rfl, rfl, rfl, rfl, rfl, rfl, rfl, trivial⟩
  obtain rfl : m = r.2.2.length := by omega
  rw [List.take_length, hrv] at hSB
  have hSB2 := hSB.next ho hy hiL
  repeat' (first | (first | apply WL.nil | (refine WL.au (k := ?_))) | apply Z.tn | (first | apply W.seq | apply W.region))
  refine W.cKF rfl (dFf (by omega)) ?_
  repeat' (first | (apply WL.call (f := 152); (iterate 4 exact rfl); exact heap_PopO w10 wc gh F t A _ (pH (L ++ [i]) lk) hB10 (by omega); rintro v' w11 ⟨nx, rfl, hnx1, hnx2, t1, A1, hB11⟩) | (first | apply WL.nil | (refine WL.au (k := ?_))) | (first | apply Z.tn | apply Z.bkn | apply Z.tnx | apply Z.bkx) | (first | apply W.region | apply W.exit))
  exact Z.again (L ++ [i], nx, ou2, cu2, w11) ⟨hPi, lk, t1, A1, hB11, hSB2, hnx1, hnx2⟩ (by have := hPi.le; simp only [List.length_append, List.length_singleton] at this ⊢; omega) ⟨rfl, rfl, rfl, rfl, rfl, rfl, trivial⟩ rfl
end Go.Proofs.Yteidpnpbfagaeaa
namespace Go.Lt
open Go.RowKit

theorem and1_any (a : Int) : IntKind.i64.wrap (BitVec.ofInt IntKind.i64.bits a &&& BitVec.ofInt IntKind.i64.bits 1).toNat = a % 2 := by
 show IntKind.i64.wrap (BitVec.ofInt 64 a &&& BitVec.ofInt 64 1).toNat = a % 2
 have h1 : (BitVec.ofInt 64 a &&& BitVec.ofInt 64 1).toNat = (BitVec.ofInt 64 a).toNat % 2 := by
  rw [BitVec.toNat_and, show (BitVec.ofInt 64 1).toNat = 1 from rfl, Nat.and_one_is_mod]
 have h2 : ((BitVec.ofInt 64 a).toNat : Int) = a % 18446744073709551616 := by
  rw [BitVec.toNat_ofInt]
  have : (0 : Int) <= a % ((2 ^ 64 : Nat) : Int) := Int.emod_nonneg _ (by decide)
  rw [Int.toNat_of_nonneg this]
  rfl
 rw [h1, IntWalk.i64_in _ (by omega)]
 omega
section rules
variable {P : Program} {N : Nat} {e : Env} {w : World} {Q : Exit -> Act -> World -> Prop} {K : Act -> World -> Prop} {C : World -> Prop} {ops : List Oper} {l : List Oper} {Kf : Act -> Prop}
 {d : Nat} {tt t ty : TypeId} {ps : String} {af : Array Edge} {g : Option (Nat × Bool)} {x y : Operand} {a : Int}
theorem yandA {dd : Option Tmp} (hx : ev e x = some (.int .i64 a)) (hy : ev e y = some (.int .i64 1)) : Yields P e ⟨dd, .binOp .and t x y ty, tt, ps, af, g⟩ (.int .i64 (a % 2)) := by
 have := Yields.bin (P := P) (d := dd) (op := .and) (t := t) (ty := ty) (tt := tt) (ps := ps) (af := af) (g := g) hx hy (v := .int .i64 (IntKind.i64.wrap (BitVec.ofInt IntKind.i64.bits a &&& BitVec.ofInt IntKind.i64.bits 1).toNat)) rfl
 rwa [and1_any a] at this
theorem WL.andA (hg : gate ops e g = some true) (hd : Nat.blt d N = true) (hx : ev e x = some (.int .i64 a)) (hy : ev e y = some (.int .i64 1)) (k : WL P N ops.toArray l ((d, .int .i64 (a % 2)) :: e) w Q) : WL P N ops.toArray (⟨some d, .binOp .and t x y ty, tt, ps, af, g⟩ :: l) e w Q := WL.step hg hd (yandA hx hy).in k
theorem QL.andA (hg : gate ops e g = some true) (hd : Nat.blt d N = true) (hx : ev e x = some (.int .i64 a)) (hy : ev e y = some (.int .i64 1)) (k : QL P N C ops.toArray l ((d, .int .i64 (a % 2)) :: e) Q) : QL P N C ops.toArray (⟨some d, .binOp .and t x y ty, tt, ps, af, g⟩ :: l) e Q := QL.step hg hd (yandA hx hy).in k
theorem FL.andA (hg : gate ops e g = some true) (hd : Nat.blt d N = true) (hx : ev e x = some (.int .i64 a)) (hy : ev e y = some (.int .i64 1)) (k : FL P N ops.toArray C l ((d, .int .i64 (a % 2)) :: e) w Kf) : FL P N ops.toArray C (⟨some d, .binOp .and t x y ty, tt, ps, af, g⟩ :: l) e w Kf := FL.step hg hd (yandA hx hy).in k
end rules
end Go.Lt
