/- Part 4 of what the claim StepMeans needs: lemmas and contracts, printed from longer texts. No conditions. -/
import Derived.Test.YthpnahapiodflaaRows
import Derived.Lib.SmallJoins
import Derived.KernelRfl
import Derived.WalkKit
import Derived.ProofKit
import Derived.Deep.Quiet
import Derived.Deep.LoopGhost
import Derived.StillTail
import Derived.Test.YthpnahapiodflaaProg
import Derived.OpenShut
import Derived.ShutString
import Derived.ChangeOld
import Derived.Deep.Slices
import Derived.SizedLaws
import Derived.Laws.StructEq
import Derived.Laws.CopyRow
import Derived.Laws.IdiomCopy
import Derived.Test.YthpnahapiodflaaStepMeansP3
namespace Go.Proofs.Ythpnahapiodflaa
open Go Go.Lt Go.RowKit
set_option linter.unusedVariables false
set_option linter.unusedSimpArgs false
set_option maxRecDepth 20000

def Th : Tab := [(175, ⟨.slice 187, 1, 24, .slice none 0 0⟩), (187, ⟨.float .f64, 1, 8, .float .f64 0⟩)]
theorem thOk : OkTab Try.prog Th := ⟨⟨by kernel_rfl, by kernel_rfl⟩, ⟨by kernel_rfl, by kernel_rfl⟩, trivial⟩
abbrev encF : Nat → List Value := fun b => [.float .f64 b]
theorem encF_ok : Enc 1 encF := ⟨fun _ => rfl, fun x u hu => by simp at hu; subst hu; rfl, by decide⟩
abbrev hpP (B gh : Nat) (as_ : Option Addr) (cs : Nat) (F : List Nat) (tr : Option Addr) (ct nt : Nat) (t : List Int) (ap : Option Addr) (cp : Nat) (A : List Int) : List Piece :=
  [pcell gh #[.slice as_ F.length cs, .slice tr nt ct, .slice ap A.length cp] 177, prow 1 encF 187 B as_ cs F, prow 1 encI 3 B tr ct t, prow 1 encI 3 B ap cp A]
theorem score_Less (w : World) : Still Try.prog 181 [.float .f64 0, .float .f64 0] w (.bool false) := by
  refine Spec.of _ Try.func181 rfl Try.ntmps181 (by kernel_rfl) rfl ?_
  repeat' (first
    | ((apply WL.f00; exact rfl; exact rfl; exact rfl; exact rfl; first | exact .inl ⟨rfl, rfl⟩ | exact .inr (.inl ⟨rfl, rfl⟩) | exact .inr (.inr ⟨rfl, rfl⟩)))
    | (show WL _ _ _ _ _ _ _; first | apply WL.nil | (refine WL.au (k := ?_)))
    | (show Z _ _ _ _ _; apply Z.then_normal)
    | (show W _ _ _ _ _ _; first | apply W.seq | apply W.region | apply W.skip | apply W.ret | (apply W.condF; exact rfl)))
  exact Z.body1 Try.results181 rfl fun m => ⟨rfl, m, rfl⟩
section
variable {B gh cs ct cp nt : Nat} {w w0 : World} {as_ tr ap : Option Addr} {F : List Nat} {t A : List Int} {rest : List Piece}
theorem heap_ahead (hS : Lt.Sep B w (hpP B gh as_ cs F tr ct nt t ap cp A ++ rest)) (hF : ∀ x ∈ F, x = 0) (xa xb : Int) (ha : 0 ≤ xa ∧ xa.toNat < F.length) (hbb : 0 ≤ xb ∧ xb.toNat < F.length) :
    Still Try.prog 179 [.pointer (some ⟨gh, 0, none⟩), .int .i64 xa, .int .i64 xb] w (.bool (dec (xa < xb))) := by
  have h := cells_heap (hS.cell (i := 0) rfl)
  have c0 := h.1
  have RF := Own.row encF_ok (hS.row (i := 1) rfl)
  obtain ⟨z1, hz1⟩ := getI F ha.2
  obtain ⟨z2, hz2⟩ := getI F hbb.2
  obtain rfl := hF z1 (List.mem_of_getElem? hz1)
  obtain rfl := hF z2 (List.mem_of_getElem? hz2)
  clear h
  refine Spec.of _ Try.func179 rfl Try.ntmps179 (by kernel_rfl) rfl ?_
  repeat' (first
    | (apply QL.nilc; exact rfl; exact rfl; exact rfl)
    | ((apply QL.index thOk; exact rfl; exact rfl; exact rfl; exact rfl; exact rfl; exact rfl; exact rfl; exact rfl; assumption; exact (by (exact extA)); exact rfl; omega; assumption; intro b off h; have hcc := h; obtain ⟨h1, _⟩ := h))
    | ((apply QL.load thOk; exact rfl; exact rfl; exact rfl; exact rfl; exact rfl; assumption))
    | ((show WL _ _ _ (⟨_, .call ⟨.value (.func 181), _, _⟩, _, _, _, _⟩ :: _) _ _ _); apply WL.callS; exact rfl; exact rfl; exact rfl; exact rfl; exact score_Less _)
    | (show WL _ _ _ _ _ _ _; first | apply WL.nil | (refine WL.au (k := ?_)))
    | (show QL _ _ _ _ _ _ _; first | apply QL.nil | (refine QL.au (k := ?_)))
    | (show Z _ _ _ _ _; apply Z.then_normal)
    | (show W _ _ _ _ _ _; first | apply W.seq | apply W.region | apply W.ret | (apply W.regionD tMix; kernel_rfl)))
  exact Z.body1 Try.results179 rfl fun m => ⟨rfl, m, rfl⟩
set_option maxHeartbeats 8000000 in
theorem heap_swap (hX : Ext w0 w) (hS : Lt.Sep w0.heap.size w (hpP w0.heap.size gh as_ cs F tr ct t.length t ap cp A ++ rest)) (hA : AtOk F.length t A) (i k : Nat) (ya yb : Int) (hi : t[i]? = some ya) (hk : t[k]? = some yb) (hlen : t.length ≤ 1048576) :
    Lt.Spec Try.prog 172 [.pointer (some ⟨gh, 0, none⟩), .int .i64 i, .int .i64 k] w (fun v w' => v = .tuple #[] ∧ Ext w0 w' ∧ Lt.Sep w0.heap.size w' (hpP w0.heap.size gh as_ cs F tr ct t.length (swp t i k ya yb) ap cp ((A.set yb.toNat (i : Int)).set ya.toNat (k : Int)) ++ rest)) := by
  have hgt := (hS.lt (i := 0) rfl rfl).1
  have h := cells_heap (hS.cell (i := 0) rfl)
  have c0 := h.1
  have c1 := h.2.1
  have c2 := h.2.2.1
  clear h
  have hR2 := hS.row (i := 2) rfl
  have hR3 := hS.row (i := 3) rfl
  have li := lt_of_get hi
  have lk := lt_of_get hk
  have la := hA.lt hi
  have lb := hA.lt hk
  have hAl := hA.len
  have hi' : t[((i : Nat) : Int).toNat]? = some ya := hi
  have hk' : t[((k : Nat) : Int).toNat]? = some yb := hk
  have hk2 : (t.set ((i : Nat) : Int).toNat yb)[((k : Nat) : Int).toNat]? = some yb := by
    show (t.set i yb)[k]? = some yb
    by_cases e : i = k
    · subst e; exact List.getElem?_set_self li
    · rw [List.getElem?_set_ne e]; exact hk
  have hs3 : ((t.set ((i : Nat) : Int).toNat yb).set ((k : Nat) : Int).toNat ya)[((i : Nat) : Int).toNat]? = some yb := by
    show (swp t i k ya yb)[i]? = _
    rw [swp_get hi hk]
    split
    · rename_i e; subst e; rw [hi] at hk; exact hk
    · rw [if_pos rfl]
  have hs4 : ((t.set ((i : Nat) : Int).toNat yb).set ((k : Nat) : Int).toNat ya)[((k : Nat) : Int).toNat]? = some ya := by
    show (swp t i k ya yb)[k]? = _
    rw [swp_get hi hk, if_pos rfl]
  obtain ⟨z1, hz1⟩ := getI A (show yb.toNat < A.length by omega)
  obtain ⟨z2, hz2⟩ := getI (A.set yb.toNat (i : Int)) (show ya.toNat < (A.set yb.toNat (i : Int)).length by rw [List.length_set]; omega)
  have hlk : ∀ z, (t.set ((i : Nat) : Int).toNat z).length = t.length := fun z => List.length_set
  refine Spec.of _ Try.func172 rfl Try.ntmps172 (by kernel_rfl) rfl ?_
  repeat' (first
    | (apply FL.nilc; exact rfl; exact rfl; exact rfl)
    | (show W _ _ (.region 0 _ _) _ _ _; apply W.regionGB (.fl true 0 (.fl true 1 (.fl true 2 (.fl true 4 (.fl true 5 (.fl true 6 (.fl true 7 (.fl true 9 (.fl true 10 (.fl true 11 (.fl true 12 (.fl true 14 (.fl true 17 (.fl true 18 (.fl true 19 (.fl true 21 (.fl false 3 (.fl false 8 (.fl false 13 (.fl true 15 (.fl false 16 (.fl false 20 (.fl true 22 (.fl false 23 (.fl true 24 (.br 25 (.fl true 26 (.br 27 .done .stop)) .stop)))))))))))))))))))))))))) [8, 13, 15, 16, 20, 22, 23] (none) tMix; kernel_rfl)
    | (show W _ _ (.region 1 _ _) _ _ _; apply W.regionGB (.fl true 0 (.fl true 1 (.fl true 2 (.fl true 4 (.fl true 5 (.fl true 6 (.fl true 8 (.fl true 11 (.fl true 12 (.fl true 13 (.fl true 15 (.fl true 16 (.fl true 17 (.fl true 19 (.fl true 22 (.fl true 23 (.fl false 3 (.fl false 7 (.fl true 9 (.fl false 10 (.fl false 14 (.fl false 18 (.fl true 20 (.fl false 21 (.fl true 24 (.br 25 (.fl true 26 (.br 27 .done .stop)) .stop)))))))))))))))))))))))))) [7, 9, 10, 14, 18, 20, 21] (none) tMix; kernel_rfl)
    | (apply WL.storeO tOk; exact rfl; exact rfl; exact rfl; exact rfl; assumption; (exact extA); exact rfl; exact rfl; exact rfl; exact encI_ok; assumption; exact rfl; (exact extA); intro w' hO hX' hU; (first | replace hS := Sep.updRow (i := 0) rfl hU hO (.inl rfl) hS (by (exact extA)) (by (first | exact Nat.le_refl _ | exact Below.size (by (exact extA)))) | replace hS := Sep.updRow (i := 1) rfl hU hO (.inl rfl) hS (by (exact extA)) (by (first | exact Nat.le_refl _ | exact Below.size (by (exact extA)))) | replace hS := Sep.updRow (i := 2) rfl hU hO (.inl rfl) hS (by (exact extA)) (by (first | exact Nat.le_refl _ | exact Below.size (by (exact extA)))) | replace hS := Sep.updRow (i := 3) rfl hU hO (.inl rfl) hS (by (exact extA)) (by (first | exact Nat.le_refl _ | exact Below.size (by (exact extA)))) | replace hS := Sep.updRow (i := 4) rfl hU hO (.inl rfl) hS (by (exact extA)) (by (first | exact Nat.le_refl _ | exact Below.size (by (exact extA)))) | replace hS := Sep.updRow (i := 5) rfl hU hO (.inl rfl) hS (by (exact extA)) (by (first | exact Nat.le_refl _ | exact Below.size (by (exact extA))))); (try simp only [List.set_cons_zero, List.set_cons_succ] at hS); (try have hR0 := hS.row (i := 0) rfl); (try have hR1 := hS.row (i := 1) rfl); (try have hR2 := hS.row (i := 2) rfl); (try have hR3 := hS.row (i := 3) rfl); (try have hR4 := hS.row (i := 4) rfl); (try have hC0 := hS.cell (i := 0) rfl); (try have hD0 := (cells_heap hC0).1); (try have hE0 := (cells_heap hC0).2.1); (try have hF0 := (cells_heap hC0).2.2.1); (try have hG0 := (cells_heap hC0).2.2.2.1); (try have hC1 := hS.cell (i := 1) rfl); (try have hD1 := (cells_heap hC1).1); (try have hE1 := (cells_heap hC1).2.1); (try have hF1 := (cells_heap hC1).2.2.1); (try have hG1 := (cells_heap hC1).2.2.2.1); (try have hC2 := hS.cell (i := 2) rfl); (try have hD2 := (cells_heap hC2).1); (try have hE2 := (cells_heap hC2).2.1); (try have hF2 := (cells_heap hC2).2.2.1); (try have hG2 := (cells_heap hC2).2.2.2.1); (try have hC3 := hS.cell (i := 3) rfl); (try have hD3 := (cells_heap hC3).1); (try have hE3 := (cells_heap hC3).2.1); (try have hF3 := (cells_heap hC3).2.2.1); (try have hG3 := (cells_heap hC3).2.2.2.1); (try have hC4 := hS.cell (i := 4) rfl); (try have hD4 := (cells_heap hC4).1); (try have hE4 := (cells_heap hC4).2.1); (try have hF4 := (cells_heap hC4).2.2.1); (try have hG4 := (cells_heap hC4).2.2.2.1); (try have hM0 := hS.map (i := 0) rfl); (try have hM1 := hS.map (i := 1) rfl); (try have hM2 := hS.map (i := 2) rfl); (try have hM3 := hS.map (i := 3) rfl); (try have hM4 := hS.map (i := 4) rfl))
    | (apply FL.indexO tOk; exact rfl; exact rfl; exact rfl; exact rfl; exact rfl; exact rfl; exact rfl; exact rfl; assumption; (exact extA); exact encI_ok; (first | exact rfl | (focus (simp only [List.length_set]; done)) | (focus (simp; done)) | (focus (simp [*]; done)) | omega | (focus (simp only [List.length_set]; omega))); omega; assumption; intro gb ha hc; cases ha; have hcc := hc; first | (obtain ⟨h1, h2, h3, _⟩ := hc) | (obtain ⟨h1, h2, _⟩ := hc) | (obtain ⟨h1, _⟩ := hc))
    | (show WL _ _ _ _ _ _ _; apply WL.nil)
    | (show SG _ _ _ _ _ _ _ _ _; first | apply SG.done | (apply SG.fl0; exact rfl) | (apply SG.fl1; exact rfl; (focus ((intro m; first | assumption | (apply Ext.at; (exact extA)) | apply But.of_at; first | exact But.upd (by assumption) | exact But.ext (by (exact extA)) | (refine But.trans ?_ (But.upd (by assumption)); exact But.ext (by (exact extA))) | exact But.at _ _ _); done))) | (apply SG.br1; exact rfl))
    | (show FL _ _ _ _ _ _ _ _; first | apply FL.nilS | (refine FL.au (k := ?_)) | (apply FL.loadG tOk; exact rfl; exact rfl; exact rfl; exact rfl; exact rfl; (first | assumption | (focus (apply Ext.cell; rotate_left; assumption; (exact extA); done))); (first | (focus (intro h; cases h; done)) | (focus (intro h; have h9 := hBC _ h; (try simp only at h9); omega)) | assumption | (focus (intro h; simp only [blk, Option.map_some, Option.some.injEq] at h; omega)))))
    | (show Z _ _ _ _ _; (apply Z.sgL; exact rfl))
    | (show Z _ _ _ _ _; apply Z.then_normal)
    | (show W _ _ _ _ _ _; apply W.seq))
  exact Z.body0n Try.results172 fun m => ⟨rfl, hX'.at m, by simpa using hS.ext ((Ext.refl _).at m)⟩
end
end Go.Proofs.Ythpnahapiodflaa
namespace Go.Proofs.Ythpnahapiodflaa
open Go Go.Lt Go.RowKit
set_option linter.unusedVariables false
set_option linter.unusedSimpArgs false
set_option maxRecDepth 20000

/-- A heap in memory, its tree in whatever state. -/
structure HpS (B : Nat) (w : World) (gh : Nat) (F : List Nat) (t A : List Int) (rest : List Piece) : Prop where
  at_ : AtOk F.length t A
  zero : ∀ x ∈ F, x = 0
  mem : ∃ as_ cs tr ct ap cp, Lt.Sep B w (hpP B gh as_ cs F tr ct t.length t ap cp A ++ rest)
theorem HpS.ext {B : Nat} {w w' : World} {gh : Nat} {F : List Nat} {t A : List Int} {rest : List Piece} (h : HpS B w gh F t A rest) (hx : Ext w w') : HpS B w' gh F t A rest :=
  ⟨h.at_, h.zero, let ⟨a, b, c, d, e, f, hS⟩ := h.mem; ⟨a, b, c, d, e, f, hS.ext hx⟩⟩
theorem AtOk.len_le {n : Nat} {t A : List Int} (h : AtOk n t A) : t.length ≤ n := by
  have key : ∀ (m : Nat) (l : List Nat), l.Nodup → (∀ i ∈ l, i < m) → l.length ≤ m := by
    intro m
    induction m with
    | zero => intro l _ hl; cases l with
      | nil => exact Nat.le_refl _
      | cons x r => exact absurd (hl x (by simp)) (Nat.not_lt_zero _)
    | succ m ih =>
      intro l hd hl
      have h1 := ih (l.erase m) (hd.erase m) fun i hi => by
        have h2 := hl i (List.mem_of_mem_erase hi)
        have h3 : i ≠ m := fun he => by subst he; exact (List.Nodup.not_mem_erase hd) hi
        omega
      rw [List.length_erase] at h1
      split at h1 <;> omega
  have h1 := key n (t.map Int.toNat) ?_ ?_
  · rwa [List.length_map] at h1
  · rw [List.nodup_iff_pairwise_ne, List.pairwise_map, List.pairwise_iff_getElem]
    intro i j hi hj hij he
    have p1 := h.pos i t[i] (List.getElem?_eq_getElem hi)
    have p2 := h.pos j t[j] (List.getElem?_eq_getElem hj)
    have : t[i] = t[j] := by omega
    have := h.inj (List.getElem?_eq_getElem hi) (by rw [List.getElem?_eq_getElem hj, this])
    omega
  · intro i hi
    obtain ⟨x, hx, rfl⟩ := List.mem_map.1 hi
    obtain ⟨j, hj⟩ := List.mem_iff_getElem?.1 hx
    exact (h.lt hj).2
/-- The tree was changed about, and is in order. -/
structure HpR (w0 w : World) (gh : Nat) (F : List Nat) (t0 : List Int) (rest : List Piece) (t A : List Int) : Prop where
  ext : Ext w0 w
  hp : HpS w0.heap.size w gh F t A rest
  mem : ∀ x, x ∈ t ↔ x ∈ t0
theorem swp_memc {t : List Int} {i k : Nat} {a b : Int} (hi : t[i]? = some a) (hk : t[k]? = some b) {t0 : List Int} (h : ∀ x, x ∈ t ↔ x ∈ t0) : ∀ x, x ∈ swp t i k a b ↔ x ∈ t0 := fun x => (swp_mem hi hk x).trans (h x)
theorem up_above (i : Nat) (h : 0 < i) : ((i : Int) - 1) / 2 = (((i - 1) / 2 : Nat) : Int) := by omega
set_option maxHeartbeats 8000000 in
theorem heap_up (w w0 : World) (gh : Nat) (F : List Nat) (t A : List Int) (rest : List Piece) (hX : Ext w0 w) (hH : HpS w0.heap.size w gh F t A rest) (hn : F.length ≤ 1048576) (i : Nat) (hi : i < t.length) (hU : UpI t i) :
    Lt.Spec Try.prog 170 [.pointer (some ⟨gh, 0, none⟩), .int .i64 i] w (fun v w' => v = .tuple #[] ∧ ∃ t' A', HpR w0 w' gh F t rest t' A' ∧ HO t') := by
  have htl := hH.at_.len_le
  have key : ∀ (e : Env) (Q : Exit → Act → World → Prop) (c : Code), True := fun _ _ _ => trivial
  clear key
  by_cases h0 : i = 0
  · subst h0
    refine Spec.of _ Try.func170 rfl Try.ntmps170 (by kernel_rfl) rfl ?_
    repeat' (first
      | ((apply WL.quow; exact rfl; exact rfl; exact rfl; exact rfl; exact ⟨⟨by decide, by decide⟩, by decide⟩))
      | (show WL _ _ _ _ _ _ _; first | apply WL.nil | (refine WL.au (k := ?_)))
      | (show Z _ _ _ _ _; apply Z.then_normal)
      | (show W _ _ _ _ _ _; first | apply W.seq | apply W.region | apply W.block))
    refine W.loop (fun _ : Unit => True) (fun _ => [(0, .pointer (some ⟨gh, 0, none⟩)), (1, .int .i64 0), (4, .int .i64 0)]) (fun _ => w) (fun _ => 0) () trivial ⟨rfl, rfl, rfl, trivial⟩ rfl ?_
    rintro ⟨⟩ _
    repeat' (first
      | (apply QL.gF; exact rfl; exact rfl; (focus (exact dec_false (by decide); done)))
      | (show QL _ _ _ _ _ _ _; first | apply QL.nil | (refine QL.au (k := ?_)) | (apply QL.guardF; exact rfl; exact rfl))
      | (show Z _ _ _ _ _; first | apply Z.then_normal | apply Z.then_exit | apply Z.block_exit)
      | (show W _ _ _ _ _ _; first | apply W.seq | apply W.exit | (apply W.condF; exact rfl) | (apply W.regionD tMix; kernel_rfl)))
    exact Z.body0n Try.results170 fun m => ⟨rfl, t, A, ⟨hX.at m, hH.ext ((Ext.refl _).at m), fun x => Iff.rfl⟩, hU.stop (.inl rfl)⟩
  · refine Spec.of _ Try.func170 rfl Try.ntmps170 (by kernel_rfl) rfl ?_
    repeat' (first
      | (show WL _ _ _ _ _ _ _; first | apply WL.nil | (refine WL.au (k := ?_)))
      | (show Z _ _ _ _ _; apply Z.then_normal)
      | (show W _ _ _ _ _ _; first | apply W.seq | apply W.region | apply W.block))
    refine W.loop (fun s : Nat × List Int × List Int × World => s.1 < s.2.1.length ∧ UpI s.2.1 s.1 ∧ HpR w0 s.2.2.2 gh F t rest s.2.1 s.2.2.1) (fun s => [(0, .pointer (some ⟨gh, 0, none⟩)), (1, .int .i64 s.1), (4, .int .i64 ((s.1 - 1) / 2 : Nat))]) (fun s => s.2.2.2) (fun s => s.1) (i, t, A, w) ⟨hi, hU, hX, hH, fun x => Iff.rfl⟩ ⟨rfl, rfl, by rw [← up_above i (by omega)]; exact rfl, trivial⟩ rfl ?_
    rintro ⟨j, t1, A1, w1⟩ ⟨hj, hU1, hX1, hH1, hM1⟩
    dsimp only at hj hU1 hX1 hH1 hM1
    obtain ⟨as_, cs, tr, ct, ap, cp, hS⟩ := hH1.mem
    have htl1 := hH1.at_.len_le
    have h := cells_heap (hS.cell (i := 0) rfl)
    have c1 := h.2.1
    clear h
    have Rt := Own.row encI_ok (hS.row (i := 2) rfl)
    obtain ⟨ya, hya⟩ := getI t1 hj
    obtain ⟨yb, hyb⟩ := getI t1 (show (j - 1) / 2 < t1.length by omega)
    have la := hH1.at_.lt hya
    have lb := hH1.at_.lt hyb
    have hya' : t1[((j : Nat) : Int).toNat]? = some ya := hya
    have hyb' : t1[(((j - 1) / 2 : Nat) : Int).toNat]? = some yb := hyb
    by_cases hj0 : j = 0
    · subst hj0
      repeat' (first
        | (apply QL.gF; exact rfl; exact rfl; (focus (exact dec_false (by show ¬ (0 : Int) < ((0 : Nat) : Int); omega); done)))
        | (show QL _ _ _ _ _ _ _; first | apply QL.nil | (refine QL.au (k := ?_)) | (apply QL.guardF; exact rfl; exact rfl))
        | (show Z _ _ _ _ _; first | apply Z.then_normal | apply Z.then_exit | apply Z.block_exit)
        | (show W _ _ _ _ _ _; first | apply W.seq | apply W.exit | (apply W.condF; exact rfl) | (apply W.regionD tMix; kernel_rfl)))
      exact Z.body0n Try.results170 fun m => ⟨rfl, t1, A1, ⟨hX1.at m, hH1.ext ((Ext.refl _).at m), hM1⟩, hU1.stop (.inl rfl)⟩
    by_cases hlt : ya < yb
    · have hsw := heap_swap hX1 hS hH1.at_ j ((j - 1) / 2) ya yb hya hyb (by omega)
      have hU2 := hU1.step (by omega) hya hyb hlt
      have hA2 := hH1.at_.swap hya hyb
      have hM2 := swp_memc hya hyb hM1
      by_cases hj1 : (j - 1) / 2 = 0
      · repeat' (first
          | (apply QL.nilc; exact rfl; exact rfl; exact rfl)
          | (apply QL.gT; exact rfl; exact rfl; (focus (first | exact dec_true (by omega) | exact dec_true hlt; done)))
          | (apply W.condKT; exact rfl; (focus (first | exact dec_true (by omega) | exact dec_true hlt; done)))
          | ((show QL _ _ _ _ (⟨_, .call ⟨.value (.func 179), _, _⟩, _, _, _, _⟩ :: _) _ _); apply QL.callS; exact rfl; exact rfl; exact rfl; exact rfl; exact heap_ahead hS hH1.zero ya yb ⟨la.1, la.2⟩ ⟨lb.1, lb.2⟩)
          | ((apply WL.quow; exact rfl; exact rfl; exact rfl; exact rfl; exact ⟨⟨by omega, by omega⟩, by decide⟩))
          | (((show WL _ _ _ (⟨_, .call ⟨.value (.func 172), _, _⟩, _, _, _, _⟩ :: _) _ _ _); apply WL.call; exact rfl; exact rfl; exact rfl; exact rfl; exact hsw; rintro v' w2 ⟨rfl, hX2, hS2⟩))
          | (show WL _ _ _ _ _ _ _; first | apply WL.nil | (refine WL.au (k := ?_)))
          | (show QL _ _ _ _ _ _ _; first | apply QL.nil | (refine QL.au (k := ?_)) | (apply QL.index tOk; exact rfl; exact rfl; exact rfl; exact rfl; exact rfl; exact rfl; exact rfl; exact rfl; assumption; (exact extA); exact rfl; omega; assumption; intro b off h; have hcc := h; first | (obtain ⟨h1, h2, h3, h4, h5, h6, _⟩ := h) | (obtain ⟨h1, h2, h3, _⟩ := h) | (obtain ⟨h1, h2, _⟩ := h) | (obtain ⟨h1, _⟩ := h)))
          | (show Z _ _ _ _ _; first | apply Z.then_normal | apply Z.block_normal)
          | (show W _ _ _ _ _ _; first | apply W.seq | apply W.region | apply W.block | apply W.skip | (apply W.regionD tMix; kernel_rfl)))
        refine Z.again ((j - 1) / 2, swp t1 j ((j - 1) / 2) ya yb, _, w2) ⟨by show (j - 1) / 2 < (swp t1 j ((j - 1) / 2) ya yb).length; rw [swp_len]; omega, hU2, hX2, ⟨hA2, hH1.zero, as_, cs, tr, ct, ap, cp, by rw [swp_len]; exact hS2⟩, hM2⟩ (by show (j - 1) / 2 < j; omega) ⟨rfl, rfl, ?_, trivial⟩ rfl
        show some (Value.int _ _) = some (Value.int _ _)
        rw [hj1]
        exact congrArg (fun z => some (Value.int IntKind.i64 z)) (show (((0 : Nat) : Int) - 1).tdiv 2 = (((0 - 1) / 2 : Nat) : Int) by decide)
      · repeat' (first
          | (apply QL.nilc; exact rfl; exact rfl; exact rfl)
          | (apply QL.gT; exact rfl; exact rfl; (focus (first | exact dec_true (by omega) | exact dec_true hlt; done)))
          | (apply W.condKT; exact rfl; (focus (first | exact dec_true (by omega) | exact dec_true hlt; done)))
          | ((show QL _ _ _ _ (⟨_, .call ⟨.value (.func 179), _, _⟩, _, _, _, _⟩ :: _) _ _); apply QL.callS; exact rfl; exact rfl; exact rfl; exact rfl; exact heap_ahead hS hH1.zero ya yb ⟨la.1, la.2⟩ ⟨lb.1, lb.2⟩)
          | (((show WL _ _ _ (⟨_, .call ⟨.value (.func 172), _, _⟩, _, _, _, _⟩ :: _) _ _ _); apply WL.call; exact rfl; exact rfl; exact rfl; exact rfl; exact hsw; rintro v' w2 ⟨rfl, hX2, hS2⟩))
          | (show WL _ _ _ _ _ _ _; first | apply WL.nil | (refine WL.au (k := ?_)))
          | (show QL _ _ _ _ _ _ _; first | apply QL.nil | (refine QL.au (k := ?_)) | (apply QL.index tOk; exact rfl; exact rfl; exact rfl; exact rfl; exact rfl; exact rfl; exact rfl; exact rfl; assumption; (exact extA); exact rfl; omega; assumption; intro b off h; have hcc := h; first | (obtain ⟨h1, h2, h3, h4, h5, h6, _⟩ := h) | (obtain ⟨h1, h2, h3, _⟩ := h) | (obtain ⟨h1, h2, _⟩ := h) | (obtain ⟨h1, _⟩ := h)))
          | (show Z _ _ _ _ _; first | apply Z.then_normal | apply Z.block_normal)
          | (show W _ _ _ _ _ _; first | apply W.seq | apply W.region | apply W.block | apply W.skip | (apply W.regionD tMix; kernel_rfl)))
        refine Z.again ((j - 1) / 2, swp t1 j ((j - 1) / 2) ya yb, _, w2) ⟨by show (j - 1) / 2 < (swp t1 j ((j - 1) / 2) ya yb).length; rw [swp_len]; omega, hU2, hX2, ⟨hA2, hH1.zero, as_, cs, tr, ct, ap, cp, by rw [swp_len]; exact hS2⟩, hM2⟩ (by show (j - 1) / 2 < j; omega) ⟨rfl, rfl, ?_, trivial⟩ rfl
        rw [← up_above ((j - 1) / 2) (by omega)]; exact rfl
    · repeat' (first
        | (apply QL.nilc; exact rfl; exact rfl; exact rfl)
        | (apply QL.gT; exact rfl; exact rfl; (focus (first | exact dec_true (by omega) | exact dec_false hlt; done)))
        | (apply W.condKF; exact rfl; (focus (first | exact dec_true (by omega) | exact dec_false hlt; done)))
        | ((show QL _ _ _ _ (⟨_, .call ⟨.value (.func 179), _, _⟩, _, _, _, _⟩ :: _) _ _); apply QL.callS; exact rfl; exact rfl; exact rfl; exact rfl; exact heap_ahead hS hH1.zero ya yb ⟨la.1, la.2⟩ ⟨lb.1, lb.2⟩)
        | (show QL _ _ _ _ _ _ _; first | apply QL.nil | (refine QL.au (k := ?_)) | (apply QL.index tOk; exact rfl; exact rfl; exact rfl; exact rfl; exact rfl; exact rfl; exact rfl; exact rfl; assumption; (exact extA); exact rfl; omega; assumption; intro b off h; have hcc := h; first | (obtain ⟨h1, h2, h3, h4, h5, h6, _⟩ := h) | (obtain ⟨h1, h2, h3, _⟩ := h) | (obtain ⟨h1, h2, _⟩ := h) | (obtain ⟨h1, _⟩ := h)))
        | (show Z _ _ _ _ _; first | apply Z.then_normal | apply Z.then_exit | apply Z.block_exit)
        | (show W _ _ _ _ _ _; first | apply W.seq | apply W.exit | (apply W.regionD tMix; kernel_rfl)))
      refine Z.body0n Try.results170 fun m => ⟨rfl, t1, A1, ⟨hX1.at m, hH1.ext ((Ext.refl _).at m), hM1⟩, hU1.stop (.inr fun a b ha hb => ?_)⟩
      rw [hya] at hb; rw [hyb] at ha; cases ha; cases hb; omega
set_option maxHeartbeats 16000000 in
theorem heap_down (w w0 : World) (gh : Nat) (F : List Nat) (t A : List Int) (rest : List Piece) (hX : Ext w0 w) (hH : HpS w0.heap.size w gh F t A rest) (hn : F.length ≤ 1048576) (i : Nat) (hi : i < t.length ∨ t = []) (hD : DownI t i) (hi0 : i ≤ 1048576) :
    Lt.Spec Try.prog 173 [.pointer (some ⟨gh, 0, none⟩), .int .i64 i] w (fun v w' => v = .tuple #[] ∧ ∃ t' A', HpR w0 w' gh F t rest t' A' ∧ HO t') := by
  refine Spec.of _ Try.func173 rfl Try.ntmps173 (by kernel_rfl) rfl ?_
  repeat' (first
    | (show W _ _ _ _ _ _; apply W.block))
  refine W.loop (fun s : Nat × List Int × List Int × World => (s.1 < s.2.1.length ∨ s.2.1 = []) ∧ s.1 ≤ 1048576 ∧ DownI s.2.1 s.1 ∧ HpR w0 s.2.2.2 gh F t rest s.2.1 s.2.2.1) (fun s => [(0, .pointer (some ⟨gh, 0, none⟩)), (1, .int .i64 s.1)]) (fun s => s.2.2.2) (fun s => 1048577 - s.1) (i, t, A, w) ⟨hi, hi0, hD, hX, hH, fun x => Iff.rfl⟩ ⟨rfl, rfl, trivial⟩ rfl ?_
  rintro ⟨j, t1, A1, w1⟩ ⟨hj, hj0, hD1, hX1, hH1, hM1⟩
  dsimp only at hj hj0 hD1 hX1 hH1 hM1
  obtain ⟨as_, cs, tr, ct, ap, cp, hS⟩ := hH1.mem
  have htl1 := hH1.at_.len_le
  have h := cells_heap (hS.cell (i := 0) rfl)
  have c1 := h.2.1
  clear h
  have Rt := Own.row encI_ok (hS.row (i := 2) rfl)
  repeat' (first
    | (show WL _ _ _ _ _ _ _; first | apply WL.nil | (refine WL.au (k := ?_)))
    | (show Z _ _ _ _ _; apply Z.then_normal)
    | (show W _ _ _ _ _ _; first | apply W.seq | apply W.region | apply W.block))
  refine W.loop (fun s : Nat × Nat => 2 * j + 1 ≤ s.1 ∧ s.1 ≤ 2 * j + 3 ∧ (s.2 = j ∨ (2 * j + 1 ≤ s.2 ∧ s.2 < s.1 ∧ s.2 < t1.length)) ∧ (∀ q, (q = j ∨ (2 * j + 1 ≤ q ∧ q < s.1)) → q < t1.length → leT t1 s.2 q) ∧ (s.2 ≠ j → ∀ a b, t1[s.2]? = some a → t1[j]? = some b → a < b)) (fun s => [(0, .pointer (some ⟨gh, 0, none⟩)), (1, .int .i64 j), (4, .int .i64 s.2), (5, .int .i64 s.1)]) (fun _ => w1) (fun s => 2 * j + 4 - s.1) (2 * j + 1, j) ⟨Nat.le_refl _, by omega, .inl rfl, fun q hq _ a b ha hb => by
    rcases hq with rfl | ⟨h1, h2⟩
    · rw [ha] at hb; cases hb; exact Int.le_refl _
    · omega, fun h => absurd rfl h⟩ ⟨rfl, rfl, rfl, by show some (Value.int _ _) = some (Value.int _ _); rw [show ((2 * j + 1 : Nat) : Int) = 2 * (j : Int) + 1 by omega], trivial⟩ rfl ?_
  rintro ⟨k, f⟩ ⟨hk1, hk2, hf, hmin, hless⟩
  dsimp only at hk1 hk2 hf hmin hless
  have efin : ∀ q : Nat, q = j ∨ (2 * j + 1 ≤ q ∧ q < 2 * j + 3) ↔ q = j ∨ (0 < q ∧ (q - 1) / 2 = j) := fun q => by omega
  by_cases hlt : k ≤ 2 * j + 2 ∧ k < t1.length
  · have hjl : j < t1.length := by omega
    have hfl : f < t1.length := by rcases hf with rfl | ⟨_, _, h⟩; exact hjl; exact h
    obtain ⟨yk, hyk⟩ := getI t1 hlt.2
    obtain ⟨yf, hyf⟩ := getI t1 hfl
    have lk := hH1.at_.lt hyk
    have lf := hH1.at_.lt hyf
    have hyk' : t1[((k : Nat) : Int).toNat]? = some yk := hyk
    have hyf' : t1[((f : Nat) : Int).toNat]? = some yf := hyf
    by_cases hah : yk < yf
    · repeat' (first
        | (apply WL.nilc; exact rfl; exact rfl; exact rfl)
        | (apply QL.nilc; exact rfl; exact rfl; exact rfl)
        | (apply WL.gT; exact rfl; exact rfl; (focus (first | exact dec_true (by omega) | exact dec_true hah; done)))
        | (apply W.condKT; exact rfl; (focus (first | exact dec_true (by omega) | exact dec_true hah; done)))
        | ((show QL _ _ _ _ (⟨_, .call ⟨.value (.func 179), _, _⟩, _, _, _, _⟩ :: _) _ _); apply QL.callS; exact rfl; exact rfl; exact rfl; exact rfl; exact heap_ahead hS hH1.zero yk yf ⟨lk.1, lk.2⟩ ⟨lf.1, lf.2⟩)
        | (show WL _ _ _ _ _ _ _; first | apply WL.nil | (refine WL.au (k := ?_)))
        | (show QL _ _ _ _ _ _ _; first | apply QL.nil | (refine QL.au (k := ?_)) | (apply QL.index tOk; exact rfl; exact rfl; exact rfl; exact rfl; exact rfl; exact rfl; exact rfl; exact rfl; assumption; (exact extA); exact rfl; omega; assumption; intro b off h; have hcc := h; first | (obtain ⟨h1, h2, h3, h4, h5, h6, _⟩ := h) | (obtain ⟨h1, h2, h3, _⟩ := h) | (obtain ⟨h1, h2, _⟩ := h) | (obtain ⟨h1, _⟩ := h)))
        | (show Z _ _ _ _ _; first | apply Z.then_normal | apply Z.block_normal)
        | (show W _ _ _ _ _ _; first | apply W.seq | apply W.region | apply W.block | apply W.skip | (apply W.regionD tMix; kernel_rfl)))
      refine Z.again (k + 1, k) ⟨by show 2 * j + 1 ≤ k + 1; omega, by show k + 1 ≤ _; omega, .inr ⟨by show 2 * j + 1 ≤ k; omega, by show k < k + 1; omega, hlt.2⟩, fun q hq hql a b ha hb => ?_, fun hne a b ha hb => ?_⟩ (by show 2 * j + 4 - (k + 1) < 2 * j + 4 - k; omega) ⟨rfl, rfl, rfl, rfl, trivial⟩ rfl
      · have ha' : t1[k]? = some a := ha
        rw [hyk] at ha'; cases ha'
        by_cases he : q = k
        · subst he; rw [hyk] at hb; cases hb; exact Int.le_refl _
        · have := hmin q (by rcases hq with h | h; exact .inl h; exact .inr ⟨h.1, by have : q < k + 1 := h.2; omega⟩) hql yf b hyf hb
          omega
      · have ha' : t1[k]? = some a := ha
        rw [hyk] at ha'; cases ha'
        have := hmin j (.inl rfl) hjl yf b hyf hb
        omega
    · repeat' (first
        | (apply WL.nilc; exact rfl; exact rfl; exact rfl)
        | (apply QL.nilc; exact rfl; exact rfl; exact rfl)
        | (apply WL.gT; exact rfl; exact rfl; (focus (first | exact dec_true (by omega) | exact dec_false hah; done)))
        | (apply W.condKT; exact rfl; (focus (first | exact dec_true (by omega) | exact dec_false hah; done)))
        | (apply W.condKF; exact rfl; (focus (first | exact dec_true (by omega) | exact dec_false hah; done)))
        | ((show QL _ _ _ _ (⟨_, .call ⟨.value (.func 179), _, _⟩, _, _, _, _⟩ :: _) _ _); apply QL.callS; exact rfl; exact rfl; exact rfl; exact rfl; exact heap_ahead hS hH1.zero yk yf ⟨lk.1, lk.2⟩ ⟨lf.1, lf.2⟩)
        | (show WL _ _ _ _ _ _ _; first | apply WL.nil | (refine WL.au (k := ?_)))
        | (show QL _ _ _ _ _ _ _; first | apply QL.nil | (refine QL.au (k := ?_)) | (apply QL.index tOk; exact rfl; exact rfl; exact rfl; exact rfl; exact rfl; exact rfl; exact rfl; exact rfl; assumption; (exact extA); exact rfl; omega; assumption; intro b off h; have hcc := h; first | (obtain ⟨h1, h2, h3, h4, h5, h6, _⟩ := h) | (obtain ⟨h1, h2, h3, _⟩ := h) | (obtain ⟨h1, h2, _⟩ := h) | (obtain ⟨h1, _⟩ := h)))
        | (show Z _ _ _ _ _; first | apply Z.then_normal | apply Z.block_normal)
        | (show W _ _ _ _ _ _; first | apply W.seq | apply W.region | apply W.block | apply W.skip | (apply W.regionD tMix; kernel_rfl)))
      refine Z.again (k + 1, f) ⟨by show 2 * j + 1 ≤ k + 1; omega, by show k + 1 ≤ _; omega, hf.imp id fun h => ⟨h.1, by show f < k + 1; omega, h.2.2⟩, fun q hq hql a b ha hb => ?_, hless⟩ (by show 2 * j + 4 - (k + 1) < 2 * j + 4 - k; omega) ⟨rfl, rfl, rfl, rfl, trivial⟩ rfl
      have ha' : t1[f]? = some a := ha
      rw [hyf] at ha'; cases ha'
      by_cases he : q = k
      · subst he; rw [hyk] at hb; cases hb; omega
      · exact hmin q (by rcases hq with h | h; exact .inl h; exact .inr ⟨h.1, by have : q < k + 1 := h.2; omega⟩) hql yf b hyf hb
  · have hall : ∀ q, 0 < q → q < t1.length → (q - 1) / 2 = j → leT t1 f q := fun q q0 ql qj => hmin q (.inr (by omega)) ql
    by_cases hfj : f = j
    · subst hfj
      repeat' (first
        | (apply WL.nilc; exact rfl; exact rfl; exact rfl)
        | (apply W.condKT; exact rfl; (focus (first | exact dec_false (by omega) | exact dec_true rfl | exact dec_true (by omega); done)))
        | (apply W.condKF; exact rfl; (focus (first | exact dec_false (by omega) | exact dec_true rfl | exact dec_true (by omega); done)))
        | (show WL _ _ _ _ _ _ _; first | apply WL.nil | (refine WL.au (k := ?_)) | (apply WL.guardF; exact rfl; exact rfl) | (apply WL.gD; exact rfl; exact rfl; all_goals intro _))
        | (show Z _ _ _ _ _; first | apply Z.then_normal | apply Z.then_exit | apply Z.block_exit | apply Z.then_ret | apply Z.block_ret)
        | (show W _ _ _ _ _ _; first | apply W.seq | apply W.region | apply W.ret | apply W.exit | (apply W.condF; exact rfl)))
      all_goals exact Z.body0 Try.results173 fun m => ⟨rfl, t1, A1, ⟨hX1.at m, hH1.ext ((Ext.refl _).at m), hM1⟩, hD1.stop hall⟩
    · have hf' := hf.resolve_left hfj
      have hjl : j < t1.length := by omega
      obtain ⟨yf, hyf⟩ := getI t1 hf'.2.2
      obtain ⟨yj, hyj⟩ := getI t1 hjl
      have hlf := hless hfj yf yj hyf hyj
      have hfp : (f - 1) / 2 = j := by omega
      have hsw := heap_swap hX1 hS hH1.at_ j f yj yf hyj hyf (by omega)
      have hD2 := hD1.step (f := f) (by omega) hfp hyj hyf hlf (fun q q0 ql qj y hy => hall q q0 ql qj yf y hyf hy)
      have hA2 := hH1.at_.swap hyj hyf
      have hM2 := swp_memc hyj hyf hM1
      repeat' (first
        | (apply WL.nilc; exact rfl; exact rfl; exact rfl)
        | (apply W.condKF; exact rfl; (focus (first | exact dec_false (by omega) | exact dec_true (by omega); done)))
        | (((show WL _ _ _ (⟨_, .call ⟨.value (.func 172), _, _⟩, _, _, _, _⟩ :: _) _ _ _); apply WL.call; exact rfl; exact rfl; exact rfl; exact rfl; exact hsw; rintro v' w2 ⟨rfl, hX2, hS2⟩))
        | (show WL _ _ _ _ _ _ _; first | apply WL.nil | (refine WL.au (k := ?_)) | (apply WL.guardF; exact rfl; exact rfl) | (apply WL.gD; exact rfl; exact rfl; all_goals intro _))
        | (show Z _ _ _ _ _; first | apply Z.then_normal | apply Z.block_normal | apply Z.then_exit | apply Z.block_exit)
        | (show W _ _ _ _ _ _; first | apply W.seq | apply W.region | apply W.skip | apply W.exit | (apply W.condF; exact rfl)))
      all_goals exact Z.again (f, swp t1 j f yj yf, _, w2) ⟨.inl (by show f < (swp t1 j f yj yf).length; rw [swp_len]; exact hf'.2.2), by show f ≤ _; omega, hD2, hX2, ⟨hA2, hH1.zero, as_, cs, tr, ct, ap, cp, by rw [swp_len]; exact hS2⟩, hM2⟩ (by show 1048577 - f < 1048577 - j; omega) ⟨rfl, rfl, trivial⟩ rfl
end Go.Proofs.Ythpnahapiodflaa
namespace Go.Proofs.Ythpnahapiodflaa
open Go Go.Lt Go.RowKit
set_option linter.unusedVariables false
set_option linter.unusedSimpArgs false
set_option maxRecDepth 20000

abbrev hpPn (B gh : Nat) (as_ : Option Addr) (cs : Nat) (F : List Nat) (tr : Option Addr) (ct nt : Nat) (t : List Int) (ap : Option Addr) (cp na : Nat) (A : List Int) : List Piece :=
  [pcell gh #[.slice as_ F.length cs, .slice tr nt ct, .slice ap na cp] 177, prow 1 encF 187 B as_ cs F, prow 1 encI 3 B tr ct t, prow 1 encI 3 B ap cp A]
theorem HpS.mk' {B : Nat} {w : World} {gh nt na : Nat} {F : List Nat} {t A : List Int} {rest : List Piece} {as_ tr ap : Option Addr} {cs ct cp : Nat} (hA : AtOk F.length t A) (hF : ∀ x ∈ F, x = 0) (hnt : nt = t.length) (hna : na = A.length) (hS : Lt.Sep B w (hpPn B gh as_ cs F tr ct nt t ap cp na A ++ rest)) : HpS B w gh F t A rest := by
  subst hnt; subst hna; exact ⟨hA, hF, as_, cs, tr, ct, ap, cp, hS⟩
theorem heap_Len {B : Nat} {w : World} {gh : Nat} {F : List Nat} {t A : List Int} {rest : List Piece} (hH : HpS B w gh F t A rest) : Still Try.prog 171 [.pointer (some ⟨gh, 0, none⟩)] w (.int .i64 t.length) := by
  obtain ⟨as_, cs, tr, ct, ap, cp, hS⟩ := hH.mem
  have h := cells_heap (hS.cell (i := 0) rfl)
  have c1 := h.2.1
  clear h
  refine Spec.of _ Try.func171 rfl Try.ntmps171 (by kernel_rfl) rfl ?_
  repeat' (first
    | (apply WL.nilc; exact rfl; exact rfl; exact rfl)
    | (apply WL.eqNilS tOk; exact rfl; exact rfl; exact rfl; exact rfl; exact rfl; exact rfl)
    | (show WL _ _ _ _ _ _ _; first | apply WL.nil | (refine WL.au (k := ?_)))
    | (show Z _ _ _ _ _; apply Z.then_normal)
    | (show W _ _ _ _ _ _; first | apply W.seq | apply W.region | apply W.skip | apply W.ret | (apply W.condF; exact rfl)))
  exact Z.body1 Try.results171 rfl fun m => ⟨rfl, m, rfl⟩
theorem heap_known {B : Nat} {w : World} {gh : Nat} {F : List Nat} {t A : List Int} {rest : List Piece} (hH : HpS B w gh F t A rest) (v : Nat) (hv : v < F.length) : Still Try.prog 169 [.pointer (some ⟨gh, 0, none⟩), .int .i64 v] w (.bool true) := by
  obtain ⟨as_, cs, tr, ct, ap, cp, hS⟩ := hH.mem
  have h := cells_heap (hS.cell (i := 0) rfl)
  have c2 := h.2.2.1
  clear h
  have hl := hH.at_.len
  refine Spec.of _ Try.func169 rfl Try.ntmps169 (by kernel_rfl) rfl ?_
  repeat' (first
    | (apply WL.nilc; exact rfl; exact rfl; exact rfl)
    | (apply WL.neNilS tOk; exact rfl; exact rfl; exact rfl; exact rfl; exact rfl; exact rfl)
    | (apply WL.gT; exact rfl; exact rfl; (focus (exact dec_true (by omega); done)))
    | (show WL _ _ _ _ _ _ _; first | apply WL.nil | (refine WL.au (k := ?_)))
    | (show Z _ _ _ _ _; apply Z.then_normal)
    | (show W _ _ _ _ _ _; first | apply W.seq | apply W.region | apply W.ret))
  exact Z.body1 Try.results169 rfl fun m => ⟨congrArg Value.bool (dec_true (by omega)), m, rfl⟩
/-- One thing more in it. -/
structure HpB (w0 w : World) (gh : Nat) (F : List Nat) (rest : List Piece) (t A : List Int) (p : Int → Prop) : Prop where
  ext : Ext w0 w
  hp : HpS w0.heap.size w gh F t A rest
  ho : HO t
  mem : ∀ x, x ∈ t ↔ p x
set_option maxHeartbeats 8000000 in
theorem heap_Push (w w0 : World) (gh : Nat) (F : List Nat) (t A : List Int) (rest : List Piece) (p : Int → Prop) (hB : HpB w0 w gh F rest t A p) (hn : F.length ≤ 1048576) (v : Nat) (hv : v < F.length) (hp : ¬ p v) :
    Lt.Spec Try.prog 151 [.pointer (some ⟨gh, 0, none⟩), .int .i64 v] w (fun r w' => r = .int .i64 0 ∧ ∃ t' A', HpB w0 w' gh F rest t' A' (fun x => p x ∨ x = v)) := by
  obtain ⟨hX, hH, hO, hm⟩ := hB
  have hnt : (v : Int) ∉ t := fun h => hp ((hm _).1 h)
  have htl := hH.at_.len_le
  have hAl := hH.at_.len
  have hAv := hH.at_.out v hv hnt
  have hA2 := hH.at_.push hv hnt
  have hU2 := hO.push (v : Int)
  have hAv' : A[((v : Nat) : Int).toNat]? = some (-1) := hAv
  have hkn := heap_known hH v hv
  have hZ := hH.zero
  obtain ⟨as_, cs, tr, ct, ap, cp, hS⟩ := hH.mem
  have hgt := (hS.lt (i := 0) rfl rfl).1
  have hne : blk tr ≠ some gh := fun h => by
    rcases hS.apart 2 0 _ _ rfl rfl (by decide) with h1 | h1
    · rw [show (prow 1 encI 3 w0.heap.size tr ct t).b = blk tr from rfl] at h1; rw [h1] at h; cases h
    · exact h1 h
  have h := cells_heap (hS.cell (i := 0) rfl)
  have c1 := h.2.1
  have c2 := h.2.2.1
  clear h
  have hR2 := hS.row (i := 2) rfl
  have hR3 := hS.row (i := 3) rfl
  have hset : (A.set ((v : Nat) : Int).toNat (t.length : Int))[((v : Nat) : Int).toNat]? = some (t.length : Int) := List.getElem?_set_self (by show v < A.length; omega)
  refine Spec.of _ Try.func151 rfl Try.ntmps151 (by kernel_rfl) rfl ?_
  repeat' (first
    | (apply WL.nilc; exact rfl; exact rfl; exact rfl)
    | (apply FL.nilc; exact rfl; exact rfl; exact rfl)
    | (apply WL.callS; exact rfl; exact rfl; exact rfl; exact rfl; exact hkn)
    | (apply W.condKF; exact rfl; (focus (first | exact dec_false (by decide) | exact dec_true (by omega); done)))
    | (show W _ _ (.region 5 _ _) _ _ _; apply W.regionGB (.fl true 0 (.fl true 1 (.fl true 2 (.fl true 4 (.fl true 5 (.fl true 6 (.fl true 7 (.fl false 3 (.fl false 8 (.fl true 9 (.fl true 10 (.br 11 .done .stop)))))))))))) [8, 9] (none) tMix; kernel_rfl)
    | (apply WL.storeO tOk; exact rfl; exact rfl; exact rfl; exact rfl; assumption; (exact extA); exact rfl; exact rfl; exact rfl; exact encI_ok; assumption; exact rfl; (exact extA); intro w' hO hX' hU; (first | replace hS := Sep.updRow (i := 0) rfl hU hO (.inl rfl) hS (by (exact extA)) (by (first | exact Nat.le_refl _ | exact Below.size (by (exact extA)))) | replace hS := Sep.updRow (i := 1) rfl hU hO (.inl rfl) hS (by (exact extA)) (by (first | exact Nat.le_refl _ | exact Below.size (by (exact extA)))) | replace hS := Sep.updRow (i := 2) rfl hU hO (.inl rfl) hS (by (exact extA)) (by (first | exact Nat.le_refl _ | exact Below.size (by (exact extA)))) | replace hS := Sep.updRow (i := 3) rfl hU hO (.inl rfl) hS (by (exact extA)) (by (first | exact Nat.le_refl _ | exact Below.size (by (exact extA)))) | replace hS := Sep.updRow (i := 4) rfl hU hO (.inl rfl) hS (by (exact extA)) (by (first | exact Nat.le_refl _ | exact Below.size (by (exact extA)))) | replace hS := Sep.updRow (i := 5) rfl hU hO (.inl rfl) hS (by (exact extA)) (by (first | exact Nat.le_refl _ | exact Below.size (by (exact extA))))); (try simp only [List.set_cons_zero, List.set_cons_succ] at hS); (try have hR0 := hS.row (i := 0) rfl); (try have hR1 := hS.row (i := 1) rfl); (try have hR2 := hS.row (i := 2) rfl); (try have hR3 := hS.row (i := 3) rfl); (try have hR4 := hS.row (i := 4) rfl); (try have hC0 := hS.cell (i := 0) rfl); (try have hD0 := (cells_heap hC0).1); (try have hE0 := (cells_heap hC0).2.1); (try have hF0 := (cells_heap hC0).2.2.1); (try have hG0 := (cells_heap hC0).2.2.2.1); (try have hC1 := hS.cell (i := 1) rfl); (try have hD1 := (cells_heap hC1).1); (try have hE1 := (cells_heap hC1).2.1); (try have hF1 := (cells_heap hC1).2.2.1); (try have hG1 := (cells_heap hC1).2.2.2.1); (try have hC2 := hS.cell (i := 2) rfl); (try have hD2 := (cells_heap hC2).1); (try have hE2 := (cells_heap hC2).2.1); (try have hF2 := (cells_heap hC2).2.2.1); (try have hG2 := (cells_heap hC2).2.2.2.1); (try have hC3 := hS.cell (i := 3) rfl); (try have hD3 := (cells_heap hC3).1); (try have hE3 := (cells_heap hC3).2.1); (try have hF3 := (cells_heap hC3).2.2.1); (try have hG3 := (cells_heap hC3).2.2.2.1); (try have hC4 := hS.cell (i := 4) rfl); (try have hD4 := (cells_heap hC4).1); (try have hE4 := (cells_heap hC4).2.1); (try have hF4 := (cells_heap hC4).2.2.1); (try have hG4 := (cells_heap hC4).2.2.2.1); (try have hM0 := hS.map (i := 0) rfl); (try have hM1 := hS.map (i := 1) rfl); (try have hM2 := hS.map (i := 2) rfl); (try have hM3 := hS.map (i := 3) rfl); (try have hM4 := hS.map (i := 4) rfl))
    | (apply WL.indexO tOk; exact rfl; exact rfl; exact rfl; exact rfl; exact rfl; exact rfl; exact rfl; exact rfl; assumption; (exact extA); exact encI_ok; (first | exact rfl | (focus (simp only [List.length_set]; done)) | (focus (simp; done)) | (focus (simp [*]; done)) | omega | (focus (simp only [List.length_set]; omega))); omega; assumption; intro gb ha hc; cases ha; have hcc := hc; first | (obtain ⟨h1, h2, h3, _⟩ := hc) | (obtain ⟨h1, h2, _⟩ := hc) | (obtain ⟨h1, _⟩ := hc))
    | (apply FL.indexO tOk; exact rfl; exact rfl; exact rfl; exact rfl; exact rfl; exact rfl; exact rfl; exact rfl; assumption; (exact extA); exact encI_ok; (first | exact rfl | (focus (simp only [List.length_set]; done)) | (focus (simp; done)) | (focus (simp [*]; done)) | omega | (focus (simp only [List.length_set]; omega))); omega; assumption; intro gb ha hc; cases ha; have hcc := hc; first | (obtain ⟨h1, h2, h3, _⟩ := hc) | (obtain ⟨h1, h2, _⟩ := hc) | (obtain ⟨h1, _⟩ := hc))
    | (apply WL.lit tOk; exact rfl; exact rfl; exact rfl; exact rfl; exact rfl; exact rfl; (first | exact rfl | kernel_rfl | (simp [Instr.fill, catCells]; done)); exact rfl; intro gb w' hb hge hc hx)
    | (apply WL.append1 (z := ((v : Int))) tOk encI_ok; exact rfl; exact rfl; exact rfl; exact rfl; exact rfl; exact rfl; exact rfl; exact rfl; exact rfl; exact rfl; assumption; (exact extA); (first | exact rfl | (focus (simp only [List.length_set]; done)) | (focus (simp; done)) | (focus (simp [*]; done)) | omega | (focus (simp only [List.length_set]; omega))); assumption; exact rfl; exact rfl; (exact extA); (first | omega | (simp; omega) | (simp at *; omega)); intro a' cap' w' hO hX' hU hF; (first | replace hS := Sep.updRow (i := 0) rfl hU hO hF hS (by (exact extA)) (by (first | exact Nat.le_refl _ | exact Below.size (by (exact extA)))) | replace hS := Sep.updRow (i := 1) rfl hU hO hF hS (by (exact extA)) (by (first | exact Nat.le_refl _ | exact Below.size (by (exact extA)))) | replace hS := Sep.updRow (i := 2) rfl hU hO hF hS (by (exact extA)) (by (first | exact Nat.le_refl _ | exact Below.size (by (exact extA)))) | replace hS := Sep.updRow (i := 3) rfl hU hO hF hS (by (exact extA)) (by (first | exact Nat.le_refl _ | exact Below.size (by (exact extA)))) | replace hS := Sep.updRow (i := 4) rfl hU hO hF hS (by (exact extA)) (by (first | exact Nat.le_refl _ | exact Below.size (by (exact extA)))) | replace hS := Sep.updRow (i := 5) rfl hU hO hF hS (by (exact extA)) (by (first | exact Nat.le_refl _ | exact Below.size (by (exact extA))))); (try simp only [List.set_cons_zero, List.set_cons_succ] at hS); (try have hR0 := hS.row (i := 0) rfl); (try have hR1 := hS.row (i := 1) rfl); (try have hR2 := hS.row (i := 2) rfl); (try have hR3 := hS.row (i := 3) rfl); (try have hR4 := hS.row (i := 4) rfl); (try have hC0 := hS.cell (i := 0) rfl); (try have hD0 := (cells_heap hC0).1); (try have hE0 := (cells_heap hC0).2.1); (try have hF0 := (cells_heap hC0).2.2.1); (try have hG0 := (cells_heap hC0).2.2.2.1); (try have hC1 := hS.cell (i := 1) rfl); (try have hD1 := (cells_heap hC1).1); (try have hE1 := (cells_heap hC1).2.1); (try have hF1 := (cells_heap hC1).2.2.1); (try have hG1 := (cells_heap hC1).2.2.2.1); (try have hC2 := hS.cell (i := 2) rfl); (try have hD2 := (cells_heap hC2).1); (try have hE2 := (cells_heap hC2).2.1); (try have hF2 := (cells_heap hC2).2.2.1); (try have hG2 := (cells_heap hC2).2.2.2.1); (try have hC3 := hS.cell (i := 3) rfl); (try have hD3 := (cells_heap hC3).1); (try have hE3 := (cells_heap hC3).2.1); (try have hF3 := (cells_heap hC3).2.2.1); (try have hG3 := (cells_heap hC3).2.2.2.1); (try have hC4 := hS.cell (i := 4) rfl); (try have hD4 := (cells_heap hC4).1); (try have hE4 := (cells_heap hC4).2.1); (try have hF4 := (cells_heap hC4).2.2.1); (try have hG4 := (cells_heap hC4).2.2.2.1); (try have hM0 := hS.map (i := 0) rfl); (try have hM1 := hS.map (i := 1) rfl); (try have hM2 := hS.map (i := 2) rfl); (try have hM3 := hS.map (i := 3) rfl); (try have hM4 := hS.map (i := 4) rfl))
    | (apply WL.storeF (w0 := w0) tOk; exact rfl; exact rfl; exact rfl; exact rfl; assumption; (exact extA); exact rfl; exact rfl; exact rfl; exact rfl; (exact extA); (first | assumption | omega | (focus (apply Nat.le_trans; rotate_left; assumption; exact Below.size (by (exact extA))))); intro w' hb hX' hU; replace hS := Sep.updCell (i := 0) rfl hU hb hS (by (exact extA)) (by (first | exact Nat.le_refl _ | exact Below.size (by (exact extA)))); (try simp only [List.set_cons_zero, List.set_cons_succ] at hS); (try have hR0 := hS.row (i := 0) rfl); (try have hR1 := hS.row (i := 1) rfl); (try have hR2 := hS.row (i := 2) rfl); (try have hR3 := hS.row (i := 3) rfl); (try have hR4 := hS.row (i := 4) rfl); (try have hC0 := hS.cell (i := 0) rfl); (try have hD0 := (cells_heap hC0).1); (try have hE0 := (cells_heap hC0).2.1); (try have hF0 := (cells_heap hC0).2.2.1); (try have hG0 := (cells_heap hC0).2.2.2.1); (try have hC1 := hS.cell (i := 1) rfl); (try have hD1 := (cells_heap hC1).1); (try have hE1 := (cells_heap hC1).2.1); (try have hF1 := (cells_heap hC1).2.2.1); (try have hG1 := (cells_heap hC1).2.2.2.1); (try have hC2 := hS.cell (i := 2) rfl); (try have hD2 := (cells_heap hC2).1); (try have hE2 := (cells_heap hC2).2.1); (try have hF2 := (cells_heap hC2).2.2.1); (try have hG2 := (cells_heap hC2).2.2.2.1); (try have hC3 := hS.cell (i := 3) rfl); (try have hD3 := (cells_heap hC3).1); (try have hE3 := (cells_heap hC3).2.1); (try have hF3 := (cells_heap hC3).2.2.1); (try have hG3 := (cells_heap hC3).2.2.2.1); (try have hC4 := hS.cell (i := 4) rfl); (try have hD4 := (cells_heap hC4).1); (try have hE4 := (cells_heap hC4).2.1); (try have hF4 := (cells_heap hC4).2.2.1); (try have hG4 := (cells_heap hC4).2.2.2.1); (try have hM0 := hS.map (i := 0) rfl); (try have hM1 := hS.map (i := 1) rfl); (try have hM2 := hS.map (i := 2) rfl); (try have hM3 := hS.map (i := 3) rfl); (try have hM4 := hS.map (i := 4) rfl))
    | (show WL _ _ _ _ _ _ _; first | apply WL.nil | (refine WL.au (k := ?_)))
    | (show SG _ _ _ _ _ _ _ _ _; first | apply SG.done | (apply SG.fl0; exact rfl) | (apply SG.fl1; exact rfl; (focus ((intro m; first | assumption | (apply Ext.at; (exact extA)) | apply But.of_at; first | exact But.upd (by assumption) | exact But.ext (by (exact extA)) | (refine But.trans ?_ (But.upd (by assumption)); exact But.ext (by (exact extA))) | exact But.at _ _ _); done))) | (apply SG.br1; exact rfl))
    | (show FL _ _ _ _ _ _ _ _; first | apply FL.nilS | (refine FL.au (k := ?_)) | (apply FL.loadG tOk; exact rfl; exact rfl; exact rfl; exact rfl; exact rfl; (first | assumption | (focus (apply Ext.cell; rotate_left; assumption; (exact extA); done))); (first | (focus (intro h; cases h; done)) | (focus (intro h; have h9 := hBC _ h; (try simp only at h9); omega)) | assumption | (focus (intro h; simp only [blk, Option.map_some, Option.some.injEq] at h; omega)))))
    | (show Z _ _ _ _ _; (apply Z.sgL; exact rfl))
    | (show Z _ _ _ _ _; first | apply Z.then_normal | apply Z.block_normal)
    | (show W _ _ _ _ _ _; first | apply W.seq | apply W.region | apply W.block | apply W.skip | (apply W.condF; exact rfl)))
  have hH2 : HpS w0.heap.size w' gh F (t ++ [(v : Int)]) (A.set v (t.length : Int)) rest := HpS.mk' hA2 hZ rfl (by rw [List.length_set]) hS
  have hup := heap_up w' w0 gh F (t ++ [(v : Int)]) (A.set v (t.length : Int)) rest hX' hH2 hn t.length (by simp) hU2
  repeat' (first
    | (((show WL _ _ _ (⟨_, .call ⟨.value (.func 170), _, _⟩, _, _, _, _⟩ :: _) _ _ _); apply WL.call; exact rfl; exact rfl; exact rfl; exact rfl; exact hup; rintro v' w2 ⟨rfl, t2, A2, hR2, hO2⟩))
    | (show WL _ _ _ _ _ _ _; first | apply WL.nil | (refine WL.au (k := ?_)))
    | (show Z _ _ _ _ _; apply Z.then_normal)
    | (show W _ _ _ _ _ _; first | apply W.seq | apply W.region | apply W.ret))
  refine Z.body1 Try.results151 rfl fun m => ⟨rfl, t2, A2, hR2.ext.at m, hR2.hp.ext ((Ext.refl _).at m), hO2, fun x => ?_⟩
  rw [hR2.mem x, List.mem_append, hm x, List.mem_singleton]
theorem heap_Pop0 {w w0 : World} {gh : Nat} {F : List Nat} {A : List Int} {rest : List Piece} {p : Int → Prop} (hB : HpB w0 w gh F rest [] A p) : Still Try.prog 152 [.pointer (some ⟨gh, 0, none⟩)] w (.tuple #[.int .i64 0, .bool false]) := by
  have hl := heap_Len hB.hp
  refine Spec.of _ Try.func152 rfl Try.ntmps152 (by kernel_rfl) rfl ?_
  repeat' (first
    | (apply WL.callS; exact rfl; exact rfl; exact rfl; exact rfl; exact hl)
    | (apply W.condKT; exact rfl; (focus (exact dec_true rfl; done)))
    | (show WL _ _ _ _ _ _ _; first | apply WL.nil | (refine WL.au (k := ?_)))
    | (show Z _ _ _ _ _; first | apply Z.then_normal | apply Z.then_ret)
    | (show W _ _ _ _ _ _; first | apply W.seq | apply W.region | apply W.ret))
  exact Z.body2 Try.results152 rfl rfl fun m => ⟨rfl, m, rfl⟩
set_option maxHeartbeats 8000000 in
theorem heap_Pop (w w0 : World) (gh : Nat) (F : List Nat) (t A : List Int) (rest : List Piece) (p : Int → Prop) (hB : HpB w0 w gh F rest t A p) (hn : F.length ≤ 1048576) (ya : Int) (h0 : t[0]? = some ya) :
    Lt.Spec Try.prog 152 [.pointer (some ⟨gh, 0, none⟩)] w (fun r w' => r = .tuple #[.int .i64 ya, .bool true] ∧ ∃ t' A', HpB w0 w' gh F rest t' A' (fun x => p x ∧ x ≠ ya)) := by
  obtain ⟨hX, hH, hO, hm⟩ := hB
  have htl := hH.at_.len_le
  have hAl := hH.at_.len
  have hlen0 := lt_of_get h0
  obtain ⟨l, hl⟩ : ∃ l, t.length = l + 1 := ⟨t.length - 1, by omega⟩
  obtain ⟨yb, hyb⟩ := getI t (show l < t.length by omega)
  have la := hH.at_.lt h0
  have hD2 := pop_down hO hl h0 hyb
  have hA2 := pop_at hH.at_ hl h0 hyb
  have hM2 := pop_mem hH.at_ hl h0 hyb
  have hL2 := pop_len (a := ya) (b := yb) hl
  have hlenc := heap_Len hH
  have hZ := hH.zero
  obtain ⟨as_, cs, tr, ct, ap, cp, hS⟩ := hH.mem
  have hsw := heap_swap hX hS hH.at_ 0 l ya yb h0 hyb (by omega)
  have h := cells_heap (hS.cell (i := 0) rfl)
  have c1 := h.2.1
  clear h
  have Rt := Own.row encI_ok (hS.row (i := 2) rfl)
  have h0' : t[(0 : Int).toNat]? = some ya := h0
  have el : ((t.length : Nat) : Int) - 1 = (l : Int) := by omega
  have hsl := swp_len t 0 l ya yb
  obtain ⟨z1, hz1⟩ := getI ((A.set yb.toNat ((0 : Nat) : Int)).set ya.toNat (l : Int)) (show ya.toNat < _ by rw [List.length_set, List.length_set]; omega)
  refine Spec.of _ Try.func152 rfl Try.ntmps152 (by kernel_rfl) rfl ?_
  repeat' (first
    | (apply QL.nilc; exact rfl; exact rfl; exact rfl)
    | (apply WL.callS; exact rfl; exact rfl; exact rfl; exact rfl; exact hlenc)
    | (apply W.condKF; exact rfl; (focus (first | exact dec_false (by omega); done)))
    | (show WL _ _ _ _ _ _ _; first | apply WL.nil | (refine WL.au (k := ?_)))
    | (show QL _ _ _ _ _ _ _; first | apply QL.nil | (refine QL.au (k := ?_)) | (apply QL.index tOk; exact rfl; exact rfl; exact rfl; exact rfl; exact rfl; exact rfl; exact rfl; exact rfl; assumption; (exact extA); exact rfl; omega; assumption; intro b off h; have hcc := h; first | (obtain ⟨h1, h2, h3, h4, h5, h6, _⟩ := h) | (obtain ⟨h1, h2, h3, _⟩ := h) | (obtain ⟨h1, h2, _⟩ := h) | (obtain ⟨h1, _⟩ := h)))
    | (show Z _ _ _ _ _; apply Z.then_normal)
    | (show W _ _ _ _ _ _; first | apply W.seq | apply W.region | apply W.skip | (apply W.regionD tMix; kernel_rfl)))
  rw [el]
  repeat' (first
    | (((show WL _ _ _ (⟨_, .call ⟨.value (.func 172), _, _⟩, _, _, _, _⟩ :: _) _ _ _); apply WL.call; exact rfl; exact rfl; exact rfl; exact rfl; exact hsw; rintro v' w2 ⟨rfl, hX2, hS⟩))
    | (show WL _ _ _ _ _ _ _; apply WL.nil)
    | (show Z _ _ _ _ _; apply Z.then_normal)
    | (show W _ _ _ _ _ _; apply W.seq))
  have hgt := (hS.lt (i := 0) rfl rfl).1
  have h := cells_heap (hS.cell (i := 0) rfl)
  have c1 := h.2.1
  have c2 := h.2.2.1
  clear h
  have hR2 := hS.row (i := 2) rfl
  have hR3 := hS.row (i := 3) rfl
  have hcap := hR2.capLe
  (try simp only [List.set_cons_zero, List.set_cons_succ] at hS); (try have hR0 := hS.row (i := 0) rfl); (try have hR1 := hS.row (i := 1) rfl); (try have hR2 := hS.row (i := 2) rfl); (try have hR3 := hS.row (i := 3) rfl); (try have hR4 := hS.row (i := 4) rfl); (try have hC0 := hS.cell (i := 0) rfl); (try have hD0 := (cells_heap hC0).1); (try have hE0 := (cells_heap hC0).2.1); (try have hF0 := (cells_heap hC0).2.2.1); (try have hG0 := (cells_heap hC0).2.2.2.1); (try have hC1 := hS.cell (i := 1) rfl); (try have hD1 := (cells_heap hC1).1); (try have hE1 := (cells_heap hC1).2.1); (try have hF1 := (cells_heap hC1).2.2.1); (try have hG1 := (cells_heap hC1).2.2.2.1); (try have hC2 := hS.cell (i := 2) rfl); (try have hD2 := (cells_heap hC2).1); (try have hE2 := (cells_heap hC2).2.1); (try have hF2 := (cells_heap hC2).2.2.1); (try have hG2 := (cells_heap hC2).2.2.2.1); (try have hC3 := hS.cell (i := 3) rfl); (try have hD3 := (cells_heap hC3).1); (try have hE3 := (cells_heap hC3).2.1); (try have hF3 := (cells_heap hC3).2.2.1); (try have hG3 := (cells_heap hC3).2.2.2.1); (try have hC4 := hS.cell (i := 4) rfl); (try have hD4 := (cells_heap hC4).1); (try have hE4 := (cells_heap hC4).2.1); (try have hF4 := (cells_heap hC4).2.2.1); (try have hG4 := (cells_heap hC4).2.2.2.1); (try have hM0 := hS.map (i := 0) rfl); (try have hM1 := hS.map (i := 1) rfl); (try have hM2 := hS.map (i := 2) rfl); (try have hM3 := hS.map (i := 3) rfl); (try have hM4 := hS.map (i := 4) rfl)
  repeat' (first
    | (apply FL.nilc; exact rfl; exact rfl; exact rfl)
    | (show W _ _ (.region 5 _ _) _ _ _; apply W.regionGB (.fl true 0 (.fl true 1 (.fl true 2 (.fl true 3 (.fl true 5 (.fl true 6 (.fl true 7 (.fl true 8 (.fl true 10 (.fl false 4 (.fl false 9 (.fl true 11 (.fl true 12 (.fl true 13 (.br 14 (.fl true 15 (.br 16 .done .stop)) .stop))))))))))))))) [9, 11] (none) tMix; kernel_rfl)
    | (apply FL.sliceH0 tOk; exact rfl; exact rfl; exact rfl; exact rfl; exact rfl; exact rfl; exact rfl; omega)
    | (apply WL.storeO tOk; exact rfl; exact rfl; exact rfl; exact rfl; assumption; (exact extA); exact rfl; exact rfl; exact rfl; exact encI_ok; assumption; exact rfl; (exact extA); intro w' hO hX' hU; (first | replace hS := Sep.updRow (i := 0) rfl hU hO (.inl rfl) hS (by (exact extA)) (by (first | exact Nat.le_refl _ | exact Below.size (by (exact extA)))) | replace hS := Sep.updRow (i := 1) rfl hU hO (.inl rfl) hS (by (exact extA)) (by (first | exact Nat.le_refl _ | exact Below.size (by (exact extA)))) | replace hS := Sep.updRow (i := 2) rfl hU hO (.inl rfl) hS (by (exact extA)) (by (first | exact Nat.le_refl _ | exact Below.size (by (exact extA)))) | replace hS := Sep.updRow (i := 3) rfl hU hO (.inl rfl) hS (by (exact extA)) (by (first | exact Nat.le_refl _ | exact Below.size (by (exact extA)))) | replace hS := Sep.updRow (i := 4) rfl hU hO (.inl rfl) hS (by (exact extA)) (by (first | exact Nat.le_refl _ | exact Below.size (by (exact extA)))) | replace hS := Sep.updRow (i := 5) rfl hU hO (.inl rfl) hS (by (exact extA)) (by (first | exact Nat.le_refl _ | exact Below.size (by (exact extA))))); (try simp only [List.set_cons_zero, List.set_cons_succ] at hS); (try have hR0 := hS.row (i := 0) rfl); (try have hR1 := hS.row (i := 1) rfl); (try have hR2 := hS.row (i := 2) rfl); (try have hR3 := hS.row (i := 3) rfl); (try have hR4 := hS.row (i := 4) rfl); (try have hC0 := hS.cell (i := 0) rfl); (try have hD0 := (cells_heap hC0).1); (try have hE0 := (cells_heap hC0).2.1); (try have hF0 := (cells_heap hC0).2.2.1); (try have hG0 := (cells_heap hC0).2.2.2.1); (try have hC1 := hS.cell (i := 1) rfl); (try have hD1 := (cells_heap hC1).1); (try have hE1 := (cells_heap hC1).2.1); (try have hF1 := (cells_heap hC1).2.2.1); (try have hG1 := (cells_heap hC1).2.2.2.1); (try have hC2 := hS.cell (i := 2) rfl); (try have hD2 := (cells_heap hC2).1); (try have hE2 := (cells_heap hC2).2.1); (try have hF2 := (cells_heap hC2).2.2.1); (try have hG2 := (cells_heap hC2).2.2.2.1); (try have hC3 := hS.cell (i := 3) rfl); (try have hD3 := (cells_heap hC3).1); (try have hE3 := (cells_heap hC3).2.1); (try have hF3 := (cells_heap hC3).2.2.1); (try have hG3 := (cells_heap hC3).2.2.2.1); (try have hC4 := hS.cell (i := 4) rfl); (try have hD4 := (cells_heap hC4).1); (try have hE4 := (cells_heap hC4).2.1); (try have hF4 := (cells_heap hC4).2.2.1); (try have hG4 := (cells_heap hC4).2.2.2.1); (try have hM0 := hS.map (i := 0) rfl); (try have hM1 := hS.map (i := 1) rfl); (try have hM2 := hS.map (i := 2) rfl); (try have hM3 := hS.map (i := 3) rfl); (try have hM4 := hS.map (i := 4) rfl))
    | (apply FL.indexO tOk; exact rfl; exact rfl; exact rfl; exact rfl; exact rfl; exact rfl; exact rfl; exact rfl; assumption; (exact extA); exact encI_ok; (first | exact rfl | (focus (simp only [List.length_set]; done)) | (focus (simp; done)) | (focus (simp [*]; done)) | omega | (focus (simp only [List.length_set]; omega))); omega; assumption; intro gb ha hc; cases ha; have hcc := hc; first | (obtain ⟨h1, h2, h3, _⟩ := hc) | (obtain ⟨h1, h2, _⟩ := hc) | (obtain ⟨h1, _⟩ := hc))
    | (apply WL.storeF (w0 := w0) tOk; exact rfl; exact rfl; exact rfl; exact rfl; assumption; (exact extA); exact rfl; exact rfl; exact rfl; exact rfl; (exact extA); (first | assumption | omega | (focus (apply Nat.le_trans; rotate_left; assumption; exact Below.size (by (exact extA))))); intro w' hb hX' hU; replace hS := Sep.updCell (i := 0) rfl hU hb hS (by (exact extA)) (by (first | exact Nat.le_refl _ | exact Below.size (by (exact extA)))); (try simp only [List.set_cons_zero, List.set_cons_succ] at hS); (try have hR0 := hS.row (i := 0) rfl); (try have hR1 := hS.row (i := 1) rfl); (try have hR2 := hS.row (i := 2) rfl); (try have hR3 := hS.row (i := 3) rfl); (try have hR4 := hS.row (i := 4) rfl); (try have hC0 := hS.cell (i := 0) rfl); (try have hD0 := (cells_heap hC0).1); (try have hE0 := (cells_heap hC0).2.1); (try have hF0 := (cells_heap hC0).2.2.1); (try have hG0 := (cells_heap hC0).2.2.2.1); (try have hC1 := hS.cell (i := 1) rfl); (try have hD1 := (cells_heap hC1).1); (try have hE1 := (cells_heap hC1).2.1); (try have hF1 := (cells_heap hC1).2.2.1); (try have hG1 := (cells_heap hC1).2.2.2.1); (try have hC2 := hS.cell (i := 2) rfl); (try have hD2 := (cells_heap hC2).1); (try have hE2 := (cells_heap hC2).2.1); (try have hF2 := (cells_heap hC2).2.2.1); (try have hG2 := (cells_heap hC2).2.2.2.1); (try have hC3 := hS.cell (i := 3) rfl); (try have hD3 := (cells_heap hC3).1); (try have hE3 := (cells_heap hC3).2.1); (try have hF3 := (cells_heap hC3).2.2.1); (try have hG3 := (cells_heap hC3).2.2.2.1); (try have hC4 := hS.cell (i := 4) rfl); (try have hD4 := (cells_heap hC4).1); (try have hE4 := (cells_heap hC4).2.1); (try have hF4 := (cells_heap hC4).2.2.1); (try have hG4 := (cells_heap hC4).2.2.2.1); (try have hM0 := hS.map (i := 0) rfl); (try have hM1 := hS.map (i := 1) rfl); (try have hM2 := hS.map (i := 2) rfl); (try have hM3 := hS.map (i := 3) rfl); (try have hM4 := hS.map (i := 4) rfl))
    | (show WL _ _ _ _ _ _ _; first | apply WL.nil | (refine WL.au (k := ?_)))
    | (show SG _ _ _ _ _ _ _ _ _; first | apply SG.done | (apply SG.fl0; exact rfl) | (apply SG.fl1; exact rfl; (focus ((intro m; first | assumption | (apply Ext.at; (exact extA)) | apply But.of_at; first | exact But.upd (by assumption) | exact But.ext (by (exact extA)) | (refine But.trans ?_ (But.upd (by assumption)); exact But.ext (by (exact extA))) | exact But.at _ _ _); done))) | (apply SG.br1; exact rfl))
    | (show FL _ _ _ _ _ _ _ _; first | apply FL.nilS | (refine FL.au (k := ?_)) | (apply FL.loadG tOk; exact rfl; exact rfl; exact rfl; exact rfl; exact rfl; (first | assumption | (focus (apply Ext.cell; rotate_left; assumption; (exact extA); done))); (first | (focus (intro h; cases h; done)) | (focus (intro h; have h9 := hBC _ h; (try simp only at h9); omega)) | assumption | (focus (intro h; simp only [blk, Option.map_some, Option.some.injEq] at h; omega)))))
    | (show Z _ _ _ _ _; (apply Z.sgL; exact rfl))
    | (show Z _ _ _ _ _; apply Z.then_normal)
    | (show W _ _ _ _ _ _; first | apply W.seq | apply W.region))
  have h2 := Own.take encI_ok (hS.row (i := 2) rfl) l
  have hS2 := Sep.re (i := 2) (p' := prow 1 encI 3 w0.heap.size tr ct ((swp t 0 l ya yb).take l)) hS rfl rfl h2
  have hH2 : HpS w0.heap.size w' gh F ((swp t 0 l ya yb).take l) (((A.set yb.toNat (0 : Int)).set ya.toNat (l : Int)).set ya.toNat (-1)) rest := HpS.mk' hA2 hZ (by rw [hL2]; rfl) (by simp) hS2
  have hdn := heap_down w' w0 gh F _ _ rest hX' hH2 hn 0 (by
    by_cases hl0 : l = 0
    · right; subst hl0; rfl
    · left; rw [hL2]; omega) hD2 (by omega)
  repeat' (first
    | (((show WL _ _ _ (⟨_, .call ⟨.value (.func 173), _, _⟩, _, _, _, _⟩ :: _) _ _ _); apply WL.call; exact rfl; exact rfl; exact rfl; exact rfl; exact hdn; rintro v' w3 ⟨rfl, t3, A3, hR3, hO3⟩))
    | (show WL _ _ _ _ _ _ _; first | apply WL.nil | (refine WL.au (k := ?_)))
    | (show Z _ _ _ _ _; apply Z.then_normal)
    | (show W _ _ _ _ _ _; first | apply W.seq | apply W.region | apply W.ret))
  exact Z.body2 Try.results152 rfl rfl fun m => ⟨rfl, t3, A3, hR3.ext.at m, hR3.hp.ext ((Ext.refl _).at m), hO3, fun x => by rw [hR3.mem x, hM2 x, hm x]⟩
theorem Sep.swap23 {B : Nat} {w : World} {p q r s : Piece} {ps : List Piece} (hS : Lt.Sep B w (p :: q :: r :: s :: ps)) : Lt.Sep B w (p :: q :: s :: r :: ps) := by
  refine hS.pick (fun i => if i = 2 then 3 else if i = 3 then 2 else i) (fun i x hx => ?_) (fun i j _ _ hij => ?_)
  · match i, hx with
    | 0, hx => exact hx
    | 1, hx => exact hx
    | 2, hx => exact hx
    | 3, hx => exact hx
    | i + 4, hx => rw [if_neg (by omega), if_neg (by omega)]; exact hx
  · show (if i = 2 then 3 else if i = 3 then 2 else i) ≠ (if j = 2 then 3 else if j = 3 then 2 else j)
    split <;> split <;> (try split) <;> (try split) <;> omega
set_option maxHeartbeats 8000000 in
theorem heap_New (n : Nat) (hn : n ≤ 1048576) (w w0 : World) (rest : List Piece) (hX : Ext w0 w) (hS : Lt.Sep w0.heap.size w rest) :
    Lt.Spec Try.prog 150 [.int .i64 n] w (fun r w' => ∃ gh F A, r = .pointer (some ⟨gh, 0, none⟩) ∧ F.length = n ∧ HpB w0 w' gh F rest [] A (fun _ => False)) := by
  have hB := hX.size
  have hn1 : ((n : Nat) : Int).toNat = n := by omega
  refine Spec.of _ Try.func150 rfl Try.ntmps150 (by kernel_rfl) rfl ?_
  repeat' (first
    | (apply WL.gF; exact rfl; exact rfl; (focus (exact dec_false (by omega); done)))
    | (apply W.condKF; exact rfl; (focus (exact dec_false (by omega); done)))
    | (show WL _ _ _ _ _ _ _; first | apply WL.nil | (refine WL.au (k := ?_)))
    | (show Z _ _ _ _ _; apply Z.then_normal)
    | (show W _ _ _ _ _ _; first | apply W.seq | apply W.region | apply W.skip))
  refine W.cutT (σ := Nat × Nat × Nat × World) (fun s => Lt.Sep w0.heap.size s.2.2.2 ([pcell s.1 #[.slice (some ⟨s.2.1, 0, none⟩) n n, .slice none 0 0, .slice (some ⟨s.2.2.1, 0, none⟩) n n] 177, prow 1 encF 187 w0.heap.size (some ⟨s.2.1, 0, none⟩) n (List.replicate n 0), prow 1 encI 3 w0.heap.size none 0 [], prow 1 encI 3 w0.heap.size (some ⟨s.2.2.1, 0, none⟩) n (List.replicate n 0)] ++ rest) ∧ Ext w0 s.2.2.2)
    (fun s => [(0, .int .i64 n), (3, .pointer (some ⟨s.1, 0, none⟩))]) (fun s => s.2.2.2) ?_ ?_
  · replace hS : Lt.Sep w0.heap.size w (prow 1 encI 3 w0.heap.size none 0 [] :: rest) := Sep.newRow hS (Ext.refl _) Own.nil (fun k hk => by cases hk) hB
    repeat' (first
      | (show W _ _ (.region 3 _ _) _ _ _; apply W.regionGB (.fl true 0 (.fl true 2 (.br 1 (.br 3 (.fl true 4 (.br 5 (.fl true 6 .done) .stop)) .stop) (.br 3 (.br 1 (.fl true 4 (.br 5 (.fl true 6 .done) .stop)) .stop) .stop)))) [] (none) tMix; kernel_rfl)
      | ((apply WL.make (w0 := w0) (z := (0 : Nat)) thOk; exact rfl; exact rfl; exact rfl; exact rfl; exact rfl; exact rfl; exact rfl; exact rfl; exact rfl; exact encF_ok; exact rfl; exact rfl; exact (by (exact extA)); (first | omega | (simp; omega)); intro gb w' hO hge hx; replace hS := Sep.newRow (Sep.ext hS (by (exact extA))) hx hO (fun k hk => by cases hk; exact hge) (by exact Below.size (by (exact extA)))))
      | (apply WL.make (w0 := w0) (z := (0:Int)) tOk; exact rfl; exact rfl; exact rfl; exact rfl; exact rfl; exact rfl; exact rfl; exact rfl; exact rfl; exact encI_ok; exact rfl; exact rfl; (exact extA); (first | omega | (simp; omega) | (simp at *; omega)); intro gb w' hO hge hx; replace hS := Sep.newRow (Sep.ext hS (by (exact extA))) hx hO (fun k hk => by cases hk; exact hge) (by (first | exact Nat.le_refl _ | exact Below.size (by (exact extA)))); (try simp only [List.set_cons_zero, List.set_cons_succ] at hS); (try have hR0 := hS.row (i := 0) rfl); (try have hR1 := hS.row (i := 1) rfl); (try have hR2 := hS.row (i := 2) rfl); (try have hR3 := hS.row (i := 3) rfl); (try have hR4 := hS.row (i := 4) rfl); (try have hC0 := hS.cell (i := 0) rfl); (try have hD0 := (cells_heap hC0).1); (try have hE0 := (cells_heap hC0).2.1); (try have hF0 := (cells_heap hC0).2.2.1); (try have hG0 := (cells_heap hC0).2.2.2.1); (try have hC1 := hS.cell (i := 1) rfl); (try have hD1 := (cells_heap hC1).1); (try have hE1 := (cells_heap hC1).2.1); (try have hF1 := (cells_heap hC1).2.2.1); (try have hG1 := (cells_heap hC1).2.2.2.1); (try have hC2 := hS.cell (i := 2) rfl); (try have hD2 := (cells_heap hC2).1); (try have hE2 := (cells_heap hC2).2.1); (try have hF2 := (cells_heap hC2).2.2.1); (try have hG2 := (cells_heap hC2).2.2.2.1); (try have hC3 := hS.cell (i := 3) rfl); (try have hD3 := (cells_heap hC3).1); (try have hE3 := (cells_heap hC3).2.1); (try have hF3 := (cells_heap hC3).2.2.1); (try have hG3 := (cells_heap hC3).2.2.2.1); (try have hC4 := hS.cell (i := 4) rfl); (try have hD4 := (cells_heap hC4).1); (try have hE4 := (cells_heap hC4).2.1); (try have hF4 := (cells_heap hC4).2.2.1); (try have hG4 := (cells_heap hC4).2.2.2.1); (try have hM0 := hS.map (i := 0) rfl); (try have hM1 := hS.map (i := 1) rfl); (try have hM2 := hS.map (i := 2) rfl); (try have hM3 := hS.map (i := 3) rfl); (try have hM4 := hS.map (i := 4) rfl))
      | (apply FL.build tOk; exact rfl; exact rfl; exact rfl; exact rfl; exact rfl; exact rfl; exact rfl; kernel_rfl)
      | (apply WL.box; exact rfl; exact rfl; exact rfl; intro gb w' hb hge hc hx; have hcc := hc; (first | (obtain ⟨h1, h2, h3, _⟩ := hc) | (obtain ⟨h1, h2, _⟩ := hc)); replace hS := Sep.newCell (Sep.ext hS (by (exact extA))) hx hb hge (by (first | exact Nat.le_refl _ | exact Below.size (by (exact extA)))); (try simp only [List.set_cons_zero, List.set_cons_succ] at hS); (try have hR0 := hS.row (i := 0) rfl); (try have hR1 := hS.row (i := 1) rfl); (try have hR2 := hS.row (i := 2) rfl); (try have hR3 := hS.row (i := 3) rfl); (try have hR4 := hS.row (i := 4) rfl); (try have hC0 := hS.cell (i := 0) rfl); (try have hD0 := (cells_heap hC0).1); (try have hE0 := (cells_heap hC0).2.1); (try have hF0 := (cells_heap hC0).2.2.1); (try have hG0 := (cells_heap hC0).2.2.2.1); (try have hC1 := hS.cell (i := 1) rfl); (try have hD1 := (cells_heap hC1).1); (try have hE1 := (cells_heap hC1).2.1); (try have hF1 := (cells_heap hC1).2.2.1); (try have hG1 := (cells_heap hC1).2.2.2.1); (try have hC2 := hS.cell (i := 2) rfl); (try have hD2 := (cells_heap hC2).1); (try have hE2 := (cells_heap hC2).2.1); (try have hF2 := (cells_heap hC2).2.2.1); (try have hG2 := (cells_heap hC2).2.2.2.1); (try have hC3 := hS.cell (i := 3) rfl); (try have hD3 := (cells_heap hC3).1); (try have hE3 := (cells_heap hC3).2.1); (try have hF3 := (cells_heap hC3).2.2.1); (try have hG3 := (cells_heap hC3).2.2.2.1); (try have hC4 := hS.cell (i := 4) rfl); (try have hD4 := (cells_heap hC4).1); (try have hE4 := (cells_heap hC4).2.1); (try have hF4 := (cells_heap hC4).2.2.1); (try have hG4 := (cells_heap hC4).2.2.2.1); (try have hM0 := hS.map (i := 0) rfl); (try have hM1 := hS.map (i := 1) rfl); (try have hM2 := hS.map (i := 2) rfl); (try have hM3 := hS.map (i := 3) rfl); (try have hM4 := hS.map (i := 4) rfl))
      | (show WL _ _ _ _ _ _ _; apply WL.nil)
      | (show SG _ _ _ _ _ _ _ _ _; first | apply SG.done | (apply SG.fl0; exact rfl) | (apply SG.br1; exact rfl) | (apply SG.br; exact rfl))
      | (show FL _ _ _ _ _ _ _ _; first | apply FL.nilS | (refine FL.au (k := ?_)))
      | (show Z _ _ _ _ _; (apply Z.sgL; exact rfl)))
    all_goals (rw [hn1] at hS; simp only [List.length_replicate] at hS)
    · exact Z.cut (_, _, _, _) ⟨Sep.swap23 (Sep.swap12 hS), (by (exact extA))⟩ ⟨rfl, rfl, trivial⟩ rfl
    · exact Z.cut (_, _, _, _) ⟨Sep.swap23 hS, (by (exact extA))⟩ ⟨rfl, rfl, trivial⟩ rfl
  · rintro ⟨gh, gf, ga, w1⟩ ⟨hS, hx1⟩
    simp only at hx1 hS ⊢
    (try simp only [List.set_cons_zero, List.set_cons_succ] at hS); (try have hR0 := hS.row (i := 0) rfl); (try have hR1 := hS.row (i := 1) rfl); (try have hR2 := hS.row (i := 2) rfl); (try have hR3 := hS.row (i := 3) rfl); (try have hR4 := hS.row (i := 4) rfl); (try have hC0 := hS.cell (i := 0) rfl); (try have hD0 := (cells_heap hC0).1); (try have hE0 := (cells_heap hC0).2.1); (try have hF0 := (cells_heap hC0).2.2.1); (try have hG0 := (cells_heap hC0).2.2.2.1); (try have hC1 := hS.cell (i := 1) rfl); (try have hD1 := (cells_heap hC1).1); (try have hE1 := (cells_heap hC1).2.1); (try have hF1 := (cells_heap hC1).2.2.1); (try have hG1 := (cells_heap hC1).2.2.2.1); (try have hC2 := hS.cell (i := 2) rfl); (try have hD2 := (cells_heap hC2).1); (try have hE2 := (cells_heap hC2).2.1); (try have hF2 := (cells_heap hC2).2.2.1); (try have hG2 := (cells_heap hC2).2.2.2.1); (try have hC3 := hS.cell (i := 3) rfl); (try have hD3 := (cells_heap hC3).1); (try have hE3 := (cells_heap hC3).2.1); (try have hF3 := (cells_heap hC3).2.2.1); (try have hG3 := (cells_heap hC3).2.2.2.1); (try have hC4 := hS.cell (i := 4) rfl); (try have hD4 := (cells_heap hC4).1); (try have hE4 := (cells_heap hC4).2.1); (try have hF4 := (cells_heap hC4).2.2.1); (try have hG4 := (cells_heap hC4).2.2.2.1); (try have hM0 := hS.map (i := 0) rfl); (try have hM1 := hS.map (i := 1) rfl); (try have hM2 := hS.map (i := 2) rfl); (try have hM3 := hS.map (i := 3) rfl); (try have hM4 := hS.map (i := 4) rfl)
    repeat' (first
      | (apply WL.nilc; exact rfl; exact rfl; exact rfl)
      | (show WL _ _ _ _ _ _ _; first | apply WL.nil | (refine WL.au (k := ?_)))
      | (show Z _ _ _ _ _; apply Z.then_normal)
      | (show W _ _ _ _ _ _; first | apply W.seq | apply W.region | apply W.block))
    refine W.loopW n (fun k w' => k ≤ n ∧ Ext w0 w' ∧ ∃ A : List Int, A.length = n ∧ (∀ u : Nat, u < k → A[u]? = some (-1)) ∧ Lt.Sep w0.heap.size w' ([pcell gh #[.slice (some ⟨gf, 0, none⟩) n n, .slice none 0 0, .slice (some ⟨ga, 0, none⟩) n n] 177, prow 1 encF 187 w0.heap.size (some ⟨gf, 0, none⟩) n (List.replicate n 0), prow 1 encI 3 w0.heap.size none 0 [], prow 1 encI 3 w0.heap.size (some ⟨ga, 0, none⟩) n A] ++ rest))
      (fun k => [(0, .int .i64 n), (3, .pointer (some ⟨gh, 0, none⟩)), (21, .int .i64 n), (22, .int .i64 k)]) ⟨Nat.zero_le _, hx1, List.replicate n 0, by simp, fun u hu => absurd hu (Nat.not_lt_zero _), hS⟩ (fun k w' h => h.1) ⟨rfl, rfl, rfl, rfl, trivial⟩ ?_
    clear hS
    rintro k w' ⟨hk, hx', A, hAl, hAk, hS⟩
    (try simp only [List.set_cons_zero, List.set_cons_succ] at hS); (try have hR0 := hS.row (i := 0) rfl); (try have hR1 := hS.row (i := 1) rfl); (try have hR2 := hS.row (i := 2) rfl); (try have hR3 := hS.row (i := 3) rfl); (try have hR4 := hS.row (i := 4) rfl); (try have hC0 := hS.cell (i := 0) rfl); (try have hD0 := (cells_heap hC0).1); (try have hE0 := (cells_heap hC0).2.1); (try have hF0 := (cells_heap hC0).2.2.1); (try have hG0 := (cells_heap hC0).2.2.2.1); (try have hC1 := hS.cell (i := 1) rfl); (try have hD1 := (cells_heap hC1).1); (try have hE1 := (cells_heap hC1).2.1); (try have hF1 := (cells_heap hC1).2.2.1); (try have hG1 := (cells_heap hC1).2.2.2.1); (try have hC2 := hS.cell (i := 2) rfl); (try have hD2 := (cells_heap hC2).1); (try have hE2 := (cells_heap hC2).2.1); (try have hF2 := (cells_heap hC2).2.2.1); (try have hG2 := (cells_heap hC2).2.2.2.1); (try have hC3 := hS.cell (i := 3) rfl); (try have hD3 := (cells_heap hC3).1); (try have hE3 := (cells_heap hC3).2.1); (try have hF3 := (cells_heap hC3).2.2.1); (try have hG3 := (cells_heap hC3).2.2.2.1); (try have hC4 := hS.cell (i := 4) rfl); (try have hD4 := (cells_heap hC4).1); (try have hE4 := (cells_heap hC4).2.1); (try have hF4 := (cells_heap hC4).2.2.1); (try have hG4 := (cells_heap hC4).2.2.2.1); (try have hM0 := hS.map (i := 0) rfl); (try have hM1 := hS.map (i := 1) rfl); (try have hM2 := hS.map (i := 2) rfl); (try have hM3 := hS.map (i := 3) rfl); (try have hM4 := hS.map (i := 4) rfl)
    by_cases hlt : k < n
    · obtain ⟨z, hz⟩ := getI A (show ((k : Nat) : Int).toNat < A.length by omega)
      repeat' (first
        | (apply W.condKT; exact rfl; (focus (exact dec_true (by omega); done)))
        | (apply WL.nilc; exact rfl; exact rfl; exact rfl)
        | (apply WL.storeO tOk; exact rfl; exact rfl; exact rfl; exact rfl; assumption; (exact extA); exact rfl; exact rfl; exact rfl; exact encI_ok; assumption; exact rfl; (exact extA); intro w' hO hX' hU; (first | replace hS := Sep.updRow (i := 0) rfl hU hO (.inl rfl) hS (by (exact extA)) (by (first | exact Nat.le_refl _ | exact Below.size (by (exact extA)))) | replace hS := Sep.updRow (i := 1) rfl hU hO (.inl rfl) hS (by (exact extA)) (by (first | exact Nat.le_refl _ | exact Below.size (by (exact extA)))) | replace hS := Sep.updRow (i := 2) rfl hU hO (.inl rfl) hS (by (exact extA)) (by (first | exact Nat.le_refl _ | exact Below.size (by (exact extA)))) | replace hS := Sep.updRow (i := 3) rfl hU hO (.inl rfl) hS (by (exact extA)) (by (first | exact Nat.le_refl _ | exact Below.size (by (exact extA)))) | replace hS := Sep.updRow (i := 4) rfl hU hO (.inl rfl) hS (by (exact extA)) (by (first | exact Nat.le_refl _ | exact Below.size (by (exact extA)))) | replace hS := Sep.updRow (i := 5) rfl hU hO (.inl rfl) hS (by (exact extA)) (by (first | exact Nat.le_refl _ | exact Below.size (by (exact extA))))); (try simp only [List.set_cons_zero, List.set_cons_succ] at hS); (try have hR0 := hS.row (i := 0) rfl); (try have hR1 := hS.row (i := 1) rfl); (try have hR2 := hS.row (i := 2) rfl); (try have hR3 := hS.row (i := 3) rfl); (try have hR4 := hS.row (i := 4) rfl); (try have hC0 := hS.cell (i := 0) rfl); (try have hD0 := (cells_heap hC0).1); (try have hE0 := (cells_heap hC0).2.1); (try have hF0 := (cells_heap hC0).2.2.1); (try have hG0 := (cells_heap hC0).2.2.2.1); (try have hC1 := hS.cell (i := 1) rfl); (try have hD1 := (cells_heap hC1).1); (try have hE1 := (cells_heap hC1).2.1); (try have hF1 := (cells_heap hC1).2.2.1); (try have hG1 := (cells_heap hC1).2.2.2.1); (try have hC2 := hS.cell (i := 2) rfl); (try have hD2 := (cells_heap hC2).1); (try have hE2 := (cells_heap hC2).2.1); (try have hF2 := (cells_heap hC2).2.2.1); (try have hG2 := (cells_heap hC2).2.2.2.1); (try have hC3 := hS.cell (i := 3) rfl); (try have hD3 := (cells_heap hC3).1); (try have hE3 := (cells_heap hC3).2.1); (try have hF3 := (cells_heap hC3).2.2.1); (try have hG3 := (cells_heap hC3).2.2.2.1); (try have hC4 := hS.cell (i := 4) rfl); (try have hD4 := (cells_heap hC4).1); (try have hE4 := (cells_heap hC4).2.1); (try have hF4 := (cells_heap hC4).2.2.1); (try have hG4 := (cells_heap hC4).2.2.2.1); (try have hM0 := hS.map (i := 0) rfl); (try have hM1 := hS.map (i := 1) rfl); (try have hM2 := hS.map (i := 2) rfl); (try have hM3 := hS.map (i := 3) rfl); (try have hM4 := hS.map (i := 4) rfl))
        | (apply WL.indexO tOk; exact rfl; exact rfl; exact rfl; exact rfl; exact rfl; exact rfl; exact rfl; exact rfl; assumption; (exact extA); exact encI_ok; (first | exact rfl | (focus (simp only [List.length_set]; done)) | (focus (simp; done)) | (focus (simp [*]; done)) | omega | (focus (simp only [List.length_set]; omega))); omega; assumption; intro gb ha hc; cases ha; have hcc := hc; first | (obtain ⟨h1, h2, h3, _⟩ := hc) | (obtain ⟨h1, h2, _⟩ := hc) | (obtain ⟨h1, _⟩ := hc))
        | (show WL _ _ _ _ _ _ _; first | apply WL.nil | (refine WL.au (k := ?_)))
        | (show Z _ _ _ _ _; first | apply Z.then_normal | apply Z.block_normal)
        | (show W _ _ _ _ _ _; first | apply W.seq | apply W.region | apply W.block | apply W.skip))
      refine Z.againW ⟨by omega, hX', _, by rw [List.length_set]; exact hAl, fun u hu => ?_, hS⟩ ⟨rfl, rfl, rfl, rfl, trivial⟩
      rw [List.getElem?_set]
      split
      · rw [if_pos (by omega)]
      · exact hAk u (by omega)
    · obtain rfl : k = n := by omega
      repeat' (first
        | (apply W.condKF; exact rfl; (focus (exact dec_false (by omega); done)))
        | (show WL _ _ _ _ _ _ _; first | apply WL.nil | (refine WL.au (k := ?_)))
        | (show Z _ _ _ _ _; first | apply Z.then_normal | apply Z.then_exit | apply Z.block_exit)
        | (show W _ _ _ _ _ _; first | apply W.seq | apply W.region | apply W.ret | apply W.exit))
      refine Z.body1 Try.results150 rfl fun m => ⟨gh, List.replicate k 0, A, rfl, by simp, hx'.at m, ?_, fun j j0 jl => absurd jl (by simp), fun x => by simp⟩
      refine HpS.ext (w := w') ?_ ((Ext.refl _).at m)
      have hS2 : Lt.Sep w0.heap.size w' (hpPn w0.heap.size gh (some ⟨gf, 0, none⟩) k (List.replicate k 0) none 0 0 [] (some ⟨ga, 0, none⟩) k k A ++ rest) := by
        unfold hpPn
        rw [show (List.replicate k 0).length = k by simp]
        exact hS
      exact HpS.mk' ⟨by simp [hAl], fun i x hx => by simp at hx, fun v hv _ => hAk v (by simpa using hv)⟩ (fun x hx => (List.mem_replicate.1 hx).2) rfl hAl.symm hS2
end Go.Proofs.Ythpnahapiodflaa
namespace Go.Proofs.Ythpnahapiodflaa
open Go Go.Lt Go.RowKit
set_option linter.unusedVariables false
set_option linter.unusedSimpArgs false
set_option maxRecDepth 20000

theorem mget_mem {κ ν : Type} {a : κ} {v : ν} : ∀ {L : List (κ × ν)}, mget a L = some v → (a, v) ∈ L
  | [], h => by cases h
  | x :: r, h => by
    unfold mget at h
    by_cases hax : a = x.1
    · rw [dec_true hax] at h
      have h' : some x.2 = some v := h
      have := Option.some.inj h'
      subst this; subst hax; simp
    · rw [dec_false hax] at h
      exact List.mem_cons_of_mem _ (mget_mem h)
theorem mget_no {κ ν : Type} {a : κ} : ∀ {L : List (κ × ν)}, mget a L = none → ∀ v, (a, v) ∉ L
  | [], _, v => by simp
  | x :: r, h, v => by
    unfold mget at h
    by_cases hax : a = x.1
    · rw [dec_true hax] at h; cases h
    · rw [dec_false hax] at h
      intro hm
      rcases List.mem_cons.1 hm with he | hm
      · exact hax (by rw [← he])
      · exact mget_no h v hm
/-- Where the gates' variables are put together. -/
def plcM (gs : List G3) : Nat → List (Int × Int)
  | 0 => []
  | k + 1 => plcM gs k ++ (match gs[k]? with | some g => [(g.1 / 2, (k : Int))] | none => [])
theorem plcM_s {gs : List G3} {k : Nat} {g : G3} (h : gs[k]? = some g) : plcM gs (k + 1) = plcM gs k ++ [(g.1 / 2, (k : Int))] := by rw [plcM, h]
theorem mem_plcM {gs : List G3} {a v : Int} : ∀ {k : Nat}, (a, v) ∈ plcM gs k ↔ ∃ (j : Nat) (g : G3), j < k ∧ gs[j]? = some g ∧ a = g.1 / 2 ∧ v = (j : Int)
  | 0 => by simp [plcM]
  | k + 1 => by
    rw [plcM, List.mem_append, mem_plcM (k := k)]
    constructor
    · rintro (⟨j, g, h1, h2⟩ | h)
      · exact ⟨j, g, by omega, h2⟩
      · cases hg : gs[k]? with
        | none => rw [hg] at h; cases h
        | some g =>
          rw [hg] at h
          simp only [List.mem_singleton, Prod.mk.injEq] at h
          exact ⟨k, g, by omega, hg, h.1, h.2⟩
    · rintro ⟨j, g, h1, h2, h3⟩
      by_cases hj : j = k
      · subst hj; rw [h2]; right; simp only [List.mem_singleton, Prod.mk.injEq]; exact h3
      · exact .inl ⟨j, g, by omega, h2, h3⟩
theorem plcM_new {gs : List G3} (ho : Once gs) {k : Nat} {g : G3} (h : gs[k]? = some g) : mget (g.1 / 2) (plcM gs k) = none := by
  cases hm : mget (g.1 / 2) (plcM gs k) with
  | none => rfl
  | some v =>
    obtain ⟨j, x, h1, h2, h3, _⟩ := mem_plcM.1 (mget_mem hm)
    have := ho j k x g h2 h (by omega)
    omega
theorem plcM_some {gs : List G3} {l v : Int} (h : mget l (plcM gs gs.length) = some v) : ∃ (j : Nat) (g : G3), gs[j]? = some g ∧ g.1 / 2 = l ∧ v = (j : Int) := by
  obtain ⟨j, x, h1, h2, h3, h4⟩ := mem_plcM.1 (mget_mem h)
  exact ⟨j, x, h2, h3.symm, h4⟩
theorem plcM_none {gs : List G3} {l : Int} (h : mget l (plcM gs gs.length) = none) : ∀ (j : Nat) (g : G3), gs[j]? = some g → g.1 / 2 ≠ l := fun j g hg he =>
  mget_no h (j : Int) (mem_plcM.2 ⟨j, g, lt_of_get hg, hg, he.symm, rfl⟩)

abbrev nilR : RowV Int := (none, 0, [])
abbrev pI (B : Nat) (r : RowV Int) : Piece := prow 1 encI 3 B r.1 r.2.1 r.2.2
abbrev rst (B : Nat) (al : Option Addr) (cl : Nat) (lk : List Int) (ao : Option Addr) (co : Nat) (rs : List (RowV Int)) (rm : Nat) (M : List (Int × Int)) (ou : Option Addr) (cu : Nat) (out : List Int) (lit : RowV Int) (inn : List (RowV Int)) : List Piece :=
  [prow 1 encI 3 B al cl lk, prow 1 encRow 23 B ao co rs, pmap encK encK rm M, prow 1 encI 3 B ou cu out, pI B lit] ++ inn.map (pI B)
section
variable {B : Nat} {al : Option Addr} {cl : Nat} {lk : List Int} {ao : Option Addr} {co : Nat} {rs : List (RowV Int)} {rm : Nat} {M : List (Int × Int)} {ou : Option Addr} {cu : Nat} {out : List Int} {lit : RowV Int} {inn : List (RowV Int)} {k : Nat} {r : RowV Int}
theorem rst_in (h : inn[k]? = some r) (q : List Piece) (hq : q.length = 4) : (q ++ rst B al cl lk ao co rs rm M ou cu out lit inn)[9 + k]? = some (pI B r) := by
  rw [List.getElem?_append_right (by omega), show 9 + k - q.length = 5 + k by omega]
  show (_ :: _ :: _ :: _ :: _ :: inn.map (pI B))[5 + k]? = _
  rw [show 5 + k = k + 1 + 1 + 1 + 1 + 1 by omega]
  simp only [List.getElem?_cons_succ, List.getElem?_map, h, Option.map_some]
theorem rst_set (q : List Piece) (hq : q.length = 4) : (q ++ rst B al cl lk ao co rs rm M ou cu out lit inn).set (9 + k) (pI B r) = q ++ rst B al cl lk ao co rs rm M ou cu out lit (inn.set k r) := by
  rw [List.set_append_right _ _ (by omega), show 9 + k - q.length = k + 1 + 1 + 1 + 1 + 1 by omega]
  congr 1
  show (_ :: _ :: _ :: _ :: _ :: inn.map (pI B)).set _ _ = _
  simp only [List.set_cons_succ, ← List.map_set]
  rfl
end
theorem Sep.addNils {B : Nat} {w : World} {ps : List Piece} (hS : Lt.Sep B w ps) (n : Nat) : Lt.Sep B w (ps ++ (List.replicate n ((none, 0, []) : RowV Int)).map (pI B)) := by
  have key : ∀ (i : Nat) (p : Piece), (ps ++ (List.replicate n ((none, 0, []) : RowV Int)).map (pI B))[i]? = some p → ps[i]? = some p ∨ p = pI B (none, 0, []) := fun i p h => by
    rcases get_app h with h | ⟨_, h⟩
    · exact .inl h
    · rw [List.getElem?_map, List.getElem?_replicate] at h
      split at h
      · simp at h; exact .inr h.symm
      · cases h
  refine ⟨fun i p h => ?_, fun i j p q h1 h2 hne => ?_⟩
  · rcases key i p h with h | rfl
    · exact hS.holds i p h
    · exact ⟨Own.nil, fun k hk => by cases hk⟩
  · rcases key i p h1 with k1 | rfl
    · rcases key j q h2 with k2 | rfl
      · exact hS.apart i j p q k1 k2 hne
      · cases hb : p.b with
        | none => exact .inl rfl
        | some k => exact .inr (by simp [prow, blk])
    · exact .inl rfl
theorem HpB.mono {w0 w : World} {gh : Nat} {F : List Nat} {rest : List Piece} {t A : List Int} {p q : Int → Prop} (h : HpB w0 w gh F rest t A p) (k : ∀ x, p x ↔ q x) : HpB w0 w gh F rest t A q := ⟨h.ext, h.hp, h.ho, fun x => (h.mem x).trans (k x)⟩
theorem HpB.up {w0 w w' : World} {gh : Nat} {F : List Nat} {rest : List Piece} {t A : List Int} {p : Int → Prop} (h : HpB w0 w gh F rest t A p) (hx : Ext w w') : HpB w0 w' gh F rest t A p := ⟨h.ext.trans hx, h.hp.ext hx, h.ho, h.mem⟩

theorem HpB.setLit {w0 w w' : World} {gh : Nat} {F : List Nat} {t A : List Int} {p : Int → Prop} {al : Option Addr} {cl : Nat} {lk : List Int} {ao : Option Addr} {co : Nat} {rs : List (RowV Int)} {rm : Nat} {M : List (Int × Int)} {ou : Option Addr} {cu : Nat} {out : List Int} {lit : RowV Int} {inn : List (RowV Int)} {gt cap : Nat} {l : List Int}
    (h : HpB w0 w gh F (rst w0.heap.size al cl lk ao co rs rm M ou cu out lit inn) t A p) (hx : Ext w w') (hO : Own 1 encI 3 w0.heap.size w' (some ⟨gt, 0, none⟩) cap l) (hge : w.heap.size ≤ gt) : HpB w0 w' gh F (rst w0.heap.size al cl lk ao co rs rm M ou cu out (some ⟨gt, 0, none⟩, cap, l) inn) t A p := by
  obtain ⟨hX, ⟨hat, hze, as_, cs, tr, ct, ap, cp, hS⟩, hO9, hm⟩ := h
  exact ⟨hX.trans hx, ⟨hat, hze, as_, cs, tr, ct, ap, cp, hS.upd (i := 8) (p' := pI w0.heap.size (some ⟨gt, 0, none⟩, cap, l)) rfl (But.ext hx) hO (.inr ⟨gt, rfl, hge, (hO.blk_lt gt rfl).2⟩) hX.size⟩, hO9, hm⟩

theorem heap_PopO (w w0 : World) (gh : Nat) (F : List Nat) (t A : List Int) (rest : List Piece) (p : Int → Prop) (hB : HpB w0 w gh F rest t A p) (hn : F.length ≤ 1048576) :
    Lt.Spec Try.prog 152 [.pointer (some ⟨gh, 0, none⟩)] w (fun r w' => ∃ nx : Option Int, r = .tuple #[.int .i64 (nx.getD 0), .bool nx.isSome] ∧ (∀ y, nx = some y → p y ∧ ∀ x, p x → y ≤ x) ∧ (nx = none → ∀ x, ¬ p x) ∧ ∃ t' A', HpB w0 w' gh F rest t' A' (fun x => p x ∧ ∀ y, nx = some y → x ≠ y)) := by
  cases ht : t with
  | nil =>
    subst ht
    have hno : ∀ x, ¬ p x := fun x hx => by have := (hB.mem x).2 hx; cases this
    refine Spec.mono (heap_Pop0 hB) ?_
    rintro r w' ⟨rfl, m, rfl⟩
    exact ⟨none, rfl, (fun y h => by cases h), (fun _ => hno), _, _, (hB.up ((Ext.refl _).at m)).mono fun x => ⟨fun h => absurd h (hno x), fun h => h.1⟩⟩
  | cons ya tl =>
    have h0 : t[0]? = some ya := by rw [ht]; rfl
    refine Spec.mono (heap_Pop w w0 gh F t A rest p hB hn ya h0) ?_
    rintro r w' ⟨rfl, t', A', h⟩
    refine ⟨some ya, rfl, (fun y hy => ?_), (fun h => by cases h), t', A', h.mono fun x => ⟨fun hx => ⟨hx.1, fun y hy => by cases hy; exact hx.2⟩, fun hx => ⟨hx.1, hx.2 ya rfl⟩⟩⟩
    have hy' := Option.some.inj hy
    subst hy'
    refine ⟨(hB.mem ya).1 (by rw [ht]; simp), fun x hx => ?_⟩
    obtain ⟨i, hi⟩ := List.mem_iff_getElem?.1 ((hB.mem x).2 hx)
    exact hB.ho.min h0 i x hi

def litJ (g : G3) : Nat → Int
  | 0 => g.2.1
  | _ => g.2.2
noncomputable def lackJ (gs : List G3) (g : G3) : Nat → Nat
  | 0 => 0
  | j + 1 => lackJ gs g j + one (Bl gs [] (litJ g j))
theorem lackJ_s (gs : List G3) (g : G3) (j : Nat) : lackJ gs g (j + 1) = lackJ gs g j + one (Bl gs [] (litJ g j)) := rfl
noncomputable def hangsJ (g y : G3) : Nat → Nat
  | 0 => 0
  | j + 1 => hangsJ g y j + one (y.1 / 2 = litJ g j / 2)
theorem lackJ2 (gs : List G3) (g : G3) : lackJ gs g 2 = lackG gs [] g := by
  show 0 + one (Bl gs [] g.2.1) + one (Bl gs [] g.2.2) = _
  rw [Nat.zero_add]; rfl
theorem hangsJ2 (g y : G3) : hangsJ g y 2 = hangs g y := by
  show 0 + one (y.1 / 2 = g.2.1 / 2) + one (y.1 / 2 = g.2.2 / 2) = _
  rw [Nat.zero_add]; rfl
theorem lackJ_le (gs : List G3) (g : G3) : ∀ j, lackJ gs g j ≤ j
  | 0 => Nat.le_refl _
  | j + 1 => by have := lackJ_le gs g j; have := one_le (Bl gs [] (litJ g j)); unfold lackJ; omega
theorem hangsJ_le (g y : G3) : ∀ j, hangsJ g y j ≤ j
  | 0 => Nat.le_refl _
  | j + 1 => by have := hangsJ_le g y j; have := one_le (y.1 / 2 = litJ g j / 2); unfold hangsJ; omega
/-- While gate i is looked at. -/
structure StA (gs : List G3) (i : Nat) (g : G3) (j : Nat) (lk : List Int) (rs : List (RowV Int)) : Prop where
  llen : lk.length = gs.length
  old : ∀ (q : Nat) (x : G3), gs[q]? = some x → q < i → lk[q]? = some (lackG gs [] x : Int)
  now : lk[i]? = some (lackJ gs g j : Int)
  new : ∀ q : Nat, i < q → q < gs.length → lk[q]? = some 0
  rlen : rs.length = gs.length
  row : ∀ (q : Nat) (y : G3), gs[q]? = some y → ∃ r, rs[q]? = some r ∧ r.2.2 = abv gs y i ++ List.replicate (hangsJ g y j) ((i : Nat) : Int)
/-- Ahead of gate i. -/
structure StI (gs : List G3) (i : Nat) (lk : List Int) (rs : List (RowV Int)) : Prop where
  llen : lk.length = gs.length
  old : ∀ (q : Nat) (x : G3), gs[q]? = some x → q < i → lk[q]? = some (lackG gs [] x : Int)
  new : ∀ q : Nat, i ≤ q → q < gs.length → lk[q]? = some 0
  rlen : rs.length = gs.length
  row : ∀ (q : Nat) (y : G3), gs[q]? = some y → ∃ r, rs[q]? = some r ∧ r.2.2 = abv gs y i
theorem StI.first (gs : List G3) : StI gs 0 (List.replicate gs.length 0) (List.replicate gs.length (none, 0, [])) :=
  ⟨by simp, fun q x _ h => absurd h (Nat.not_lt_zero _), fun q _ h => by rw [List.getElem?_replicate, if_pos h], by simp, fun q y hy => ⟨(none, 0, []), by rw [List.getElem?_replicate, if_pos (lt_of_get hy)], rfl⟩⟩
theorem StI.enter {gs : List G3} {i : Nat} {g : G3} {lk : List Int} {rs : List (RowV Int)} (h : StI gs i lk rs) (hg : gs[i]? = some g) : StA gs i g 0 lk rs :=
  ⟨h.llen, h.old, h.new i (Nat.le_refl _) (lt_of_get hg), fun q h1 h2 => h.new q (by omega) h2, h.rlen, fun q y hy => by obtain ⟨r, h1, h2⟩ := h.row q y hy; exact ⟨r, h1, by rw [h2]; simp [hangsJ]⟩⟩
theorem StA.leave {gs : List G3} {i : Nat} {g : G3} {lk : List Int} {rs : List (RowV Int)} (h : StA gs i g 2 lk rs) (hg : gs[i]? = some g) : StI gs (i + 1) lk rs :=
  ⟨h.llen, fun q x hx hq => by
    by_cases hqi : q = i
    · subst hqi; rw [hg] at hx; cases hx; rw [h.now, lackJ2]
    · exact h.old q x hx (by omega), fun q h1 h2 => h.new q (by omega) h2, h.rlen, fun q y hy => by obtain ⟨r, h1, h2⟩ := h.row q y hy; exact ⟨r, h1, by rw [h2, hangsJ2, abv, hg]⟩⟩
theorem StA.skip {gs : List G3} {i j : Nat} {g : G3} {lk : List Int} {rs : List (RowV Int)} (h : StA gs i g j lk rs) (hn : ∀ (q : Nat) (y : G3), gs[q]? = some y → y.1 / 2 ≠ litJ g j / 2) : StA gs i g (j + 1) lk rs := by
  have e1 : one (Bl gs [] (litJ g j)) = 0 := one_no fun ⟨q, y, h1, _, h2⟩ => hn q y h1 h2
  refine ⟨h.llen, h.old, by rw [h.now, lackJ_s, e1]; rfl, h.new, h.rlen, fun q y hy => ?_⟩
  obtain ⟨r, h1, h2⟩ := h.row q y hy
  exact ⟨r, h1, by rw [h2]; conv => rhs; rw [hangsJ]
                   rw [one_no (hn q y hy)]; rfl⟩
theorem StA.take {gs : List G3} (ho : Once gs) {i j k : Nat} {g y : G3} {lk : List Int} {rs : List (RowV Int)} {r : RowV Int} {a' : Option Addr} {cap' : Nat} (h : StA gs i g j lk rs) (hy : gs[k]? = some y) (he : y.1 / 2 = litJ g j / 2) (hr : rs[k]? = some r) :
    StA gs i g (j + 1) (lk.set i ((lackJ gs g j : Int) + 1)) (rs.set k (a', cap', r.2.2 ++ [((i : Nat) : Int)])) := by
  have e1 : one (Bl gs [] (litJ g j)) = 1 := one_yes ⟨k, y, hy, by simp, he⟩
  have hil := lt_of_get h.now
  refine ⟨by simp [h.llen], fun q x hx hq => by rw [List.getElem?_set_ne (by omega)]; exact h.old q x hx hq, ?_, fun q h1 h2 => by rw [List.getElem?_set_ne (by omega)]; exact h.new q h1 h2, by simp [h.rlen], fun q z hz => ?_⟩
  · rw [List.getElem?_set_self hil, lackJ_s, e1]; rfl
  · obtain ⟨r', h1, h2⟩ := h.row q z hz
    by_cases hq : k = q
    · subst hq
      rw [hr] at h1; cases h1
      rw [hy] at hz; cases hz
      refine ⟨_, List.getElem?_set_self (lt_of_get hr), ?_⟩
      show r.2.2 ++ _ = _
      rw [h2, hangsJ, one_yes he, List.append_assoc, List.replicate_succ']
    · refine ⟨r', by rw [List.getElem?_set_ne hq]; exact h1, ?_⟩
      rw [h2, hangsJ, one_no fun hh => hq (ho k q y z hy hz (by omega))]; rfl
/-- The things in the heap: those that lack nothing. -/
def pA (i : Nat) (lk : List Int) (x : Int) : Prop := ∃ j : Nat, x = (j : Int) ∧ j < i ∧ lk[j]? = some 0
def pH (T : List Nat) (lk : List Int) (x : Int) : Prop := ∃ j : Nat, x = (j : Int) ∧ j ∉ T ∧ lk[j]? = some 0
theorem pA_set {i : Nat} {lk : List Int} {v : Int} (x : Int) : pA i (lk.set i v) x ↔ pA i lk x := by
  constructor
  · rintro ⟨j, h1, h2, h3⟩; exact ⟨j, h1, h2, by rwa [List.getElem?_set_ne (by omega)] at h3⟩
  · rintro ⟨j, h1, h2, h3⟩; exact ⟨j, h1, h2, by rwa [List.getElem?_set_ne (by omega)]⟩
theorem pA_push {i : Nat} {lk : List Int} (h : lk[i]? = some 0) (x : Int) : (pA i lk x ∨ x = (i : Int)) ↔ pA (i + 1) lk x := by
  constructor
  · rintro (⟨j, h1, h2, h3⟩ | h1)
    · exact ⟨j, h1, by omega, h3⟩
    · exact ⟨i, h1, by omega, h⟩
  · rintro ⟨j, h1, h2, h3⟩
    by_cases hj : j = i
    · subst hj; exact .inr h1
    · exact .inl ⟨j, h1, by omega, h3⟩
theorem pA_next {i : Nat} {lk : List Int} {v : Int} (h : lk[i]? = some v) (hv : v ≠ 0) (x : Int) : pA i lk x ↔ pA (i + 1) lk x := by
  constructor
  · rintro ⟨j, h1, h2, h3⟩; exact ⟨j, h1, by omega, h3⟩
  · rintro ⟨j, h1, h2, h3⟩
    by_cases hj : j = i
    · subst hj; rw [h] at h3; cases h3; exact absurd rfl hv
    · exact ⟨j, h1, by omega, h3⟩
theorem pA_all {n : Nat} {lk : List Int} (h : lk.length = n) (x : Int) : pA n lk x ↔ pH [] lk x := by
  constructor
  · rintro ⟨j, h1, h2, h3⟩; exact ⟨j, h1, by simp, h3⟩
  · rintro ⟨j, h1, h2, h3⟩; exact ⟨j, h1, by have := lt_of_get h3; omega, h3⟩
/-- While those above y are looked at: m of them. -/
structure StB (gs : List G3) (L : List Nat) (Y : List Int) (lk : List Int) : Prop where
  llen : lk.length = gs.length
  val : ∀ (q : Nat) (x : G3), gs[q]? = some x → lk[q]? = some ((lackG gs L x : Int) - (Y.count (q : Int) : Int))
theorem StB.rdy {gs : List G3} {L : List Nat} {lk : List Int} (h : StB gs L [] lk) (x : Int) : pH L lk x ↔ ∃ j : Nat, x = (j : Int) ∧ Rdy gs L j := by
  constructor
  · rintro ⟨j, h1, h2, h3⟩
    obtain ⟨g, hg⟩ := getI gs (show j < gs.length by have := lt_of_get h3; have := h.llen; omega)
    have := h.val j g hg
    rw [h3] at this
    have h4 := Option.some.inj this
    simp at h4
    exact ⟨j, h1, (rdy_lack hg).2 ⟨h2, by omega⟩⟩
  · rintro ⟨j, h1, h2⟩
    have h2' := h2
    obtain ⟨g, hg, _⟩ := h2'
    have h3 := (rdy_lack hg).1 h2
    exact ⟨j, h1, h3.1, by rw [h.val j g hg, h3.2]; simp⟩
theorem StB.next {gs : List G3} (ho : Once gs) {L : List Nat} {i : Nat} {y : G3} {lk : List Int} (hy : gs[i]? = some y) (hi : i ∉ L) (h : StB gs L (abv gs y gs.length) lk) : StB gs (L ++ [i]) [] lk := by
  refine ⟨h.llen, fun q x hx => ?_⟩
  rw [h.val q x hx, abv_count hx, if_pos (lt_of_get hx), lack_push ho hy hi x]
  simp <;> omega
/-- One is looked at: what it lacks falls by one. -/
theorem StB.step {gs : List G3} (ho : Once gs) {L : List Nat} {i k m : Nat} {y g : G3} {lk : List Int} (hy : gs[i]? = some y) (hi : i ∉ L) (hg : gs[k]? = some g) (h : StB gs L ((abv gs y gs.length).take m) lk) (hk : (abv gs y gs.length)[m]? = some (k : Int)) :
    ∃ v, lk[k]? = some v ∧ 1 ≤ v ∧ v ≤ 2 ∧ StB gs L ((abv gs y gs.length).take (m + 1)) (lk.set k (v - 1)) := by
  have h1 := h.val k g hg
  have hc := abv_count (y := y) hg gs.length
  rw [if_pos (lt_of_get hg)] at hc
  have hl := lack_push ho hy hi g
  have hle : ((abv gs y gs.length).take (m + 1)).count (k : Int) ≤ hangs g y := by
    rw [← hc]; exact (List.take_sublist _ _).count_le _
  have hs : ((abv gs y gs.length).take (m + 1)).count (k : Int) = ((abv gs y gs.length).take m).count (k : Int) + 1 := by
    rw [take_succ' hk, List.count_append]; simp
  have b1 := one_le (Bl gs L g.2.1)
  have b2 := one_le (Bl gs L g.2.2)
  have b3 : lackG gs L g = one (Bl gs L g.2.1) + one (Bl gs L g.2.2) := rfl
  refine ⟨_, h1, by omega, by omega, ⟨by simp [h.llen], fun q x hx => ?_⟩⟩
  by_cases hq : k = q
  · subst hq
    rw [hg] at hx; cases hx
    rw [List.getElem?_set_self (lt_of_get h1), hs]
    congr 1; omega
  · rw [List.getElem?_set_ne hq, h.val q x hx, take_succ' hk, List.count_append]
    have : [(k : Int)].count (q : Int) = 0 := List.count_eq_zero.2 (fun hm => hq (by have := List.mem_singleton.1 hm; omega))
    rw [this]; rfl
theorem pH_dec {T : List Nat} {lk : List Int} {k : Nat} {v : Int} (h : lk[k]? = some v) (h1 : 1 ≤ v) (hv : v - 1 ≠ 0) (x : Int) : pH T lk x ↔ pH T (lk.set k (v - 1)) x := by
  constructor
  · rintro ⟨j, a1, a2, a3⟩
    by_cases hj : k = j
    · subst hj; rw [h] at a3; cases a3; omega
    · exact ⟨j, a1, a2, by rw [List.getElem?_set_ne hj]; exact a3⟩
  · rintro ⟨j, a1, a2, a3⟩
    by_cases hj : k = j
    · subst hj; rw [List.getElem?_set_self (lt_of_get h)] at a3; have := Option.some.inj a3; omega
    · exact ⟨j, a1, a2, by rwa [List.getElem?_set_ne hj] at a3⟩
theorem pH_zero {T : List Nat} {lk : List Int} {k : Nat} {v : Int} (h : lk[k]? = some v) (h1 : 1 ≤ v) (hv : v - 1 = 0) (hk : k ∉ T) (x : Int) : (pH T lk x ∨ x = (k : Int)) ↔ pH T (lk.set k (v - 1)) x := by
  constructor
  · rintro (⟨j, a1, a2, a3⟩ | a1)
    · by_cases hj : k = j
      · subst hj; rw [h] at a3; cases a3; omega
      · exact ⟨j, a1, a2, by rw [List.getElem?_set_ne hj]; exact a3⟩
    · exact ⟨k, a1, hk, by rw [List.getElem?_set_self (lt_of_get h), hv]⟩
  · rintro ⟨j, a1, a2, a3⟩
    by_cases hj : k = j
    · subst hj; exact .inr a1
    · exact .inl ⟨j, a1, a2, by rwa [List.getElem?_set_ne hj] at a3⟩
theorem pH_no {T : List Nat} {lk : List Int} {k : Nat} {v : Int} (h : lk[k]? = some v) (h1 : 1 ≤ v) : ¬ pH T lk (k : Int) := by
  rintro ⟨j, a1, a2, a3⟩
  have : j = k := by omega
  subst this
  rw [h] at a3; cases a3; omega
theorem pH_out {L : List Nat} {i : Nat} {lk : List Int} (x : Int) : (pH L lk x ∧ x ≠ (i : Int)) ↔ pH (L ++ [i]) lk x := by
  constructor
  · rintro ⟨⟨j, a1, a2, a3⟩, hne⟩
    refine ⟨j, a1, fun hm => ?_, a3⟩
    rcases List.mem_append.1 hm with hm | hm
    · exact a2 hm
    · have := List.mem_singleton.1 hm; omega
  · rintro ⟨j, a1, a2, a3⟩
    refine ⟨⟨j, a1, fun hm => a2 (by simp [hm]), a3⟩, fun he => a2 ?_⟩
    have : j = i := by omega
    simp [this]
theorem rdy_self {gs : List G3} {L : List Nat} {i : Nat} {y : G3} (hr : Rdy gs L i) (hy : gs[i]? = some y) : hangs y y = 0 := by
  obtain ⟨g, hg, h1, h2⟩ := hr
  rw [hy] at hg; cases hg
  have := h2 i y hy h1
  unfold hangs
  rw [one_no this.1, one_no this.2]
end Go.Proofs.Ythpnahapiodflaa
namespace Go.Proofs.Ythpnahapiodflaa
open Go Go.Lt Go.RowKit
set_option linter.unusedVariables false
set_option linter.unusedSimpArgs false
set_option maxRecDepth 20000

set_option maxHeartbeats 32000000 in
theorem circ_Order (c : Circ) (w : World) (hG : Row 3 enc3 w c.gates.1 c.gates.2.2) (hok : gsOk c.gates.2.2) (hn : c.gates.2.2.length ≤ 1048576) (ho : Once c.gates.2.2) :
    Lt.Spec Try.prog 111 [c.val] w (IsFresh 1 encI 3 w (natI (ordL c.gates.2.2))) := by
  refine Spec.of _ Try.func111 rfl Try.ntmps111 (by kernel_rfl) rfl ?_
  repeat' (first
    | (apply WL.box; exact rfl; exact rfl; exact rfl; intro gb w' hb hge hc hx; have hcc := hc; (first | (obtain ⟨h1, h2, h3, _⟩ := hc) | (obtain ⟨h1, h2, _⟩ := hc)); (have hcells := hcc; obtain ⟨y0, y1, y2, y3, y4, y5, y6, _⟩ := hcc; obtain ⟨gc, rfl⟩ : ∃ x, x = gb := ⟨_, rfl⟩; obtain ⟨wc, rfl⟩ : ∃ x, x = w' := ⟨_, rfl⟩; obtain ⟨hxc, rfl⟩ : ∃ x, x = hx := ⟨_, rfl⟩))
    | ((apply WL.makeMap (kv := encK) (vv := encK); exact rfl; exact rfl; intro rm w1 hM1 hge1 hx1))
    | (show WL _ _ _ _ _ _ _; first | apply WL.nil | (refine WL.au (k := ?_)))
    | (show Z _ _ _ _ _; apply Z.then_normal)
    | (show W _ _ _ _ _ _; first | apply W.seq | apply W.region | apply W.block))
  have Rg := hG.ext hxc
  have hwc := Below.size hxc
  have hS : Lt.Sep wc.heap.size w1 [pmap encK encK rm (plcM c.gates.2.2 0)] := Sep.newMap Sep.none' hx1 hM1 hge1 (Nat.le_refl _)
  refine W.loopW c.gates.2.2.length (fun k w' => k ≤ c.gates.2.2.length ∧ Ext wc w' ∧ Lt.Sep wc.heap.size w' [pmap encK encK rm (plcM c.gates.2.2 k)]) (fun k => [(1, .pointer (some ⟨gc, 0, none⟩)), (3, .map (some rm)), (22, rowVal c.gates), (23, .int .i64 (c.gates.2.2.length : Nat)), (24, .int .i64 k)]) ⟨Nat.zero_le _, hx1, hS⟩ (fun k w' h => h.1) ⟨rfl, rfl, rfl, rfl, rfl, trivial⟩ ?_
  clear hS
  rintro k w3 ⟨hk, hX3, hS⟩
  have hM3 := hS.map (i := 0) rfl
  have hrm := (hS.lt (i := 0) rfl rfl).1
  by_cases hlt : k < c.gates.2.2.length
  · obtain ⟨g, hgg⟩ := getI c.gates.2.2 hlt
    have hgo := hok g (List.mem_of_getElem? hgg)
    have hnew := plcM_new ho hgg
    repeat' (first
      | (show WL _ _ _ _ _ _ _; first | apply WL.nil | (refine WL.au (k := ?_)))
      | (show Z _ _ _ _ _; apply Z.then_normal)
      | (show W _ _ _ _ _ _; first | apply W.seq | apply W.region))
    refine W.condKT rfl (dec_true (by omega)) ?_
    repeat' (first
      | (apply WL.alloc tOk; exact rfl; exact rfl; exact rfl; intro gb w' hb hge hx)
      | (apply WL.storeB (w0 := w3) tOk; exact rfl; exact rfl; exact rfl; exact rfl; assumption; (exact extA); exact rfl; exact rfl; exact rfl; (exact extA); (first | assumption | omega | (focus (apply Nat.le_trans; rotate_left; assumption; exact Below.size (by (exact extA)); done))); intro w' hb hc hX' hU; have hcc := hc; obtain ⟨h1, h2, _⟩ := hc; (obtain ⟨w4, rfl⟩ : ∃ x, x = w' := ⟨_, rfl⟩; obtain ⟨hX4, rfl⟩ : ∃ x, x = hX' := ⟨_, rfl⟩; have hC4 := cells_heap hb; obtain ⟨i0, i1, i2, _⟩ := hC4))
      | ((apply WL.mapPutF (B := 0) (w0 := wc) (vv := encK) tOk keyI; exact rfl; exact rfl; exact rfl; exact rfl; exact rfl; exact rfl; exact hM3.ext (by (exact extA)); exact (by (exact extA)); assumption; intro w' hM' hX' hU))
      | (show WL _ _ _ _ _ _ _; first | apply WL.nil | (refine WL.au (k := ?_)) | (apply WL.index tOk; exact rfl; exact rfl; exact rfl; exact rfl; exact rfl; exact rfl; exact rfl; exact rfl; assumption; (exact extA); exact rfl; omega; assumption; intro b off h; have hcc := h; first | (obtain ⟨h1, h2, h3, h4, h5, h6, _⟩ := h) | (obtain ⟨h1, h2, h3, _⟩ := h) | (obtain ⟨h1, h2, _⟩ := h) | (obtain ⟨h1, _⟩ := h)))
      | (show Z _ _ _ _ _; first | apply Z.then_normal | apply Z.block_normal)
      | (show W _ _ _ _ _ _; first | apply W.seq | apply W.region | apply W.block | apply W.skip))
    rw [hnew] at hM'
    have hS4 := Sep.updMap (i := 0) rfl hU hM' hS (by (exact extA)) (Below.size (by (exact extA)))
    exact Z.againW ⟨by omega, (by (exact extA)), by rw [plcM_s hgg]; exact hS4⟩ ⟨rfl, rfl, rfl, rfl, rfl, trivial⟩
  obtain rfl : k = c.gates.2.2.length := by omega
  repeat' (first
    | (show WL _ _ _ _ _ _ _; first | apply WL.nil | (refine WL.au (k := ?_)))
    | (show Z _ _ _ _ _; apply Z.then_normal)
    | (show W _ _ _ _ _ _; first | apply W.seq | apply W.region))
  refine W.condKF rfl (dec_false (by omega)) ?_
  repeat' (first
    | (show Z _ _ _ _ _; first | apply Z.then_normal | apply Z.then_exit | apply Z.block_exit)
    | (show W _ _ _ _ _ _; first | apply W.seq | apply W.exit))
  have y6w : w3.cell? ⟨gc, 0 + 1 + 1 + 1 + 1 + 1 + 1, none⟩ = some (rowVal c.gates) := (hcells.ext hX3).2.2.2.2.2.2.1
  have ei : ((c.gates.2.2.length : Nat) : Int).toNat = c.gates.2.2.length := by omega
  refine W.cutT (σ := Nat × Nat × World) (fun s => Ext wc s.2.2 ∧ Lt.Sep wc.heap.size s.2.2 [prow 1 encI 3 wc.heap.size (some ⟨s.1, 0, none⟩) c.gates.2.2.length (List.replicate c.gates.2.2.length 0), prow 1 encRow 23 wc.heap.size (some ⟨s.2.1, 0, none⟩) c.gates.2.2.length (List.replicate c.gates.2.2.length ((none, 0, []) : RowV Int)), pmap encK encK rm (plcM c.gates.2.2 c.gates.2.2.length)]) (fun s => [(1, .pointer (some ⟨gc, 0, none⟩)), (3, .map (some rm)), (6, .slice (some ⟨s.1, 0, none⟩) c.gates.2.2.length c.gates.2.2.length), (7, .slice (some ⟨s.2.1, 0, none⟩) c.gates.2.2.length c.gates.2.2.length)]) (fun s => s.2.2) ?_ ?_
  · repeat' (first
      | (show W _ _ (.region 7 _ _) _ _ _; apply W.regionGX (.fl true 0 (.fl true 4 (.fl false 1 (.fl true 2 (.fl false 5 (.fl true 6 (.br 3 (.fl true 8 (.br 7 (.fl true 9 .done) .stop)) (.br 7 (.br 3 (.fl true 8 (.fl true 9 .done)) .stop) .stop)))))))) [3, 5, 6, 7, 8] tMix; kernel_rfl)
      | (apply WL.make (w0 := wc) (z := (0:Int)) tOk; exact rfl; exact rfl; exact rfl; exact rfl; exact rfl; exact rfl; exact rfl; exact rfl; exact rfl; exact encI_ok; exact rfl; exact rfl; (exact extA); (first | omega | (simp; omega) | (simp at *; omega)); intro gb w' hO hge hx; replace hS := Sep.newRow (Sep.ext hS (by (exact extA))) hx hO (fun k hk => by cases hk; exact hge) (by (first | exact Nat.le_refl _ | exact Below.size (by (exact extA)))); (try simp only [List.set_cons_zero, List.set_cons_succ] at hS); (try have hR0 := hS.row (i := 0) rfl); (try have hR1 := hS.row (i := 1) rfl); (try have hR2 := hS.row (i := 2) rfl); (try have hR3 := hS.row (i := 3) rfl); (try have hR4 := hS.row (i := 4) rfl); (try have hC0 := hS.cell (i := 0) rfl); (try have hD0 := (cells_heap hC0).1); (try have hE0 := (cells_heap hC0).2.1); (try have hF0 := (cells_heap hC0).2.2.1); (try have hG0 := (cells_heap hC0).2.2.2.1); (try have hC1 := hS.cell (i := 1) rfl); (try have hD1 := (cells_heap hC1).1); (try have hE1 := (cells_heap hC1).2.1); (try have hF1 := (cells_heap hC1).2.2.1); (try have hG1 := (cells_heap hC1).2.2.2.1); (try have hC2 := hS.cell (i := 2) rfl); (try have hD2 := (cells_heap hC2).1); (try have hE2 := (cells_heap hC2).2.1); (try have hF2 := (cells_heap hC2).2.2.1); (try have hG2 := (cells_heap hC2).2.2.2.1); (try have hC3 := hS.cell (i := 3) rfl); (try have hD3 := (cells_heap hC3).1); (try have hE3 := (cells_heap hC3).2.1); (try have hF3 := (cells_heap hC3).2.2.1); (try have hG3 := (cells_heap hC3).2.2.2.1); (try have hC4 := hS.cell (i := 4) rfl); (try have hD4 := (cells_heap hC4).1); (try have hE4 := (cells_heap hC4).2.1); (try have hF4 := (cells_heap hC4).2.2.1); (try have hG4 := (cells_heap hC4).2.2.2.1); (try have hM0 := hS.map (i := 0) rfl); (try have hM1 := hS.map (i := 1) rfl); (try have hM2 := hS.map (i := 2) rfl); (try have hM3 := hS.map (i := 3) rfl); (try have hM4 := hS.map (i := 4) rfl))
      | (apply WL.make (w0 := wc) (z := nilR) tOk; exact rfl; exact rfl; exact rfl; exact rfl; exact rfl; exact rfl; exact rfl; exact rfl; exact rfl; exact encRow_ok; exact rfl; exact rfl; (exact extA); (first | omega | (simp; omega) | (simp at *; omega)); intro gb w' hO hge hx; replace hS := Sep.newRow (Sep.ext hS (by (exact extA))) hx hO (fun k hk => by cases hk; exact hge) (by (first | exact Nat.le_refl _ | exact Below.size (by (exact extA)))); (try simp only [List.set_cons_zero, List.set_cons_succ] at hS); (try have hR0 := hS.row (i := 0) rfl); (try have hR1 := hS.row (i := 1) rfl); (try have hR2 := hS.row (i := 2) rfl); (try have hR3 := hS.row (i := 3) rfl); (try have hR4 := hS.row (i := 4) rfl); (try have hC0 := hS.cell (i := 0) rfl); (try have hD0 := (cells_heap hC0).1); (try have hE0 := (cells_heap hC0).2.1); (try have hF0 := (cells_heap hC0).2.2.1); (try have hG0 := (cells_heap hC0).2.2.2.1); (try have hC1 := hS.cell (i := 1) rfl); (try have hD1 := (cells_heap hC1).1); (try have hE1 := (cells_heap hC1).2.1); (try have hF1 := (cells_heap hC1).2.2.1); (try have hG1 := (cells_heap hC1).2.2.2.1); (try have hC2 := hS.cell (i := 2) rfl); (try have hD2 := (cells_heap hC2).1); (try have hE2 := (cells_heap hC2).2.1); (try have hF2 := (cells_heap hC2).2.2.1); (try have hG2 := (cells_heap hC2).2.2.2.1); (try have hC3 := hS.cell (i := 3) rfl); (try have hD3 := (cells_heap hC3).1); (try have hE3 := (cells_heap hC3).2.1); (try have hF3 := (cells_heap hC3).2.2.1); (try have hG3 := (cells_heap hC3).2.2.2.1); (try have hC4 := hS.cell (i := 4) rfl); (try have hD4 := (cells_heap hC4).1); (try have hE4 := (cells_heap hC4).2.1); (try have hF4 := (cells_heap hC4).2.2.1); (try have hG4 := (cells_heap hC4).2.2.2.1); (try have hM0 := hS.map (i := 0) rfl); (try have hM1 := hS.map (i := 1) rfl); (try have hM2 := hS.map (i := 2) rfl); (try have hM3 := hS.map (i := 3) rfl); (try have hM4 := hS.map (i := 4) rfl))
      | (show SX _ _ _ _ _ _ _ _ _; first | (apply SX.done; intro w' hx) | (apply SX.fl0; exact rfl) | (apply SX.fl1; exact rfl; (exact extA)) | (apply SX.br1; exact rfl; intro w' hx) | (apply SX.br; exact rfl; (intro w' hx)))
      | (show FL _ _ _ _ _ _ _ _; first | apply FL.nilX | (apply FL.loadE tOk; exact rfl; exact rfl; exact rfl; exact rfl; exact rfl; assumption))
      | (show FL _ _ _ _ _ _ _ _; (refine FL.au (k := ?_)))
      | (show Z _ _ _ _ _; (apply Z.sxE; (exact extA)))
      | (show WL _ _ _ _ _ _ _; apply WL.nil))
    all_goals (rw [ei] at hS; rw [ei]; rw [List.length_replicate, List.length_replicate])
    · exact Z.cut (_, _, w') ⟨(by (exact extA)), (Sep.swap01 hS).ext (by (exact extA))⟩ ⟨rfl, rfl, rfl, rfl, trivial⟩ rfl
    · exact Z.cut (_, _, w') ⟨(by (exact extA)), hS.ext (by (exact extA))⟩ ⟨rfl, rfl, rfl, rfl, trivial⟩ rfl
  clear hS hX3 hM3 y6w
  rintro ⟨gl, go, w4⟩ ⟨hX4, hS⟩
  dsimp only at hX4 hS
  obtain ⟨n, hnn⟩ : ∃ n, c.gates.2.2.length = n := ⟨_, rfl⟩
  have hS4 : Lt.Sep wc.heap.size w4 (rst wc.heap.size (some ⟨gl, 0, none⟩) n (List.replicate n 0) (some ⟨go, 0, none⟩) n (List.replicate n nilR) rm (plcM c.gates.2.2 n) none 0 [] nilR (List.replicate n nilR)) := by
    have := Sep.addNils hS (n + 2)
    rw [hnn] at this
    exact this
  repeat' (first
    | (((show WL _ _ _ (⟨_, .call ⟨.value (.func 150), _, _⟩, _, _, _, _⟩ :: _) _ _ _); apply WL.call; exact rfl; exact rfl; exact rfl; exact rfl; exact heap_New c.gates.2.2.length hn _ wc _ (by (exact extA)) (hS4.ext (by (exact extA))); rintro v' w5 ⟨gh, F, A, rfl, hFl, hB5⟩; have hX5 := HpB.ext hB5))
    | (show WL _ _ _ _ _ _ _; first | apply WL.nil | (refine WL.au (k := ?_)))
    | (show Z _ _ _ _ _; apply Z.then_normal)
    | (show W _ _ _ _ _ _; first | apply W.seq | apply W.region | apply W.block))
  have hFn : F.length = n := by omega
  refine W.loopW n (fun k w' => k ≤ n ∧ ∃ lk rs lit t A, HpB wc w' gh F (rst wc.heap.size (some ⟨gl, 0, none⟩) n lk (some ⟨go, 0, none⟩) n rs rm (plcM c.gates.2.2 n) none 0 [] lit rs) t A (pA k lk) ∧ StI c.gates.2.2 k lk rs) (fun k => [(1, .pointer (some ⟨gc, 0, none⟩)), (3, .map (some rm)), (6, .slice (some ⟨gl, 0, none⟩) n n), (7, .slice (some ⟨go, 0, none⟩) n n), (8, .pointer (some ⟨gh, 0, none⟩)), (48, rowVal c.gates), (49, .int .i64 (n : Nat)), (50, .int .i64 k)]) ⟨Nat.zero_le _, _, _, _, _, _, hB5.mono (fun x => ⟨fun h => h.elim, fun ⟨j, _, h, _⟩ => absurd h (Nat.not_lt_zero _)⟩), by rw [← hnn]; exact StI.first _⟩ (fun k w' h => h.1) (by rw [← hnn]; exact ⟨rfl, rfl, rfl, rfl, rfl, rfl, rfl, rfl, trivial⟩) ?_
  clear hS hS4 hB5 hX5 hX4
  rintro k w6 ⟨hk, lk, rs, lit, t, A, hB6, hI6⟩
  have hX6 := hB6.ext
  by_cases hlt : k < n
  · obtain ⟨g, hgg⟩ := getI c.gates.2.2 (show k < c.gates.2.2.length by omega)
    have hgo := hok g (List.mem_of_getElem? hgg)
    repeat' (first
      | (show WL _ _ _ _ _ _ _; first | apply WL.nil | (refine WL.au (k := ?_)))
      | (show Z _ _ _ _ _; apply Z.then_normal)
      | (show W _ _ _ _ _ _; first | apply W.seq | apply W.region))
    refine W.condKT rfl (dec_true (by omega)) ?_
    repeat' (first
      | (apply WL.alloc tOk; exact rfl; exact rfl; exact rfl; intro gb w' hb hge hx)
      | (apply WL.storeB (w0 := w6) tOk; exact rfl; exact rfl; exact rfl; exact rfl; assumption; (exact extA); exact rfl; exact rfl; exact rfl; (exact extA); (first | assumption | omega | (focus (apply Nat.le_trans; rotate_left; assumption; exact Below.size (by (exact extA)); done))); intro w' hb hc hX' hU; have hcc := hc; obtain ⟨h1, h2, _⟩ := hc; (obtain ⟨w7, rfl⟩ : ∃ x, x = w' := ⟨_, rfl⟩; obtain ⟨hX7, rfl⟩ : ∃ x, x = hX' := ⟨_, rfl⟩; have hC7 := cells_heap hb; obtain ⟨i0, i1, i2, _⟩ := hC7))
      | (apply WL.lit tOk; exact rfl; exact rfl; exact rfl; exact rfl; exact rfl; exact rfl; (first | exact rfl | kernel_rfl | (simp [Instr.fill, catCells]; done)); exact rfl; intro gb w' hb hge hc hx; have hO := Own.of_block ([g.2.1, g.2.2]) encI_ok hb hge rfl; (obtain ⟨gt, rfl⟩ : ∃ x, x = gb := ⟨_, rfl⟩; obtain ⟨w8, rfl⟩ : ∃ x, x = w' := ⟨_, rfl⟩; obtain ⟨hx8, rfl⟩ : ∃ x, x = hx := ⟨_, rfl⟩; obtain ⟨hO8, rfl⟩ : ∃ x, x = hO := ⟨_, rfl⟩; obtain ⟨hge8, rfl⟩ : ∃ x, x = hge := ⟨_, rfl⟩))
      | (show WL _ _ _ _ _ _ _; first | apply WL.nil | (refine WL.au (k := ?_)) | (apply WL.index tOk; exact rfl; exact rfl; exact rfl; exact rfl; exact rfl; exact rfl; exact rfl; exact rfl; assumption; (exact extA); exact rfl; omega; assumption; intro b off h; have hcc := h; first | (obtain ⟨h1, h2, h3, h4, h5, h6, _⟩ := h) | (obtain ⟨h1, h2, h3, _⟩ := h) | (obtain ⟨h1, h2, _⟩ := h) | (obtain ⟨h1, _⟩ := h)))
      | (show Z _ _ _ _ _; apply Z.then_normal)
      | (show W _ _ _ _ _ _; first | apply W.seq | apply W.region | apply W.block | apply W.skip))
    have hB8 := hB6.setLit (show Ext w6 w8 from (by (exact extA))) (hO8.base (Nat.le_trans (Below.size hX6) (Below.size hX7))) (Nat.le_trans (Below.size hX7) hge8)
    have hA8 := hI6.enter hgg
    refine W.loopW 2 (fun j w' => j ≤ 2 ∧ ∃ lk rs t A, HpB wc w' gh F (rst wc.heap.size (some ⟨gl, 0, none⟩) n lk (some ⟨go, 0, none⟩) n rs rm (plcM c.gates.2.2 n) none 0 [] (some ⟨gt, 0, none⟩, 2, [g.2.1, g.2.2]) rs) t A (pA k lk) ∧ StA c.gates.2.2 k g j lk rs) (fun j => [(1, .pointer (some ⟨gc, 0, none⟩)), (3, .map (some rm)), (6, .slice (some ⟨gl, 0, none⟩) n n), (7, .slice (some ⟨go, 0, none⟩) n n), (8, .pointer (some ⟨gh, 0, none⟩)), (9, .int .i64 k), (48, rowVal c.gates), (49, .int .i64 (n : Nat)), (50, .int .i64 k), (59, .slice (some ⟨gt, 0, none⟩) 2 2), (60, .int .i64 2), (61, .int .i64 j)]) ⟨Nat.zero_le _, _, _, _, _, hB8, hA8⟩ (fun k w' h => h.1) ⟨rfl, rfl, rfl, rfl, rfl, rfl, rfl, rfl, rfl, rfl, rfl, rfl, trivial⟩ ?_
    clear hB8 hA8 hB6 hI6 hX6
    rintro j w9 ⟨hj, lk, rs, t, A, hB9, hA9⟩
    have hX9 := hB9.ext
    by_cases hjl : j < 2
    · obtain ⟨l, hl⟩ : ∃ l, litJ g j = l := ⟨_, rfl⟩
      have hll : ([g.2.1, g.2.2] : List Int)[((j : Nat) : Int).toNat]? = some l := by
        rw [Int.toNat_natCast, ← hl]
        match j, hjl with
        | 0, _ => rfl
        | 1, _ => rfl
      have hl0 : 0 ≤ l ∧ l ≤ 33554433 := by
        rw [← hl]
        match j, hjl with
        | 0, _ => exact hgo.2.1
        | 1, _ => exact hgo.2.2
      obtain ⟨hX9, ⟨hat, hze, as_, cs, tr, ct, ap, cp, hS⟩, hO9, hm9⟩ := hB9
      have hMp := hS.map (i := 6) rfl
      have hLo := hS.row (i := 4) rfl
      have RL := (hS.row (i := 8) rfl).row encI_ok
      have hll3 := hA9.llen
      have hrl3 := hA9.rlen
      have hLn : lk.length = n := by omega
      have hRn : rs.length = n := by omega
      cases hmg : mget (l / 2) (plcM c.gates.2.2 n) with
      | none =>
        repeat' (first
          | (show WL _ _ _ _ _ _ _; first | apply WL.nil | (refine WL.au (k := ?_)))
          | (show Z _ _ _ _ _; apply Z.then_normal)
          | (show W _ _ _ _ _ _; first | apply W.seq | apply W.region))
        refine W.condKT rfl (dec_true (by omega)) ?_
        repeat' (first
          | ((apply WL.lookNoneF tOk keyI; exact rfl; exact rfl; exact rfl; exact rfl; exact rfl; exact rfl; exact rfl; exact hMp; exact hmg))
          | (show WL _ _ _ _ _ _ _; first | apply WL.nil | (refine WL.au (k := ?_)) | (apply WL.index tOk; exact rfl; exact rfl; exact rfl; exact rfl; exact rfl; exact rfl; exact rfl; exact rfl; assumption; (exact extA); exact rfl; omega; assumption; intro b off h; have hcc := h; first | (obtain ⟨h1, h2, h3, h4, h5, h6, _⟩ := h) | (obtain ⟨h1, h2, h3, _⟩ := h) | (obtain ⟨h1, h2, _⟩ := h) | (obtain ⟨h1, _⟩ := h)))
          | (show Z _ _ _ _ _; apply Z.then_normal)
          | (show W _ _ _ _ _ _; first | apply W.seq | apply W.region | apply W.block | apply W.skip))
        refine W.condKF rfl rfl ?_
        repeat' (first
          | (show WL _ _ _ _ _ _ _; first | apply WL.nil | (refine WL.au (k := ?_)))
          | (show Z _ _ _ _ _; first | apply Z.then_normal | apply Z.block_normal)
          | (show W _ _ _ _ _ _; first | apply W.region | apply W.skip))
        refine Z.againW ⟨by omega, lk, rs, t, A, ⟨(by (exact extA)), ⟨hat, hze, as_, cs, tr, ct, ap, cp, hS⟩, hO9, hm9⟩, hA9.skip fun q y hy he => ?_⟩ ⟨rfl, rfl, rfl, rfl, rfl, rfl, rfl, rfl, rfl, rfl, rfl, rfl, trivial⟩
        rw [← hnn] at hmg
        exact plcM_none hmg q y hy (by rw [← hl, he])
      | some v =>
        have hmg' := hmg
        rw [← hnn] at hmg'
        obtain ⟨kk, y, hy, hyl, rfl⟩ := plcM_some hmg'
        have hkk := lt_of_get hy
        obtain ⟨r, hr, hrv⟩ := hA9.row kk y hy
        have hnow := hA9.now
        have hLk : lk[((k : Nat) : Int).toNat]? = some (lackJ c.gates.2.2 g j : Int) := by rw [Int.toNat_natCast]; exact hnow
        have hRk : rs[((kk : Nat) : Int).toNat]? = some r := by rw [Int.toNat_natCast]; exact hr
        have hlj := lackJ_le c.gates.2.2 g j
        repeat' (first
          | (show WL _ _ _ _ _ _ _; first | apply WL.nil | (refine WL.au (k := ?_)))
          | (show Z _ _ _ _ _; apply Z.then_normal)
          | (show W _ _ _ _ _ _; first | apply W.seq | apply W.region))
        refine W.condKT rfl (dec_true (by omega)) ?_
        repeat' (first
          | ((apply WL.lookSomeF tOk keyI; exact rfl; exact rfl; exact rfl; exact rfl; exact rfl; exact rfl; exact rfl; exact hMp; exact hmg))
          | (show WL _ _ _ _ _ _ _; first | apply WL.nil | (refine WL.au (k := ?_)) | (apply WL.index tOk; exact rfl; exact rfl; exact rfl; exact rfl; exact rfl; exact rfl; exact rfl; exact rfl; assumption; (exact extA); exact rfl; omega; assumption; intro b off h; have hcc := h; first | (obtain ⟨h1, h2, h3, h4, h5, h6, _⟩ := h) | (obtain ⟨h1, h2, h3, _⟩ := h) | (obtain ⟨h1, h2, _⟩ := h) | (obtain ⟨h1, _⟩ := h)))
          | (show Z _ _ _ _ _; apply Z.then_normal)
          | (show W _ _ _ _ _ _; first | apply W.seq | apply W.region | apply W.block | apply W.skip))
        refine W.condKT rfl rfl ?_
        repeat' (first
          | (apply WL.indexO tOk; exact rfl; exact rfl; exact rfl; exact rfl; exact rfl; exact rfl; exact rfl; exact rfl; assumption; (exact extA); exact encI_ok; (first | exact rfl | (focus (simp only [List.length_set]; done)) | (focus (simp; done)) | (focus (simp [*]; done)) | omega | (focus (simp only [List.length_set]; omega))); omega; assumption; intro gb ha hc; cases ha; have hcc := hc; first | (obtain ⟨h1, h2, h3, _⟩ := hc) | (obtain ⟨h1, h2, _⟩ := hc) | (obtain ⟨h1, _⟩ := hc))
          | (apply WL.storeO (z' := (((lackJ c.gates.2.2 g j : Nat) : Int) + 1)) tOk; exact rfl; exact rfl; exact rfl; exact rfl; assumption; (exact extA); exact rfl; exact rfl; exact rfl; exact encI_ok; assumption; exact rfl; (exact extA); intro w' hO hX' hU)
          | (show WL _ _ _ _ _ _ _; first | apply WL.nil | (refine WL.au (k := ?_)))
          | (show Z _ _ _ _ _; apply Z.then_normal)
          | (show W _ _ _ _ _ _; first | apply W.seq | apply W.region))
        obtain ⟨w10, rfl⟩ : ∃ x, x = w' := ⟨_, rfl⟩
        have hS1 : Lt.Sep wc.heap.size w10 (hpP wc.heap.size gh as_ cs F tr ct t.length t ap cp A ++ rst wc.heap.size (some ⟨gl, 0, none⟩) n (lk.set ((k : Nat) : Int).toNat (((lackJ c.gates.2.2 g j : Nat) : Int) + 1)) (some ⟨go, 0, none⟩) n rs rm (plcM c.gates.2.2 n) none 0 [] (some ⟨gt, 0, none⟩, 2, [g.2.1, g.2.2]) rs) := Sep.updRow (i := 4) rfl hU hO (.inl rfl) hS (Ext.refl _) (Below.size hX9)
        have hOu := hS1.row (i := 5) rfl
        have hIn := hS1.row (rst_in hr _ rfl)
        have hX10 : Ext wc w10 := (by (exact extA))
        have hrl : r.2.2.length ≤ 2 * n + 2 := by
          have q1 := abv_len c.gates.2.2 y k
          have q2 := hangsJ_le g y j
          rw [hrv, List.length_append, List.length_replicate]; omega
        repeat' (first
          | (apply WL.indexO tOk; exact rfl; exact rfl; exact rfl; exact rfl; exact rfl; exact rfl; exact rfl; exact rfl; assumption; (exact extA); exact encRow_ok; (first | exact rfl | (focus (simp only [List.length_set]; done)) | (focus (simp; done)) | (focus (simp [*]; done)) | omega | (focus (simp only [List.length_set]; omega))); omega; assumption; intro gb ha hc; cases ha; have hcc := hc; first | (obtain ⟨h1, h2, h3, _⟩ := hc) | (obtain ⟨h1, h2, _⟩ := hc) | (obtain ⟨h1, _⟩ := hc))
          | (apply WL.lit tOk; exact rfl; exact rfl; exact rfl; exact rfl; exact rfl; exact rfl; (first | exact rfl | kernel_rfl | (simp [Instr.fill, catCells]; done)); exact rfl; intro gb w' hb hge hc hx)
          | (apply WL.append1 (z := (((k : Nat) : Int))) tOk encI_ok; exact rfl; exact rfl; exact rfl; exact rfl; exact rfl; exact rfl; exact rfl; exact rfl; exact rfl; exact rfl; assumption; (exact extA); (first | exact rfl | (focus (simp only [List.length_set]; done)) | (focus (simp; done)) | (focus (simp [*]; done)) | omega | (focus (simp only [List.length_set]; omega))); assumption; exact rfl; exact rfl; (exact extA); (first | omega | (simp; omega) | (simp at *; omega)); intro a' cap' w' hO hX' hU hF)
          | (show WL _ _ _ _ _ _ _; (refine WL.au (k := ?_))))
        obtain ⟨w12, rfl⟩ : ∃ x, x = w' := ⟨_, rfl⟩; obtain ⟨a2, rfl⟩ : ∃ x, x = a' := ⟨_, rfl⟩; obtain ⟨cp2, rfl⟩ : ∃ x, x = cap' := ⟨_, rfl⟩
        have hS2 := Sep.updRow (rst_in hr _ rfl) hU hO hF hS1 (by (exact extA)) (Below.size (by (exact extA)))
        rw [show prow 1 encI 3 wc.heap.size a2 cp2 (r.2.2 ++ [((k : Nat) : Int)]) = pI wc.heap.size (a2, cp2, r.2.2 ++ [((k : Nat) : Int)]) from rfl, rst_set _ rfl] at hS2
        have hOu2 := hS2.row (i := 5) rfl
        have hX12 : Ext wc w12 := (by (exact extA))
        repeat' (first
          | (apply WL.indexO tOk; exact rfl; exact rfl; exact rfl; exact rfl; exact rfl; exact rfl; exact rfl; exact rfl; assumption; (exact extA); exact encRow_ok; (first | exact rfl | (focus (simp only [List.length_set]; done)) | (focus (simp; done)) | (focus (simp [*]; done)) | omega | (focus (simp only [List.length_set]; omega))); omega; assumption; intro gb ha hc; cases ha; have hcc := hc; first | (obtain ⟨h1, h2, h3, _⟩ := hc) | (obtain ⟨h1, h2, _⟩ := hc) | (obtain ⟨h1, _⟩ := hc))
          | (apply WL.storeO (z' := (((a2, cp2, r.2.2 ++ [((k : Nat) : Int)]) : RowV Int))) tOk; exact rfl; exact rfl; exact rfl; exact rfl; assumption; (exact extA); exact rfl; exact rfl; exact rfl; exact encRow_ok; assumption; exact rfl; (exact extA); intro w' hO hX' hU)
          | (show WL _ _ _ _ _ _ _; first | apply WL.nil | (refine WL.au (k := ?_)))
          | (show Z _ _ _ _ _; first | apply Z.then_normal | apply Z.block_normal)
          | (show W _ _ _ _ _ _; apply W.region))
        have hS3 : Lt.Sep wc.heap.size w' (hpP wc.heap.size gh as_ cs F tr ct t.length t ap cp A ++ rst wc.heap.size (some ⟨gl, 0, none⟩) n (lk.set ((k : Nat) : Int).toNat (((lackJ c.gates.2.2 g j : Nat) : Int) + 1)) (some ⟨go, 0, none⟩) n (rs.set ((kk : Nat) : Int).toNat (a2, cp2, r.2.2 ++ [((k : Nat) : Int)])) rm (plcM c.gates.2.2 n) none 0 [] (some ⟨gt, 0, none⟩, 2, [g.2.1, g.2.2]) (rs.set kk (a2, cp2, r.2.2 ++ [((k : Nat) : Int)]))) := Sep.updRow (i := 5) rfl hU hO (.inl rfl) hS2 (Ext.refl _) (Below.size hX12)
        rw [Int.toNat_natCast, Int.toNat_natCast] at hS3
        exact Z.againW ⟨by omega, _, _, t, A, ⟨(by (exact extA)), ⟨hat, hze, as_, cs, tr, ct, ap, cp, hS3⟩, hO9, fun x => (hm9 x).trans (pA_set x).symm⟩, hA9.take ho hy (by rw [hyl, hl]) hr⟩ ⟨rfl, rfl, rfl, rfl, rfl, rfl, rfl, rfl, rfl, rfl, rfl, rfl, trivial⟩
    obtain rfl : j = 2 := by omega
    have hI9 := hA9.leave hgg
    have hnow : lk[k]? = some (lackG c.gates.2.2 [] g : Int) := by rw [hA9.now, lackJ2]
    have hll3 := hA9.llen
    have hB9' := hB9
    obtain ⟨hX9, ⟨hat, hze, as_, cs, tr, ct, ap, cp, hS⟩, hO9, hm9⟩ := hB9'
    have hLo := hS.row (i := 4) rfl
    have hLn : lk.length = n := by omega
    have hLk : lk[((k : Nat) : Int).toNat]? = some (lackG c.gates.2.2 [] g : Int) := by rw [Int.toNat_natCast]; exact hnow
    repeat' (first
      | (show WL _ _ _ _ _ _ _; first | apply WL.nil | (refine WL.au (k := ?_)))
      | (show Z _ _ _ _ _; apply Z.then_normal)
      | (show W _ _ _ _ _ _; first | apply W.seq | apply W.region))
    refine W.condKF rfl (dec_false (by omega)) ?_
    repeat' (first
      | (apply WL.indexO tOk; exact rfl; exact rfl; exact rfl; exact rfl; exact rfl; exact rfl; exact rfl; exact rfl; assumption; (exact extA); exact encI_ok; (first | exact rfl | (focus (simp only [List.length_set]; done)) | (focus (simp; done)) | (focus (simp [*]; done)) | omega | (focus (simp only [List.length_set]; omega))); omega; assumption; intro gb ha hc; cases ha; have hcc := hc; first | (obtain ⟨h1, h2, h3, _⟩ := hc) | (obtain ⟨h1, h2, _⟩ := hc) | (obtain ⟨h1, _⟩ := hc))
      | (show WL _ _ _ _ _ _ _; first | apply WL.nil | (refine WL.au (k := ?_)))
      | (show Z _ _ _ _ _; first | apply Z.then_normal | apply Z.then_exit | apply Z.block_exit)
      | (show W _ _ _ _ _ _; first | apply W.seq | apply W.region | apply W.exit))
    by_cases h0 : lackG c.gates.2.2 [] g = 0
    · refine W.condKT rfl (dec_true (by omega)) ?_
      have hnp : ¬ pA k lk (k : Int) := fun ⟨q, q1, q2, q3⟩ => by omega
      repeat' (first
        | (((show WL _ _ _ (⟨_, .call ⟨.value (.func 151), _, _⟩, _, _, _, _⟩ :: _) _ _ _); apply WL.call; exact rfl; exact rfl; exact rfl; exact rfl; exact heap_Push w9 wc gh F t A _ (pA k lk) hB9 (by omega) k (by omega) hnp; rintro v' w10 ⟨rfl, t1, A1, hB10⟩))
        | (show WL _ _ _ _ _ _ _; first | apply WL.nil | (refine WL.au (k := ?_)))
        | (show Z _ _ _ _ _; first | apply Z.then_normal | apply Z.block_normal)
        | (show W _ _ _ _ _ _; apply W.region))
      exact Z.againW ⟨by omega, _, _, _, t1, A1, hB10.mono (fun x => pA_push (by rw [hnow, h0]; rfl) x), hI9⟩ ⟨rfl, rfl, rfl, rfl, rfl, rfl, rfl, rfl, trivial⟩
    · refine W.condKF rfl (dec_false (by omega)) ?_
      repeat' (first
        | (show WL _ _ _ _ _ _ _; first | apply WL.nil | (refine WL.au (k := ?_)))
        | (show Z _ _ _ _ _; first | apply Z.then_normal | apply Z.block_normal)
        | (show W _ _ _ _ _ _; first | apply W.region | apply W.skip))
      exact Z.againW ⟨by omega, _, _, _, t, A, hB9.mono (fun x => pA_next hnow (by omega) x), hI9⟩ ⟨rfl, rfl, rfl, rfl, rfl, rfl, rfl, rfl, trivial⟩
  obtain rfl : k = n := by omega
  repeat' (first
    | (show WL _ _ _ _ _ _ _; first | apply WL.nil | (refine WL.au (k := ?_)))
    | (show Z _ _ _ _ _; apply Z.then_normal)
    | (show W _ _ _ _ _ _; first | apply W.seq | apply W.region))
  refine W.condKF rfl (dec_false (by omega)) ?_
  have hll6 := hI6.llen
  have hB7 := hB6.mono (fun x => pA_all (show lk.length = k by omega) x)
  have hSB : StB c.gates.2.2 [] [] lk := ⟨hI6.llen, fun q x hx => by rw [hI6.old q x hx (by have := lt_of_get hx; omega)]; simp⟩
  have hrows : ∀ (q : Nat) (y : G3), c.gates.2.2[q]? = some y → ∃ r, rs[q]? = some r ∧ r.2.2 = abv c.gates.2.2 y c.gates.2.2.length := by
    rw [hnn]; exact hI6.row
  have hrl6 := hI6.rlen
  have start : ∀ (L : List Nat) (lk : List Int) (ya : Int), StB c.gates.2.2 L [] lk → pH L lk ya → (∀ x, pH L lk x → ya ≤ x) → ∃ i : Nat, ya = (i : Int) ∧ Least c.gates.2.2 L i := fun L lk ya hS hp hm => by
    obtain ⟨i, rfl, hr⟩ := (hS.rdy ya).1 hp
    exact ⟨i, rfl, hr, fun j hj => by have := hm (j : Int) ((hS.rdy _).2 ⟨j, rfl, hj⟩); omega⟩
  repeat' (first
    | (((show WL _ _ _ (⟨_, .call ⟨.value (.func 152), _, _⟩, _, _, _, _⟩ :: _) _ _ _); apply WL.call; exact rfl; exact rfl; exact rfl; exact rfl; exact heap_PopO w6 wc gh F t A _ (pH [] lk) hB7 (by omega); rintro v' w7 ⟨nx, rfl, hnx1, hnx2, t1, A1, hB8⟩))
    | (show WL _ _ _ _ _ _ _; first | apply WL.nil | (refine WL.au (k := ?_)))
    | (show Z _ _ _ _ _; first | apply Z.then_normal | apply Z.then_exit | apply Z.block_exit)
    | (show W _ _ _ _ _ _; first | apply W.seq | apply W.region | apply W.block | apply W.exit))
  refine W.loop (σ := List Nat × Option Int × Option Addr × Nat × World) (fun s => PreOrd c.gates.2.2 s.1 ∧ ∃ lk t A, HpB wc s.2.2.2.2 gh F (rst wc.heap.size (some ⟨gl, 0, none⟩) k lk (some ⟨go, 0, none⟩) k rs rm (plcM c.gates.2.2 k) s.2.2.1 s.2.2.2.1 (natI s.1) lit rs) t A (fun x => pH s.1 lk x ∧ ∀ y, s.2.1 = some y → x ≠ y) ∧ StB c.gates.2.2 s.1 [] lk ∧ (∀ y, s.2.1 = some y → pH s.1 lk y ∧ ∀ x, pH s.1 lk x → y ≤ x) ∧ (s.2.1 = none → ∀ x, ¬ pH s.1 lk x)) (fun s => [(6, .slice (some ⟨gl, 0, none⟩) k k), (7, .slice (some ⟨go, 0, none⟩) k k), (8, .pointer (some ⟨gh, 0, none⟩)), (15, .slice s.2.2.1 (natI s.1).length s.2.2.2.1), (16, .int .i64 (s.2.1.getD 0)), (17, .bool s.2.1.isSome)]) (fun s => s.2.2.2.2) (fun s => c.gates.2.2.length + 1 - s.1.length) ([], nx, none, 0, w7) ⟨PreOrd.nil _, lk, t1, A1, hB8, hSB, hnx1, hnx2⟩ ⟨rfl, rfl, rfl, rfl, rfl, rfl, trivial⟩ rfl ?_
  clear hB7 hB8 hSB hnx1 hnx2 hB6 hI6 hX6 hll6
  rintro ⟨L, nx, ou, cu, w8⟩ ⟨hP, lk, t, A, hB8, hSB, hn1, hn2⟩
  dsimp only at hP hB8 hSB hn1 hn2 ⊢
  have hX8 := hB8.ext
  have hLle := hP.le
  cases nx with
  | none =>
    repeat' (first
      | (show WL _ _ _ _ _ _ _; first | apply WL.nil | (refine WL.au (k := ?_)))
      | (show Z _ _ _ _ _; apply Z.then_normal)
      | (show W _ _ _ _ _ _; first | apply W.seq | apply W.region))
    refine W.condKF rfl rfl ?_
    repeat' (first
      | (show WL _ _ _ _ _ _ _; first | apply WL.nil | (refine WL.au (k := ?_)))
      | (show Z _ _ _ _ _; first | apply Z.then_normal | apply Z.then_exit | apply Z.block_exit)
      | (show W _ _ _ _ _ _; first | apply W.seq | apply W.region | apply W.ret | apply W.exit))
    obtain ⟨hX9, ⟨hat, hze, as_, cs, tr, ct, ap, cp, hS⟩, hO9, hm9⟩ := hB8
    have hOut := hS.row (i := 7) rfl
    have hLo : L = ordL c.gates.2.2 := IsOrd.ord ⟨hP, fun q hq => hn2 rfl (q : Int) ((hSB.rdy _).2 ⟨q, rfl, hq⟩)⟩
    exact Z.body1 Try.results111 rfl fun m => ⟨hxc.trans (Ext.at hX8 m), ou, cu, by rw [← hLo], by rw [← hLo]; exact (hOut.base hwc).ext ((Ext.refl _).at m)⟩
  | some ya =>
    obtain ⟨i, rfl, hle⟩ := start L lk ya hSB (hn1 ya rfl).1 (hn1 ya rfl).2
    obtain ⟨y, hy, hiL, hself⟩ := hle.1
    have hself := rdy_self hle.1 hy
    have hik := lt_of_get hy
    obtain ⟨r, hr, hrv⟩ := hrows i y hy
    repeat' (first
      | (show WL _ _ _ _ _ _ _; first | apply WL.nil | (refine WL.au (k := ?_)))
      | (show Z _ _ _ _ _; apply Z.then_normal)
      | (show W _ _ _ _ _ _; first | apply W.seq | apply W.region))
    refine W.condKT rfl rfl ?_
    refine W.sub [(6, .slice (some ⟨gl, 0, none⟩) k k), (7, .slice (some ⟨go, 0, none⟩) k k), (8, .pointer (some ⟨gh, 0, none⟩)), (15, .slice ou (natI L).length cu), (16, .int .i64 ((i : Nat) : Int))] ⟨rfl, rfl, rfl, rfl, rfl, trivial⟩ ?_
    obtain ⟨hX9, ⟨hat, hze, as_, cs, tr, ct, ap, cp, hS⟩, hO9, hm9⟩ := hB8
    have hOut := hS.row (i := 7) rfl
    have hnl : (natI L).length = L.length := List.length_map _
    repeat' (first
      | (apply WL.lit tOk; exact rfl; exact rfl; exact rfl; exact rfl; exact rfl; exact rfl; (first | exact rfl | kernel_rfl | (simp [Instr.fill, catCells]; done)); exact rfl; intro gb w' hb hge hc hx)
      | (apply WL.append1 (z := (((i : Nat) : Int))) tOk encI_ok; exact rfl; exact rfl; exact rfl; exact rfl; exact rfl; exact rfl; exact rfl; exact rfl; exact rfl; exact rfl; assumption; (exact extA); (first | exact rfl | (focus (simp only [List.length_set]; done)) | (focus (simp; done)) | (focus (simp [*]; done)) | omega | (focus (simp only [List.length_set]; omega))); assumption; exact rfl; exact rfl; (exact extA); (first | omega | (simp; omega) | (simp at *; omega)); intro a' cap' w' hO hX' hU hF)
      | (show WL _ _ _ _ _ _ _; first | apply WL.nil | (refine WL.au (k := ?_)))
      | (show Z _ _ _ _ _; apply Z.then_normal)
      | (show W _ _ _ _ _ _; first | apply W.seq | apply W.region | apply W.block | apply W.skip))
    obtain ⟨w9, rfl⟩ : ∃ x, x = w' := ⟨_, rfl⟩; obtain ⟨ou2, rfl⟩ : ∃ x, x = a' := ⟨_, rfl⟩; obtain ⟨cu2, rfl⟩ : ∃ x, x = cap' := ⟨_, rfl⟩
    have hnat : natI L ++ [((i : Nat) : Int)] = natI (L ++ [i]) := by simp [natI]
    have hS1 : Lt.Sep wc.heap.size w9 (hpP wc.heap.size gh as_ cs F tr ct t.length t ap cp A ++ rst wc.heap.size (some ⟨gl, 0, none⟩) k lk (some ⟨go, 0, none⟩) k rs rm (plcM c.gates.2.2 k) ou2 cu2 (natI (L ++ [i])) lit rs) := by
      rw [← hnat]; exact Sep.updRow (i := 7) rfl hU hO hF hS (by (exact extA)) (Below.size (by (exact extA)))
    have hX9' : Ext wc w9 := (by (exact extA))
    have hOu := hS1.row (i := 5) rfl
    have hRk : rs[((i : Nat) : Int).toNat]? = some r := by rw [Int.toNat_natCast]; exact hr
    rw [hnat]
    have hrl6' : rs.length = k := by omega
    repeat' (first
      | (apply WL.indexO tOk; exact rfl; exact rfl; exact rfl; exact rfl; exact rfl; exact rfl; exact rfl; exact rfl; assumption; (exact extA); exact encRow_ok; (first | exact rfl | (focus (simp only [List.length_set]; done)) | (focus (simp; done)) | (focus (simp [*]; done)) | omega | (focus (simp only [List.length_set]; omega))); omega; assumption; intro gb ha hc; cases ha; have hcc := hc; first | (obtain ⟨h1, h2, h3, _⟩ := hc) | (obtain ⟨h1, h2, _⟩ := hc) | (obtain ⟨h1, _⟩ := hc))
      | (show WL _ _ _ _ _ _ _; first | apply WL.nil | (refine WL.au (k := ?_)))
      | (show Z _ _ _ _ _; apply Z.then_normal)
      | (show W _ _ _ _ _ _; apply W.block))
    have hYl : r.2.2.length ≤ 2 * k := by rw [hrv, hnn]; exact abv_len _ _ _
    have hm9' : ∀ x, x ∈ t ↔ pH (L ++ [i]) lk x := fun x => ((hm9 x).trans ⟨fun ⟨h1, h2⟩ => ⟨h1, h2 _ rfl⟩, fun ⟨h1, h2⟩ => ⟨h1, fun y hy => by cases hy; exact h2⟩⟩).trans (pH_out x)
    refine W.loopW r.2.2.length (fun m w' => m ≤ r.2.2.length ∧ ∃ lk t A, HpB wc w' gh F (rst wc.heap.size (some ⟨gl, 0, none⟩) k lk (some ⟨go, 0, none⟩) k rs rm (plcM c.gates.2.2 k) ou2 cu2 (natI (L ++ [i])) lit rs) t A (pH (L ++ [i]) lk) ∧ StB c.gates.2.2 L (r.2.2.take m) lk) (fun m => [(6, .slice (some ⟨gl, 0, none⟩) k k), (7, .slice (some ⟨go, 0, none⟩) k k), (8, .pointer (some ⟨gh, 0, none⟩)), (15, .slice ou2 (natI (L ++ [i])).length cu2), (117, .slice r.1 r.2.2.length r.2.1), (118, .int .i64 (r.2.2.length : Nat)), (119, .int .i64 m)]) ⟨Nat.zero_le _, lk, t, A, ⟨hX9', ⟨hat, hze, as_, cs, tr, ct, ap, cp, hS1⟩, hO9, hm9'⟩, by rw [List.take_zero]; exact hSB⟩ (fun m w' h => h.1) ⟨rfl, rfl, rfl, rfl, rfl, rfl, rfl, trivial⟩ ?_
    have hPi := hP.push hle
    clear hSB hS hS1 hO9 hm9 hm9' hat hze hOut hOu hO hX9 hX9' hn1 hn2
    rintro m w10 ⟨hm, lk, t, A, hB10, hSB⟩
    have hX10 := hB10.ext
    by_cases hml : m < r.2.2.length
    · obtain ⟨z, hgz⟩ := getI r.2.2 hml
      have hgz' := hgz
      rw [hrv] at hgz'
      obtain ⟨kk, g, rfl, hkk, hg, hh⟩ := abv_mem (List.mem_of_getElem? hgz')
      rw [hrv] at hSB
      obtain ⟨v, hv, hv1, hv2, hSB2⟩ := hSB.step ho hy hiL hg hgz'
      rw [← hrv] at hSB2
      have hkL : kk ∉ L ++ [i] := fun hm2 => by
        rcases List.mem_append.1 hm2 with h | h
        · exact not_told hP hy hg hh hiL h
        · obtain rfl := List.mem_singleton.1 h
          rw [hy] at hg; cases hg; omega
      have hB10' := hB10
      obtain ⟨_, ⟨hat, hze, as_, cs, tr, ct, ap, cp, hS⟩, hO9, hm9⟩ := hB10'
      have RL := (hS.row (rst_in hr _ rfl)).row encI_ok
      have hLo := hS.row (i := 4) rfl
      have hlk3 := hSB.llen
      have hLn : lk.length = k := by omega
      have hvk : lk[((kk : Nat) : Int).toNat]? = some v := by rw [Int.toNat_natCast]; exact hv
      have hvs : (lk.set ((kk : Nat) : Int).toNat (v - 1))[((kk : Nat) : Int).toNat]? = some (v - 1) := List.getElem?_set_self (by rw [Int.toNat_natCast]; omega)
      repeat' (first
        | (show WL _ _ _ _ _ _ _; first | apply WL.nil | (refine WL.au (k := ?_)))
        | (show Z _ _ _ _ _; apply Z.then_normal)
        | (show W _ _ _ _ _ _; first | apply W.seq | apply W.region))
      refine W.condKT rfl (dec_true (by omega)) ?_
      repeat' (first
        | (apply WL.indexO tOk; exact rfl; exact rfl; exact rfl; exact rfl; exact rfl; exact rfl; exact rfl; exact rfl; assumption; (exact extA); exact encI_ok; (first | exact rfl | (focus (simp only [List.length_set]; done)) | (focus (simp; done)) | (focus (simp [*]; done)) | omega | (focus (simp only [List.length_set]; omega))); omega; assumption; intro gb ha hc; cases ha; have hcc := hc; first | (obtain ⟨h1, h2, h3, _⟩ := hc) | (obtain ⟨h1, h2, _⟩ := hc) | (obtain ⟨h1, _⟩ := hc))
        | (apply WL.storeO (z' := (v - 1)) tOk; exact rfl; exact rfl; exact rfl; exact rfl; assumption; (exact extA); exact rfl; exact rfl; exact rfl; exact encI_ok; assumption; exact rfl; (exact extA); intro w' hO hX' hU)
        | (show WL _ _ _ _ _ _ _; first | apply WL.nil | (refine WL.au (k := ?_)) | (apply WL.index tOk; exact rfl; exact rfl; exact rfl; exact rfl; exact rfl; exact rfl; exact rfl; exact rfl; assumption; (exact extA); exact rfl; omega; assumption; intro b off h; have hcc := h; first | (obtain ⟨h1, h2, h3, h4, h5, h6, _⟩ := h) | (obtain ⟨h1, h2, h3, _⟩ := h) | (obtain ⟨h1, h2, _⟩ := h) | (obtain ⟨h1, _⟩ := h)))
        | (show Z _ _ _ _ _; apply Z.then_normal)
        | (show W _ _ _ _ _ _; first | apply W.seq | apply W.region | apply W.block | apply W.skip))
      obtain ⟨w11, rfl⟩ : ∃ x, x = w' := ⟨_, rfl⟩
      have hS2 : Lt.Sep wc.heap.size w11 (hpP wc.heap.size gh as_ cs F tr ct t.length t ap cp A ++ rst wc.heap.size (some ⟨gl, 0, none⟩) k (lk.set ((kk : Nat) : Int).toNat (v - 1)) (some ⟨go, 0, none⟩) k rs rm (plcM c.gates.2.2 k) ou2 cu2 (natI (L ++ [i])) lit rs) := Sep.updRow (i := 4) rfl hU hO (.inl rfl) hS (Ext.refl _) (Below.size hX10)
      rw [Int.toNat_natCast] at hS2
      by_cases hv0 : v - 1 = 0
      · refine W.condKT rfl (dec_true hv0) ?_
        repeat' (first
          | (((show WL _ _ _ (⟨_, .call ⟨.value (.func 151), _, _⟩, _, _, _, _⟩ :: _) _ _ _); apply WL.call; exact rfl; exact rfl; exact rfl; exact rfl; exact heap_Push w11 wc gh F t A _ (pH (L ++ [i]) lk) ⟨hX', ⟨hat, hze, as_, cs, tr, ct, ap, cp, hS2⟩, hO9, hm9⟩ (by omega) kk (by omega) (pH_no hv hv1); rintro v' w12 ⟨rfl, t2, A2, hB12⟩))
          | (show WL _ _ _ _ _ _ _; first | apply WL.nil | (refine WL.au (k := ?_)))
          | (show Z _ _ _ _ _; first | apply Z.then_normal | apply Z.block_normal)
          | (show W _ _ _ _ _ _; apply W.region))
        exact Z.againW ⟨by omega, _, t2, A2, hB12.mono (fun x => pH_zero hv hv1 hv0 hkL x), hSB2⟩ ⟨rfl, rfl, rfl, rfl, rfl, rfl, rfl, trivial⟩
      · refine W.condKF rfl (dec_false hv0) ?_
        repeat' (first
          | (show WL _ _ _ _ _ _ _; first | apply WL.nil | (refine WL.au (k := ?_)))
          | (show Z _ _ _ _ _; first | apply Z.then_normal | apply Z.block_normal)
          | (show W _ _ _ _ _ _; first | apply W.region | apply W.skip))
        exact Z.againW ⟨by omega, _, t, A, ⟨hX', ⟨hat, hze, as_, cs, tr, ct, ap, cp, hS2⟩, hO9, fun x => (hm9 x).trans (pH_dec hv hv1 hv0 x)⟩, hSB2⟩ ⟨rfl, rfl, rfl, rfl, rfl, rfl, rfl, trivial⟩
    obtain rfl : m = r.2.2.length := by omega
    rw [List.take_length, hrv] at hSB
    have hSB2 := hSB.next ho hy hiL
    repeat' (first
      | (show WL _ _ _ _ _ _ _; first | apply WL.nil | (refine WL.au (k := ?_)))
      | (show Z _ _ _ _ _; apply Z.then_normal)
      | (show W _ _ _ _ _ _; first | apply W.seq | apply W.region))
    refine W.condKF rfl (dec_false (by omega)) ?_
    repeat' (first
      | (((show WL _ _ _ (⟨_, .call ⟨.value (.func 152), _, _⟩, _, _, _, _⟩ :: _) _ _ _); apply WL.call; exact rfl; exact rfl; exact rfl; exact rfl; exact heap_PopO w10 wc gh F t A _ (pH (L ++ [i]) lk) hB10 (by omega); rintro v' w11 ⟨nx, rfl, hnx1, hnx2, t1, A1, hB11⟩))
      | (show WL _ _ _ _ _ _ _; first | apply WL.nil | (refine WL.au (k := ?_)))
      | (show Z _ _ _ _ _; first | apply Z.then_normal | apply Z.block_normal | apply Z.then_exit | apply Z.block_exit)
      | (show W _ _ _ _ _ _; first | apply W.region | apply W.exit))
    exact Z.again (L ++ [i], nx, ou2, cu2, w11) ⟨hPi, lk, t1, A1, hB11, hSB2, hnx1, hnx2⟩ (by have := hPi.le; simp only [List.length_append, List.length_singleton] at this ⊢; omega) ⟨rfl, rfl, rfl, rfl, rfl, rfl, trivial⟩ rfl
end Go.Proofs.Ythpnahapiodflaa
namespace Go.Proofs.Ythpnahapiodflaa
open Go Go.Lt Go.RowKit
set_option linter.unusedVariables false
set_option linter.unusedSimpArgs false
set_option maxRecDepth 20000

noncomputable abbrev okO (m x : Int) : Bool := dec (1 < x) && dec (x % 2 = 0) && dec (x ≤ 2 * m)
noncomputable abbrev okR (x : T3) : Bool := dec (x.2.2 = 0) || dec (x.2.2 = 1) || dec (x.2.2 = x.1)
theorem all_snoc {α : Type} {l : List α} {k : Nat} {x : α} (p : α → Bool) (h : l[k]? = some x) : (l.take (k + 1)).all p = ((l.take k).all p && p x) := by rw [take_succ' h, List.all_append]; simp
theorem bad_iff {c : CirT} (hm : ¬ BadMax c) : (c.own.all (okO c.max) && c.lat.all okR && c.used.all (inR c.max)) = true ↔ ¬ (BadMax c ∨ BadOwn c ∨ BadUse c ∨ BadRes c) := by
  simp only [Bool.and_eq_true, List.all_eq_true]
  constructor
  · rintro ⟨⟨h1, h2⟩, h3⟩ (h | ⟨x, hx, h⟩ | ⟨x, hx, h⟩ | ⟨x, hx, h⟩)
    · exact hm h
    · have := h1 x hx
      have h4 := of_dec this.1.1; have h5 := of_dec this.1.2; have h6 := of_dec this.2; omega
    · have := h3 x hx
      have h4 := of_dec this.1; have h5 := of_dec this.2; omega
    · have := h2 x hx
      simp only [Bool.or_eq_true] at this
      rcases this with (h4 | h4) | h4 <;> have h5 := of_dec h4 <;> omega
  · intro h
    refine ⟨⟨fun x hx => ?_, fun x hx => ?_⟩, fun x hx => ?_⟩
    · have hn : ¬ (x < 2 ∨ x % 2 = 1 ∨ 2 * c.max < x) := fun hh => h (.inr (.inl ⟨x, hx, hh⟩))
      exact ⟨⟨dec_true (by omega), dec_true (by omega)⟩, dec_true (by omega)⟩
    · have hn : ¬ (x.2.2 ≠ 0 ∧ x.2.2 ≠ 1 ∧ x.2.2 ≠ x.1) := fun hh => h (.inr (.inr (.inr ⟨x, hx, hh⟩)))
      unfold okR
      by_cases q1 : x.2.2 = 0
      · rw [dec_true q1]; rfl
      · by_cases q2 : x.2.2 = 1
        · rw [dec_true q2]; simp
        · rw [dec_true (show x.2.2 = x.1 from Classical.byContradiction fun q3 => hn ⟨q1, q2, q3⟩)]; simp
    · have hn : ¬ (x < 0 ∨ 2 * c.max + 1 < x) := fun hh => h (.inr (.inr (.inl ⟨x, hx, hh⟩)))
      exact ⟨dec_true (by omega), dec_true (by omega)⟩
theorem half_mem {l : List Int} {x : Int} (hl : ∀ y ∈ l, y % 2 = 0 ∧ 2 ≤ y) : x / 2 ∈ (0 :: l.map (· / 2) : List Int) ↔ (x / 2 = 0 ∨ x - x % 2 ∈ l) := by
  constructor
  · intro h
    rcases List.mem_cons.1 h with h | h
    · exact .inl h
    · obtain ⟨y, hy, he⟩ := List.mem_map.1 h
      have := hl y hy
      exact .inr (by rw [show x - x % 2 = y by omega]; exact hy)
  · rintro (h | h)
    · rw [h]; simp
    · exact List.mem_cons_of_mem _ (List.mem_map.2 ⟨_, h, by omega⟩)
theorem none_iff {c : CirT} {m : Int} (hown : ∀ x ∈ c.own, 2 ≤ x ∧ x % 2 = 0 ∧ x ≤ 2 * m) (hused : ∀ x ∈ c.used, 0 ≤ x ∧ x ≤ 2 * m + 1) : (true && c.used.all (inK (0 :: c.own.map (· / 2)))) = true ↔ ¬ NoneC c := by
  rw [Bool.true_and, List.all_eq_true]
  have hev : ∀ y ∈ c.own, y % 2 = 0 ∧ 2 ≤ y := fun y hy => by have := hown y hy; omega
  constructor
  · rintro h ⟨x, hx, h1, h2⟩
    have := of_dec (h x hx)
    rcases (half_mem hev).1 this with h3 | h3
    · omega
    · exact h2 h3
  · intro h x hx
    refine dec_true ((half_mem hev).2 ?_)
    by_cases h1 : 1 < x
    · exact .inr (Classical.byContradiction fun h2 => h ⟨x, hx, h1, h2⟩)
    · have := hused x hx; exact .inl (by omega)
theorem once_of {c : CirT} (h : ¬ Twice c) (hown : ∀ x ∈ c.own, x % 2 = 0) : Once c.gates := by
  have hn : c.own.Nodup := nodup_take fun i x hx hm => h ⟨i, x, hx, hm⟩
  rw [List.nodup_append] at hn
  have hp := List.pairwise_iff_getElem.1 (List.nodup_iff_pairwise_ne.1 hn.2.1)
  intro i j x y hi hj he
  have h1 := hown x.1 (List.mem_append_right _ (List.mem_map.2 ⟨x, List.mem_of_getElem? hi, rfl⟩))
  have h2 := hown y.1 (List.mem_append_right _ (List.mem_map.2 ⟨y, List.mem_of_getElem? hj, rfl⟩))
  have ei : (c.gates.map (·.1))[i]? = some x.1 := by rw [List.getElem?_map, hi]; rfl
  have ej : (c.gates.map (·.1))[j]? = some y.1 := by rw [List.getElem?_map, hj]; rfl
  obtain ⟨li, gi⟩ := List.getElem?_eq_some_iff.1 ei
  obtain ⟨lj, gj⟩ := List.getElem?_eq_some_iff.1 ej
  refine Classical.byContradiction fun hne => ?_
  rcases Nat.lt_or_gt_of_ne hne with h3 | h3
  · exact hp i j li lj h3 (by rw [gi, gj]; omega)
  · exact hp j i lj li h3 (by rw [gi, gj]; omega)
set_option maxHeartbeats 32000000 in
theorem circ_Check (c : Circ) (w : World) (hC : CAt w c) (hz : SzC c.t 100000) :
    Pure Try.prog 119 [c.val] w (.int .i64 (chkC c.t)) := by
  have hcm : c.t.max = c.max := rfl
  have z1 : c.ins.2.2.length ≤ 100000 := hz.1
  have z2 : c.lat.2.2.length ≤ 100000 := hz.2.1
  have z6 : c.gates.2.2.length ≤ 100000 := hz.2.2.2.2.2
  have hol : c.t.own.length ≤ 300000 := by
    show (c.ins.2.2 ++ c.lat.2.2.map (·.1) ++ c.gates.2.2.map (·.1)).length ≤ _
    simp; omega
  by_cases hmax : BadMax c.t
  · rw [chk_5 (.inl hmax)]
    have hmax' : c.max < 0 ∨ 16777216 < c.max := hmax
    refine Spec.of _ Try.func119 rfl Try.ntmps119 (by kernel_rfl) rfl ?_
    repeat' (first
      | (apply WL.box; exact rfl; exact rfl; exact rfl; intro gb w' hb hge hc hx; have hcc := hc; (first | (obtain ⟨h1, h2, h3, _⟩ := hc) | (obtain ⟨h1, h2, _⟩ := hc)); (obtain ⟨y0, _⟩ := hcc; obtain ⟨gc, rfl⟩ : ∃ x, x = gb := ⟨_, rfl⟩; obtain ⟨wc, rfl⟩ : ∃ x, x = w' := ⟨_, rfl⟩; obtain ⟨hxc, rfl⟩ : ∃ x, x = hx := ⟨_, rfl⟩))
      | (show WL _ _ _ _ _ _ _; first | apply WL.nil | (refine WL.au (k := ?_)) | (apply WL.guardF; exact rfl; exact rfl) | (apply WL.gD; exact rfl; exact rfl; all_goals intro _))
      | (show Z _ _ _ _ _; first | apply Z.then_normal | apply Z.then_ret)
      | (show W _ _ _ _ _ _; first | apply W.seq | apply W.region | apply W.skip | apply W.ret | (apply W.condT; exact rfl) | (apply W.condD; exact rfl; all_goals intro _)))
    all_goals first
      | exact Z.body1 Try.results119 rfl fun m => ⟨rfl, Ext.at (by (exact extA)) m⟩
      | (exfalso; omega)
      | skip
  have hm0 : ¬ (c.max < 0 ∨ 16777216 < c.max) := hmax
  refine Spec.of _ Try.func119 rfl Try.ntmps119 (by kernel_rfl) rfl ?_
  repeat' (first
    | (apply WL.box; exact rfl; exact rfl; exact rfl; intro gb w' hb hge hc hx; have hcc := hc; (first | (obtain ⟨h1, h2, h3, _⟩ := hc) | (obtain ⟨h1, h2, _⟩ := hc)); (have hcells := hcc; obtain ⟨y0, y1, y2, y3, y4, y5, y6, _⟩ := hcc; obtain ⟨gc, rfl⟩ : ∃ x, x = gb := ⟨_, rfl⟩; obtain ⟨wc, rfl⟩ : ∃ x, x = w' := ⟨_, rfl⟩; obtain ⟨hxc, rfl⟩ : ∃ x, x = hx := ⟨_, rfl⟩))
    | (apply WL.gF; exact rfl; exact rfl; (focus (exact dec_false (by omega); done)))
    | (show WL _ _ _ _ _ _ _; first | apply WL.nil | (refine WL.au (k := ?_)))
    | (show Z _ _ _ _ _; apply Z.then_normal)
    | (show W _ _ _ _ _ _; first | apply W.seq | apply W.region))
  have hgc := heap_lt hb
  refine W.condKF rfl (dec_false (by omega)) ?_
  repeat' (first
    | ((show WL _ _ _ (⟨_, .call ⟨.value (.func 154), _, _⟩, _, _, _, _⟩ :: _) _ _ _); apply WL.call; exact rfl; exact rfl; exact rfl; exact rfl; exact circ_defined c _ (hC.ext (by (exact extA))) hz; rintro v' w' ⟨hx, a', cap', rfl, hO⟩; (obtain ⟨hOo, rfl⟩ : ∃ x, x = hO := ⟨_, rfl⟩; obtain ⟨hxo, rfl⟩ : ∃ x, x = hx := ⟨_, rfl⟩; obtain ⟨wo, rfl⟩ : ∃ x, x = w' := ⟨_, rfl⟩; obtain ⟨ao, rfl⟩ : ∃ x, x = a' := ⟨_, rfl⟩; obtain ⟨co, rfl⟩ : ∃ x, x = cap' := ⟨_, rfl⟩))
    | (apply WL.alloc tOk; exact rfl; exact rfl; exact rfl; intro gb w' hb hge hx; (obtain ⟨g3, rfl⟩ : ∃ x, x = gb := ⟨_, rfl⟩; obtain ⟨w3, rfl⟩ : ∃ x, x = w' := ⟨_, rfl⟩; obtain ⟨hx3, rfl⟩ : ∃ x, x = hx := ⟨_, rfl⟩; obtain ⟨hb3, rfl⟩ : ∃ x, x = hb := ⟨_, rfl⟩; obtain ⟨hge3, rfl⟩ : ∃ x, x = hge := ⟨_, rfl⟩))
    | (apply WL.storeB (w0 := wo) tOk; exact rfl; exact rfl; exact rfl; exact rfl; assumption; (exact extA); exact rfl; exact rfl; exact rfl; (exact extA); (first | assumption | omega | (focus (apply Nat.le_trans; rotate_left; assumption; exact Below.size (by (exact extA)); done))); intro w' hb hc hX' hU; have hcc := hc; obtain ⟨h1, h2, _⟩ := hc; (obtain ⟨w4, rfl⟩ : ∃ x, x = w' := ⟨_, rfl⟩; obtain ⟨hb4, rfl⟩ : ∃ x, x = hb := ⟨_, rfl⟩; obtain ⟨hU4, rfl⟩ : ∃ x, x = hU := ⟨_, rfl⟩; obtain ⟨hX4, rfl⟩ : ∃ x, x = hX' := ⟨_, rfl⟩))
    | (show WL _ _ _ _ _ _ _; first | apply WL.nil | (refine WL.au (k := ?_)))
    | (show Z _ _ _ _ _; apply Z.then_normal)
    | (show W _ _ _ _ _ _; first | apply W.seq | apply W.region | apply W.block | apply W.skip))
  have Ro := Own.row encI_ok hOo
  have hXo : Ext wc wo := hxo
  have hlb : wo.heap.size ≤ g3 := hge3
  refine W.loopW c.t.own.length (fun k w' => k ≤ c.t.own.length ∧ Ext wo w' ∧ w'.heap[g3]? = some (.cells (okV ((c.t.own.take k).all (okO c.max))) 4 (0, 0))) (fun k => [(1, .pointer (some ⟨gc, 0, none⟩)), (3, .pointer (some ⟨g3, 0, none⟩)), (4, .slice ao c.t.own.length co), (22, .slice ao c.t.own.length co), (23, .int .i64 (c.t.own.length : Nat)), (24, .int .i64 k)]) ⟨Nat.zero_le _, hX4, hb4⟩ (fun k w' h => h.1) ⟨rfl, rfl, rfl, rfl, rfl, rfl, trivial⟩ ?_
  clear hb4 hX4 hU4 hcc h1 hb3 hx3
  rintro k w5 ⟨hk, hX5, hc5⟩
  have hcb := (cells_heap hc5).1
  by_cases hlt : k < c.t.own.length
  · obtain ⟨x, hx⟩ := getI c.t.own hlt
    have hso := all_snoc (okO c.max) hx
    obtain ⟨bb, hbb⟩ : ∃ bb, (c.t.own.take k).all (okO c.max) = bb := ⟨_, rfl⟩
    rw [hbb] at hcb hc5 hso
    cases bb with
    | false =>
      repeat' (first
        | (apply W.condKT; exact rfl; (focus (exact dec_true (by omega); done)))
        | (apply WL.storeB (w0 := wo) tOk; exact rfl; exact rfl; exact rfl; exact rfl; assumption; (exact extA); exact rfl; exact rfl; exact rfl; (exact extA); (first | assumption | omega | (focus (apply Nat.le_trans; rotate_left; assumption; exact Below.size (by (exact extA)); done))); intro w' hb hc hX' hU; have hcc := hc; obtain ⟨h1, h2, _⟩ := hc)
        | (show WL _ _ _ _ _ _ _; first | apply WL.nil | (refine WL.au (k := ?_)) | (apply WL.index tOk; exact rfl; exact rfl; exact rfl; exact rfl; exact rfl; exact rfl; exact rfl; exact rfl; assumption; (exact extA); exact rfl; omega; assumption; intro b off h; have hcc := h; first | (obtain ⟨h1, h2, h3, h4, h5, h6, _⟩ := h) | (obtain ⟨h1, h2, h3, _⟩ := h) | (obtain ⟨h1, h2, _⟩ := h) | (obtain ⟨h1, _⟩ := h)) | (apply WL.guardF; exact rfl; exact rfl))
        | (show Z _ _ _ _ _; first | apply Z.then_normal | apply Z.block_normal)
        | (show W _ _ _ _ _ _; first | apply W.seq | apply W.region | apply W.block | apply W.skip))
      exact Z.againW ⟨by omega, (by (exact extA)), by rw [hso]; exact hb⟩ ⟨rfl, rfl, rfl, rfl, rfl, rfl, trivial⟩
    | true =>
      have hlt' : ((k : Nat) : Int) < (c.t.own.length : Int) := by omega
      by_cases f1 : 1 < x
      rotate_left
      · skip
        have e : okO c.max x = false := by unfold okO; rw [dec_false f1]; rfl
        rw [e] at hso
        repeat' (first
          | (apply WL.gF; exact rfl; exact rfl; (focus (first | exact dec_true hlt' | exact dec_false f1; done)))
          | (apply W.condKT; exact rfl; (focus (first | exact dec_true hlt' | exact dec_false f1; done)))
          | (apply WL.storeB (w0 := wo) tOk; exact rfl; exact rfl; exact rfl; exact rfl; assumption; (exact extA); exact rfl; exact rfl; exact rfl; (exact extA); (first | assumption | omega | (focus (apply Nat.le_trans; rotate_left; assumption; exact Below.size (by (exact extA)); done))); intro w' hb hc hX' hU; have hcc := hc; obtain ⟨h1, h2, _⟩ := hc)
          | (show WL _ _ _ _ _ _ _; first | apply WL.nil | (refine WL.au (k := ?_)) | (apply WL.index tOk; exact rfl; exact rfl; exact rfl; exact rfl; exact rfl; exact rfl; exact rfl; exact rfl; assumption; (exact extA); exact rfl; omega; assumption; intro b off h; have hcc := h; first | (obtain ⟨h1, h2, h3, h4, h5, h6, _⟩ := h) | (obtain ⟨h1, h2, h3, _⟩ := h) | (obtain ⟨h1, h2, _⟩ := h) | (obtain ⟨h1, _⟩ := h)) | (apply WL.guardF; exact rfl; exact rfl))
          | (show Z _ _ _ _ _; first | apply Z.then_normal | apply Z.block_normal)
          | (show W _ _ _ _ _ _; first | apply W.seq | apply W.region | apply W.block | apply W.skip))
        exact Z.againW ⟨by omega, (by (exact extA)), by rw [hso]; exact hb⟩ ⟨rfl, rfl, rfl, rfl, rfl, rfl, trivial⟩
      by_cases f2 : x % 2 = 0
      rotate_left
      · skip
        have e : okO c.max x = false := by unfold okO; rw [dec_false f2]; simp
        rw [e] at hso
        repeat' (first
          | (apply WL.gT; exact rfl; exact rfl; (focus (first | exact dec_true hlt' | exact dec_true f1 | exact dec_false f2; done)))
          | (apply WL.gF; exact rfl; exact rfl; (focus (first | exact dec_true hlt' | exact dec_true f1 | exact dec_false f2; done)))
          | (apply W.condKT; exact rfl; (focus (first | exact dec_true hlt' | exact dec_true f1 | exact dec_false f2; done)))
          | (apply WL.andA; exact rfl; exact rfl; exact rfl; exact rfl)
          | (apply WL.storeB (w0 := wo) tOk; exact rfl; exact rfl; exact rfl; exact rfl; assumption; (exact extA); exact rfl; exact rfl; exact rfl; (exact extA); (first | assumption | omega | (focus (apply Nat.le_trans; rotate_left; assumption; exact Below.size (by (exact extA)); done))); intro w' hb hc hX' hU; have hcc := hc; obtain ⟨h1, h2, _⟩ := hc)
          | (show WL _ _ _ _ _ _ _; first | apply WL.nil | (refine WL.au (k := ?_)) | (apply WL.index tOk; exact rfl; exact rfl; exact rfl; exact rfl; exact rfl; exact rfl; exact rfl; exact rfl; assumption; (exact extA); exact rfl; omega; assumption; intro b off h; have hcc := h; first | (obtain ⟨h1, h2, h3, h4, h5, h6, _⟩ := h) | (obtain ⟨h1, h2, h3, _⟩ := h) | (obtain ⟨h1, h2, _⟩ := h) | (obtain ⟨h1, _⟩ := h)) | (apply WL.guardF; exact rfl; exact rfl))
          | (show Z _ _ _ _ _; first | apply Z.then_normal | apply Z.block_normal)
          | (show W _ _ _ _ _ _; first | apply W.seq | apply W.region | apply W.block | apply W.skip))
        exact Z.againW ⟨by omega, (by (exact extA)), by rw [hso]; exact hb⟩ ⟨rfl, rfl, rfl, rfl, rfl, rfl, trivial⟩
      have e : okO c.max x = dec (x ≤ 2 * c.max) := by unfold okO; rw [dec_true f1, dec_true f2]; rfl
      rw [e] at hso
      repeat' (first
        | (apply WL.gT; exact rfl; exact rfl; (focus (first | exact dec_true hlt' | exact dec_true f1 | exact dec_true f2; done)))
        | (apply W.condKT; exact rfl; (focus (first | exact dec_true hlt' | exact dec_true f1 | exact dec_true f2; done)))
        | (apply WL.andA; exact rfl; exact rfl; exact rfl; exact rfl)
        | (apply WL.storeB (w0 := wo) tOk; exact rfl; exact rfl; exact rfl; exact rfl; assumption; (exact extA); exact rfl; exact rfl; exact rfl; (exact extA); (first | assumption | omega | (focus (apply Nat.le_trans; rotate_left; assumption; exact Below.size (by (exact extA)); done))); intro w' hb hc hX' hU; have hcc := hc; obtain ⟨h1, h2, _⟩ := hc)
        | (show WL _ _ _ _ _ _ _; first | apply WL.nil | (refine WL.au (k := ?_)) | (apply WL.index tOk; exact rfl; exact rfl; exact rfl; exact rfl; exact rfl; exact rfl; exact rfl; exact rfl; assumption; (exact extA); exact rfl; omega; assumption; intro b off h; have hcc := h; first | (obtain ⟨h1, h2, h3, h4, h5, h6, _⟩ := h) | (obtain ⟨h1, h2, h3, _⟩ := h) | (obtain ⟨h1, h2, _⟩ := h) | (obtain ⟨h1, _⟩ := h)))
        | (show Z _ _ _ _ _; first | apply Z.then_normal | apply Z.block_normal)
        | (show W _ _ _ _ _ _; first | apply W.seq | apply W.region | apply W.block | apply W.skip))
      exact Z.againW ⟨by omega, (by (exact extA)), by rw [hso]; exact hb⟩ ⟨rfl, rfl, rfl, rfl, rfl, rfl, trivial⟩
  obtain rfl : k = c.t.own.length := by omega
  rw [List.take_length] at hc5
  obtain ⟨b1, hb1⟩ : ∃ b1, c.t.own.all (okO c.max) = b1 := ⟨_, rfl⟩
  rw [hb1] at hc5
  have Rl := hC.lat.row.ext hxc
  repeat' (first
    | (apply W.condKF; exact rfl; (focus (exact dec_false (by omega); done)))
    | (show WL _ _ _ _ _ _ _; first | apply WL.nil | (refine WL.au (k := ?_)))
    | (show Z _ _ _ _ _; first | apply Z.then_normal | apply Z.then_exit | apply Z.block_exit)
    | (show W _ _ _ _ _ _; first | apply W.seq | apply W.region | apply W.block | apply W.exit))
  clear hcb
  have hX5' := hX5
  refine W.loopW c.lat.2.2.length (fun k w' => k ≤ c.lat.2.2.length ∧ Ext wo w' ∧ w'.heap[g3]? = some (.cells (okV (b1 && (c.lat.2.2.take k).all okR)) 4 (0, 0))) (fun k => [(1, .pointer (some ⟨gc, 0, none⟩)), (3, .pointer (some ⟨g3, 0, none⟩)), (4, .slice ao c.t.own.length co), (47, rowVal c.lat), (48, .int .i64 (c.lat.2.2.length : Nat)), (49, .int .i64 k)]) ⟨Nat.zero_le _, hX5, by rw [List.take_zero]; simpa using hc5⟩ (fun k w' h => h.1) ⟨rfl, rfl, rfl, rfl, rfl, rfl, trivial⟩ ?_
  clear hc5 hX5 hX5'
  rintro k w5 ⟨hk, hX5, hc5⟩
  have hcb := (cells_heap hc5).1
  by_cases hlt : k < c.lat.2.2.length
  · obtain ⟨x, hx⟩ := getI c.lat.2.2 hlt
    have hso := all_snoc okR hx
    have hlt' : ((k : Nat) : Int) < (c.lat.2.2.length : Int) := by omega
    obtain ⟨bb, hbb⟩ : ∃ bb, (b1 && (c.lat.2.2.take k).all okR) = bb := ⟨_, rfl⟩
    have hso' : (b1 && (c.lat.2.2.take (k + 1)).all okR) = (bb && okR x) := by rw [hso, ← hbb, Bool.and_assoc]
    rw [hbb] at hcb hc5
    clear hso
    repeat' (first
      | (show WL _ _ _ _ _ _ _; first | apply WL.nil | (refine WL.au (k := ?_)))
      | (show Z _ _ _ _ _; apply Z.then_normal)
      | (show W _ _ _ _ _ _; first | apply W.seq | apply W.region))
    refine W.condKT rfl (dec_true hlt') ?_
    repeat' (first
      | (apply WL.alloc tOk; exact rfl; exact rfl; exact rfl; intro gb w' hb hge hx; (obtain ⟨g8, rfl⟩ : ∃ x, x = gb := ⟨_, rfl⟩; obtain ⟨w6, rfl⟩ : ∃ x, x = w' := ⟨_, rfl⟩; obtain ⟨hx6, rfl⟩ : ∃ x, x = hx := ⟨_, rfl⟩; obtain ⟨hb6, rfl⟩ : ∃ x, x = hb := ⟨_, rfl⟩; obtain ⟨hge6, rfl⟩ : ∃ x, x = hge := ⟨_, rfl⟩))
      | (apply WL.storeB (w0 := w5) tOk; exact rfl; exact rfl; exact rfl; exact rfl; assumption; (exact extA); exact rfl; exact rfl; exact rfl; (exact extA); (first | assumption | omega | (focus (apply Nat.le_trans; rotate_left; assumption; exact Below.size (by (exact extA)); done))); intro w' hb hc hX' hU; have hcc := hc; obtain ⟨h1, h2, _⟩ := hc; (obtain ⟨w7, rfl⟩ : ∃ x, x = w' := ⟨_, rfl⟩; obtain ⟨hX7, rfl⟩ : ∃ x, x = hX' := ⟨_, rfl⟩; obtain ⟨hb7, rfl⟩ : ∃ x, x = hb := ⟨_, rfl⟩; have hC7 := cells_heap hb7; obtain ⟨i0, i1, i2, _⟩ := hC7))
      | (show WL _ _ _ _ _ _ _; first | apply WL.nil | (refine WL.au (k := ?_)) | (apply WL.index tOk; exact rfl; exact rfl; exact rfl; exact rfl; exact rfl; exact rfl; exact rfl; exact rfl; assumption; (exact extA); exact rfl; omega; assumption; intro b off h; have hcc := h; first | (obtain ⟨h1, h2, h3, h4, h5, h6, _⟩ := h) | (obtain ⟨h1, h2, h3, _⟩ := h) | (obtain ⟨h1, h2, _⟩ := h) | (obtain ⟨h1, _⟩ := h)) | (apply WL.guardF; exact rfl; exact rfl) | (apply WL.gD; exact rfl; exact rfl; all_goals intro _) | (apply WL.gB; exact rfl; exact rfl; all_goals intro _))
      | (show Z _ _ _ _ _; apply Z.then_normal)
      | (show W _ _ _ _ _ _; first | apply W.seq | apply W.region | apply W.block | apply W.skip))
    all_goals
      repeat' (first
        | (apply WL.storeB (w0 := wo) tOk; exact rfl; exact rfl; exact rfl; exact rfl; assumption; (exact extA); exact rfl; exact rfl; exact rfl; (exact extA); (first | assumption | omega | (focus (apply Nat.le_trans; rotate_left; assumption; exact Below.size (by (exact extA)); done))); intro w' hb hc hX' hU; have hcc := hc; obtain ⟨h1, h2, _⟩ := hc)
        | (show WL _ _ _ _ _ _ _; first | apply WL.nil | (refine WL.au (k := ?_)))
        | (show Z _ _ _ _ _; first | apply Z.then_normal | apply Z.block_normal)
        | (show W _ _ _ _ _ _; apply W.region))
      refine Z.againW ⟨by omega, (by (exact extA)), ?_⟩ ⟨rfl, rfl, rfl, rfl, rfl, rfl, trivial⟩
      rw [hso']
      clear hcells hcc hcb hc5 hC hz
      first
        | (rw [show (bb && okR x) = false by simp [okR, dec_true, dec_false, *]]; exact hb)
        | (rw [show (bb && okR x) = true by simp [okR, dec_true, dec_false, *]]; exact hb)
        | (rw [show (bb && okR x) = dec (x.2.2 = x.1) by simp [okR, dec_true, dec_false, *]]; exact hb)
  obtain rfl : k = c.lat.2.2.length := by omega
  rw [List.take_length] at hc5
  repeat' (first
    | (show WL _ _ _ _ _ _ _; first | apply WL.nil | (refine WL.au (k := ?_)))
    | (show Z _ _ _ _ _; apply Z.then_normal)
    | (show W _ _ _ _ _ _; first | apply W.seq | apply W.region))
  refine W.condKF rfl (dec_false (by omega)) ?_
  have hX5w : Ext wc w5 := (by (exact extA))
  have huse := circ_uses c wc w5 156 g3 [.pointer (some ⟨g3, 0, none⟩), .pointer (some ⟨gc, 0, none⟩)] (inR c.max) (b1 && c.lat.2.2.all okR) (hC.ext hxc) hz hX5w (Nat.le_trans (Below.size hXo) hlb) hc5 (fun x hx w9 b hbt hc9 => circ_Check1 w9 g3 gc c.max x b hc9 (But.cell hbt (Ext.cell hX5w y0) (fun he => by have h9 := Option.some.inj he; have h8 := Below.size hXo; simp only at h9; omega)) (by omega))
  repeat' (first
    | (((show WL _ _ _ (⟨_, .call ⟨.value (.func 155), _, _⟩, _, _, _, _⟩ :: _) _ _ _); apply WL.call; exact rfl; exact rfl; exact rfl; exact rfl; exact huse; rintro v' w6 ⟨rfl, hb6, hc6⟩))
    | (show WL _ _ _ _ _ _ _; first | apply WL.nil | (refine WL.au (k := ?_)))
    | (show Z _ _ _ _ _; first | apply Z.then_normal | apply Z.then_exit | apply Z.block_exit)
    | (show W _ _ _ _ _ _; first | apply W.seq | apply W.region | apply W.exit))
  have hU6 : Upd g3 (some ⟨g3, 0, none⟩) w5 w6 := ⟨hb6, fun k hk => by have h9 : g3 = k := Option.some.inj hk; omega⟩
  have hX6 : Ext wo w6 := hU6.ext hX5 hlb
  have hcb := (cells_heap hc6).1
  have hbad := bad_iff (c := c.t) hmax
  rw [show c.t.own.all (okO c.t.max) = b1 from hb1] at hbad
  obtain ⟨b2, hb2⟩ : ∃ b2, (b1 && c.lat.2.2.all okR && c.t.used.all (inR c.max)) = b2 := ⟨_, rfl⟩
  rw [hb2] at hc6 hcb
  have hbad2 : b2 = true ↔ ¬ (BadMax c.t ∨ BadOwn c.t ∨ BadUse c.t ∨ BadRes c.t) := by rw [← hb2]; exact hbad
  clear hbad huse
  cases b2 with
  | false =>
    have h5 : BadMax c.t ∨ BadOwn c.t ∨ BadUse c.t ∨ BadRes c.t := Classical.byContradiction fun h => by have := hbad2.2 h; cases this
    repeat' (first
      | (show WL _ _ _ _ _ _ _; first | apply WL.nil | (refine WL.au (k := ?_)))
      | (show Z _ _ _ _ _; apply Z.then_normal))
    refine W.condKT rfl rfl ?_
    repeat' (first
      | (show WL _ _ _ _ _ _ _; first | apply WL.nil | (refine WL.au (k := ?_)))
      | (show Z _ _ _ _ _; first | apply Z.then_normal | apply Z.then_ret)
      | (show W _ _ _ _ _ _; first | apply W.seq | apply W.region | apply W.ret))
    exact Z.body1 Try.results119 rfl fun m => ⟨by rw [chk_5 h5], Ext.at (by (exact extA)) m⟩
  | true =>
    have h5 := hbad2.1 rfl
    have hown : ∀ x ∈ c.t.own, 2 ≤ x ∧ x % 2 = 0 ∧ x ≤ 2 * c.max := fun x hx => by
      have hn : ¬ (x < 2 ∨ x % 2 = 1 ∨ 2 * c.t.max < x) := fun hh => h5 (.inr (.inl ⟨x, hx, hh⟩))
      rw [hcm] at hn; omega
    have hused : ∀ x ∈ c.t.used, 0 ≤ x ∧ x ≤ 2 * c.max + 1 := fun x hx => by
      have hn : ¬ (x < 0 ∨ 2 * c.t.max + 1 < x) := fun hh => h5 (.inr (.inr (.inl ⟨x, hx, hh⟩)))
      rw [hcm] at hn; omega
    repeat' (first
      | (show WL _ _ _ _ _ _ _; first | apply WL.nil | (refine WL.au (k := ?_)))
      | (show Z _ _ _ _ _; apply Z.then_normal))
    refine W.condKF rfl rfl ?_
    repeat' (first
      | ((apply WL.makeMap (kv := encK) (vv := isB); exact rfl; exact rfl; intro rm w7 hM7 hge7 hx7))
      | ((apply WL.insertF (B := 0) (w0 := w6) (vv := isB) tOk keyI; exact rfl; exact rfl; exact rfl; exact rfl; exact rfl; exact rfl; exact hM7; exact (by (exact extA)); exact hge7; intro w8 hM8 hX8 hU8))
      | (apply WL.alloc tOk; exact rfl; exact rfl; exact rfl; intro gb w' hb hge hx; (obtain ⟨g9, rfl⟩ : ∃ x, x = gb := ⟨_, rfl⟩; obtain ⟨w9, rfl⟩ : ∃ x, x = w' := ⟨_, rfl⟩; obtain ⟨hx9, rfl⟩ : ∃ x, x = hx := ⟨_, rfl⟩; obtain ⟨hb9, rfl⟩ : ∃ x, x = hb := ⟨_, rfl⟩; obtain ⟨hge9, rfl⟩ : ∃ x, x = hge := ⟨_, rfl⟩))
      | (apply WL.storeB (w0 := w8) tOk; exact rfl; exact rfl; exact rfl; exact rfl; assumption; (exact extA); exact rfl; exact rfl; exact rfl; (exact extA); (first | assumption | omega | (focus (apply Nat.le_trans; rotate_left; assumption; exact Below.size (by (exact extA)); done))); intro w' hb hc hX' hU; have hcc := hc; obtain ⟨h1, h2, _⟩ := hc; (obtain ⟨w10, rfl⟩ : ∃ x, x = w' := ⟨_, rfl⟩; obtain ⟨hb10, rfl⟩ : ∃ x, x = hb := ⟨_, rfl⟩; obtain ⟨hU10, rfl⟩ : ∃ x, x = hU := ⟨_, rfl⟩; obtain ⟨hX10, rfl⟩ : ∃ x, x = hX' := ⟨_, rfl⟩))
      | (show WL _ _ _ _ _ _ _; first | apply WL.nil | (refine WL.au (k := ?_)))
      | (show Z _ _ _ _ _; apply Z.then_normal)
      | (show W _ _ _ _ _ _; first | apply W.seq | apply W.region | apply W.block | apply W.skip))
    have hS : Lt.Sep w6.heap.size w10 [pcell g9 #[.map (some rm)] 125, pmap encK isB rm (keysL true (0 :: (c.t.own.take 0).map (· / 2)))] := Sep.newCell (Sep.newMap Sep.none' hX8 hM8 hge7 (Nat.le_refl _)) hX10 hb10 hge9 (Below.size hX8)
    clear hM7 hM8 hb9 hb10 hU10 hU8 hcc h1 hx9
    have hX10w : Ext w6 w10 := (by (exact extA))
    have hXw6 : Ext wc w6 := (by (exact extA))
    have hev : ∀ k, ∀ y ∈ c.t.own.take k, y % 2 = 0 ∧ 2 ≤ y := fun k y hy => by have := hown y (List.mem_of_mem_take hy); omega
    clear hX10 hX8 hx7
    refine W.loopW c.t.own.length (fun k w' => k ≤ c.t.own.length ∧ Ext w6 w' ∧ Lt.Sep w6.heap.size w' [pcell g9 #[.map (some rm)] 125, pmap encK isB rm (keysL true (0 :: (c.t.own.take k).map (· / 2)))] ∧ ∀ i x, i < k → c.t.own[i]? = some x → x ∉ c.t.own.take i) (fun k => [(1, .pointer (some ⟨gc, 0, none⟩)), (3, .pointer (some ⟨g3, 0, none⟩)), (9, .pointer (some ⟨g9, 0, none⟩)), (79, .slice ao c.t.own.length co), (80, .int .i64 (c.t.own.length : Nat)), (81, .int .i64 k)]) ⟨Nat.zero_le _, hX10w, hS, fun i x h => absurd h (Nat.not_lt_zero _)⟩ (fun k w' h => h.1) ⟨rfl, rfl, rfl, rfl, rfl, rfl, trivial⟩ ?_
    clear hS hX10w
    rintro k w11 ⟨hk, hX11, hS, hno⟩
    have hg9 := (cells_heap (hS.cell (i := 0) rfl)).1
    have hMp := hS.map (i := 1) rfl
    have hrm := (hS.lt (i := 1) rfl rfl).1
    have hX11o : Ext wo w11 := (by (exact extA))
    by_cases hlt : k < c.t.own.length
    · obtain ⟨x, hx⟩ := getI c.t.own hlt
      have hxo := hown x (List.mem_of_getElem? hx)
      have hhm := half_mem (x := x) (hev k)
      rw [show x - x % 2 = x by omega] at hhm
      by_cases hin : x ∈ c.t.own.take k
      · have htw : Twice c.t := ⟨k, x, hx, hin⟩
        repeat' (first
          | (show WL _ _ _ _ _ _ _; first | apply WL.nil | (refine WL.au (k := ?_)))
          | (show Z _ _ _ _ _; apply Z.then_normal)
          | (show W _ _ _ _ _ _; first | apply W.seq | apply W.region))
        refine W.condKT rfl (dec_true (by omega)) ?_
        repeat' (first
          | ((apply WL.lookKeys tOk keyI; exact rfl; exact rfl; exact rfl; exact rfl; exact rfl; exact rfl; exact rfl; exact rfl; exact hMp))
          | (show WL _ _ _ _ _ _ _; first | apply WL.nil | (refine WL.au (k := ?_)) | (apply WL.index tOk; exact rfl; exact rfl; exact rfl; exact rfl; exact rfl; exact rfl; exact rfl; exact rfl; assumption; (exact extA); exact rfl; omega; assumption; intro b off h; have hcc := h; first | (obtain ⟨h1, h2, h3, h4, h5, h6, _⟩ := h) | (obtain ⟨h1, h2, h3, _⟩ := h) | (obtain ⟨h1, h2, _⟩ := h) | (obtain ⟨h1, _⟩ := h)))
          | (show Z _ _ _ _ _; apply Z.then_normal)
          | (show W _ _ _ _ _ _; first | apply W.seq | apply W.region | apply W.block | apply W.skip))
        refine W.condKT rfl (dec_true (hhm.2 (.inr hin))) ?_
        repeat' (first
          | (show WL _ _ _ _ _ _ _; first | apply WL.nil | (refine WL.au (k := ?_)))
          | (show Z _ _ _ _ _; first | apply Z.then_normal | apply Z.then_ret | apply Z.block_ret)
          | (show W _ _ _ _ _ _; first | apply W.seq | apply W.region | apply W.ret))
        exact Z.body1 Try.results119 rfl fun m => ⟨by rw [chk_7 h5 htw], Ext.at (by (exact extA)) m⟩
      · have hnm : ¬ x / 2 ∈ (0 :: (c.t.own.take k).map (· / 2) : List Int) := fun h => by
          rcases hhm.1 h with h | h
          · omega
          · exact hin h
        repeat' (first
          | (show WL _ _ _ _ _ _ _; first | apply WL.nil | (refine WL.au (k := ?_)))
          | (show Z _ _ _ _ _; apply Z.then_normal)
          | (show W _ _ _ _ _ _; first | apply W.seq | apply W.region))
        refine W.condKT rfl (dec_true (by omega)) ?_
        repeat' (first
          | ((apply WL.lookKeys tOk keyI; exact rfl; exact rfl; exact rfl; exact rfl; exact rfl; exact rfl; exact rfl; exact rfl; exact hMp))
          | (show WL _ _ _ _ _ _ _; first | apply WL.nil | (refine WL.au (k := ?_)) | (apply WL.index tOk; exact rfl; exact rfl; exact rfl; exact rfl; exact rfl; exact rfl; exact rfl; exact rfl; assumption; (exact extA); exact rfl; omega; assumption; intro b off h; have hcc := h; first | (obtain ⟨h1, h2, h3, h4, h5, h6, _⟩ := h) | (obtain ⟨h1, h2, h3, _⟩ := h) | (obtain ⟨h1, h2, _⟩ := h) | (obtain ⟨h1, _⟩ := h)))
          | (show Z _ _ _ _ _; apply Z.then_normal)
          | (show W _ _ _ _ _ _; first | apply W.seq | apply W.region | apply W.block | apply W.skip))
        refine W.condKF rfl (dec_false hnm) ?_
        repeat' (first
          | ((apply WL.mapPutF (B := 0) (w0 := w6) (vv := isB) tOk keyI; exact rfl; exact rfl; exact rfl; exact rfl; exact rfl; exact rfl; exact hMp; exact (by (exact extA)); assumption; intro w' hM' hX' hU))
          | (show WL _ _ _ _ _ _ _; first | apply WL.nil | (refine WL.au (k := ?_)))
          | (show Z _ _ _ _ _; first | apply Z.then_normal | apply Z.block_normal)
          | (show W _ _ _ _ _ _; first | apply W.region | apply W.skip))
        rw [mget_keys, dec_false hnm] at hM'
        have hS4 := Sep.updMap (i := 1) rfl hU hM' hS (by (exact extA)) (Below.size (by (exact extA)))
        refine Z.againW ⟨by omega, (by (exact extA)), ?_, fun i z hi hz => ?_⟩ ⟨rfl, rfl, rfl, rfl, rfl, rfl, trivial⟩
        · rw [take_succ' hx, List.map_append, ← List.cons_append, List.map_singleton, keysL_snoc]; exact hS4
        · by_cases hik : i = k
          · subst hik; rw [hx] at hz; cases hz; exact hin
          · exact hno i z (by omega) hz
    obtain rfl : k = c.t.own.length := by omega
    rw [List.take_length] at hS hMp
    have h7 : ¬ Twice c.t := fun ⟨i, x, a1, a2⟩ => hno i x (lt_of_get a1) a1 a2
    repeat' (first
      | (show WL _ _ _ _ _ _ _; first | apply WL.nil | (refine WL.au (k := ?_)))
      | (show Z _ _ _ _ _; apply Z.then_normal)
      | (show W _ _ _ _ _ _; first | apply W.seq | apply W.region))
    refine W.condKF rfl (dec_false (by omega)) ?_
    have hc11 : w11.heap[g3]? = some (.cells (okV true) 4 (0, 0)) := by rw [hX11.block g3 (heap_lt hc6)]; exact hc6
    have hgm : ∀ g ∈ c.gates.2.2, g.1 ∈ c.t.own ∧ g.2.1 ∈ c.t.used ∧ g.2.2 ∈ c.t.used := fun g hg =>
      ⟨List.mem_append.2 (.inr (List.mem_map.2 ⟨g, hg, rfl⟩)), List.mem_append.2 (.inr (List.mem_flatMap.2 ⟨g, hg, by simp⟩)), List.mem_append.2 (.inr (List.mem_flatMap.2 ⟨g, hg, by simp⟩))⟩
    have hok : gsOk c.gates.2.2 := fun g hg => by
      obtain ⟨r1, r2, r3⟩ := hgm g hg
      have := hown _ r1
      have := hused _ r2
      have := hused _ r3
      omega
    have honce : Once c.gates.2.2 := once_of (c := c.t) h7 fun x hx => (hown x hx).2.1
    have hn9 := none_iff (c := c.t) hown hused
    obtain ⟨ks, hks⟩ : ∃ ks, (0 :: c.t.own.map (· / 2) : List Int) = ks := ⟨_, rfl⟩
    rw [hks] at hMp hn9
    have hXc11 : Ext wc w11 := (by (exact extA))
    have hne3 : g9 ≠ g3 := fun he => by have h1 := heap_lt hc6; have h2 := (hS.lt (i := 0) rfl rfl).1; omega
    have hne4 : rm ≠ g3 := fun he => by have h1 := heap_lt hc6; omega
    have huse := circ_uses c wc w11 157 g3 [.pointer (some ⟨g3, 0, none⟩), .pointer (some ⟨g9, 0, none⟩)] (inK ks) true (hC.ext hxc) hz hXc11 (Nat.le_trans (Below.size hXo) hlb) hc11 (fun x hx w9 b hbt hc9 => circ_Check2 w9 g3 g9 rm ks x b hc9 (But.cell hbt hg9 (fun he => hne3 (by have h9 := Option.some.inj he; simp only at h9; omega))) (hMp.keep (hbt.block rm hMp.lt (fun he => hne4 (by have h9 := Option.some.inj he; omega)))) (by have := hused x hx; omega))
    repeat' (first
      | (((show WL _ _ _ (⟨_, .call ⟨.value (.func 155), _, _⟩, _, _, _, _⟩ :: _) _ _ _); apply WL.call; exact rfl; exact rfl; exact rfl; exact rfl; exact huse; rintro v' w12 ⟨rfl, hb12, hc12⟩))
      | (show WL _ _ _ _ _ _ _; first | apply WL.nil | (refine WL.au (k := ?_)))
      | (show Z _ _ _ _ _; first | apply Z.then_normal | apply Z.then_exit | apply Z.block_exit)
      | (show W _ _ _ _ _ _; first | apply W.seq | apply W.region | apply W.block | apply W.exit))
    have hU12 : Upd g3 (some ⟨g3, 0, none⟩) w11 w12 := ⟨hb12, fun k hk => by have h9 : g3 = k := Option.some.inj hk; omega⟩
    have hX12 : Ext wo w12 := hU12.ext hX11o hlb
    have hcb := (cells_heap hc12).1
    obtain ⟨b3, hb3⟩ : ∃ b3, (true && c.t.used.all (inK ks)) = b3 := ⟨_, rfl⟩
    rw [hb3] at hc12 hcb hn9
    cases b3 with
    | false =>
      have h9 : NoneC c.t := Classical.byContradiction fun h => by have := hn9.2 h; cases this
      repeat' (first
        | (show WL _ _ _ _ _ _ _; first | apply WL.nil | (refine WL.au (k := ?_)))
        | (show Z _ _ _ _ _; apply Z.then_normal))
      refine W.condKT rfl rfl ?_
      repeat' (first
        | (show WL _ _ _ _ _ _ _; first | apply WL.nil | (refine WL.au (k := ?_)))
        | (show Z _ _ _ _ _; first | apply Z.then_normal | apply Z.then_ret | apply Z.block_ret)
        | (show W _ _ _ _ _ _; first | apply W.seq | apply W.region | apply W.ret))
      exact Z.body1 Try.results119 rfl fun m => ⟨by rw [chk_9 h5 h7 h9], Ext.at (by (exact extA)) m⟩
    | true =>
      have h9 := hn9.1 rfl
      repeat' (first
        | (show WL _ _ _ _ _ _ _; first | apply WL.nil | (refine WL.au (k := ?_)))
        | (show Z _ _ _ _ _; apply Z.then_normal))
      refine W.condKF rfl rfl ?_
      have hX12w : Ext w w12 := (by (exact extA))
      have Rg := hC.gates.row.ext hX12w
      have hcu := hcells.ext (show Ext wc w12 from (by (exact extA)))
      have x0 : Cells w12 gc 0 c.vals := hcu
      have x6 : w12.cell? ⟨gc, 0 + 1 + 1 + 1 + 1 + 1 + 1, none⟩ = some (rowVal c.gates) := hcu.2.2.2.2.2.2.1
      repeat' (first
        | (show W _ _ (.region 28 _ _) _ _ _; apply W.regionGX (.fl true 3 (.fl false 0 (.fl false 4 (.fl true 5 (.br 1 (.fl true 2 (.fl true 6 (.fl true 7 .done))) .stop))))) [1, 2, 4, 5, 6, 7] tMix; kernel_rfl)
        | ((show WL _ _ _ (⟨_, .call ⟨.value (.func 111), _, _⟩, _, _, _, _⟩ :: _) _ _ _); apply WL.call; exact rfl; exact rfl; exact rfl; exact rfl; exact circ_Order c _ (Rg.ext (by (exact extA))) hok (by omega) honce; rintro v' w' ⟨hx, a', cap', rfl, hO⟩; (obtain ⟨hOd, rfl⟩ : ∃ x, x = hO := ⟨_, rfl⟩; obtain ⟨hxd, rfl⟩ : ∃ x, x = hx := ⟨_, rfl⟩; obtain ⟨wd, rfl⟩ : ∃ x, x = w' := ⟨_, rfl⟩; obtain ⟨ad, rfl⟩ : ∃ x, x = a' := ⟨_, rfl⟩; obtain ⟨cd, rfl⟩ : ∃ x, x = cap' := ⟨_, rfl⟩))
        | (show SX _ _ _ _ _ _ _ _ _; first | (apply SX.done; intro w' hx) | (apply SX.fl0; exact rfl) | (apply SX.fl1; exact rfl; (exact extA)) | (apply SX.br1; exact rfl; intro w' hx))
        | (show FL _ _ _ _ _ _ _ _; first | apply FL.nilX | (apply FL.loadE tOk; exact rfl; exact rfl; exact rfl; exact rfl; exact rfl; assumption) | (apply FL.loadAE tOk; exact rfl; exact rfl; exact rfl; exact rfl; exact rfl; assumption; exact rfl))
        | (show FL _ _ _ _ _ _ _ _; (refine FL.au (k := ?_)))
        | (show Z _ _ _ _ _; (apply Z.sxE; (exact extA)))
        | (show WL _ _ _ _ _ _ _; first | apply WL.nil | (refine WL.au (k := ?_)))
        | (show Z _ _ _ _ _; first | apply Z.then_normal | apply Z.block_normal | apply Z.then_ret | apply Z.block_ret)
        | (show W _ _ _ _ _ _; first | apply W.seq | apply W.region | apply W.skip | apply W.ret | (apply W.condD; exact rfl; all_goals intro _)))
      all_goals (rename_i hlen; rw [show (natI (ordL c.gates.2.2)).length = (ordL c.t.gates).length from List.length_map _] at hlen)
      · exact Z.body1 Try.results119 rfl fun m => ⟨by rw [chk_8 h5 h7 h9 (show (ordL c.t.gates).length < c.t.gates.length by have : c.t.gates = c.gates.2.2 := rfl; rw [this] at hlen ⊢; omega)], Ext.at (by (exact extA)) m⟩
      · exact Z.body1 Try.results119 rfl fun m => ⟨by rw [chk_0 h5 h7 h9 (show ¬ (ordL c.t.gates).length < c.t.gates.length by have : c.t.gates = c.gates.2.2 := rfl; rw [this] at hlen ⊢; omega)], Ext.at (by (exact extA)) m⟩
end Go.Proofs.Ythpnahapiodflaa
namespace Go.Proofs.Ythpnahapiodflaa
open Go Go.Lt Go.RowKit
set_option linter.unusedVariables false
set_option linter.unusedSimpArgs false
set_option maxRecDepth 20000

abbrev netP (B g4 g5 : Nat) (an : Option Addr) (cn : Nat) (aa : Option Addr) (ca : Nat) (s : NA) : List Piece :=
  [pcell g4 #[.slice an s.1.length cn] 50, pcell g5 #[.slice aa s.2.length ca] 23, prow 2 encN 104 B an cn s.1, prow 1 encI 3 B aa ca s.2]
theorem circ_Net2 (w : World) (g5 : Nat) (aa : Option Addr) (ca : Nat) (A : List Int) (l z : Int) (hc : w.cell? ⟨g5, 0, none⟩ = some (.slice aa A.length ca)) (R : Row 1 encI w aa A) (h0 : 0 ≤ l) (hl9 : l ≤ 4294967296) (hz : A[(l / 2).toNat]? = some z) (hz0 : 0 ≤ z ∧ z ≤ 4294967296) :
    Still Try.prog 138 [.int .i64 l, .pointer (some ⟨g5, 0, none⟩)] w (.int .i64 (litI A l)) := by
  have hlt := lt_of_get hz
  have hl := R.len
  have e0 : litI A l = xorI z (l % 2) := litI_some hz
  refine Spec.of _ Try.func138 rfl Try.ntmps138 (by kernel_rfl) rfl ?_
  repeat' (first
    | (apply WL.andA; exact rfl; exact rfl; exact rfl; exact rfl)
    | (apply WL.xorI; exact rfl; exact rfl; exact rfl; exact rfl; omega; omega)
    | (show WL _ _ _ _ _ _ _; first | apply WL.nil | (refine WL.au (k := ?_)) | (apply WL.index tOk; exact rfl; exact rfl; exact rfl; exact rfl; exact rfl; exact rfl; exact rfl; exact rfl; assumption; (exact extA); exact rfl; omega; assumption; intro b off h; have hcc := h; first | (obtain ⟨h1, h2, h3, h4, h5, h6, _⟩ := h) | (obtain ⟨h1, h2, h3, _⟩ := h) | (obtain ⟨h1, h2, _⟩ := h) | (obtain ⟨h1, _⟩ := h)))
    | (show Z _ _ _ _ _; apply Z.then_normal)
    | (show W _ _ _ _ _ _; first | apply W.seq | apply W.region | apply W.ret))
  exact Z.body1 Try.results138 rfl fun m => ⟨by rw [e0], m, rfl⟩
set_option maxHeartbeats 8000000 in
theorem circ_Net1 (w0 w : World) (g4 g5 : Nat) (an : Option Addr) (cn : Nat) (aa : Option Addr) (ca : Nat) (s : NA) (rest : List Piece) (l : Int) (x : Int × Int) (hX : Ext w0 w) (hS : Lt.Sep w0.heap.size w (netP w0.heap.size g4 g5 an cn aa ca s ++ rest)) (hl : 0 ≤ l ∧ (l / 2).toNat < s.2.length) (hl2 : l ≤ 4294967296) (hs : s.1.length ≤ 1000000) :
    Lt.Spec Try.prog 137 [.int .i64 l, .agg (encN x).toArray, .pointer (some ⟨g4, 0, none⟩), .pointer (some ⟨g5, 0, none⟩)] w (fun v w' => v = .tuple #[] ∧ Ext w0 w' ∧ ∃ an' cn', Lt.Sep w0.heap.size w' (netP w0.heap.size g4 g5 an' cn' aa ca (cput s l x) ++ rest)) := by
  obtain ⟨N, A⟩ := s
  dsimp only at hs hl
  have k0 := (cells_heap (hS.cell (i := 0) rfl)).1
  have k1 := (cells_heap (hS.cell (i := 1) rfl)).1
  have hg4 := (hS.lt (i := 0) rfl rfl).1
  have hN := hS.row (i := 2) rfl
  obtain ⟨zz, hzz⟩ := getI A hl.2
  refine Spec.of _ Try.func137 rfl Try.ntmps137 (by kernel_rfl) rfl ?_
  repeat' (first
    | (apply WL.box; exact rfl; exact rfl; exact rfl; intro gb w' hb hge hc hx; have hcc := hc; (first | (obtain ⟨h1, h2, h3, _⟩ := hc) | (obtain ⟨h1, h2, _⟩ := hc)); (have hcells := hcc; obtain ⟨y0, y1, _⟩ := hcc; obtain ⟨w1, rfl⟩ : ∃ x, x = w' := ⟨_, rfl⟩; obtain ⟨hx1, rfl⟩ : ∃ x, x = hx := ⟨_, rfl⟩))
    | (apply WL.lit tOk; exact rfl; exact rfl; exact rfl; exact rfl; exact rfl; exact rfl; (first | exact rfl | kernel_rfl | (simp [Instr.fill, catCells]; done)); exact rfl; intro gb w' hb hge hc hx; (obtain ⟨w2, rfl⟩ : ∃ x, x = w' := ⟨_, rfl⟩; obtain ⟨hx2, rfl⟩ : ∃ x, x = hx := ⟨_, rfl⟩))
    | (apply WL.append1 (z := (x)) tOk encN_ok; exact rfl; exact rfl; exact rfl; exact rfl; exact rfl; exact rfl; exact rfl; exact rfl; exact rfl; exact rfl; assumption; (exact extA); (first | exact rfl | (focus (simp only [List.length_set]; done)) | (focus (simp; done)) | (focus (simp [*]; done)) | omega | (focus (simp only [List.length_set]; omega))); assumption; exact rfl; exact rfl; (exact extA); (first | omega | (simp; omega) | (simp at *; omega)); intro a' cap' w' hO hX' hU hF)
    | (show WL _ _ _ _ _ _ _; first | apply WL.nil | (refine WL.au (k := ?_)))
    | (show Z _ _ _ _ _; apply Z.then_normal)
    | (show W _ _ _ _ _ _; first | apply W.seq | apply W.region))
  obtain ⟨w3, rfl⟩ : ∃ x, x = w' := ⟨_, rfl⟩; obtain ⟨an2, rfl⟩ : ∃ x, x = a' := ⟨_, rfl⟩; obtain ⟨cn2, rfl⟩ : ∃ x, x = cap' := ⟨_, rfl⟩
  have hS1 : Lt.Sep w0.heap.size w3 ([pcell g4 #[.slice an N.length cn] 50, pcell g5 #[.slice aa A.length ca] 23, prow 2 encN 104 w0.heap.size an2 cn2 (N ++ [x]), prow 1 encI 3 w0.heap.size aa ca A] ++ rest) := Sep.updRow (i := 2) rfl hU hO hF hS (by (exact extA)) (Below.size (by (exact extA)))
  have hX3 : Ext w0 w3 := (by (exact extA))
  have hc4 := hS1.cell (i := 0) rfl
  repeat' (first
    | (apply WL.storeB (w0 := w0) tOk; exact rfl; exact rfl; exact rfl; exact rfl; assumption; (exact extA); exact rfl; exact rfl; exact rfl; (exact extA); (first | assumption | omega | (focus (apply Nat.le_trans; rotate_left; assumption; exact Below.size (by (exact extA)); done))); intro w' hb hc hX' hU; have hcc := hc; obtain ⟨h1, h2, _⟩ := hc; (obtain ⟨w4, rfl⟩ : ∃ x, x = w' := ⟨_, rfl⟩; obtain ⟨hb4, rfl⟩ : ∃ x, x = hb := ⟨_, rfl⟩; obtain ⟨hU4, rfl⟩ : ∃ x, x = hU := ⟨_, rfl⟩; obtain ⟨hX4, rfl⟩ : ∃ x, x = hX' := ⟨_, rfl⟩; have hS2 : Lt.Sep w0.heap.size w4 ([pcell g4 #[.slice an2 (N ++ [x]).length cn2] 50, pcell g5 #[.slice aa A.length ca] 23, prow 2 encN 104 w0.heap.size an2 cn2 (N ++ [x]), prow 1 encI 3 w0.heap.size aa ca A] ++ rest) := Sep.updCell (i := 0) rfl hU4 hb4 hS1 (Ext.refl _) (Below.size hX3); have p0 := (cells_heap (hS2.cell (i := 0) rfl)).1; have p1 := (cells_heap (hS2.cell (i := 1) rfl)).1; have hA4 := hS2.row (i := 3) rfl; have hnl : (N ++ [x]).length = N.length + 1 := by simp))
    | (apply WL.indexO tOk; exact rfl; exact rfl; exact rfl; exact rfl; exact rfl; exact rfl; exact rfl; exact rfl; assumption; (exact extA); exact encI_ok; (first | exact rfl | (focus (simp only [List.length_set]; done)) | (focus (simp; done)) | (focus (simp [*]; done)) | omega | (focus (simp only [List.length_set]; omega))); omega; assumption; intro gb ha hc; cases ha; have hcc := hc; first | (obtain ⟨h1, h2, h3, _⟩ := hc) | (obtain ⟨h1, h2, _⟩ := hc) | (obtain ⟨h1, _⟩ := hc))
    | (apply WL.storeO (z' := (2 * ((N ++ [x]).length : Int))) tOk; exact rfl; exact rfl; exact rfl; exact rfl; assumption; (exact extA); exact rfl; exact rfl; exact rfl; exact encI_ok; assumption; exact rfl; (exact extA); intro w' hO hX' hU)
    | (show WL _ _ _ _ _ _ _; first | apply WL.nil | (refine WL.au (k := ?_)))
    | (show Z _ _ _ _ _; apply Z.then_normal)
    | (show W _ _ _ _ _ _; apply W.region))
  refine Z.body0n Try.results137 fun m => ⟨rfl, hX'.at m, an2, cn2, ?_⟩
  have hS3 := Sep.updRow (i := 3) rfl hU hO (.inl rfl) hS2 (Ext.refl _) (Below.size hX4)
  have e1 : cput (N, A) l x = (N ++ [x], A.set (l / 2).toNat (2 * ((N ++ [x]).length : Int))) := by unfold cput; rw [hnl]; rfl
  rw [e1]
  refine Sep.ext (w := w') ?_ ((Ext.refl _).at m)
  show Lt.Sep _ _ ([pcell g4 #[.slice an2 (N ++ [x]).length cn2] 50, pcell g5 #[.slice _ (A.set (l / 2).toNat (2 * ((N ++ [x]).length : Int))).length ca] 23, prow 2 encN 104 w0.heap.size an2 cn2 (N ++ [x]), prow 1 encI 3 w0.heap.size _ ca (A.set (l / 2).toNat (2 * ((N ++ [x]).length : Int)))] ++ rest)
  rw [List.length_set]
  exact hS3
end Go.Proofs.Ythpnahapiodflaa
namespace Go.Proofs.Ythpnahapiodflaa
open Go Go.Lt Go.RowKit
set_option linter.unusedVariables false
set_option linter.unusedSimpArgs false
set_option maxRecDepth 20000

/-- Up to a place all is -1, behind the first. -/
structure AtK (m k : Nat) (A : List Int) : Prop where
  len : A.length = m + 1
  zero : A[0]? = some 0
  neg : ∀ u : Nat, 1 ≤ u → u < k → A[u]? = some (-1)
theorem AtK.all {m : Nat} {A : List Int} (h : AtK m (m + 1) A) : A = cAt0 (m : Int) := by
  apply List.ext_getElem?
  intro u
  have hr := PutOk.start m
  by_cases hu : u < m + 1
  · cases u with
    | zero => rw [h.zero]; exact hr.zero.symm
    | succ u => rw [h.neg (u + 1) (by omega) hu]; exact (hr.not (u + 1) (by omega) (by omega) (fun l hl => by cases hl)).symm
  · rw [List.getElem?_eq_none (by have := h.len; omega)]
    have h2 : (cAt0 (m : Int)).length = m + 1 := hr.len2
    exact (List.getElem?_eq_none (by omega)).symm
theorem Sep.perm4 {B : Nat} {w : World} {p q r s : Piece} (hS : Lt.Sep B w [p, q, r, s]) : Lt.Sep B w [r, p, s, q] := by
  refine hS.pick (fun i => match i with | 0 => 2 | 1 => 0 | 2 => 3 | _ => 1) (fun i x h => ?_) (fun i j hi hj hne => ?_)
  · match i, h with
    | 0, h => exact h
    | 1, h => exact h
    | 2, h => exact h
    | 3, h => exact h
  · have hi' : i < 4 := hi
    have hj' : j < 4 := hj
    match i, j, hi', hj', hne with
    | 0, 1, _, _, _ => decide
    | 0, 2, _, _, _ => decide
    | 0, 3, _, _, _ => decide
    | 1, 0, _, _, _ => decide
    | 1, 2, _, _, _ => decide
    | 1, 3, _, _, _ => decide
    | 2, 0, _, _, _ => decide
    | 2, 1, _, _, _ => decide
    | 2, 3, _, _, _ => decide
    | 3, 0, _, _, _ => decide
    | 3, 1, _, _, _ => decide
    | 3, 2, _, _, _ => decide
    | 0, 0, _, _, h => exact absurd rfl h
    | 1, 1, _, _, h => exact absurd rfl h
    | 2, 2, _, _, h => exact absurd rfl h
    | 3, 3, _, _, h => exact absurd rfl h
set_option maxHeartbeats 32000000 in
theorem circ_Net (c : Circ) (w : World) (hC : CAt w c) (hg : GoodC' c.t) (hz : SzC c.t 100000) :
    Lt.Spec Try.prog 87 [c.val] w (IsFresh2 2 encN 104 1 encI 3 w (cNet c.t).1 (cNet c.t).2) := by
  have z1 : c.ins.2.2.length ≤ 100000 := hz.1
  have z2 : c.lat.2.2.length ≤ 100000 := hz.2.1
  have z6 : c.gates.2.2.length ≤ 100000 := hz.2.2.2.2.2
  have hm : 0 ≤ c.max ∧ c.max ≤ 16777216 := hg.max
  have hcm : c.t.max = c.max := rfl
  obtain ⟨m, hmm⟩ : ∃ m : Nat, c.max = (m : Int) := ⟨c.max.toNat, by omega⟩
  have hmt : c.max.toNat = m := by omega
  have hown : ∀ x ∈ c.t.own, 2 ≤ x ∧ x % 2 = 0 ∧ x ≤ 2 * c.max := hg.own
  have hused : ∀ x ∈ c.t.used, 0 ≤ x ∧ x ≤ 2 * c.max + 1 := hg.used
  refine Spec.of _ Try.func87 rfl Try.ntmps87 (by kernel_rfl) rfl ?_
  repeat' (first
    | (apply WL.box; exact rfl; exact rfl; exact rfl; intro gb w' hb hge hc hx; have hcc := hc; (first | (obtain ⟨h1, h2, h3, _⟩ := hc) | (obtain ⟨h1, h2, _⟩ := hc)); (have hcells := hcc; obtain ⟨y0, y1, y2, y3, y4, y5, y6, _⟩ := hcc; obtain ⟨gc, rfl⟩ : ∃ x, x = gb := ⟨_, rfl⟩; obtain ⟨wc, rfl⟩ : ∃ x, x = w' := ⟨_, rfl⟩; obtain ⟨hxc, rfl⟩ : ∃ x, x = hx := ⟨_, rfl⟩; have hS : Lt.Sep wc.heap.size wc [prow 2 encN 104 wc.heap.size none 0 []] := Sep.newRow Sep.none' (Ext.refl _) Own.nil (fun k hk => by cases hk) (Nat.le_refl _)))
    | (apply WL.alloc tOk; exact rfl; exact rfl; exact rfl; intro gb w' hb hge hx; replace hS := Sep.newCell (Sep.ext hS (by (exact extA))) hx hb hge (by (first | exact Nat.le_refl _ | exact Below.size (by (exact extA)))); (try simp only [List.set_cons_zero, List.set_cons_succ] at hS); (try have hR0 := hS.row (i := 0) rfl); (try have hR1 := hS.row (i := 1) rfl); (try have hR2 := hS.row (i := 2) rfl); (try have hR3 := hS.row (i := 3) rfl); (try have hR4 := hS.row (i := 4) rfl); (try have hC0 := hS.cell (i := 0) rfl); (try have hD0 := (cells_heap hC0).1); (try have hE0 := (cells_heap hC0).2.1); (try have hF0 := (cells_heap hC0).2.2.1); (try have hG0 := (cells_heap hC0).2.2.2.1); (try have hC1 := hS.cell (i := 1) rfl); (try have hD1 := (cells_heap hC1).1); (try have hE1 := (cells_heap hC1).2.1); (try have hF1 := (cells_heap hC1).2.2.1); (try have hG1 := (cells_heap hC1).2.2.2.1); (try have hC2 := hS.cell (i := 2) rfl); (try have hD2 := (cells_heap hC2).1); (try have hE2 := (cells_heap hC2).2.1); (try have hF2 := (cells_heap hC2).2.2.1); (try have hG2 := (cells_heap hC2).2.2.2.1); (try have hC3 := hS.cell (i := 3) rfl); (try have hD3 := (cells_heap hC3).1); (try have hE3 := (cells_heap hC3).2.1); (try have hF3 := (cells_heap hC3).2.2.1); (try have hG3 := (cells_heap hC3).2.2.2.1); (try have hC4 := hS.cell (i := 4) rfl); (try have hD4 := (cells_heap hC4).1); (try have hE4 := (cells_heap hC4).2.1); (try have hF4 := (cells_heap hC4).2.2.1); (try have hG4 := (cells_heap hC4).2.2.2.1); (try have hM0 := hS.map (i := 0) rfl); (try have hM1 := hS.map (i := 1) rfl); (try have hM2 := hS.map (i := 2) rfl); (try have hM3 := hS.map (i := 3) rfl); (try have hM4 := hS.map (i := 4) rfl); (first | (have h_0 := g4; clear h_0) | (obtain ⟨g4, rfl⟩ : ∃ x, x = gb := ⟨_, rfl⟩)))
    | (apply WL.make (w0 := wc) (z := (0:Int)) tOk; exact rfl; exact rfl; exact rfl; exact rfl; exact rfl; exact rfl; exact rfl; exact rfl; exact rfl; exact encI_ok; exact rfl; exact rfl; (exact extA); (first | omega | (simp; omega) | (simp at *; omega)); intro gb w' hO hge hx; replace hS := Sep.newRow (Sep.ext hS (by (exact extA))) hx hO (fun k hk => by cases hk; exact hge) (by (first | exact Nat.le_refl _ | exact Below.size (by (exact extA)))); (try simp only [List.set_cons_zero, List.set_cons_succ] at hS); (try have hR0 := hS.row (i := 0) rfl); (try have hR1 := hS.row (i := 1) rfl); (try have hR2 := hS.row (i := 2) rfl); (try have hR3 := hS.row (i := 3) rfl); (try have hR4 := hS.row (i := 4) rfl); (try have hC0 := hS.cell (i := 0) rfl); (try have hD0 := (cells_heap hC0).1); (try have hE0 := (cells_heap hC0).2.1); (try have hF0 := (cells_heap hC0).2.2.1); (try have hG0 := (cells_heap hC0).2.2.2.1); (try have hC1 := hS.cell (i := 1) rfl); (try have hD1 := (cells_heap hC1).1); (try have hE1 := (cells_heap hC1).2.1); (try have hF1 := (cells_heap hC1).2.2.1); (try have hG1 := (cells_heap hC1).2.2.2.1); (try have hC2 := hS.cell (i := 2) rfl); (try have hD2 := (cells_heap hC2).1); (try have hE2 := (cells_heap hC2).2.1); (try have hF2 := (cells_heap hC2).2.2.1); (try have hG2 := (cells_heap hC2).2.2.2.1); (try have hC3 := hS.cell (i := 3) rfl); (try have hD3 := (cells_heap hC3).1); (try have hE3 := (cells_heap hC3).2.1); (try have hF3 := (cells_heap hC3).2.2.1); (try have hG3 := (cells_heap hC3).2.2.2.1); (try have hC4 := hS.cell (i := 4) rfl); (try have hD4 := (cells_heap hC4).1); (try have hE4 := (cells_heap hC4).2.1); (try have hF4 := (cells_heap hC4).2.2.1); (try have hG4 := (cells_heap hC4).2.2.2.1); (try have hM0 := hS.map (i := 0) rfl); (try have hM1 := hS.map (i := 1) rfl); (try have hM2 := hS.map (i := 2) rfl); (try have hM3 := hS.map (i := 3) rfl); (try have hM4 := hS.map (i := 4) rfl); (obtain ⟨ga, rfl⟩ : ∃ x, x = gb := ⟨_, rfl⟩))
    | (apply WL.storeB (w0 := wc) tOk; exact rfl; exact rfl; exact rfl; exact rfl; assumption; (exact extA); exact rfl; exact rfl; exact rfl; (exact extA); (first | assumption | omega | (focus (apply Nat.le_trans; rotate_left; assumption; exact Below.size (by (exact extA)); done))); intro w' hb hc hX' hU; have hcc := hc; obtain ⟨h1, h2, _⟩ := hc; (first | replace hS := Sep.updCell (i := 0) rfl hU hb hS (by (exact extA)) (by (first | exact Nat.le_refl _ | exact Below.size (by (exact extA)))) | replace hS := Sep.updCell (i := 1) rfl hU hb hS (by (exact extA)) (by (first | exact Nat.le_refl _ | exact Below.size (by (exact extA)))) | replace hS := Sep.updCell (i := 2) rfl hU hb hS (by (exact extA)) (by (first | exact Nat.le_refl _ | exact Below.size (by (exact extA)))) | replace hS := Sep.updCell (i := 3) rfl hU hb hS (by (exact extA)) (by (first | exact Nat.le_refl _ | exact Below.size (by (exact extA))))); (try simp only [List.set_cons_zero, List.set_cons_succ] at hS); (try have hR0 := hS.row (i := 0) rfl); (try have hR1 := hS.row (i := 1) rfl); (try have hR2 := hS.row (i := 2) rfl); (try have hR3 := hS.row (i := 3) rfl); (try have hR4 := hS.row (i := 4) rfl); (try have hC0 := hS.cell (i := 0) rfl); (try have hD0 := (cells_heap hC0).1); (try have hE0 := (cells_heap hC0).2.1); (try have hF0 := (cells_heap hC0).2.2.1); (try have hG0 := (cells_heap hC0).2.2.2.1); (try have hC1 := hS.cell (i := 1) rfl); (try have hD1 := (cells_heap hC1).1); (try have hE1 := (cells_heap hC1).2.1); (try have hF1 := (cells_heap hC1).2.2.1); (try have hG1 := (cells_heap hC1).2.2.2.1); (try have hC2 := hS.cell (i := 2) rfl); (try have hD2 := (cells_heap hC2).1); (try have hE2 := (cells_heap hC2).2.1); (try have hF2 := (cells_heap hC2).2.2.1); (try have hG2 := (cells_heap hC2).2.2.2.1); (try have hC3 := hS.cell (i := 3) rfl); (try have hD3 := (cells_heap hC3).1); (try have hE3 := (cells_heap hC3).2.1); (try have hF3 := (cells_heap hC3).2.2.1); (try have hG3 := (cells_heap hC3).2.2.2.1); (try have hC4 := hS.cell (i := 4) rfl); (try have hD4 := (cells_heap hC4).1); (try have hE4 := (cells_heap hC4).2.1); (try have hF4 := (cells_heap hC4).2.2.1); (try have hG4 := (cells_heap hC4).2.2.2.1); (try have hM0 := hS.map (i := 0) rfl); (try have hM1 := hS.map (i := 1) rfl); (try have hM2 := hS.map (i := 2) rfl); (try have hM3 := hS.map (i := 3) rfl); (try have hM4 := hS.map (i := 4) rfl))
    | (show WL _ _ _ _ _ _ _; first | apply WL.nil | (refine WL.au (k := ?_)))
    | (show Z _ _ _ _ _; apply Z.then_normal)
    | (show W _ _ _ _ _ _; first | apply W.seq | apply W.region | apply W.block))
  obtain ⟨g5, rfl⟩ : ∃ x, x = gb := ⟨_, rfl⟩
  have e1 : (c.max + 1).toNat = m + 1 := by omega
  rw [e1, List.length_replicate] at hS
  have hS2 : Lt.Sep wc.heap.size w' (netP wc.heap.size g4 g5 none 0 (some ⟨ga, 0, none⟩) (m + 1) ([], List.replicate (m + 1) 0)) := by
    have := Sep.perm4 hS
    unfold netP
    rw [List.length_replicate]
    exact this
  have hA0 : AtK m 1 (List.replicate (m + 1) 0) := ⟨by simp, rfl, fun u h1 h2 => by omega⟩
  have hX1 : Ext wc w' := (by (exact extA))
  refine W.loopW (m + 1) (fun k w' => k ≤ m ∧ Ext wc w' ∧ ∃ A, AtK m (k + 1) A ∧ Lt.Sep wc.heap.size w' (netP wc.heap.size g4 g5 none 0 (some ⟨ga, 0, none⟩) (m + 1) ([], A))) (fun k => [(1, .pointer (some ⟨gc, 0, none⟩)), (4, .pointer (some ⟨g4, 0, none⟩)), (5, .pointer (some ⟨g5, 0, none⟩)), (6, .int .i64 ((k : Int) + 1))]) ⟨Nat.zero_le _, hX1, _, hA0, hS2⟩ (fun k w' h => by have := h.1; omega) ⟨rfl, rfl, rfl, rfl, trivial⟩ ?_
  clear hS hS2 hA0 hX1
  rintro k w3 ⟨hk, hX3, A, hA, hS⟩
  have hlA := hA.len
  have hlA2 : (([], A) : NA).2.length = m + 1 := hA.len
  have k1 := (cells_heap (hS.cell (i := 1) rfl)).1
  have hAo := hS.row (i := 3) rfl
  by_cases hlt : k < m
  · obtain ⟨yv, hyv⟩ := getI A (show ((k : Int) + 1).toNat < A.length by omega)
    repeat' (first
      | (show WL _ _ _ _ _ _ _; first | apply WL.nil | (refine WL.au (k := ?_)))
      | (show Z _ _ _ _ _; apply Z.then_normal)
      | (show W _ _ _ _ _ _; first | apply W.seq | apply W.region))
    refine W.condKT rfl (dec_true (by omega)) ?_
    repeat' (first
      | (apply WL.indexO tOk; exact rfl; exact rfl; exact rfl; exact rfl; exact rfl; exact rfl; exact rfl; exact rfl; assumption; (exact extA); exact encI_ok; (first | exact rfl | (focus (simp only [List.length_set]; done)) | (focus (simp; done)) | (focus (simp [*]; done)) | omega | (focus (simp only [List.length_set]; omega))); omega; assumption; intro gb ha hc; cases ha; have hcc := hc; first | (obtain ⟨h1, h2, h3, _⟩ := hc) | (obtain ⟨h1, h2, _⟩ := hc) | (obtain ⟨h1, _⟩ := hc))
      | (apply WL.storeO (z' := ((-1 : Int))) tOk; exact rfl; exact rfl; exact rfl; exact rfl; assumption; (exact extA); exact rfl; exact rfl; exact rfl; exact encI_ok; assumption; exact rfl; (exact extA); intro w' hO hX' hU)
      | (show WL _ _ _ _ _ _ _; first | apply WL.nil | (refine WL.au (k := ?_)))
      | (show Z _ _ _ _ _; first | apply Z.then_normal | apply Z.block_normal)
      | (show W _ _ _ _ _ _; first | apply W.seq | apply W.region | apply W.block | apply W.skip))
    have hS3 := Sep.updRow (i := 3) rfl hU hO (.inl rfl) hS (Ext.refl _) (Below.size hX3)
    refine Z.againW ⟨by omega, (by (exact extA)), A.set ((k : Int) + 1).toNat (-1), ⟨by simp [hlA], ?_, fun u h1 h2 => ?_⟩, ?_⟩ ⟨rfl, rfl, rfl, rfl, trivial⟩
    · rw [List.getElem?_set_ne (by omega)]; exact hA.zero
    · by_cases hu : u = k + 1
      · subst hu; rw [show ((k : Int) + 1).toNat = k + 1 by omega, List.getElem?_set_self (by omega)]
      · rw [List.getElem?_set_ne (by omega)]; exact hA.neg u h1 (by omega)
    · unfold netP
      rw [List.length_set]
      exact hS3
  obtain rfl : k = m := by omega
  obtain rfl := hA.all
  repeat' (first
    | (show WL _ _ _ _ _ _ _; first | apply WL.nil | (refine WL.au (k := ?_)))
    | (show Z _ _ _ _ _; apply Z.then_normal)
    | (show W _ _ _ _ _ _; first | apply W.seq | apply W.region))
  refine W.condKF rfl (dec_false (by omega)) ?_
  repeat' (first
    | (show WL _ _ _ _ _ _ _; first | apply WL.nil | (refine WL.au (k := ?_)))
    | (show Z _ _ _ _ _; first | apply Z.then_normal | apply Z.then_exit | apply Z.block_exit)
    | (show W _ _ _ _ _ _; first | apply W.seq | apply W.region | apply W.block | apply W.exit))
  have Ri := hC.ins.row.ext hxc
  have Rl := hC.lat.row.ext hxc
  have Rg := hC.gates.row.ext hxc
  have hown1 : ∀ x ∈ c.ins.2.2, 2 ≤ x ∧ x % 2 = 0 ∧ x ≤ 2 * c.max := fun x hx => hown x (List.mem_append_left _ (List.mem_append_left _ hx))
  have hown2 : ∀ x ∈ c.lat.2.2, 2 ≤ x.1 ∧ x.1 % 2 = 0 ∧ x.1 ≤ 2 * c.max := fun x hx => hown x.1 (List.mem_append_left _ (List.mem_append_right _ (List.mem_map.2 ⟨x, hx, rfl⟩)))
  have e10 : cS1 c.t 0 = ([], cAt0 (k : Int)) := by rw [cS1_0, hcm, hmm]
  refine W.loopW c.ins.2.2.length (fun j w' => j ≤ c.ins.2.2.length ∧ Ext wc w' ∧ ∃ an cn, Lt.Sep wc.heap.size w' (netP wc.heap.size g4 g5 an cn (some ⟨ga, 0, none⟩) (k + 1) (cS1 c.t j) ++ [])) (fun j => [(1, .pointer (some ⟨gc, 0, none⟩)), (4, .pointer (some ⟨g4, 0, none⟩)), (5, .pointer (some ⟨g5, 0, none⟩)), (7, .func (.func 137) #[] #[.pointer (some ⟨g4, 0, none⟩), .pointer (some ⟨g5, 0, none⟩)]), (31, rowVal c.ins), (32, .int .i64 (c.ins.2.2.length : Nat)), (33, .int .i64 j)]) ⟨Nat.zero_le _, hX3, none, 0, by rw [e10]; exact hS⟩ (fun k w' h => h.1) ⟨rfl, rfl, rfl, rfl, rfl, rfl, rfl, trivial⟩ ?_
  clear hS hAo k1 hX3 hlA hlA2 hA
  rintro j w4 ⟨hj, hX4, an, cn, hS⟩
  have hl1 : (cS1 c.t j).1.length = j ∧ (cS1 c.t j).2.length = c.max.toNat + 1 := cS1_len c.t hj
  by_cases hlt : j < c.ins.2.2.length
  · obtain ⟨x, hgx⟩ := getI c.ins.2.2 hlt
    have hxo := hown1 x (List.mem_of_getElem? hgx)
    have e1 := cS1_s (c := c.t) hgx
    have hcall := circ_Net1 wc w4 g4 g5 an cn (some ⟨ga, 0, none⟩) (k + 1) (cS1 c.t j) [] x (-1, 0) hX4 hS (by omega) (by omega) (by omega)
    repeat' (first
      | (show WL _ _ _ _ _ _ _; first | apply WL.nil | (refine WL.au (k := ?_)))
      | (show Z _ _ _ _ _; apply Z.then_normal)
      | (show W _ _ _ _ _ _; first | apply W.seq | apply W.region))
    refine W.condKT rfl (dec_true (by omega)) ?_
    repeat' (first
      | (apply WL.build tOk; exact rfl; exact rfl; exact rfl; exact rfl; exact rfl; exact rfl; exact rfl; kernel_rfl)
      | ((show WL _ _ _ (⟨_, .call ⟨.value (.tmp _), _, _⟩, _, _, _, _⟩ :: _) _ _ _; apply WL.call; exact rfl; exact rfl; exact rfl; exact rfl; exact hcall; rintro v' w5 ⟨rfl, hX5, an2, cn2, hS5⟩))
      | (show WL _ _ _ _ _ _ _; first | apply WL.nil | (refine WL.au (k := ?_)) | (apply WL.index tOk; exact rfl; exact rfl; exact rfl; exact rfl; exact rfl; exact rfl; exact rfl; exact rfl; assumption; (exact extA); exact rfl; omega; assumption; intro b off h; have hcc := h; first | (obtain ⟨h1, h2, h3, h4, h5, h6, _⟩ := h) | (obtain ⟨h1, h2, h3, _⟩ := h) | (obtain ⟨h1, h2, _⟩ := h) | (obtain ⟨h1, _⟩ := h)))
      | (show Z _ _ _ _ _; first | apply Z.then_normal | apply Z.block_normal)
      | (show W _ _ _ _ _ _; first | apply W.seq | apply W.region | apply W.block | apply W.skip))
    exact Z.againW ⟨by omega, hX5, an2, cn2, by rw [e1]; exact hS5⟩ ⟨rfl, rfl, rfl, rfl, rfl, rfl, rfl, trivial⟩
  obtain rfl : j = c.ins.2.2.length := by omega
  repeat' (first
    | (show WL _ _ _ _ _ _ _; first | apply WL.nil | (refine WL.au (k := ?_)))
    | (show Z _ _ _ _ _; apply Z.then_normal)
    | (show W _ _ _ _ _ _; first | apply W.seq | apply W.region))
  refine W.condKF rfl (dec_false (by omega)) ?_
  repeat' (first
    | (show WL _ _ _ _ _ _ _; first | apply WL.nil | (refine WL.au (k := ?_)))
    | (show Z _ _ _ _ _; first | apply Z.then_normal | apply Z.then_exit | apply Z.block_exit)
    | (show W _ _ _ _ _ _; first | apply W.seq | apply W.region | apply W.block | apply W.exit))
  have e20 : cS2 c.t 0 = cS1 c.t c.ins.2.2.length := cS2_0 c.t
  refine W.loopW c.lat.2.2.length (fun j w' => j ≤ c.lat.2.2.length ∧ Ext wc w' ∧ ∃ an cn, Lt.Sep wc.heap.size w' (netP wc.heap.size g4 g5 an cn (some ⟨ga, 0, none⟩) (k + 1) (cS2 c.t j) ++ [])) (fun j => [(1, .pointer (some ⟨gc, 0, none⟩)), (4, .pointer (some ⟨g4, 0, none⟩)), (5, .pointer (some ⟨g5, 0, none⟩)), (7, .func (.func 137) #[] #[.pointer (some ⟨g4, 0, none⟩), .pointer (some ⟨g5, 0, none⟩)]), (43, rowVal c.lat), (44, .int .i64 (c.lat.2.2.length : Nat)), (45, .int .i64 j)]) ⟨Nat.zero_le _, hX4, an, cn, by rw [e20]; exact hS⟩ (fun k w' h => h.1) ⟨rfl, rfl, rfl, rfl, rfl, rfl, rfl, trivial⟩ ?_
  clear hS hX4 hl1 hj hlt
  rintro j w4 ⟨hj, hX4, an, cn, hS⟩
  have hl1 : (cS2 c.t j).1.length = c.ins.2.2.length + j ∧ (cS2 c.t j).2.length = c.max.toNat + 1 := cS2_len c.t hj
  by_cases hlt : j < c.lat.2.2.length
  · obtain ⟨x, hgx⟩ := getI c.lat.2.2 hlt
    have hxo := hown2 x (List.mem_of_getElem? hgx)
    have e1 := cS2_s (c := c.t) hgx
    have hcall := fun (w9 : World) (h9 : Ext w4 w9) => circ_Net1 wc w9 g4 g5 an cn (some ⟨ga, 0, none⟩) (k + 1) (cS2 c.t j) [] x.1 (-1, 0) (hX4.trans h9) (hS.ext h9) (by omega) (by omega) (by omega)
    repeat' (first
      | (show WL _ _ _ _ _ _ _; first | apply WL.nil | (refine WL.au (k := ?_)))
      | (show Z _ _ _ _ _; apply Z.then_normal)
      | (show W _ _ _ _ _ _; first | apply W.seq | apply W.region))
    refine W.condKT rfl (dec_true (by omega)) ?_
    repeat' (first
      | (apply WL.alloc tOk; exact rfl; exact rfl; exact rfl; intro gb w' hb hge hx)
      | (apply WL.storeB (w0 := w4) tOk; exact rfl; exact rfl; exact rfl; exact rfl; assumption; (exact extA); exact rfl; exact rfl; exact rfl; (exact extA); (first | assumption | omega | (focus (apply Nat.le_trans; rotate_left; assumption; exact Below.size (by (exact extA)); done))); intro w' hb hc hX' hU; have hcc := hc; obtain ⟨h1, h2, _⟩ := hc; (have hC8 := cells_heap hb; obtain ⟨i0, i1, i2, _⟩ := hC8))
      | (apply WL.build tOk; exact rfl; exact rfl; exact rfl; exact rfl; exact rfl; exact rfl; exact rfl; kernel_rfl)
      | ((show WL _ _ _ (⟨_, .call ⟨.value (.tmp _), _, _⟩, _, _, _, _⟩ :: _) _ _ _; apply WL.call; exact rfl; exact rfl; exact rfl; exact rfl; exact hcall _ (by (exact extA)); rintro v' w5 ⟨rfl, hX5, an2, cn2, hS5⟩))
      | (show WL _ _ _ _ _ _ _; first | apply WL.nil | (refine WL.au (k := ?_)) | (apply WL.index tOk; exact rfl; exact rfl; exact rfl; exact rfl; exact rfl; exact rfl; exact rfl; exact rfl; assumption; (exact extA); exact rfl; omega; assumption; intro b off h; have hcc := h; first | (obtain ⟨h1, h2, h3, h4, h5, h6, _⟩ := h) | (obtain ⟨h1, h2, h3, _⟩ := h) | (obtain ⟨h1, h2, _⟩ := h) | (obtain ⟨h1, _⟩ := h)))
      | (show Z _ _ _ _ _; first | apply Z.then_normal | apply Z.block_normal)
      | (show W _ _ _ _ _ _; first | apply W.seq | apply W.region | apply W.block | apply W.skip))
    exact Z.againW ⟨by omega, hX5, an2, cn2, by rw [e1]; exact hS5⟩ ⟨rfl, rfl, rfl, rfl, rfl, rfl, rfl, trivial⟩
  obtain rfl : j = c.lat.2.2.length := by omega
  repeat' (first
    | (show WL _ _ _ _ _ _ _; first | apply WL.nil | (refine WL.au (k := ?_)))
    | (show Z _ _ _ _ _; apply Z.then_normal)
    | (show W _ _ _ _ _ _; first | apply W.seq | apply W.region))
  refine W.condKF rfl (dec_false (by omega)) ?_
  have hgm : ∀ g ∈ c.gates.2.2, g.1 ∈ c.t.own ∧ g.2.1 ∈ c.t.used ∧ g.2.2 ∈ c.t.used := fun g hg =>
    ⟨List.mem_append.2 (.inr (List.mem_map.2 ⟨g, hg, rfl⟩)), List.mem_append.2 (.inr (List.mem_flatMap.2 ⟨g, hg, by simp⟩)), List.mem_append.2 (.inr (List.mem_flatMap.2 ⟨g, hg, by simp⟩))⟩
  have hok : gsOk c.gates.2.2 := fun g hg => by
    obtain ⟨r1, r2, r3⟩ := hgm g hg
    have := hown _ r1
    have := hused _ r2
    have := hused _ r3
    omega
  have h7 : ¬ Twice c.t := fun ⟨i, x, a1, a2⟩ => by
    have h3 := List.pairwise_iff_getElem.1 (List.nodup_iff_pairwise_ne.1 hg.once)
    obtain ⟨j, hj, he⟩ := List.mem_take_iff_getElem.1 a2
    obtain ⟨hi, he2⟩ := List.getElem?_eq_some_iff.1 a1
    exact h3 j i (by omega) hi (by omega) (by rw [he, he2])
  have honce : Once c.gates.2.2 := once_of (c := c.t) h7 fun x hx => (hown x hx).2.1
  have hcells4 := hcells.ext hX4
  have x0 : Cells w4 gc 0 c.vals := hcells4
  repeat' (first
    | ((show WL _ _ _ (⟨_, .call ⟨.value (.func 111), _, _⟩, _, _, _, _⟩ :: _) _ _ _); apply WL.call; exact rfl; exact rfl; exact rfl; exact rfl; exact circ_Order c _ (Rg.ext (by (exact extA))) hok (by omega) honce; rintro v' w' ⟨hx, a', cap', rfl, hO⟩; (obtain ⟨hOd, rfl⟩ : ∃ x, x = hO := ⟨_, rfl⟩; obtain ⟨hxd, rfl⟩ : ∃ x, x = hx := ⟨_, rfl⟩; obtain ⟨wd, rfl⟩ : ∃ x, x = w' := ⟨_, rfl⟩; obtain ⟨ad, rfl⟩ : ∃ x, x = a' := ⟨_, rfl⟩; obtain ⟨cd, rfl⟩ : ∃ x, x = cap' := ⟨_, rfl⟩))
    | (show WL _ _ _ _ _ _ _; first | apply WL.nil | (refine WL.au (k := ?_)))
    | (show Z _ _ _ _ _; first | apply Z.then_normal | apply Z.then_exit | apply Z.block_exit)
    | (show W _ _ _ _ _ _; first | apply W.seq | apply W.region | apply W.block | apply W.exit))
  have hS0 : Lt.Sep wc.heap.size wd (netP wc.heap.size g4 g5 an cn (some ⟨ga, 0, none⟩) (k + 1) (cS2 c.t c.lat.2.2.length) ++ [prow 1 encI 3 wc.heap.size ad cd (natI (ordL c.gates.2.2))]) := by
    have h1 := hS.newRow' hxd hOd (Below.size hX4)
    rw [List.append_nil] at h1
    exact Sep.comm (ps := [prow 1 encI 3 wc.heap.size ad cd (natI (ordL c.gates.2.2))]) h1
  have hXd : Ext wc wd := (by (exact extA))
  have e30 : cS3 c.t 0 = cS2 c.t c.lat.2.2.length := cS3_0 c.t
  have hnl : (natI (ordL c.gates.2.2)).length = (ordL c.gates.2.2).length := by simp [natI]
  have hol : (ordL c.gates.2.2).length ≤ c.gates.2.2.length := (ordL_is c.gates.2.2).1.le
  refine W.loopW (ordL c.gates.2.2).length (fun j w' => j ≤ (ordL c.gates.2.2).length ∧ Ext wc w' ∧ ∃ an cn, Lt.Sep wc.heap.size w' (netP wc.heap.size g4 g5 an cn (some ⟨ga, 0, none⟩) (k + 1) (cS3 c.t j) ++ [prow 1 encI 3 wc.heap.size ad cd (natI (ordL c.gates.2.2))])) (fun j => [(1, .pointer (some ⟨gc, 0, none⟩)), (4, .pointer (some ⟨g4, 0, none⟩)), (5, .pointer (some ⟨g5, 0, none⟩)), (7, .func (.func 137) #[] #[.pointer (some ⟨g4, 0, none⟩), .pointer (some ⟨g5, 0, none⟩)]), (12, .func (.func 138) #[] #[.pointer (some ⟨g5, 0, none⟩)]), (57, .slice ad (natI (ordL c.gates.2.2)).length cd), (58, .int .i64 (natI (ordL c.gates.2.2)).length), (59, .int .i64 j)]) ⟨Nat.zero_le _, hXd, an, cn, by rw [e30]; exact hS0⟩ (fun k w' h => h.1) ⟨rfl, rfl, rfl, rfl, rfl, rfl, rfl, rfl, trivial⟩ ?_
  clear hS hS0 hX4 hl1 hj hlt hcells4 x0 hXd
  rintro j w4 ⟨hj, hX4, an, cn, hS⟩
  have hl1 : (cS3 c.t j).1.length = c.ins.2.2.length + c.lat.2.2.length + j ∧ (cS3 c.t j).2.length = c.max.toNat + 1 := cS3_len c.t hj
  by_cases hlt : j < (ordL c.gates.2.2).length
  · obtain ⟨i, hi⟩ := getI (ordL c.gates.2.2) hlt
    obtain ⟨g, za, zb, hgg, hza, hzb, ka, kb⟩ := cS3_get hg (c := c.t) hi
    have hgg : c.gates.2.2[i]? = some g := hgg
    have hgi : c.gates.2.2[((i : Nat) : Int).toNat]? = some g := by rw [Int.toNat_natCast]; exact hgg
    have hgo := hok g (List.mem_of_getElem? hgg)
    have hgw := hown g.1 (hgm g (List.mem_of_getElem? hgg)).1
    have hgl := lt_of_get hgg
    have hni : (natI (ordL c.gates.2.2))[((j : Nat) : Int).toNat]? = some (i : Int) := by rw [Int.toNat_natCast, natI, List.getElem?_map, hi]; rfl
    have e1 : cS3 c.t (j + 1) = cput (cS3 c.t j) g.1 (litI (cS3 c.t j).2 g.2.1, litI (cS3 c.t j).2 g.2.2) := by rw [cS3_s (c := c.t) hi]; unfold cGate; rw [gAt_of hgg]
    have k1 := (cells_heap (hS.cell (i := 1) rfl)).1
    have RA := (hS.row (i := 3) rfl).row encI_ok
    have RO := (hS.row (i := 4) rfl).row encI_ok
    have hcall := fun (w9 : World) (h9 : Ext w4 w9) => circ_Net1 wc w9 g4 g5 an cn (some ⟨ga, 0, none⟩) (k + 1) (cS3 c.t j) [prow 1 encI 3 wc.heap.size ad cd (natI (ordL c.gates.2.2))] g.1 (litI (cS3 c.t j).2 g.2.1, litI (cS3 c.t j).2 g.2.2) (hX4.trans h9) (hS.ext h9) (by omega) (by omega) (by omega)
    repeat' (first
      | (show WL _ _ _ _ _ _ _; first | apply WL.nil | (refine WL.au (k := ?_)))
      | (show Z _ _ _ _ _; apply Z.then_normal)
      | (show W _ _ _ _ _ _; first | apply W.seq | apply W.region))
    refine W.condKT rfl (dec_true (by omega)) ?_
    repeat' (first
      | (apply WL.alloc tOk; exact rfl; exact rfl; exact rfl; intro gb w' hb hge hx)
      | (apply WL.storeB (w0 := w4) tOk; exact rfl; exact rfl; exact rfl; exact rfl; assumption; (exact extA); exact rfl; exact rfl; exact rfl; (exact extA); (first | assumption | omega | (focus (apply Nat.le_trans; rotate_left; assumption; exact Below.size (by (exact extA)); done))); intro w' hb hc hX' hU; have hcc := hc; obtain ⟨h1, h2, _⟩ := hc; (obtain ⟨w6, rfl⟩ : ∃ x, x = w' := ⟨_, rfl⟩; obtain ⟨hX6, rfl⟩ : ∃ x, x = hX' := ⟨_, rfl⟩; have hC8 := cells_heap hb; obtain ⟨i0, i1, i2, _⟩ := hC8))
      | (show WL _ _ _ _ _ _ _; first | apply WL.nil | (refine WL.au (k := ?_)) | (apply WL.index tOk; exact rfl; exact rfl; exact rfl; exact rfl; exact rfl; exact rfl; exact rfl; exact rfl; assumption; (exact extA); exact rfl; omega; assumption; intro b off h; have hcc := h; first | (obtain ⟨h1, h2, h3, h4, h5, h6, _⟩ := h) | (obtain ⟨h1, h2, h3, _⟩ := h) | (obtain ⟨h1, h2, _⟩ := h) | (obtain ⟨h1, _⟩ := h)))
      | (show Z _ _ _ _ _; apply Z.then_normal)
      | (show W _ _ _ _ _ _; first | apply W.seq | apply W.region | apply W.block | apply W.skip))
    have k1' := hX6.cell k1
    have RA' := RA.ext hX6
    repeat' (first
      | (apply W.regionQS 12 tMix; kernel_rfl; exact rfl; kernel_rfl; kernel_rfl)
      | (apply QL.build tOk; exact rfl; exact rfl; exact rfl; exact rfl; exact rfl; exact rfl; exact rfl; kernel_rfl)
      | ((show QL _ _ _ _ (⟨_, .call ⟨.value (.tmp _), _, _⟩, _, _, _, _⟩ :: _) _ _); apply QL.callS; exact rfl; exact rfl; exact rfl; exact rfl; exact circ_Net2 _ g5 _ _ (cS3 c.t j).2 g.2.1 za k1' RA' (by omega) (by omega) hza (by omega))
      | ((show QL _ _ _ _ (⟨_, .call ⟨.value (.tmp _), _, _⟩, _, _, _, _⟩ :: _) _ _); apply QL.callS; exact rfl; exact rfl; exact rfl; exact rfl; exact circ_Net2 _ g5 _ _ (cS3 c.t j).2 g.2.2 zb k1' RA' (by omega) (by omega) hzb (by omega))
      | ((show WL _ _ _ (⟨_, .call ⟨.value (.tmp _), _, _⟩, _, _, _, _⟩ :: _) _ _ _; apply WL.call; exact rfl; exact rfl; exact rfl; exact rfl; exact hcall _ (by (exact extA)); rintro v' w5 ⟨rfl, hX5, an2, cn2, hS5⟩))
      | (show WL _ _ _ _ _ _ _; first | apply WL.nil | (refine WL.au (k := ?_)))
      | (show QL _ _ _ _ _ _ _; first | apply QL.nil | (refine QL.au (k := ?_)))
      | (show Z _ _ _ _ _; first | apply Z.tail | apply Z.then_normal | apply Z.block_normal)
      | (show W _ _ _ _ _ _; apply W.region))
    exact Z.againW ⟨by omega, hX5, an2, cn2, by rw [e1]; exact hS5⟩ ⟨rfl, rfl, rfl, rfl, rfl, rfl, rfl, rfl, trivial⟩
  obtain rfl : j = (ordL c.gates.2.2).length := by omega
  repeat' (first
    | (show WL _ _ _ _ _ _ _; first | apply WL.nil | (refine WL.au (k := ?_)))
    | (show Z _ _ _ _ _; apply Z.then_normal)
    | (show W _ _ _ _ _ _; first | apply W.seq | apply W.region))
  refine W.condKF rfl (dec_false (by omega)) ?_
  have e39 : cS3 c.t (ordL c.gates.2.2).length = cNet c.t := cS3_all c.t
  rw [e39] at hS
  have k0 := (cells_heap (hS.cell (i := 0) rfl)).1
  have k1 := (cells_heap (hS.cell (i := 1) rfl)).1
  have hwc := Below.size hxc
  repeat' (first
    | (show QL _ _ _ _ _ _ _; first | apply QL.nil | (refine QL.au (k := ?_)))
    | (show Z _ _ _ _ _; first | apply Z.then_normal | apply Z.then_exit | apply Z.block_exit)
    | (show W _ _ _ _ _ _; first | apply W.seq | apply W.ret | apply W.exit | (apply W.regionD tMix; kernel_rfl)))
  exact Z.body2 Try.results87 rfl rfl fun q => ⟨Ext.at (by (exact extA)) q, an, cn, some ⟨ga, 0, none⟩, k + 1, rfl, ((hS.row (i := 2) rfl).base hwc).ext ((Ext.refl _).at q), ((hS.row (i := 3) rfl).base hwc).ext ((Ext.refl _).at q)⟩
end Go.Proofs.Ythpnahapiodflaa
namespace Go.Proofs.Ythpnahapiodflaa
open Go Go.Lt Go.RowKit
set_option linter.unusedVariables false
set_option linter.unusedSimpArgs false
set_option maxRecDepth 20000

theorem ordL_nil : ordL [] = [] := (IsOrd.ord (gs := []) (L := []) ⟨PreOrd.nil _, fun i ⟨g, hg, _⟩ => by simp at hg⟩).symm
/-- The example. -/
abbrev exT : CirT := ⟨1, [], [(2, 3, 0)], [], [2], [], [], [], ⟨#[]⟩⟩
theorem exT_good : GoodC' exT := by
  refine ⟨by decide, fun x hx => ?_, fun x hx => ?_, fun x hx => ?_, ?_, fun x hx h => ?_, ?_⟩
  · have : x = 2 := by simpa using hx
    subst this; decide
  · have : x = 2 ∨ x = 3 := by simpa using hx
    rcases this with rfl | rfl <;> decide
  · have : x = (2, 3, 0) := by simpa using hx
    subst this; exact .inl rfl
  · simp
  · have : x = 2 ∨ x = 3 := by simpa using hx
    rcases this with rfl | rfl <;> simp
  · show (ordL []).length = 0
    rw [ordL_nil]; rfl
theorem exT_net : cNet exT = ([(-1, 0)], [0, 2]) := by
  unfold cNet
  rw [show exT.gates = [] from rfl, ordL_nil]
  rfl
end Go.Proofs.Ythpnahapiodflaa
namespace Go.Proofs.Ythpnahapiodflaa
open Go Go.Lt Go.RowKit
set_option linter.unusedVariables false
set_option linter.unusedSimpArgs false
set_option maxRecDepth 20000

theorem few_sz2 {c : CirT} {m : Int} (h : FewC c m) (hm : m ≤ 100000) : SzC c 100000 ∧ c.syms.length ≤ 100000 := by
  obtain ⟨h1, h2, h3, h4, h5, h6, h7, _⟩ := few_iff.1 h
  exact ⟨⟨by omega, by omega, by omega, by omega, by omega, by omega⟩, by omega⟩
end Go.Proofs.Ythpnahapiodflaa
namespace Go.Proofs.Ythpnahapiodflaa
open Go Go.Lt Go.RowKit
set_option linter.unusedVariables false
set_option linter.unusedSimpArgs false
set_option maxRecDepth 20000

theorem clone_L (a : Option Addr) (cap : Nat) (l : List T3) (w : World) (R : Row 3 enc3 w a l) (hna : a = none → cap = 0) (hl : l.length ≤ 1048576) :
    Lt.Spec Try.prog 140 [.slice a l.length cap] w (IsFresh 3 enc3 69 w l) := by
  by_cases ha : a = none
  · subst ha
    have hl0 : l = [] := by
      cases l with
      | nil => rfl
      | cons x r => obtain ⟨b, off, h1, _⟩ := R.elem 0 x rfl; cases h1
    subst hl0
    refine Spec.of _ Try.func140 rfl Try.ntmps140 (by kernel_rfl) rfl ?_
    repeat' (first
      | (apply WL.eqSl tOk; exact rfl; exact rfl; exact rfl; exact rfl; exact rfl; exact rfl)
      | (apply W.condKT; exact rfl; (focus (exact dec_true rfl; done)))
      | (show WL _ _ _ _ _ _ _; first | apply WL.nil | (refine WL.au (k := ?_)))
      | (show Z _ _ _ _ _; first | apply Z.then_normal | apply Z.then_ret)
      | (show W _ _ _ _ _ _; first | apply W.seq | apply W.region | apply W.ret))
    exact Z.body1 Try.results140 rfl fun m => ⟨(Ext.refl _).at m, none, 0, rfl, Own.nil⟩
  · refine Spec.of _ Try.func140 rfl Try.ntmps140 (by kernel_rfl) rfl ?_
    repeat' (first
      | (apply WL.eqSl tOk; exact rfl; exact rfl; exact rfl; exact rfl; exact rfl; exact rfl)
      | (apply W.condKF; exact rfl; (focus (exact dec_false ha; done)))
      | (apply WL.lit (len := 0) tOk; exact rfl; exact rfl; exact rfl; exact rfl; exact rfl; exact rfl; (first | exact rfl | kernel_rfl | (simp [Instr.fill, catCells]; done)); exact rfl; intro gb w' hb hge hc hx; have hO0 := Own.of_block0 (enc := enc3) (s := 3) hb hge)
      | (apply WL.appendS tOk enc3_ok; exact rfl; exact rfl; exact rfl; exact rfl; exact rfl; exact rfl; exact rfl; exact rfl; exact rfl; exact rfl; assumption; (exact extA); (first | exact rfl | (focus (simp only [List.length_set]; done)) | (focus (simp; done)) | (focus (simp [*]; done)) | omega | (focus (simp only [List.length_set]; omega))); assumption; (exact extA); (first | exact rfl | (focus (simp only [List.length_set]; done)) | (focus (simp; done)) | (focus (simp [*]; done)) | omega | (focus (simp only [List.length_set]; omega))); (first | assumption | (intro h; cases h) | exact Own.noneCap (by assumption)); exact rfl; (exact extA); (first | omega | (simp; omega) | (simp at *; omega)); intro a' cap' w' hO hX' hU hF)
      | (show WL _ _ _ _ _ _ _; first | apply WL.nil | (refine WL.au (k := ?_)))
      | (show Z _ _ _ _ _; apply Z.then_normal)
      | (show W _ _ _ _ _ _; first | apply W.seq | apply W.region | apply W.skip | apply W.ret))
    exact Z.body1 Try.results140 rfl fun m => ⟨Ext.at (by (exact extA)) m, a', cap', by rw [List.nil_append], by rw [List.nil_append] at hO; exact hO⟩
theorem clone_G (a : Option Addr) (cap : Nat) (l : List T3) (w : World) (R : Row 3 enc3 w a l) (hna : a = none → cap = 0) (hl : l.length ≤ 1048576) :
    Lt.Spec Try.prog 141 [.slice a l.length cap] w (IsFresh 3 enc3 106 w l) := by
  by_cases ha : a = none
  · subst ha
    have hl0 : l = [] := by
      cases l with
      | nil => rfl
      | cons x r => obtain ⟨b, off, h1, _⟩ := R.elem 0 x rfl; cases h1
    subst hl0
    refine Spec.of _ Try.func141 rfl Try.ntmps141 (by kernel_rfl) rfl ?_
    repeat' (first
      | (apply WL.eqSl tOk; exact rfl; exact rfl; exact rfl; exact rfl; exact rfl; exact rfl)
      | (apply W.condKT; exact rfl; (focus (exact dec_true rfl; done)))
      | (show WL _ _ _ _ _ _ _; first | apply WL.nil | (refine WL.au (k := ?_)))
      | (show Z _ _ _ _ _; first | apply Z.then_normal | apply Z.then_ret)
      | (show W _ _ _ _ _ _; first | apply W.seq | apply W.region | apply W.ret))
    exact Z.body1 Try.results141 rfl fun m => ⟨(Ext.refl _).at m, none, 0, rfl, Own.nil⟩
  · refine Spec.of _ Try.func141 rfl Try.ntmps141 (by kernel_rfl) rfl ?_
    repeat' (first
      | (apply WL.eqSl tOk; exact rfl; exact rfl; exact rfl; exact rfl; exact rfl; exact rfl)
      | (apply W.condKF; exact rfl; (focus (exact dec_false ha; done)))
      | (apply WL.lit (len := 0) tOk; exact rfl; exact rfl; exact rfl; exact rfl; exact rfl; exact rfl; (first | exact rfl | kernel_rfl | (simp [Instr.fill, catCells]; done)); exact rfl; intro gb w' hb hge hc hx; have hO0 := Own.of_block0 (enc := enc3) (s := 3) hb hge)
      | (apply WL.appendS tOk enc3_ok; exact rfl; exact rfl; exact rfl; exact rfl; exact rfl; exact rfl; exact rfl; exact rfl; exact rfl; exact rfl; assumption; (exact extA); (first | exact rfl | (focus (simp only [List.length_set]; done)) | (focus (simp; done)) | (focus (simp [*]; done)) | omega | (focus (simp only [List.length_set]; omega))); assumption; (exact extA); (first | exact rfl | (focus (simp only [List.length_set]; done)) | (focus (simp; done)) | (focus (simp [*]; done)) | omega | (focus (simp only [List.length_set]; omega))); (first | assumption | (intro h; cases h) | exact Own.noneCap (by assumption)); exact rfl; (exact extA); (first | omega | (simp; omega) | (simp at *; omega)); intro a' cap' w' hO hX' hU hF)
      | (show WL _ _ _ _ _ _ _; first | apply WL.nil | (refine WL.au (k := ?_)))
      | (show Z _ _ _ _ _; apply Z.then_normal)
      | (show W _ _ _ _ _ _; first | apply W.seq | apply W.region | apply W.skip | apply W.ret))
    exact Z.body1 Try.results141 rfl fun m => ⟨Ext.at (by (exact extA)) m, a', cap', by rw [List.nil_append], by rw [List.nil_append] at hO; exact hO⟩
theorem clone_Y (a : Option Addr) (cap : Nat) (l : List Sy) (w : World) (R : Row 3 encY w a l) (hna : a = none → cap = 0) (hl : l.length ≤ 1048576) :
    Lt.Spec Try.prog 142 [.slice a l.length cap] w (IsFresh 3 encY 110 w l) := by
  by_cases ha : a = none
  · subst ha
    have hl0 : l = [] := by
      cases l with
      | nil => rfl
      | cons x r => obtain ⟨b, off, h1, _⟩ := R.elem 0 x rfl; cases h1
    subst hl0
    refine Spec.of _ Try.func142 rfl Try.ntmps142 (by kernel_rfl) rfl ?_
    repeat' (first
      | (apply WL.eqSl tOk; exact rfl; exact rfl; exact rfl; exact rfl; exact rfl; exact rfl)
      | (apply W.condKT; exact rfl; (focus (exact dec_true rfl; done)))
      | (show WL _ _ _ _ _ _ _; first | apply WL.nil | (refine WL.au (k := ?_)))
      | (show Z _ _ _ _ _; first | apply Z.then_normal | apply Z.then_ret)
      | (show W _ _ _ _ _ _; first | apply W.seq | apply W.region | apply W.ret))
    exact Z.body1 Try.results142 rfl fun m => ⟨(Ext.refl _).at m, none, 0, rfl, Own.nil⟩
  · refine Spec.of _ Try.func142 rfl Try.ntmps142 (by kernel_rfl) rfl ?_
    repeat' (first
      | (apply WL.eqSl tOk; exact rfl; exact rfl; exact rfl; exact rfl; exact rfl; exact rfl)
      | (apply W.condKF; exact rfl; (focus (exact dec_false ha; done)))
      | (apply WL.lit (len := 0) tOk; exact rfl; exact rfl; exact rfl; exact rfl; exact rfl; exact rfl; (first | exact rfl | kernel_rfl | (simp [Instr.fill, catCells]; done)); exact rfl; intro gb w' hb hge hc hx; have hO0 := Own.of_block0 (enc := encY) (s := 3) hb hge)
      | (apply WL.appendS tOk encY_ok; exact rfl; exact rfl; exact rfl; exact rfl; exact rfl; exact rfl; exact rfl; exact rfl; exact rfl; exact rfl; assumption; (exact extA); (first | exact rfl | (focus (simp only [List.length_set]; done)) | (focus (simp; done)) | (focus (simp [*]; done)) | omega | (focus (simp only [List.length_set]; omega))); assumption; (exact extA); (first | exact rfl | (focus (simp only [List.length_set]; done)) | (focus (simp; done)) | (focus (simp [*]; done)) | omega | (focus (simp only [List.length_set]; omega))); (first | assumption | (intro h; cases h) | exact Own.noneCap (by assumption)); exact rfl; (exact extA); (first | omega | (simp; omega) | (simp at *; omega)); intro a' cap' w' hO hX' hU hF)
      | (show WL _ _ _ _ _ _ _; first | apply WL.nil | (refine WL.au (k := ?_)))
      | (show Z _ _ _ _ _; apply Z.then_normal)
      | (show W _ _ _ _ _ _; first | apply W.seq | apply W.region | apply W.skip | apply W.ret))
    exact Z.body1 Try.results142 rfl fun m => ⟨Ext.at (by (exact extA)) m, a', cap', by rw [List.nil_append], by rw [List.nil_append] at hO; exact hO⟩
end Go.Proofs.Ythpnahapiodflaa
namespace Go.Lt
open Go.RowKit
set_option linter.unusedVariables false
theorem Z.invFresh {N : Nat} {α : Type} {s : Nat} {enc : α → List Value} {d el B cap : Nat} {l : List α} {a : Option Addr} {w w' : World} {E : Env} (hx : Ext w w') (hB : B ≤ w.heap.size) (hO : Own s enc el w.heap.size w' a cap l) :
    Z N (postI N d (prRow s enc el B l) w E) .normal ((d, .slice a l.length cap) :: E) w' :=
  Z.invRow hx (hO.base hB) (.inr fun k hk => (hO.blk_lt k hk).1)
end Go.Lt
namespace Go.Proofs.Ythpnahapiodflaa
open Go Go.Lt Go.RowKit
set_option linter.unusedVariables false
set_option linter.unusedSimpArgs false
set_option maxRecDepth 20000

theorem Sep.perm7 {B : Nat} {w : World} {a b c d e f g : Piece} {rest : List Piece} (hS : Lt.Sep B w (a :: b :: c :: d :: e :: f :: g :: rest)) : Lt.Sep B w [d, e, f, a, b, c, g] := by
  refine hS.pick (fun i => if i < 3 then i + 3 else if i < 6 then i - 3 else i) (fun i x h => ?_) (fun i j hi hj hne => ?_)
  · match i, h with
    | 0, h => exact h
    | 1, h => exact h
    | 2, h => exact h
    | 3, h => exact h
    | 4, h => exact h
    | 5, h => exact h
    | 6, h => exact h
  · show (if i < 3 then i + 3 else if i < 6 then i - 3 else i) ≠ (if j < 3 then j + 3 else if j < 6 then j - 3 else j)
    have hi' : i < 7 := hi
    have hj' : j < 7 := hj
    repeat' split
    all_goals omega
set_option maxHeartbeats 16000000 in
theorem circ_Clone (c : Circ) (w : World) (hC : CAt w c) (hz : SzC c.t 100000) (hz2 : c.t.syms.length ≤ 100000) :
    Lt.Spec Try.prog 89 [c.val] w (fun v w' => Ext w w' ∧ ∃ d : Circ, v = d.val ∧ d.t = c.t ∧ OwnC w.heap.size w' d) := by
  have z1 : c.ins.2.2.length ≤ 100000 := hz.1
  have z2 : c.lat.2.2.length ≤ 100000 := hz.2.1
  have z3 : c.outs.2.2.length ≤ 100000 := hz.2.2.1
  have z4 : c.bads.2.2.length ≤ 100000 := hz.2.2.2.1
  have z5 : c.cons.2.2.length ≤ 100000 := hz.2.2.2.2.1
  have z6 : c.gates.2.2.length ≤ 100000 := hz.2.2.2.2.2
  have z7 : c.syms.2.2.length ≤ 100000 := hz2
  have Ri := hC.ins.row
  have Ro := hC.outs.row
  have Rb := hC.bads.row
  have Rn := hC.cons.row
  have Rl := hC.lat.row
  have Rg := hC.gates.row
  have Ry := hC.syms.row
  have ni := hC.ins.none
  have no := hC.outs.none
  have nb := hC.bads.none
  have nn := hC.cons.none
  have nl := hC.lat.none
  have ng := hC.gates.none
  have ny := hC.syms.none
  refine Spec.of _ Try.func89 rfl Try.ntmps89 (by kernel_rfl) rfl ?_
  repeat' (first
    | (apply WL.box; exact rfl; exact rfl; exact rfl; intro gb w' hb hge hc hx; have hcc := hc; (first | (obtain ⟨h1, h2, h3, _⟩ := hc) | (obtain ⟨h1, h2, _⟩ := hc)); (obtain ⟨gc, rfl⟩ : ∃ x, x = gb := ⟨_, rfl⟩; obtain ⟨wc, rfl⟩ : ∃ x, x = w' := ⟨_, rfl⟩; obtain ⟨hxc, rfl⟩ : ∃ x, x = hx := ⟨_, rfl⟩; have hS : Lt.Sep w.heap.size wc [pcell gc c.vals.toArray 28] := Sep.newCell Sep.none' hxc hb hge (Nat.le_refl _)))
    | (apply WL.alloc tOk; exact rfl; exact rfl; exact rfl; intro gb w' hb hge hx; replace hS := Sep.newCell (Sep.ext hS (by (exact extA))) hx hb hge (by (first | exact Nat.le_refl _ | exact Below.size (by (exact extA)))); (try simp only [List.set_cons_zero, List.set_cons_succ] at hS); (try have hR0 := hS.row (i := 0) rfl); (try have hR1 := hS.row (i := 1) rfl); (try have hR2 := hS.row (i := 2) rfl); (try have hR3 := hS.row (i := 3) rfl); (try have hR4 := hS.row (i := 4) rfl); (try have hC0 := hS.cell (i := 0) rfl); (try have hD0 := (cells_heap hC0).1); (try have hE0 := (cells_heap hC0).2.1); (try have hF0 := (cells_heap hC0).2.2.1); (try have hG0 := (cells_heap hC0).2.2.2.1); (try have hC1 := hS.cell (i := 1) rfl); (try have hD1 := (cells_heap hC1).1); (try have hE1 := (cells_heap hC1).2.1); (try have hF1 := (cells_heap hC1).2.2.1); (try have hG1 := (cells_heap hC1).2.2.2.1); (try have hC2 := hS.cell (i := 2) rfl); (try have hD2 := (cells_heap hC2).1); (try have hE2 := (cells_heap hC2).2.1); (try have hF2 := (cells_heap hC2).2.2.1); (try have hG2 := (cells_heap hC2).2.2.2.1); (try have hC3 := hS.cell (i := 3) rfl); (try have hD3 := (cells_heap hC3).1); (try have hE3 := (cells_heap hC3).2.1); (try have hF3 := (cells_heap hC3).2.2.1); (try have hG3 := (cells_heap hC3).2.2.2.1); (try have hC4 := hS.cell (i := 4) rfl); (try have hD4 := (cells_heap hC4).1); (try have hE4 := (cells_heap hC4).2.1); (try have hF4 := (cells_heap hC4).2.2.1); (try have hG4 := (cells_heap hC4).2.2.2.1); (try have hM0 := hS.map (i := 0) rfl); (try have hM1 := hS.map (i := 1) rfl); (try have hM2 := hS.map (i := 2) rfl); (try have hM3 := hS.map (i := 3) rfl); (try have hM4 := hS.map (i := 4) rfl))
    | (show WL _ _ _ _ _ _ _; apply WL.nil)
    | (show Z _ _ _ _ _; apply Z.then_normal)
    | (show W _ _ _ _ _ _; first | apply W.seq | apply W.region))
  obtain ⟨w1, rfl⟩ : ∃ x, x = w' := ⟨_, rfl⟩; obtain ⟨g2, rfl⟩ : ∃ x, x = gb := ⟨_, rfl⟩
  have hX2 : Ext w w1 := (by (exact extA))
  have hw1 : w.heap.size ≤ w1.heap.size := Below.size hX2
  have hgc : w.heap.size ≤ gc := (hS.lt (i := 1) rfl rfl).1
  have hcl := cells_heap (hS.cell (i := 1) rfl)
  obtain ⟨y0, y1, y2, y3, y4, y5, y6, y7, y8, _⟩ := hcl
  repeat' (first
    | (show W _ _ (.region 1 _ _) _ _ _; apply W.regionI 13 [.is (.pointer (some ⟨gc, 0 + 1, none⟩)), .is (rowVal c.ins), prRow 1 encI 3 w1.heap.size c.ins.2.2, .is (.pointer (some ⟨gc, 0 + 1 + 1, none⟩)), .is (rowVal c.lat), prRow 3 enc3 69 w1.heap.size c.lat.2.2, .is (.pointer (some ⟨gc, 0 + 1 + 1 + 1 + 1 + 1 + 1, none⟩)), .is (rowVal c.gates), prRow 3 enc3 106 w1.heap.size c.gates.2.2, .is (.pointer (some ⟨gc, 0 + 1 + 1 + 1 + 1 + 1 + 1 + 1, none⟩)), .is (rowVal c.syms), prRow 3 encY 110 w1.heap.size c.syms.2.2, .is (.pointer (some ⟨gc, 0 + 1, none⟩))] tMix; kernel_rfl; exact rfl; kernel_rfl; kernel_rfl; exact rfl; exact rfl)
    | (show OBL _ _ _ _ _ _ _ _; apply OBL.nil)
    | (show OBL _ _ _ _ _ _ 0 _; apply OBL.cons (ds := []); exact rfl; exact rfl; exact rfl; kernel_rfl; intro w8 hw8 rest8)
    | (show OBL _ _ _ _ _ _ 1 _; apply OBL.cons (ds := [0]); exact rfl; exact rfl; exact rfl; kernel_rfl; intro w8 hw8 rest8)
    | (show OBL _ _ _ _ _ _ 2 _; apply OBL.cons (ds := [1]); exact rfl; exact rfl; exact rfl; kernel_rfl; intro w8 hw8 rest8)
    | (show OBL _ _ _ _ _ _ 3 _; apply OBL.cons (ds := []); exact rfl; exact rfl; exact rfl; kernel_rfl; intro w8 hw8 rest8)
    | (show OBL _ _ _ _ _ _ 4 _; apply OBL.cons (ds := [3]); exact rfl; exact rfl; exact rfl; kernel_rfl; intro w8 hw8 rest8)
    | (show OBL _ _ _ _ _ _ 5 _; apply OBL.cons (ds := [4, 2]); exact rfl; exact rfl; exact rfl; kernel_rfl; intro w8 hw8 rest8)
    | (show OBL _ _ _ _ _ _ 6 _; apply OBL.cons (ds := []); exact rfl; exact rfl; exact rfl; kernel_rfl; intro w8 hw8 rest8)
    | (show OBL _ _ _ _ _ _ 7 _; apply OBL.cons (ds := [6]); exact rfl; exact rfl; exact rfl; kernel_rfl; intro w8 hw8 rest8)
    | (show OBL _ _ _ _ _ _ 8 _; apply OBL.cons (ds := [7, 5]); exact rfl; exact rfl; exact rfl; kernel_rfl; intro w8 hw8 rest8)
    | (show OBL _ _ _ _ _ _ 9 _; apply OBL.cons (ds := []); exact rfl; exact rfl; exact rfl; kernel_rfl; intro w8 hw8 rest8)
    | (show OBL _ _ _ _ _ _ 10 _; apply OBL.cons (ds := [9]); exact rfl; exact rfl; exact rfl; kernel_rfl; intro w8 hw8 rest8)
    | (show OBL _ _ _ _ _ _ 11 _; apply OBL.cons (ds := [10, 8]); exact rfl; exact rfl; exact rfl; kernel_rfl; intro w8 hw8 rest8)
    | (show OBL _ _ _ _ _ _ 12 _; apply OBL.cons (ds := [0, 1, 2, 3, 4, 6, 7, 9, 10]); exact rfl; exact rfl; exact rfl; kernel_rfl; intro w8 hw8 rest8)
    | (show NO _ _ _ _ _ _ _ _ _ _; first | apply NO.nil | (apply NO.is; exact rfl; exact rfl) | (apply NO.ex; exact rfl; exact rfl; (first | (rintro _ ⟨gl, rfl, hlb, hlge⟩) | (rintro _ ⟨ar, cr, rfl, hOr⟩))))
    | (intro w8 hw8; show NF _ _ _ _ _ _ _ _ _)
    | (show NF _ _ _ _ _ _ _ _ _; first | (apply NF.nilT; intro hap; replace hS := Sep.news [prowZ 3 encY 110 w.heap.size ar1_11 cr1_11 c.syms.2.2, prowZ 3 enc3 106 w.heap.size ar1_8 cr1_8 c.gates.2.2, prowZ 3 enc3 69 w.heap.size ar1_5 cr1_5 c.lat.2.2, prowZ 1 encI 3 w.heap.size ar1_2 cr1_2 c.ins.2.2] hS hw8 (by rintro q hq; simp only [List.mem_cons, List.not_mem_nil, or_false] at hq; rcases hq with rfl | rfl | rfl | rfl <;> exact prowZ_new (by assumption) hw1) (apartS hap) hw1; simp only [List.cons_append, List.nil_append] at hS; (try simp only [List.set_cons_zero, List.set_cons_succ] at hS); (try have hR0 := hS.row (i := 0) rfl); (try have hR1 := hS.row (i := 1) rfl); (try have hR2 := hS.row (i := 2) rfl); (try have hR3 := hS.row (i := 3) rfl); (try have hR4 := hS.row (i := 4) rfl); (try have hC0 := hS.cell (i := 0) rfl); (try have hD0 := (cells_heap hC0).1); (try have hE0 := (cells_heap hC0).2.1); (try have hF0 := (cells_heap hC0).2.2.1); (try have hG0 := (cells_heap hC0).2.2.2.1); (try have hC1 := hS.cell (i := 1) rfl); (try have hD1 := (cells_heap hC1).1); (try have hE1 := (cells_heap hC1).2.1); (try have hF1 := (cells_heap hC1).2.2.1); (try have hG1 := (cells_heap hC1).2.2.2.1); (try have hC2 := hS.cell (i := 2) rfl); (try have hD2 := (cells_heap hC2).1); (try have hE2 := (cells_heap hC2).2.1); (try have hF2 := (cells_heap hC2).2.2.1); (try have hG2 := (cells_heap hC2).2.2.2.1); (try have hC3 := hS.cell (i := 3) rfl); (try have hD3 := (cells_heap hC3).1); (try have hE3 := (cells_heap hC3).2.1); (try have hF3 := (cells_heap hC3).2.2.1); (try have hG3 := (cells_heap hC3).2.2.2.1); (try have hC4 := hS.cell (i := 4) rfl); (try have hD4 := (cells_heap hC4).1); (try have hE4 := (cells_heap hC4).2.1); (try have hF4 := (cells_heap hC4).2.2.1); (try have hG4 := (cells_heap hC4).2.2.2.1); (try have hM0 := hS.map (i := 0) rfl); (try have hM1 := hS.map (i := 1) rfl); (try have hM2 := hS.map (i := 2) rfl); (try have hM3 := hS.map (i := 3) rfl); (try have hM4 := hS.map (i := 4) rfl) ; have hC5 := hS.cell (i := 5) rfl) | (apply NF.is; exact rfl; exact rfl))
    | (show NF _ _ _ _ _ _ (2 :: _) _ _; apply NF.ex; exact rfl; exact rfl; rintro _ ⟨ar1_2, cr1_2, rfl, hOr1_2⟩)
    | (show NF _ _ _ _ _ _ (5 :: _) _ _; apply NF.ex; exact rfl; exact rfl; rintro _ ⟨ar1_5, cr1_5, rfl, hOr1_5⟩)
    | (show NF _ _ _ _ _ _ (8 :: _) _ _; apply NF.ex; exact rfl; exact rfl; rintro _ ⟨ar1_8, cr1_8, rfl, hOr1_8⟩)
    | (show NF _ _ _ _ _ _ (11 :: _) _ _; apply NF.ex; exact rfl; exact rfl; rintro _ ⟨ar1_11, cr1_11, rfl, hOr1_11⟩)
    | (show Z _ _ _ _ _; first | (apply Z.invIs; (exact extA)) | (apply Z.invFresh; (exact extA); (first | omega | exact Below.size (by (exact extA))); assumption))
    | ((show WL _ _ _ (⟨_, .call ⟨.value (.func 139), _, _⟩, _, _, _, _⟩ :: _) _ _ _); apply WL.call; exact rfl; exact rfl; exact rfl; exact rfl; exact slices_CloneI _ _ c.ins.2.2 _ (Ri.ext (by (exact extA))) ni (by omega); rintro v' w' ⟨hx, a', cap', rfl, hO⟩)
    | ((show WL _ _ _ (⟨_, .call ⟨.value (.func 140), _, _⟩, _, _, _, _⟩ :: _) _ _ _); apply WL.call; exact rfl; exact rfl; exact rfl; exact rfl; exact clone_L _ _ c.lat.2.2 _ (Rl.ext (by (exact extA))) nl (by omega); rintro v' w' ⟨hx, a', cap', rfl, hO⟩)
    | ((show WL _ _ _ (⟨_, .call ⟨.value (.func 141), _, _⟩, _, _, _, _⟩ :: _) _ _ _); apply WL.call; exact rfl; exact rfl; exact rfl; exact rfl; exact clone_G _ _ c.gates.2.2 _ (Rg.ext (by (exact extA))) ng (by omega); rintro v' w' ⟨hx, a', cap', rfl, hO⟩)
    | ((show WL _ _ _ (⟨_, .call ⟨.value (.func 142), _, _⟩, _, _, _, _⟩ :: _) _ _ _); apply WL.call; exact rfl; exact rfl; exact rfl; exact rfl; exact clone_Y _ _ c.syms.2.2 _ (Ry.ext (by (exact extA))) ny (by omega); rintro v' w' ⟨hx, a', cap', rfl, hO⟩)
    | (apply WL.storeF (w0 := w) tOk; exact rfl; exact rfl; exact rfl; exact rfl; assumption; (exact extA); exact rfl; exact rfl; exact rfl; exact rfl; (exact extA); (first | assumption | omega | (focus (apply Nat.le_trans; rotate_left; assumption; exact Below.size (by (exact extA))))); intro w' hb hX' hU; replace hS := Sep.updCell (i := 5) rfl hU hb hS (by (exact extA)) (by (first | exact Nat.le_refl _ | exact Below.size (by (exact extA)))); (try simp only [List.set_cons_zero, List.set_cons_succ] at hS); (try have hR0 := hS.row (i := 0) rfl); (try have hR1 := hS.row (i := 1) rfl); (try have hR2 := hS.row (i := 2) rfl); (try have hR3 := hS.row (i := 3) rfl); (try have hR4 := hS.row (i := 4) rfl); (try have hC0 := hS.cell (i := 0) rfl); (try have hD0 := (cells_heap hC0).1); (try have hE0 := (cells_heap hC0).2.1); (try have hF0 := (cells_heap hC0).2.2.1); (try have hG0 := (cells_heap hC0).2.2.2.1); (try have hC1 := hS.cell (i := 1) rfl); (try have hD1 := (cells_heap hC1).1); (try have hE1 := (cells_heap hC1).2.1); (try have hF1 := (cells_heap hC1).2.2.1); (try have hG1 := (cells_heap hC1).2.2.2.1); (try have hC2 := hS.cell (i := 2) rfl); (try have hD2 := (cells_heap hC2).1); (try have hE2 := (cells_heap hC2).2.1); (try have hF2 := (cells_heap hC2).2.2.1); (try have hG2 := (cells_heap hC2).2.2.2.1); (try have hC3 := hS.cell (i := 3) rfl); (try have hD3 := (cells_heap hC3).1); (try have hE3 := (cells_heap hC3).2.1); (try have hF3 := (cells_heap hC3).2.2.1); (try have hG3 := (cells_heap hC3).2.2.2.1); (try have hC4 := hS.cell (i := 4) rfl); (try have hD4 := (cells_heap hC4).1); (try have hE4 := (cells_heap hC4).2.1); (try have hF4 := (cells_heap hC4).2.2.1); (try have hG4 := (cells_heap hC4).2.2.2.1); (try have hM0 := hS.map (i := 0) rfl); (try have hM1 := hS.map (i := 1) rfl); (try have hM2 := hS.map (i := 2) rfl); (try have hM3 := hS.map (i := 3) rfl); (try have hM4 := hS.map (i := 4) rfl))
    | (show WL _ _ _ _ _ _ _; first | apply WL.nil | (refine WL.au (k := ?_)))
    | (show Z _ _ _ _ _; apply Z.then_normal)
    | (show W _ _ _ _ _ _; apply W.seq))
  obtain ⟨w2, rfl⟩ : ∃ x, x = w' := ⟨_, rfl⟩
  have hX3 : Ext w w2 := (by (exact extA))
  have hw2 : w.heap.size ≤ w2.heap.size := Below.size hX3
  replace hS : Lt.Sep w.heap.size w2 [prowZ 3 encY 110 w.heap.size ar1_11 cr1_11 c.syms.2.2, prowZ 3 enc3 106 w.heap.size ar1_8 cr1_8 c.gates.2.2, prowZ 3 enc3 69 w.heap.size ar1_5 cr1_5 c.lat.2.2, prowZ 1 encI 3 w.heap.size ar1_2 cr1_2 c.ins.2.2, pcell g2 (Value.cells (.agg #[.int .i64 0, .slice none 0 0, .slice none 0 0, .slice none 0 0, .slice none 0 0, .slice none 0 0, .slice none 0 0, .slice none 0 0, .string ⟨#[]⟩])) 28, pcell gc ([.int .i64 c.max, .slice ar1_2 c.ins.2.2.length cr1_2, .slice ar1_5 c.lat.2.2.length cr1_5, rowVal c.outs, rowVal c.bads, rowVal c.cons, .slice ar1_8 c.gates.2.2.length cr1_8, .slice ar1_11 c.syms.2.2.length cr1_11, .string c.com] : List Value).toArray 28] := hS
  have hcl := cells_heap (hS.cell (i := 5) rfl)
  clear y0 y1 y2 y3 y4 y5 y6 y7 y8
  obtain ⟨y0, y1, y2, y3, y4, y5, y6, y7, y8, _⟩ := hcl
  repeat' (first
    | (show W _ _ (.region 2 _ _) _ _ _; apply W.regionI 10 [.is (.pointer (some ⟨gc, 0 + 1 + 1 + 1, none⟩)), .is (rowVal c.outs), prRow 1 encI 3 w2.heap.size c.outs.2.2, .is (.pointer (some ⟨gc, 0 + 1 + 1 + 1 + 1, none⟩)), .is (rowVal c.bads), prRow 1 encI 3 w2.heap.size c.bads.2.2, .is (.pointer (some ⟨gc, 0 + 1 + 1 + 1 + 1 + 1, none⟩)), .is (rowVal c.cons), prRow 1 encI 3 w2.heap.size c.cons.2.2, .is (.pointer (some ⟨gc, 0 + 1 + 1 + 1, none⟩))] tMix; kernel_rfl; exact rfl; kernel_rfl; kernel_rfl; exact rfl; exact rfl)
    | (show OBL _ _ _ _ _ _ _ _; apply OBL.nil)
    | (show OBL _ _ _ _ _ _ 0 _; apply OBL.cons (ds := []); exact rfl; exact rfl; exact rfl; kernel_rfl; intro w8 hw8 rest8)
    | (show OBL _ _ _ _ _ _ 1 _; apply OBL.cons (ds := [0]); exact rfl; exact rfl; exact rfl; kernel_rfl; intro w8 hw8 rest8)
    | (show OBL _ _ _ _ _ _ 2 _; apply OBL.cons (ds := [1]); exact rfl; exact rfl; exact rfl; kernel_rfl; intro w8 hw8 rest8)
    | (show OBL _ _ _ _ _ _ 3 _; apply OBL.cons (ds := []); exact rfl; exact rfl; exact rfl; kernel_rfl; intro w8 hw8 rest8)
    | (show OBL _ _ _ _ _ _ 4 _; apply OBL.cons (ds := [3]); exact rfl; exact rfl; exact rfl; kernel_rfl; intro w8 hw8 rest8)
    | (show OBL _ _ _ _ _ _ 5 _; apply OBL.cons (ds := [4, 2]); exact rfl; exact rfl; exact rfl; kernel_rfl; intro w8 hw8 rest8)
    | (show OBL _ _ _ _ _ _ 6 _; apply OBL.cons (ds := []); exact rfl; exact rfl; exact rfl; kernel_rfl; intro w8 hw8 rest8)
    | (show OBL _ _ _ _ _ _ 7 _; apply OBL.cons (ds := [6]); exact rfl; exact rfl; exact rfl; kernel_rfl; intro w8 hw8 rest8)
    | (show OBL _ _ _ _ _ _ 8 _; apply OBL.cons (ds := [7, 5]); exact rfl; exact rfl; exact rfl; kernel_rfl; intro w8 hw8 rest8)
    | (show OBL _ _ _ _ _ _ 9 _; apply OBL.cons (ds := [0, 1, 2, 3, 4, 6, 7]); exact rfl; exact rfl; exact rfl; kernel_rfl; intro w8 hw8 rest8)
    | (show NO _ _ _ _ _ _ _ _ _ _; first | apply NO.nil | (apply NO.is; exact rfl; exact rfl) | (apply NO.ex; exact rfl; exact rfl; (first | (rintro _ ⟨gl, rfl, hlb, hlge⟩) | (rintro _ ⟨ar, cr, rfl, hOr⟩))))
    | (intro w8 hw8; show NF _ _ _ _ _ _ _ _ _)
    | (show NF _ _ _ _ _ _ _ _ _; first | (apply NF.nilT; intro hap; replace hS := Sep.news [prowZ 1 encI 3 w.heap.size ar2_8 cr2_8 c.cons.2.2, prowZ 1 encI 3 w.heap.size ar2_5 cr2_5 c.bads.2.2, prowZ 1 encI 3 w.heap.size ar2_2 cr2_2 c.outs.2.2] hS hw8 (by rintro q hq; simp only [List.mem_cons, List.not_mem_nil, or_false] at hq; rcases hq with rfl | rfl | rfl <;> exact prowZ_new (by assumption) hw2) (apartS hap) hw2; simp only [List.cons_append, List.nil_append] at hS; have hC8 := hS.cell (i := 8) rfl) | (apply NF.is; exact rfl; exact rfl))
    | (show NF _ _ _ _ _ _ (2 :: _) _ _; apply NF.ex; exact rfl; exact rfl; rintro _ ⟨ar2_2, cr2_2, rfl, hOr2_2⟩)
    | (show NF _ _ _ _ _ _ (5 :: _) _ _; apply NF.ex; exact rfl; exact rfl; rintro _ ⟨ar2_5, cr2_5, rfl, hOr2_5⟩)
    | (show NF _ _ _ _ _ _ (8 :: _) _ _; apply NF.ex; exact rfl; exact rfl; rintro _ ⟨ar2_8, cr2_8, rfl, hOr2_8⟩)
    | (show Z _ _ _ _ _; first | (apply Z.invIs; (exact extA)) | (apply Z.invFresh; (exact extA); (first | omega | exact Below.size (by (exact extA))); assumption))
    | ((show WL _ _ _ (⟨_, .call ⟨.value (.func 139), _, _⟩, _, _, _, _⟩ :: _) _ _ _); apply WL.call; exact rfl; exact rfl; exact rfl; exact rfl; exact slices_CloneI _ _ c.outs.2.2 _ (Ro.ext (by (exact extA))) no (by omega); rintro v' w' ⟨hx, a', cap', rfl, hO⟩)
    | ((show WL _ _ _ (⟨_, .call ⟨.value (.func 139), _, _⟩, _, _, _, _⟩ :: _) _ _ _); apply WL.call; exact rfl; exact rfl; exact rfl; exact rfl; exact slices_CloneI _ _ c.bads.2.2 _ (Rb.ext (by (exact extA))) nb (by omega); rintro v' w' ⟨hx, a', cap', rfl, hO⟩)
    | ((show WL _ _ _ (⟨_, .call ⟨.value (.func 139), _, _⟩, _, _, _, _⟩ :: _) _ _ _); apply WL.call; exact rfl; exact rfl; exact rfl; exact rfl; exact slices_CloneI _ _ c.cons.2.2 _ (Rn.ext (by (exact extA))) nn (by omega); rintro v' w' ⟨hx, a', cap', rfl, hO⟩)
    | (apply WL.storeF (w0 := w) tOk; exact rfl; exact rfl; exact rfl; exact rfl; assumption; (exact extA); exact rfl; exact rfl; exact rfl; exact rfl; (exact extA); (first | assumption | omega | (focus (apply Nat.le_trans; rotate_left; assumption; exact Below.size (by (exact extA))))); intro w' hb hX' hU; replace hS := Sep.updCell (i := 8) rfl hU hb hS (by (exact extA)) (by (first | exact Nat.le_refl _ | exact Below.size (by (exact extA)))); (try simp only [List.set_cons_zero, List.set_cons_succ] at hS); (try have hR0 := hS.row (i := 0) rfl); (try have hR1 := hS.row (i := 1) rfl); (try have hR2 := hS.row (i := 2) rfl); (try have hR3 := hS.row (i := 3) rfl); (try have hR4 := hS.row (i := 4) rfl); (try have hC0 := hS.cell (i := 0) rfl); (try have hD0 := (cells_heap hC0).1); (try have hE0 := (cells_heap hC0).2.1); (try have hF0 := (cells_heap hC0).2.2.1); (try have hG0 := (cells_heap hC0).2.2.2.1); (try have hC1 := hS.cell (i := 1) rfl); (try have hD1 := (cells_heap hC1).1); (try have hE1 := (cells_heap hC1).2.1); (try have hF1 := (cells_heap hC1).2.2.1); (try have hG1 := (cells_heap hC1).2.2.2.1); (try have hC2 := hS.cell (i := 2) rfl); (try have hD2 := (cells_heap hC2).1); (try have hE2 := (cells_heap hC2).2.1); (try have hF2 := (cells_heap hC2).2.2.1); (try have hG2 := (cells_heap hC2).2.2.2.1); (try have hC3 := hS.cell (i := 3) rfl); (try have hD3 := (cells_heap hC3).1); (try have hE3 := (cells_heap hC3).2.1); (try have hF3 := (cells_heap hC3).2.2.1); (try have hG3 := (cells_heap hC3).2.2.2.1); (try have hC4 := hS.cell (i := 4) rfl); (try have hD4 := (cells_heap hC4).1); (try have hE4 := (cells_heap hC4).2.1); (try have hF4 := (cells_heap hC4).2.2.1); (try have hG4 := (cells_heap hC4).2.2.2.1); (try have hM0 := hS.map (i := 0) rfl); (try have hM1 := hS.map (i := 1) rfl); (try have hM2 := hS.map (i := 2) rfl); (try have hM3 := hS.map (i := 3) rfl); (try have hM4 := hS.map (i := 4) rfl))
    | (show WL _ _ _ _ _ _ _; first | apply WL.nil | (refine WL.au (k := ?_)))
    | (show Z _ _ _ _ _; apply Z.then_normal)
    | (show W _ _ _ _ _ _; first | apply W.seq | apply W.region))
  obtain ⟨w3, rfl⟩ : ∃ x, x = w' := ⟨_, rfl⟩
  obtain ⟨d, hd⟩ : ∃ d : Circ, d = ⟨c.max, (ar1_2, cr1_2, c.ins.2.2), (ar1_5, cr1_5, c.lat.2.2), (ar2_2, cr2_2, c.outs.2.2), (ar2_5, cr2_5, c.bads.2.2), (ar2_8, cr2_8, c.cons.2.2), (ar1_8, cr1_8, c.gates.2.2), (ar1_11, cr1_11, c.syms.2.2), c.com⟩ := ⟨_, rfl⟩
  have hS' : Lt.Sep w.heap.size w3 ([prowZ 1 encI 3 w.heap.size ar2_8 cr2_8 c.cons.2.2, prowZ 1 encI 3 w.heap.size ar2_5 cr2_5 c.bads.2.2, prowZ 1 encI 3 w.heap.size ar2_2 cr2_2 c.outs.2.2, prowZ 3 encY 110 w.heap.size ar1_11 cr1_11 c.syms.2.2, prowZ 3 enc3 106 w.heap.size ar1_8 cr1_8 c.gates.2.2, prowZ 3 enc3 69 w.heap.size ar1_5 cr1_5 c.lat.2.2, prowZ 1 encI 3 w.heap.size ar1_2 cr1_2 c.ins.2.2, pcell g2 (Value.cells (.agg #[.int .i64 0, .slice none 0 0, .slice none 0 0, .slice none 0 0, .slice none 0 0, .slice none 0 0, .slice none 0 0, .slice none 0 0, .string ⟨#[]⟩])) 28, pcell gc d.vals.toArray 28]) := by rw [hd]; exact hS
  have hps : d.ps w.heap.size = [prowZ 3 encY 110 w.heap.size ar1_11 cr1_11 c.syms.2.2, prowZ 3 enc3 106 w.heap.size ar1_8 cr1_8 c.gates.2.2, prowZ 3 enc3 69 w.heap.size ar1_5 cr1_5 c.lat.2.2, prowZ 1 encI 3 w.heap.size ar2_8 cr2_8 c.cons.2.2, prowZ 1 encI 3 w.heap.size ar2_5 cr2_5 c.bads.2.2, prowZ 1 encI 3 w.heap.size ar2_2 cr2_2 c.outs.2.2, prowZ 1 encI 3 w.heap.size ar1_2 cr1_2 c.ins.2.2] := by rw [hd]; rfl
  have hcap : CapC d := by
    rw [hd]
    exact ⟨⟨hOr1_2.capLe, hOr1_2.noneCap⟩, ⟨hOr1_5.capLe, hOr1_5.noneCap⟩, ⟨hOr2_2.capLe, hOr2_2.noneCap⟩, ⟨hOr2_5.capLe, hOr2_5.noneCap⟩, ⟨hOr2_8.capLe, hOr2_8.noneCap⟩, ⟨hOr1_8.capLe, hOr1_8.noneCap⟩, ⟨hOr1_11.capLe, hOr1_11.noneCap⟩⟩
  have hdt : d.t = c.t := by rw [hd]
  have hcd : Cells w3 gc 0 d.vals := cells_heap (hS'.cell (i := 8) rfl)
  have hc7 := hS'.cell (i := 7) rfl
  have hg2 : w.heap.size ≤ g2 := (hS'.lt (i := 7) rfl rfl).1
  have hX4 : Ext w w3 := (by (exact extA))
  clear hd
  repeat' (first
    | (apply WL.storeB (w0 := w) tOk; exact rfl; exact rfl; exact rfl; exact rfl; assumption; (exact extA); exact rfl; exact rfl; exact rfl; (exact extA); (first | assumption | omega | (focus (apply Nat.le_trans; rotate_left; assumption; exact Below.size (by (exact extA)); done))); intro w' hb hc hX' hU; have hcc := hc; obtain ⟨h1, h2, _⟩ := hc)
    | (show WL _ _ _ _ _ _ _; first | apply WL.nil | (refine WL.au (k := ?_)))
    | (show Z _ _ _ _ _; apply Z.then_normal)
    | (show W _ _ _ _ _ _; apply W.ret))
  refine Z.bodyC tOk Try.results89 rfl rfl rfl rfl (cells_heap hb) fun m => ⟨Ext.at (by (exact extA)) m, d, rfl, hdt, ⟨?_, hcap⟩⟩
  have hS5 := hS'.updCell (i := 7) rfl hU hb (Ext.refl _) (Below.size hX4)
  rw [hps]
  exact (Sep.perm7 hS5).ext ((Ext.refl _).at m)
end Go.Proofs.Ythpnahapiodflaa
namespace Go.Proofs.Ythpnahapiodflaa
open Go Go.Lt Go.RowKit
set_option linter.unusedVariables false
set_option linter.unusedSimpArgs false
set_option maxRecDepth 20000

theorem Sep.join {B : Nat} {w w' : World} {ps qs : List Piece} (hS : Lt.Sep B w ps) (hx : Ext w w') (hq : Lt.Sep w.heap.size w' qs) (hB : B ≤ w.heap.size) : Lt.Sep B w' (qs ++ ps) := by
  have hS' := hS.ext hx
  refine ⟨fun i p h => ?_, fun i j p q h1 h2 hne => ?_⟩
  · rcases get_app h with h | ⟨_, h⟩
    · exact ⟨(hq.holds i p h).1, fun k hk => ⟨Nat.le_trans hB ((hq.holds i p h).2 k hk).1, ((hq.holds i p h).2 k hk).2⟩⟩
    · exact hS'.holds _ p h
  · rcases get_app h1 with h1 | ⟨l1, h1⟩
    · rcases get_app h2 with h2 | ⟨l2, h2⟩
      · exact hq.apart i j p q h1 h2 hne
      · cases hb : p.b with
        | none => exact .inl rfl
        | some k =>
          refine .inr fun he => ?_
          have e1 := ((hq.holds i p h1).2 k hb).1
          have e2 := ((hS.holds _ q h2).2 k he.symm).2
          omega
    · rcases get_app h2 with h2 | ⟨l2, h2⟩
      · cases hb : p.b with
        | none => exact .inl rfl
        | some k =>
          refine .inr fun he => ?_
          have e1 := ((hq.holds j q h2).2 k he.symm).1
          have e2 := ((hS.holds _ p h1).2 k hb).2
          omega
      · exact hS.apart _ _ p q h1 h2 (by omega)
theorem rowZ_row2 {α : Type} {s : Nat} {enc : α → List Value} {el B C cap i : Nat} {a : Option Addr} {l : List α} {w : World} {ps : List Piece} (hE : Enc s enc) (hS : Lt.Sep B w ps) (h : ps[i]? = some (prowZ s enc el C a cap l)) : Row s enc w a l := by
  by_cases hl : l = []
  · subst hl; exact Row.nil s enc w a
  · exact ((hS.holds i _ h).1 hl).row hE
theorem OwnC.at2 {B C : Nat} {w : World} {d : Circ} (hS : Lt.Sep B w (d.ps C)) (h : CapC d) : CAt w d :=
  ⟨⟨rowZ_row2 encI_ok hS (i := 6) rfl, h.ins.1, h.ins.2⟩, ⟨rowZ_row2 enc3_ok hS (i := 2) rfl, h.lat.1, h.lat.2⟩, ⟨rowZ_row2 encI_ok hS (i := 5) rfl, h.outs.1, h.outs.2⟩, ⟨rowZ_row2 encI_ok hS (i := 4) rfl, h.bads.1, h.bads.2⟩,
    ⟨rowZ_row2 encI_ok hS (i := 3) rfl, h.cons.1, h.cons.2⟩, ⟨rowZ_row2 enc3_ok hS (i := 1) rfl, h.gates.1, h.gates.2⟩, ⟨rowZ_row2 encY_ok hS (i := 0) rfl, h.syms.1, h.syms.2⟩⟩
end Go.Proofs.Ythpnahapiodflaa
