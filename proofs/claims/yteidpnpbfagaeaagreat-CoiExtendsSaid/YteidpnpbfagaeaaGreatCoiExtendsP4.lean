/- Part 4 of what the claim CoiExtends needs: lemmas and contracts. No conditions. -/
import Derived.Test.YteidpnpbfagaeaaGreatRows
import Derived.Lib.SmallJoins
import Derived.KernelRfl
import Derived.WalkKit
import Derived.ProofKit
import Derived.Deep.Quiet
import Derived.Deep.LoopGhost
import Derived.StillTail
import Derived.Test.YteidpnpbfagaeaaGreatProg
import Derived.OpenShut
import Derived.ShutString
import Derived.ChangeOld
import Derived.Deep.Slices
import Derived.SizedLaws
import Derived.Laws.StructEq
import Derived.Laws.Externs
import Derived.MapKept
import Derived.Laws.CopyRow
import Derived.Laws.IdiomCopy
import Derived.Test.YteidpnpbfagaeaaGreatCoiExtendsP3
set_option linter.unusedVariables false
set_option linter.unusedSimpArgs false
set_option maxRecDepth 20000
set_option maxHeartbeats 32000000
namespace Go.Proofs.YteidpnpbfagaeaaGreat
open Go Go.Lt Go.RowKit

def Th : Tab := [(166, ⟨.slice 171, 1, 24, .slice none 0 0⟩), (171, ⟨.float .f64, 1, 8, .float .f64 0⟩)]
theorem thOk : OkTab Tryz.prog Th := ⟨⟨by kernel_rfl, by kernel_rfl⟩, ⟨by kernel_rfl, by kernel_rfl⟩, trivial⟩
abbrev encF : Nat -> List Value := fun b => [.float .f64 b]
theorem encF_ok : Enc 1 encF := ⟨fun _ => rfl, fun x u hu => by simp at hu; subst hu; rfl, by decide⟩
abbrev hpP (B gh : Nat) (as_ : Option Addr) (cs : Nat) (F : List Nat) (tr : Option Addr) (ct nt : Nat) (t : List Int) (ap : Option Addr) (cp : Nat) (A : List Int) : List Piece :=
 [pcell gh #[.slice as_ F.length cs, .slice tr nt ct, .slice ap A.length cp] 168, prow 1 encF 171 B as_ cs F, prow 1 encI 3 B tr ct t, prow 1 encI 3 B ap cp A]
theorem score_Less (w : World) : Still Tryz.prog 174 [.float .f64 0, .float .f64 0] w (.bool false) := by
 refine Spec.of _ Tryz.func174 rfl Tryz.ntmps174 (by kernel_rfl) rfl ?_
 repeat' (first | (apply WL.f00; (iterate 4 exact rfl); first | exact .inl ⟨rfl, rfl⟩ | exact .inr (.inl ⟨rfl, rfl⟩) | exact .inr (.inr ⟨rfl, rfl⟩)) | (first | apply WL.nil | refine WL.au (k := ?_)) | apply Z.tn | (first | apply W.seq | apply W.region | apply W.skip | apply W.ret | (apply W.condF; exact rfl)))
 exact Z.bd1 Tryz.results174 rfl fun m => ⟨rfl, m, rfl⟩
section
variable {B gh cs ct cp nt : Nat} {w w0 : World} {as_ tr ap : Option Addr} {F : List Nat} {t A : List Int} {rest : List Piece}
theorem heap_ahead (hS : Lt.Sep B w (hpP B gh as_ cs F tr ct nt t ap cp A ++ rest)) (hF : ∀ x ∈ F, x = 0) (xa xb : Int) (ha : 0 <= xa /\ xa.toNat < F.length) (hbb : 0 <= xb /\ xb.toNat < F.length) :
  Still Tryz.prog 173 [.pointer (some ⟨gh, 0, none⟩), .int .i64 xa, .int .i64 xb] w (.bool (dec (xa < xb))) := by
 have h := cHp (hS.cell (i := 0) rfl)
 have c0 := h.1
 have RF := Own.row encF_ok (hS.row (i := 1) rfl)
 obtain ⟨z1, hz1⟩ := getI F ha.2
 obtain ⟨z2, hz2⟩ := getI F hbb.2
 obtain rfl := hF z1 (List.mem_of_getElem? hz1)
 obtain rfl := hF z2 (List.mem_of_getElem? hz2)
 clear h
 refine Spec.of _ Tryz.func173 rfl Tryz.ntmps173 (by kernel_rfl) rfl ?_
 repeat' (first | (apply QL.nilc; (iterate 3 exact rfl)) | (apply QL.index thOk; (iterate 8 exact rfl); assumption; exact extA; exact rfl; omega; assumption; intro b off h; have hcc := h; obtain ⟨h1, _⟩ := h) | (apply QL.load thOk; (iterate 5 exact rfl); assumption) | (apply WL.callS (f := 174); (iterate 4 exact rfl); exact score_Less _) | (first | apply WL.nil | refine WL.au (k := ?_)) | (first | apply QL.nil | refine QL.au (k := ?_)) | apply Z.tn | (first | apply W.seq | apply W.region | apply W.ret | (apply W.rgD tMix; kernel_rfl)))
 exact Z.bd1 Tryz.results173 rfl fun m => ⟨rfl, m, rfl⟩
theorem heap_swap (hX : Ext w0 w) (hS : Lt.Sep w0.heap.size w (hpP w0.heap.size gh as_ cs F tr ct t.length t ap cp A ++ rest)) (hA : AtOk F.length t A) (i k : Nat) (ya yb : Int) (hi : t[i]? = some ya) (hk : t[k]? = some yb) (hlen : t.length <= 1048576) :
  Lt.Spec Tryz.prog 171 [.pointer (some ⟨gh, 0, none⟩), .int .i64 i, .int .i64 k] w (fun v w' => v = .tuple #[] /\ Ext w0 w' /\ Lt.Sep w0.heap.size w' (hpP w0.heap.size gh as_ cs F tr ct t.length (swp t i k ya yb) ap cp ((A.set yb.toNat (i : Int)).set ya.toNat (k : Int)) ++ rest)) := by
 have hgt := (hS.lt (i := 0) rfl rfl).1
 have h := cHp (hS.cell (i := 0) rfl)
 have c0 := h.1
 have c1 := h.2.1
 have c2 := h.2.2.1
 clear h
 have hR2 := hS.row (i := 2) rfl
 have hR3 := hS.row (i := 3) rfl
 have li := lGt hi
 have lk := lGt hk
 have la := hA.lt hi
 have lb := hA.lt hk
 have hAl := hA.len
 have hi' : t[((i : Nat) : Int).toNat]? = some ya := hi
 have hk' : t[((k : Nat) : Int).toNat]? = some yb := hk
 have hk2 : (t.set ((i : Nat) : Int).toNat yb)[((k : Nat) : Int).toNat]? = some yb := by
  show (t.set i yb)[k]? = some yb
  by_cases e : i = k
  ·subst e; exact List.getElem?_set_self li
  ·rw [List.getElem?_set_ne e]; exact hk
 have hs3 : ((t.set ((i : Nat) : Int).toNat yb).set ((k : Nat) : Int).toNat ya)[((i : Nat) : Int).toNat]? = some yb := by
  show (swp t i k ya yb)[i]? = _
  rw [swp_get hi hk]
  split
  ·rename_i e; subst e; rw [hi] at hk; exact hk
  ·rw [if_pos rfl]
 have hs4 : ((t.set ((i : Nat) : Int).toNat yb).set ((k : Nat) : Int).toNat ya)[((k : Nat) : Int).toNat]? = some ya := by
  show (swp t i k ya yb)[k]? = _
  rw [swp_get hi hk, if_pos rfl]
 obtain ⟨z1, hz1⟩ := getI A (show yb.toNat < A.length by omega)
 obtain ⟨z2, hz2⟩ := getI (A.set yb.toNat (i : Int)) (show ya.toNat < (A.set yb.toNat (i : Int)).length by rw [List.length_set]; omega)
 have hlk : ∀ z, (t.set ((i : Nat) : Int).toNat z).length = t.length := fun z => List.length_set
 refine Spec.of _ Tryz.func171 rfl Tryz.ntmps171 (by kernel_rfl) rfl ?_
 repeat' (first | (apply FL.nilc; (iterate 3 exact rfl)) | (show W _ _ (.region 0 _ _) _ _ _; apply W.regionGB (.fl true 0 (.fl true 1 (.fl true 2 (.fl true 4 (.fl true 5 (.fl true 6 (.fl true 7 (.fl true 9 (.fl true 10 (.fl true 11 (.fl true 12 (.fl true 14 (.fl true 17 (.fl true 18 (.fl true 19 (.fl true 21 (.fl false 3 (.fl false 8 (.fl false 13 (.fl true 15 (.fl false 16 (.fl false 20 (.fl true 22 (.fl false 23 (.fl true 24 (.br 25 (.fl true 26 (.br 27 .done .stop)) .stop)))))))))))))))))))))))))) [8, 13, 15, 16, 20, 22, 23] (none) tMix; kernel_rfl) | (show W _ _ (.region 1 _ _) _ _ _; apply W.regionGB (.fl true 0 (.fl true 1 (.fl true 2 (.fl true 4 (.fl true 5 (.fl true 6 (.fl true 8 (.fl true 11 (.fl true 12 (.fl true 13 (.fl true 15 (.fl true 16 (.fl true 17 (.fl true 19 (.fl true 22 (.fl true 23 (.fl false 3 (.fl false 7 (.fl true 9 (.fl false 10 (.fl false 14 (.fl false 18 (.fl true 20 (.fl false 21 (.fl true 24 (.br 25 (.fl true 26 (.br 27 .done .stop)) .stop)))))))))))))))))))))))))) [7, 9, 10, 14, 18, 20, 21] (none) tMix; kernel_rfl) | (apply WL.storeO tOk; (iterate 4 exact rfl); assumption; exact extA; (iterate 3 exact rfl); exact eIk; assumption; exact rfl; exact extA; intro w' hO hX' hU; (first | replace hS := Sep.uRw (i := 2) rfl hU hO (.inl rfl) hS extA (by (exact Below.size extA)) | replace hS := Sep.uRw (i := 3) rfl hU hO (.inl rfl) hS extA (by (exact Below.size extA))); (try simp only [List.set_cons_zero, List.set_cons_succ] at hS); (try have hR1 := hS.row (i := 1) rfl); (try have hR2 := hS.row (i := 2) rfl); (try have hR3 := hS.row (i := 3) rfl); (try have hC0 := hS.cell (i := 0) rfl); (try have hD0 := (cHp hC0).1); (try have hE0 := (cHp hC0).2.1); (try have hF0 := (cHp hC0).2.2.1)) | (apply FL.indexO tOk; (iterate 8 exact rfl); assumption; exact extA; exact eIk; (first | exact rfl | (focus (simp only [List.length_set]; done))); omega; assumption; intro gb ha hc; cases ha; have hcc := hc; first | (obtain ⟨h1, h2, h3, _⟩ := hc) | (obtain ⟨h1, h2, _⟩ := hc) | (obtain ⟨h1, _⟩ := hc)) | apply WL.nil | (first | apply SG.done | (apply SG.fl0; exact rfl) | (apply SG.fl1; exact rfl; (focus ((intro m; first | assumption | (apply Ext.at; exact extA) | apply But.of_at; first | exact But.upd (by assumption) | exact But.ext extA | (refine But.trans ?_ (But.upd (by assumption)); exact But.ext extA) | exact But.at _ _ _); done))) | (apply SG.br1; exact rfl)) | (first | apply FL.nilS | refine FL.au (k := ?_) | (apply FL.loadG tOk; (iterate 5 exact rfl); assumption; ((focus (intro h; cases h; done))))) | (apply Z.sgL; exact rfl) | apply Z.tn | apply W.seq)
 exact Z.body0n Tryz.results171 fun m => ⟨rfl, hX'.at m, by simpa using hS.ext ((Ext.refl _).at m)⟩
end

structure HpS (B : Nat) (w : World) (gh : Nat) (F : List Nat) (t A : List Int) (rest : List Piece) : Prop where
 at_ : AtOk F.length t A
 zero : ∀ x ∈ F, x = 0
 mem : ∃ as_ cs tr ct ap cp, Lt.Sep B w (hpP B gh as_ cs F tr ct t.length t ap cp A ++ rest)
theorem HpS.ext {B : Nat} {w w' : World} {gh : Nat} {F : List Nat} {t A : List Int} {rest : List Piece} (h : HpS B w gh F t A rest) (hx : Ext w w') : HpS B w' gh F t A rest :=
 ⟨h.at_, h.zero, let ⟨a, b, c, d, e, f, hS⟩ := h.mem; ⟨a, b, c, d, e, f, hS.ext hx⟩⟩
theorem AtOk.len_le {n : Nat} {t A : List Int} (h : AtOk n t A) : t.length <= n := by
 have key : ∀ (m : Nat) (l : List Nat), l.Nodup -> (∀ i ∈ l, i < m) -> l.length <= m := by
  intro m
  induction m with
  | zero => intro l _ hl; cases l with
   | nil => exact Nat.le_refl _
   | cons x r => exact absurd (hl x (by simp)) (Nat.not_lt_zero _)
  | succ m ih =>
   intro l hd hl
   have h1 := ih (l.erase m) (hd.erase m) fun i hi => by
    have h2 := hl i (List.mem_of_mem_erase hi)
    have h3 : i ≠ m := fun he => by subst he; exact (List.Nodup.not_mem_erase hd) hi
    omega
   rw [List.length_erase] at h1
   split at h1 <;> omega
 have h1 := key n (t.map Int.toNat) ?_ ?_
 ·rwa [List.length_map] at h1
 ·rw [List.nodup_iff_pairwise_ne, List.pairwise_map, List.pairwise_iff_getElem]
  intro i j hi hj hij he
  have p1 := h.pos i t[i] (List.getElem?_eq_getElem hi)
  have p2 := h.pos j t[j] (List.getElem?_eq_getElem hj)
  have : t[i] = t[j] := by omega
  have := h.inj (List.getElem?_eq_getElem hi) (by rw [List.getElem?_eq_getElem hj, this])
  omega
 ·intro i hi
  obtain ⟨x, hx, rfl⟩ := List.mem_map.1 hi
  obtain ⟨j, hj⟩ := List.mem_iff_getElem?.1 hx
  exact (h.lt hj).2
structure HpR (w0 w : World) (gh : Nat) (F : List Nat) (t0 : List Int) (rest : List Piece) (t A : List Int) : Prop where
 ext : Ext w0 w
 hp : HpS w0.heap.size w gh F t A rest
 mem : ∀ x, x ∈ t ↔ x ∈ t0
theorem swp_memc {t : List Int} {i k : Nat} {a b : Int} (hi : t[i]? = some a) (hk : t[k]? = some b) {t0 : List Int} (h : ∀ x, x ∈ t ↔ x ∈ t0) : ∀ x, x ∈ swp t i k a b ↔ x ∈ t0 := fun x => (swp_mem hi hk x).trans (h x)
theorem up_above (i : Nat) (h : 0 < i) : ((i : Int) - 1) / 2 = (((i - 1) / 2 : Nat) : Int) := by omega
theorem heap_up (w w0 : World) (gh : Nat) (F : List Nat) (t A : List Int) (rest : List Piece) (hX : Ext w0 w) (hH : HpS w0.heap.size w gh F t A rest) (hn : F.length <= 1048576) (i : Nat) (hi : i < t.length) (hU : UpI t i) :
  Lt.Spec Tryz.prog 169 [.pointer (some ⟨gh, 0, none⟩), .int .i64 i] w (fun v w' => v = .tuple #[] /\ ∃ t' A', HpR w0 w' gh F t rest t' A' /\ HO t') := by
 have htl := hH.at_.len_le
 have key : ∀ (e : Env) (Q : Exit -> Act -> World -> Prop) (c : Code), True := fun _ _ _ => trivial
 clear key
 by_cases h0 : i = 0
 ·subst h0
  refine Spec.of _ Tryz.func169 rfl Tryz.ntmps169 (by kernel_rfl) rfl ?_
  repeat' (first | (apply WL.quow; (iterate 4 exact rfl); exact ⟨⟨by decide, by decide⟩, by decide⟩) | (first | apply WL.nil | refine WL.au (k := ?_)) | apply Z.tn | (first | apply W.seq | apply W.region | apply W.block))
  refine W.loop (fun _ : Unit => True) (fun _ => [(0, .pointer (some ⟨gh, 0, none⟩)), (1, .int .i64 0), (4, .int .i64 0)]) (fun _ => w) (fun _ => 0) () trivial ⟨rfl, rfl, rfl, trivial⟩ rfl ?_
  rintro ⟨⟩ _
  repeat' (first | (apply QL.gF; exact rfl; exact rfl; exact dFf (by decide)) | (first | apply QL.nil | refine QL.au (k := ?_) | (apply QL.gdF; exact rfl; exact rfl)) | (first | apply Z.tn | apply Z.tnx | apply Z.bkx) | (first | apply W.seq | apply W.exit | (apply W.condF; exact rfl) | (apply W.rgD tMix; kernel_rfl)))
  exact Z.body0n Tryz.results169 fun m => ⟨rfl, t, A, ⟨hX.at m, hH.ext ((Ext.refl _).at m), fun x => Iff.rfl⟩, hU.stop (.inl rfl)⟩
 ·refine Spec.of _ Tryz.func169 rfl Tryz.ntmps169 (by kernel_rfl) rfl ?_
  repeat' (first | (first | apply WL.nil | refine WL.au (k := ?_)) | apply Z.tn | (first | apply W.seq | apply W.region | apply W.block))
  refine W.loop (fun s : Nat × List Int × List Int × World => s.1 < s.2.1.length /\ UpI s.2.1 s.1 /\ HpR w0 s.2.2.2 gh F t rest s.2.1 s.2.2.1) (fun s => [(0, .pointer (some ⟨gh, 0, none⟩)), (1, .int .i64 s.1), (4, .int .i64 ((s.1 - 1) / 2 : Nat))]) (fun s => s.2.2.2) (fun s => s.1) (i, t, A, w) ⟨hi, hU, hX, hH, fun x => Iff.rfl⟩ ⟨rfl, rfl, by rw [<- up_above i (by omega)]; exact rfl, trivial⟩ rfl ?_
  rintro ⟨j, t1, A1, w1⟩ ⟨hj, hU1, hX1, hH1, hM1⟩
  dsimp only at hj hU1 hX1 hH1 hM1
  obtain ⟨as_, cs, tr, ct, ap, cp, hS⟩ := hH1.mem
  have htl1 := hH1.at_.len_le
  have h := cHp (hS.cell (i := 0) rfl)
  have c1 := h.2.1
  clear h
  have Rt := Own.row eIk (hS.row (i := 2) rfl)
  obtain ⟨ya, hya⟩ := getI t1 hj
  obtain ⟨yb, hyb⟩ := getI t1 (show (j - 1) / 2 < t1.length by omega)
  have la := hH1.at_.lt hya
  have lb := hH1.at_.lt hyb
  have hya' : t1[((j : Nat) : Int).toNat]? = some ya := hya
  have hyb' : t1[(((j - 1) / 2 : Nat) : Int).toNat]? = some yb := hyb
  by_cases hj0 : j = 0
  ·subst hj0
   repeat' (first | (apply QL.gF; exact rfl; exact rfl; exact dFf (by show ¬ (0 : Int) < ((0 : Nat) : Int); omega)) | (first | apply QL.nil | refine QL.au (k := ?_) | (apply QL.gdF; exact rfl; exact rfl)) | (first | apply Z.tn | apply Z.tnx | apply Z.bkx) | (first | apply W.seq | apply W.exit | (apply W.condF; exact rfl) | (apply W.rgD tMix; kernel_rfl)))
   exact Z.body0n Tryz.results169 fun m => ⟨rfl, t1, A1, ⟨hX1.at m, hH1.ext ((Ext.refl _).at m), hM1⟩, hU1.stop (.inl rfl)⟩
  by_cases hlt : ya < yb
  ·have hsw := heap_swap hX1 hS hH1.at_ j ((j - 1) / 2) ya yb hya hyb (by omega)
   have hU2 := hU1.step (by omega) hya hyb hlt
   have hA2 := hH1.at_.swap hya hyb
   have hM2 := swp_memc hya hyb hM1
   by_cases hj1 : (j - 1) / 2 = 0
   ·repeat' (first | (apply QL.nilc; (iterate 3 exact rfl)) | (apply QL.gT; exact rfl; exact rfl; (focus (exact dTt (by omega)))) | (apply W.cKT; exact rfl; (focus (exact dTt (by omega)))) | (apply QL.callS (f := 173); (iterate 4 exact rfl); exact heap_ahead hS hH1.zero ya yb ⟨la.1, la.2⟩ ⟨lb.1, lb.2⟩) | (apply WL.quow; (iterate 4 exact rfl); exact ⟨⟨by omega, by omega⟩, by decide⟩) | (apply WL.call (f := 171); (iterate 4 exact rfl); exact hsw; rintro v' w2 ⟨rfl, hX2, hS2⟩) | (first | apply WL.nil | refine WL.au (k := ?_)) | (first | apply QL.nil | refine QL.au (k := ?_) | (apply QL.index tOk; (iterate 8 exact rfl); assumption; exact extA; exact rfl; omega; assumption; intro b off h; have hcc := h; first | (obtain ⟨h1, h2, h3, h4, h5, h6, _⟩ := h) | (obtain ⟨h1, h2, h3, _⟩ := h) | (obtain ⟨h1, h2, _⟩ := h) | (obtain ⟨h1, _⟩ := h))) | (first | apply Z.tn | apply Z.bkn) | (first | apply W.seq | apply W.region | apply W.block | apply W.skip | (apply W.rgD tMix; kernel_rfl)))
    refine Z.again ((j - 1) / 2, swp t1 j ((j - 1) / 2) ya yb, _, w2) ⟨by show (j - 1) / 2 < (swp t1 j ((j - 1) / 2) ya yb).length; rw [swp_len]; omega, hU2, hX2, ⟨hA2, hH1.zero, as_, cs, tr, ct, ap, cp, by rw [swp_len]; exact hS2⟩, hM2⟩ (by show (j - 1) / 2 < j; omega) ⟨rfl, rfl, ?_, trivial⟩ rfl
    show some (Value.int _ _) = some (Value.int _ _)
    rw [hj1]
    exact congrArg (fun z => some (Value.int IntKind.i64 z)) (show (((0 : Nat) : Int) - 1).tdiv 2 = (((0 - 1) / 2 : Nat) : Int) by decide)
   ·repeat' (first | (apply QL.nilc; (iterate 3 exact rfl)) | (apply QL.gT; exact rfl; exact rfl; (focus (exact dTt (by omega)))) | (apply W.cKT; exact rfl; (focus (exact dTt (by omega)))) | (apply QL.callS (f := 173); (iterate 4 exact rfl); exact heap_ahead hS hH1.zero ya yb ⟨la.1, la.2⟩ ⟨lb.1, lb.2⟩) | (apply WL.call (f := 171); (iterate 4 exact rfl); exact hsw; rintro v' w2 ⟨rfl, hX2, hS2⟩) | (first | apply WL.nil | refine WL.au (k := ?_)) | (first | apply QL.nil | refine QL.au (k := ?_) | (apply QL.index tOk; (iterate 8 exact rfl); assumption; exact extA; exact rfl; omega; assumption; intro b off h; have hcc := h; first | (obtain ⟨h1, h2, h3, h4, h5, h6, _⟩ := h) | (obtain ⟨h1, h2, h3, _⟩ := h) | (obtain ⟨h1, h2, _⟩ := h) | (obtain ⟨h1, _⟩ := h))) | (first | apply Z.tn | apply Z.bkn) | (first | apply W.seq | apply W.region | apply W.block | apply W.skip | (apply W.rgD tMix; kernel_rfl)))
    refine Z.again ((j - 1) / 2, swp t1 j ((j - 1) / 2) ya yb, _, w2) ⟨by show (j - 1) / 2 < (swp t1 j ((j - 1) / 2) ya yb).length; rw [swp_len]; omega, hU2, hX2, ⟨hA2, hH1.zero, as_, cs, tr, ct, ap, cp, by rw [swp_len]; exact hS2⟩, hM2⟩ (by show (j - 1) / 2 < j; omega) ⟨rfl, rfl, ?_, trivial⟩ rfl
    rw [<- up_above ((j - 1) / 2) (by omega)]; exact rfl
  ·repeat' (first | (apply QL.nilc; (iterate 3 exact rfl)) | (apply QL.gT; exact rfl; exact rfl; (focus (exact dTt (by omega)))) | (apply W.cKF; exact rfl; exact dFf hlt) | (apply QL.callS (f := 173); (iterate 4 exact rfl); exact heap_ahead hS hH1.zero ya yb ⟨la.1, la.2⟩ ⟨lb.1, lb.2⟩) | (first | apply QL.nil | refine QL.au (k := ?_) | (apply QL.index tOk; (iterate 8 exact rfl); assumption; exact extA; exact rfl; omega; assumption; intro b off h; have hcc := h; first | (obtain ⟨h1, h2, h3, h4, h5, h6, _⟩ := h) | (obtain ⟨h1, h2, h3, _⟩ := h) | (obtain ⟨h1, h2, _⟩ := h) | (obtain ⟨h1, _⟩ := h))) | (first | apply Z.tn | apply Z.tnx | apply Z.bkx) | (first | apply W.seq | apply W.exit | (apply W.rgD tMix; kernel_rfl)))
   refine Z.body0n Tryz.results169 fun m => ⟨rfl, t1, A1, ⟨hX1.at m, hH1.ext ((Ext.refl _).at m), hM1⟩, hU1.stop (.inr fun a b ha hb => ?_)⟩
   rw [hya] at hb; rw [hyb] at ha; cases ha; cases hb; omega
theorem heap_down (w w0 : World) (gh : Nat) (F : List Nat) (t A : List Int) (rest : List Piece) (hX : Ext w0 w) (hH : HpS w0.heap.size w gh F t A rest) (hn : F.length <= 1048576) (i : Nat) (hi : i < t.length ∨ t = []) (hD : DownI t i) (hi0 : i <= 1048576) :
  Lt.Spec Tryz.prog 172 [.pointer (some ⟨gh, 0, none⟩), .int .i64 i] w (fun v w' => v = .tuple #[] /\ ∃ t' A', HpR w0 w' gh F t rest t' A' /\ HO t') := by
 refine Spec.of _ Tryz.func172 rfl Tryz.ntmps172 (by kernel_rfl) rfl ?_
 repeat' (first | apply W.block | fail)
 refine W.loop (fun s : Nat × List Int × List Int × World => (s.1 < s.2.1.length ∨ s.2.1 = []) /\ s.1 <= 1048576 /\ DownI s.2.1 s.1 /\ HpR w0 s.2.2.2 gh F t rest s.2.1 s.2.2.1) (fun s => [(0, .pointer (some ⟨gh, 0, none⟩)), (1, .int .i64 s.1)]) (fun s => s.2.2.2) (fun s => 1048577 - s.1) (i, t, A, w) ⟨hi, hi0, hD, hX, hH, fun x => Iff.rfl⟩ ⟨rfl, rfl, trivial⟩ rfl ?_
 rintro ⟨j, t1, A1, w1⟩ ⟨hj, hj0, hD1, hX1, hH1, hM1⟩
 dsimp only at hj hj0 hD1 hX1 hH1 hM1
 obtain ⟨as_, cs, tr, ct, ap, cp, hS⟩ := hH1.mem
 have htl1 := hH1.at_.len_le
 have h := cHp (hS.cell (i := 0) rfl)
 have c1 := h.2.1
 clear h
 have Rt := Own.row eIk (hS.row (i := 2) rfl)
 repeat' (first | (first | apply WL.nil | refine WL.au (k := ?_)) | apply Z.tn | (first | apply W.seq | apply W.region | apply W.block))
 refine W.loop (fun s : Nat × Nat => 2 * j + 1 <= s.1 /\ s.1 <= 2 * j + 3 /\ (s.2 = j ∨ (2 * j + 1 <= s.2 /\ s.2 < s.1 /\ s.2 < t1.length)) /\ (∀ q, (q = j ∨ (2 * j + 1 <= q /\ q < s.1)) -> q < t1.length -> leT t1 s.2 q) /\ (s.2 ≠ j -> ∀ a b, t1[s.2]? = some a -> t1[j]? = some b -> a < b)) (fun s => [(0, .pointer (some ⟨gh, 0, none⟩)), (1, .int .i64 j), (4, .int .i64 s.2), (5, .int .i64 s.1)]) (fun _ => w1) (fun s => 2 * j + 4 - s.1) (2 * j + 1, j) ⟨Nat.le_refl _, by omega, .inl rfl, fun q hq _ a b ha hb => by
  rcases hq with rfl | ⟨h1, h2⟩
  ·rw [ha] at hb; cases hb; exact Int.le_refl _
  ·omega, fun h => absurd rfl h⟩ ⟨rfl, rfl, rfl, by show some (Value.int _ _) = some (Value.int _ _); rw [show ((2 * j + 1 : Nat) : Int) = 2 * (j : Int) + 1 by omega], trivial⟩ rfl ?_
 rintro ⟨k, f⟩ ⟨hk1, hk2, hf, hmin, hless⟩
 dsimp only at hk1 hk2 hf hmin hless
 have efin : ∀ q : Nat, q = j ∨ (2 * j + 1 <= q /\ q < 2 * j + 3) ↔ q = j ∨ (0 < q /\ (q - 1) / 2 = j) := fun q => by omega
 by_cases hlt : k <= 2 * j + 2 /\ k < t1.length
 ·have hjl : j < t1.length := by omega
  have hfl : f < t1.length := by rcases hf with rfl | ⟨_, _, h⟩; exact hjl; exact h
  obtain ⟨yk, hyk⟩ := getI t1 hlt.2
  obtain ⟨yf, hyf⟩ := getI t1 hfl
  have lk := hH1.at_.lt hyk
  have lf := hH1.at_.lt hyf
  have hyk' : t1[((k : Nat) : Int).toNat]? = some yk := hyk
  have hyf' : t1[((f : Nat) : Int).toNat]? = some yf := hyf
  by_cases hah : yk < yf
  ·repeat' (first | (apply WL.nilc; (iterate 3 exact rfl)) | (apply QL.nilc; (iterate 3 exact rfl)) | (apply WL.gT; exact rfl; exact rfl; (focus (exact dTt (by omega)))) | (apply W.cKT; exact rfl; (focus (exact dTt (by omega)))) | (apply QL.callS (f := 173); (iterate 4 exact rfl); exact heap_ahead hS hH1.zero yk yf ⟨lk.1, lk.2⟩ ⟨lf.1, lf.2⟩) | (first | apply WL.nil | refine WL.au (k := ?_)) | (first | apply QL.nil | refine QL.au (k := ?_) | (apply QL.index tOk; (iterate 8 exact rfl); assumption; exact extA; exact rfl; omega; assumption; intro b off h; have hcc := h; first | (obtain ⟨h1, h2, h3, h4, h5, h6, _⟩ := h) | (obtain ⟨h1, h2, h3, _⟩ := h) | (obtain ⟨h1, h2, _⟩ := h) | (obtain ⟨h1, _⟩ := h))) | (first | apply Z.tn | apply Z.bkn) | (first | apply W.seq | apply W.region | apply W.block | apply W.skip | (apply W.rgD tMix; kernel_rfl)))
   refine Z.again (k + 1, k) ⟨by show 2 * j + 1 <= k + 1; omega, by show k + 1 <= _; omega, .inr ⟨by show 2 * j + 1 <= k; omega, by show k < k + 1; omega, hlt.2⟩, fun q hq hql a b ha hb => ?_, fun hne a b ha hb => ?_⟩ (by show 2 * j + 4 - (k + 1) < 2 * j + 4 - k; omega) ⟨rfl, rfl, rfl, rfl, trivial⟩ rfl
   ·have ha' : t1[k]? = some a := ha
    rw [hyk] at ha'; cases ha'
    by_cases he : q = k
    ·subst he; rw [hyk] at hb; cases hb; exact Int.le_refl _
    ·have := hmin q (by rcases hq with h | h; exact .inl h; exact .inr ⟨h.1, by have : q < k + 1 := h.2; omega⟩) hql yf b hyf hb
     omega
   ·have ha' : t1[k]? = some a := ha
    rw [hyk] at ha'; cases ha'
    have := hmin j (.inl rfl) hjl yf b hyf hb
    omega
  ·repeat' (first | (apply WL.nilc; (iterate 3 exact rfl)) | (apply QL.nilc; (iterate 3 exact rfl)) | (apply WL.gT; exact rfl; exact rfl; (focus (exact dTt (by omega)))) | (apply W.cKT; exact rfl; (focus (exact dTt (by omega)))) | (apply W.cKF; exact rfl; exact dFf hah) | (apply QL.callS (f := 173); (iterate 4 exact rfl); exact heap_ahead hS hH1.zero yk yf ⟨lk.1, lk.2⟩ ⟨lf.1, lf.2⟩) | (first | apply WL.nil | refine WL.au (k := ?_)) | (first | apply QL.nil | refine QL.au (k := ?_) | (apply QL.index tOk; (iterate 8 exact rfl); assumption; exact extA; exact rfl; omega; assumption; intro b off h; have hcc := h; first | (obtain ⟨h1, h2, h3, h4, h5, h6, _⟩ := h) | (obtain ⟨h1, h2, h3, _⟩ := h) | (obtain ⟨h1, h2, _⟩ := h) | (obtain ⟨h1, _⟩ := h))) | (first | apply Z.tn | apply Z.bkn) | (first | apply W.seq | apply W.region | apply W.block | apply W.skip | (apply W.rgD tMix; kernel_rfl)))
   refine Z.again (k + 1, f) ⟨by show 2 * j + 1 <= k + 1; omega, by show k + 1 <= _; omega, hf.imp id fun h => ⟨h.1, by show f < k + 1; omega, h.2.2⟩, fun q hq hql a b ha hb => ?_, hless⟩ (by show 2 * j + 4 - (k + 1) < 2 * j + 4 - k; omega) ⟨rfl, rfl, rfl, rfl, trivial⟩ rfl
   have ha' : t1[f]? = some a := ha
   rw [hyf] at ha'; cases ha'
   by_cases he : q = k
   ·subst he; rw [hyk] at hb; cases hb; omega
   ·exact hmin q (by rcases hq with h | h; exact .inl h; exact .inr ⟨h.1, by have : q < k + 1 := h.2; omega⟩) hql yf b hyf hb
 ·have hall : ∀ q, 0 < q -> q < t1.length -> (q - 1) / 2 = j -> leT t1 f q := fun q q0 ql qj => hmin q (.inr (by omega)) ql
  by_cases hfj : f = j
  ·subst hfj
   repeat' (first | (apply WL.nilc; (iterate 3 exact rfl)) | (apply W.cKT; exact rfl; (focus (exact dTt rfl))) | (apply W.cKF; exact rfl; (focus (exact dFf (by omega)))) | (first | apply WL.nil | refine WL.au (k := ?_) | (apply WL.gdF; exact rfl; exact rfl) | (apply WL.gD; exact rfl; exact rfl; all_goals intro _)) | (first | apply Z.tn | apply Z.tnx | apply Z.bkx | apply Z.tnr | apply Z.bkr) | (first | apply W.seq | apply W.region | apply W.ret | apply W.exit | (apply W.condF; exact rfl)))
   all_goals exact Z.body0 Tryz.results172 fun m => ⟨rfl, t1, A1, ⟨hX1.at m, hH1.ext ((Ext.refl _).at m), hM1⟩, hD1.stop hall⟩
  ·have hf' := hf.resolve_left hfj
   have hjl : j < t1.length := by omega
   obtain ⟨yf, hyf⟩ := getI t1 hf'.2.2
   obtain ⟨yj, hyj⟩ := getI t1 hjl
   have hlf := hless hfj yf yj hyf hyj
   have hfp : (f - 1) / 2 = j := by omega
   have hsw := heap_swap hX1 hS hH1.at_ j f yj yf hyj hyf (by omega)
   have hD2 := hD1.step (f := f) (by omega) hfp hyj hyf hlf (fun q q0 ql qj y hy => hall q q0 ql qj yf y hyf hy)
   have hA2 := hH1.at_.swap hyj hyf
   have hM2 := swp_memc hyj hyf hM1
   repeat' (first | (apply WL.nilc; (iterate 3 exact rfl)) | (apply W.cKF; exact rfl; (focus (exact dFf (by omega)))) | (apply WL.call (f := 171); (iterate 4 exact rfl); exact hsw; rintro v' w2 ⟨rfl, hX2, hS2⟩) | (first | apply WL.nil | refine WL.au (k := ?_) | (apply WL.gdF; exact rfl; exact rfl) | (apply WL.gD; exact rfl; exact rfl; all_goals intro _)) | (first | apply Z.tn | apply Z.bkn | apply Z.tnx | apply Z.bkx) | (first | apply W.seq | apply W.region | apply W.skip | apply W.exit | (apply W.condF; exact rfl)))
   all_goals exact Z.again (f, swp t1 j f yj yf, _, w2) ⟨.inl (by show f < (swp t1 j f yj yf).length; rw [swp_len]; exact hf'.2.2), by show f <= _; omega, hD2, hX2, ⟨hA2, hH1.zero, as_, cs, tr, ct, ap, cp, by rw [swp_len]; exact hS2⟩, hM2⟩ (by show 1048577 - f < 1048577 - j; omega) ⟨rfl, rfl, trivial⟩ rfl

abbrev hpPn (B gh : Nat) (as_ : Option Addr) (cs : Nat) (F : List Nat) (tr : Option Addr) (ct nt : Nat) (t : List Int) (ap : Option Addr) (cp na : Nat) (A : List Int) : List Piece :=
 [pcell gh #[.slice as_ F.length cs, .slice tr nt ct, .slice ap na cp] 168, prow 1 encF 171 B as_ cs F, prow 1 encI 3 B tr ct t, prow 1 encI 3 B ap cp A]
theorem HpS.mk' {B : Nat} {w : World} {gh nt na : Nat} {F : List Nat} {t A : List Int} {rest : List Piece} {as_ tr ap : Option Addr} {cs ct cp : Nat} (hA : AtOk F.length t A) (hF : ∀ x ∈ F, x = 0) (hnt : nt = t.length) (hna : na = A.length) (hS : Lt.Sep B w (hpPn B gh as_ cs F tr ct nt t ap cp na A ++ rest)) : HpS B w gh F t A rest := by
 subst hnt; subst hna; exact ⟨hA, hF, as_, cs, tr, ct, ap, cp, hS⟩
theorem heap_Len {B : Nat} {w : World} {gh : Nat} {F : List Nat} {t A : List Int} {rest : List Piece} (hH : HpS B w gh F t A rest) : Still Tryz.prog 170 [.pointer (some ⟨gh, 0, none⟩)] w (.int .i64 t.length) := by
 obtain ⟨as_, cs, tr, ct, ap, cp, hS⟩ := hH.mem
 have h := cHp (hS.cell (i := 0) rfl)
 have c1 := h.2.1
 clear h
 refine Spec.of _ Tryz.func170 rfl Tryz.ntmps170 (by kernel_rfl) rfl ?_
 repeat' (first | (apply WL.nilc; (iterate 3 exact rfl)) | (apply WL.eqNilS tOk; (iterate 6 exact rfl)) | (first | apply WL.nil | refine WL.au (k := ?_)) | apply Z.tn | (first | apply W.seq | apply W.region | apply W.skip | apply W.ret | (apply W.condF; exact rfl)))
 exact Z.bd1 Tryz.results170 rfl fun m => ⟨rfl, m, rfl⟩
theorem heap_known {B : Nat} {w : World} {gh : Nat} {F : List Nat} {t A : List Int} {rest : List Piece} (hH : HpS B w gh F t A rest) (v : Nat) (hv : v < F.length) : Still Tryz.prog 168 [.pointer (some ⟨gh, 0, none⟩), .int .i64 v] w (.bool true) := by
 obtain ⟨as_, cs, tr, ct, ap, cp, hS⟩ := hH.mem
 have h := cHp (hS.cell (i := 0) rfl)
 have c2 := h.2.2.1
 clear h
 have hl := hH.at_.len
 refine Spec.of _ Tryz.func168 rfl Tryz.ntmps168 (by kernel_rfl) rfl ?_
 repeat' (first | (apply WL.nilc; (iterate 3 exact rfl)) | (apply WL.neNilS tOk; (iterate 6 exact rfl)) | (apply WL.gT; exact rfl; exact rfl; exact dTt (by omega)) | (first | apply WL.nil | refine WL.au (k := ?_)) | apply Z.tn | (first | apply W.seq | apply W.region | apply W.ret))
 exact Z.bd1 Tryz.results168 rfl fun m => ⟨congrArg Value.bool (dTt (by omega)), m, rfl⟩
structure HpB (w0 w : World) (gh : Nat) (F : List Nat) (rest : List Piece) (t A : List Int) (p : Int -> Prop) : Prop where
 ext : Ext w0 w
 hp : HpS w0.heap.size w gh F t A rest
 ho : HO t
 mem : ∀ x, x ∈ t ↔ p x
theorem heap_Push (w w0 : World) (gh : Nat) (F : List Nat) (t A : List Int) (rest : List Piece) (p : Int -> Prop) (hB : HpB w0 w gh F rest t A p) (hn : F.length <= 1048576) (v : Nat) (hv : v < F.length) (hp : ¬ p v) :
  Lt.Spec Tryz.prog 154 [.pointer (some ⟨gh, 0, none⟩), .int .i64 v] w (fun r w' => r = .int .i64 0 /\ ∃ t' A', HpB w0 w' gh F rest t' A' (fun x => p x ∨ x = v)) := by
 obtain ⟨hX, hH, hO, hm⟩ := hB
 have hnt : (v : Int) ∉ t := fun h => hp ((hm _).1 h)
 have htl := hH.at_.len_le
 have hAl := hH.at_.len
 have hAv := hH.at_.out v hv hnt
 have hA2 := hH.at_.push hv hnt
 have hU2 := hO.push (v : Int)
 have hAv' : A[((v : Nat) : Int).toNat]? = some (-1) := hAv
 have hkn := heap_known hH v hv
 have hZ := hH.zero
 obtain ⟨as_, cs, tr, ct, ap, cp, hS⟩ := hH.mem
 have hgt := (hS.lt (i := 0) rfl rfl).1
 have hne : blk tr ≠ some gh := fun h => by
  rcases hS.apart 2 0 _ _ rfl rfl (by decide) with h1 | h1
  ·rw [show (prow 1 encI 3 w0.heap.size tr ct t).b = blk tr from rfl] at h1; rw [h1] at h; cases h
  ·exact h1 h
 have h := cHp (hS.cell (i := 0) rfl)
 have c1 := h.2.1
 have c2 := h.2.2.1
 clear h
 have hR2 := hS.row (i := 2) rfl
 have hR3 := hS.row (i := 3) rfl
 have hset : (A.set ((v : Nat) : Int).toNat (t.length : Int))[((v : Nat) : Int).toNat]? = some (t.length : Int) := List.getElem?_set_self (by show v < A.length; omega)
 refine Spec.of _ Tryz.func154 rfl Tryz.ntmps154 (by kernel_rfl) rfl ?_
 repeat' (first | (apply WL.nilc; (iterate 3 exact rfl)) | (apply FL.nilc; (iterate 3 exact rfl)) | (apply WL.callS; (iterate 4 exact rfl); exact hkn) | (apply W.cKF; exact rfl; (focus (exact dFf (by decide)))) | (show W _ _ (.region 5 _ _) _ _ _; apply W.regionGB (.fl true 0 (.fl true 1 (.fl true 2 (.fl true 4 (.fl true 5 (.fl true 6 (.fl true 7 (.fl false 3 (.fl false 8 (.fl true 9 (.fl true 10 (.br 11 .done .stop)))))))))))) [8, 9] (none) tMix; kernel_rfl) | (apply WL.storeO tOk; (iterate 4 exact rfl); assumption; exact extA; (iterate 3 exact rfl); exact eIk; assumption; exact rfl; exact extA; intro w' hO hX' hU; (replace hS := Sep.uRw (i := 3) rfl hU hO (.inl rfl) hS extA (by (exact Below.size extA))); (try simp only [List.set_cons_zero, List.set_cons_succ] at hS); (try have hR1 := hS.row (i := 1) rfl); (try have hR2 := hS.row (i := 2) rfl); (try have hR3 := hS.row (i := 3) rfl); (try have hC0 := hS.cell (i := 0) rfl); (try have hD0 := (cHp hC0).1); (try have hE0 := (cHp hC0).2.1); (try have hF0 := (cHp hC0).2.2.1)) | (apply WL.indexO tOk; (iterate 8 exact rfl); assumption; exact extA; exact eIk; (first | exact rfl | (focus (simp only [List.length_set]; done))); omega; assumption; intro gb ha hc; cases ha; have hcc := hc; first | (obtain ⟨h1, h2, h3, _⟩ := hc) | (obtain ⟨h1, h2, _⟩ := hc) | (obtain ⟨h1, _⟩ := hc)) | (apply FL.indexO tOk; (iterate 8 exact rfl); assumption; exact extA; exact eIk; exact rfl; omega; assumption; intro gb ha hc; cases ha; have hcc := hc; first | (obtain ⟨h1, h2, h3, _⟩ := hc) | (obtain ⟨h1, h2, _⟩ := hc) | (obtain ⟨h1, _⟩ := hc)) | (apply WL.lit tOk; (iterate 6 exact rfl); kernel_rfl; exact rfl; intro gb w' hb hge hc hx) | (apply WL.ap1 (z := ((v : Int))) tOk eIk; (iterate 10 exact rfl); assumption; exact extA; exact rfl; assumption; exact rfl; exact rfl; exact extA; omega; intro a' cap' w' hO hX' hU hF; (replace hS := Sep.uRw (i := 2) rfl hU hO hF hS extA (by (exact Below.size extA))); (try simp only [List.set_cons_zero, List.set_cons_succ] at hS); (try have hR1 := hS.row (i := 1) rfl); (try have hR2 := hS.row (i := 2) rfl); (try have hR3 := hS.row (i := 3) rfl); (try have hC0 := hS.cell (i := 0) rfl); (try have hD0 := (cHp hC0).1); (try have hE0 := (cHp hC0).2.1); (try have hF0 := (cHp hC0).2.2.1)) | (apply WL.storeF (w0 := w0) tOk; (iterate 4 exact rfl); assumption; exact extA; (iterate 4 exact rfl); exact extA; assumption; intro w' hb hX' hU; replace hS := Sep.uCl (i := 0) rfl hU hb hS extA (by (exact Below.size extA)); (try simp only [List.set_cons_zero, List.set_cons_succ] at hS); (try have hR1 := hS.row (i := 1) rfl); (try have hR2 := hS.row (i := 2) rfl); (try have hR3 := hS.row (i := 3) rfl); (try have hC0 := hS.cell (i := 0) rfl); (try have hD0 := (cHp hC0).1); (try have hE0 := (cHp hC0).2.1); (try have hF0 := (cHp hC0).2.2.1)) | (first | apply WL.nil | refine WL.au (k := ?_)) | (first | apply SG.done | (apply SG.fl0; exact rfl) | (apply SG.fl1; exact rfl; (focus ((intro m; first | assumption | (apply Ext.at; exact extA) | apply But.of_at; first | exact But.upd (by assumption) | exact But.ext extA | (refine But.trans ?_ (But.upd (by assumption)); exact But.ext extA) | exact But.at _ _ _); done))) | (apply SG.br1; exact rfl)) | (first | apply FL.nilS | refine FL.au (k := ?_) | (apply FL.loadG tOk; (iterate 5 exact rfl); assumption; ((focus (intro h; cases h; done))))) | (apply Z.sgL; exact rfl) | (first | apply Z.tn | apply Z.bkn) | (first | apply W.seq | apply W.region | apply W.block | apply W.skip | (apply W.condF; exact rfl)))
 have hH2 : HpS w0.heap.size w' gh F (t ++ [(v : Int)]) (A.set v (t.length : Int)) rest := HpS.mk' hA2 hZ rfl (by rw [List.length_set]) hS
 have hup := heap_up w' w0 gh F (t ++ [(v : Int)]) (A.set v (t.length : Int)) rest hX' hH2 hn t.length (by simp) hU2
 repeat' (first | (apply WL.call (f := 169); (iterate 4 exact rfl); exact hup; rintro v' w2 ⟨rfl, t2, A2, hR2, hO2⟩) | (first | apply WL.nil | refine WL.au (k := ?_)) | apply Z.tn | (first | apply W.seq | apply W.region | apply W.ret))
 refine Z.bd1 Tryz.results154 rfl fun m => ⟨rfl, t2, A2, hR2.ext.at m, hR2.hp.ext ((Ext.refl _).at m), hO2, fun x => ?_⟩
 rw [hR2.mem x, List.mem_append, hm x, List.mem_singleton]
theorem heap_Pop0 {w w0 : World} {gh : Nat} {F : List Nat} {A : List Int} {rest : List Piece} {p : Int -> Prop} (hB : HpB w0 w gh F rest [] A p) : Still Tryz.prog 155 [.pointer (some ⟨gh, 0, none⟩)] w (.tuple #[.int .i64 0, .bool false]) := by
 have hl := heap_Len hB.hp
 refine Spec.of _ Tryz.func155 rfl Tryz.ntmps155 (by kernel_rfl) rfl ?_
 repeat' (first | (apply WL.callS; (iterate 4 exact rfl); exact hl) | (apply W.cKT; exact rfl; exact dTt rfl) | (first | apply WL.nil | refine WL.au (k := ?_)) | (first | apply Z.tn | apply Z.tnr) | (first | apply W.seq | apply W.region | apply W.ret))
 exact Z.body2 Tryz.results155 rfl rfl fun m => ⟨rfl, m, rfl⟩
theorem heap_Pop (w w0 : World) (gh : Nat) (F : List Nat) (t A : List Int) (rest : List Piece) (p : Int -> Prop) (hB : HpB w0 w gh F rest t A p) (hn : F.length <= 1048576) (ya : Int) (h0 : t[0]? = some ya) :
  Lt.Spec Tryz.prog 155 [.pointer (some ⟨gh, 0, none⟩)] w (fun r w' => r = .tuple #[.int .i64 ya, .bool true] /\ ∃ t' A', HpB w0 w' gh F rest t' A' (fun x => p x /\ x ≠ ya)) := by
 obtain ⟨hX, hH, hO, hm⟩ := hB
 have htl := hH.at_.len_le
 have hAl := hH.at_.len
 have hlen0 := lGt h0
 obtain ⟨l, hl⟩ : ∃ l, t.length = l + 1 := ⟨t.length - 1, by omega⟩
 obtain ⟨yb, hyb⟩ := getI t (show l < t.length by omega)
 have la := hH.at_.lt h0
 have hD2 := pop_down hO hl h0 hyb
 have hA2 := pop_at hH.at_ hl h0 hyb
 have hM2 := pop_mem hH.at_ hl h0 hyb
 have hL2 := pop_len (a := ya) (b := yb) hl
 have hlenc := heap_Len hH
 have hZ := hH.zero
 obtain ⟨as_, cs, tr, ct, ap, cp, hS⟩ := hH.mem
 have hsw := heap_swap hX hS hH.at_ 0 l ya yb h0 hyb (by omega)
 have h := cHp (hS.cell (i := 0) rfl)
 have c1 := h.2.1
 clear h
 have Rt := Own.row eIk (hS.row (i := 2) rfl)
 have h0' : t[(0 : Int).toNat]? = some ya := h0
 have el : ((t.length : Nat) : Int) - 1 = (l : Int) := by omega
 have hsl := swp_len t 0 l ya yb
 obtain ⟨z1, hz1⟩ := getI ((A.set yb.toNat ((0 : Nat) : Int)).set ya.toNat (l : Int)) (show ya.toNat < _ by rw [List.length_set, List.length_set]; omega)
 refine Spec.of _ Tryz.func155 rfl Tryz.ntmps155 (by kernel_rfl) rfl ?_
 repeat' (first | (apply QL.nilc; (iterate 3 exact rfl)) | (apply WL.callS; (iterate 4 exact rfl); exact hlenc) | (apply W.cKF; exact rfl; exact dFf (by omega)) | (first | apply WL.nil | refine WL.au (k := ?_)) | (first | apply QL.nil | refine QL.au (k := ?_) | (apply QL.index tOk; (iterate 8 exact rfl); assumption; exact extA; exact rfl; omega; assumption; intro b off h; have hcc := h; first | (obtain ⟨h1, h2, h3, h4, h5, h6, _⟩ := h) | (obtain ⟨h1, h2, h3, _⟩ := h) | (obtain ⟨h1, h2, _⟩ := h) | (obtain ⟨h1, _⟩ := h))) | apply Z.tn | (first | apply W.seq | apply W.region | apply W.skip | (apply W.rgD tMix; kernel_rfl)))
 rw [el]
 repeat' (first | (apply WL.call (f := 171); (iterate 4 exact rfl); exact hsw; rintro v' w2 ⟨rfl, hX2, hS⟩) | apply WL.nil | apply Z.tn | apply W.seq)
 have hgt := (hS.lt (i := 0) rfl rfl).1
 have h := cHp (hS.cell (i := 0) rfl)
 have c1 := h.2.1
 have c2 := h.2.2.1
 clear h
 have hR2 := hS.row (i := 2) rfl
 have hR3 := hS.row (i := 3) rfl
 have hcap := hR2.capLe
 (try simp only [List.set_cons_zero, List.set_cons_succ] at hS); (try have hR1 := hS.row (i := 1) rfl); (try have hR2 := hS.row (i := 2) rfl); (try have hR3 := hS.row (i := 3) rfl); (try have hC0 := hS.cell (i := 0) rfl); (try have hD0 := (cHp hC0).1); (try have hE0 := (cHp hC0).2.1); (try have hF0 := (cHp hC0).2.2.1)
 repeat' (first | (apply FL.nilc; (iterate 3 exact rfl)) | (show W _ _ (.region 5 _ _) _ _ _; apply W.regionGB (.fl true 0 (.fl true 1 (.fl true 2 (.fl true 3 (.fl true 5 (.fl true 6 (.fl true 7 (.fl true 8 (.fl true 10 (.fl false 4 (.fl false 9 (.fl true 11 (.fl true 12 (.fl true 13 (.br 14 (.fl true 15 (.br 16 .done .stop)) .stop))))))))))))))) [9, 11] (none) tMix; kernel_rfl) | (apply FL.sliceH0 tOk; (iterate 7 exact rfl); omega) | (apply WL.storeO tOk; (iterate 4 exact rfl); assumption; exact extA; (iterate 3 exact rfl); exact eIk; assumption; exact rfl; exact extA; intro w' hO hX' hU; (replace hS := Sep.uRw (i := 3) rfl hU hO (.inl rfl) hS extA (by (exact Below.size extA))); (try simp only [List.set_cons_zero, List.set_cons_succ] at hS); (try have hR1 := hS.row (i := 1) rfl); (try have hR2 := hS.row (i := 2) rfl); (try have hR3 := hS.row (i := 3) rfl); (try have hC0 := hS.cell (i := 0) rfl); (try have hD0 := (cHp hC0).1); (try have hE0 := (cHp hC0).2.1); (try have hF0 := (cHp hC0).2.2.1)) | (apply FL.indexO tOk; (iterate 8 exact rfl); assumption; exact extA; exact eIk; exact rfl; omega; assumption; intro gb ha hc; cases ha; have hcc := hc; first | (obtain ⟨h1, h2, h3, _⟩ := hc) | (obtain ⟨h1, h2, _⟩ := hc) | (obtain ⟨h1, _⟩ := hc)) | (apply WL.storeF (w0 := w0) tOk; (iterate 4 exact rfl); assumption; exact extA; (iterate 4 exact rfl); exact extA; assumption; intro w' hb hX' hU; replace hS := Sep.uCl (i := 0) rfl hU hb hS extA (by (exact Below.size extA)); (try simp only [List.set_cons_zero, List.set_cons_succ] at hS); (try have hR1 := hS.row (i := 1) rfl); (try have hR2 := hS.row (i := 2) rfl); (try have hR3 := hS.row (i := 3) rfl); (try have hC0 := hS.cell (i := 0) rfl); (try have hD0 := (cHp hC0).1); (try have hE0 := (cHp hC0).2.1); (try have hF0 := (cHp hC0).2.2.1)) | (first | apply WL.nil | refine WL.au (k := ?_)) | (first | apply SG.done | (apply SG.fl0; exact rfl) | (apply SG.fl1; exact rfl; (focus ((intro m; first | assumption | (apply Ext.at; exact extA) | apply But.of_at; first | exact But.upd (by assumption) | exact But.ext extA | (refine But.trans ?_ (But.upd (by assumption)); exact But.ext extA) | exact But.at _ _ _); done))) | (apply SG.br1; exact rfl)) | (first | apply FL.nilS | refine FL.au (k := ?_) | (apply FL.loadG tOk; (iterate 5 exact rfl); assumption; ((focus (intro h; cases h; done))))) | (apply Z.sgL; exact rfl) | apply Z.tn | (first | apply W.seq | apply W.region))
 have h2 := Own.take eIk (hS.row (i := 2) rfl) l
 have hS2 := Sep.re (i := 2) (p' := prow 1 encI 3 w0.heap.size tr ct ((swp t 0 l ya yb).take l)) hS rfl rfl h2
 have hH2 : HpS w0.heap.size w' gh F ((swp t 0 l ya yb).take l) (((A.set yb.toNat (0 : Int)).set ya.toNat (l : Int)).set ya.toNat (-1)) rest := HpS.mk' hA2 hZ (by rw [hL2]; rfl) (by simp) hS2
 have hdn := heap_down w' w0 gh F _ _ rest hX' hH2 hn 0 (by
  by_cases hl0 : l = 0
  ·right; subst hl0; rfl
  ·left; rw [hL2]; omega) hD2 (by omega)
 repeat' (first | (apply WL.call (f := 172); (iterate 4 exact rfl); exact hdn; rintro v' w3 ⟨rfl, t3, A3, hR3, hO3⟩) | (first | apply WL.nil | refine WL.au (k := ?_)) | apply Z.tn | (first | apply W.seq | apply W.region | apply W.ret))
 exact Z.body2 Tryz.results155 rfl rfl fun m => ⟨rfl, t3, A3, hR3.ext.at m, hR3.hp.ext ((Ext.refl _).at m), hO3, fun x => by rw [hR3.mem x, hM2 x, hm x]⟩
theorem Sep.swap23 {B : Nat} {w : World} {p q r s : Piece} {ps : List Piece} (hS : Lt.Sep B w (p :: q :: r :: s :: ps)) : Lt.Sep B w (p :: q :: s :: r :: ps) := by
 refine hS.pick (fun i => if i = 2 then 3 else if i = 3 then 2 else i) (fun i x hx => ?_) (fun i j _ _ hij => ?_)
 ·match i, hx with
  | 0, hx => exact hx
  | 1, hx => exact hx
  | 2, hx => exact hx
  | 3, hx => exact hx
  | i + 4, hx => rw [if_neg (by omega), if_neg (by omega)]; exact hx
 ·show (if i = 2 then 3 else if i = 3 then 2 else i) ≠ (if j = 2 then 3 else if j = 3 then 2 else j)
  split <;> split <;> (try split) <;> (try split) <;> omega
theorem heap_New (n : Nat) (hn : n <= 1048576) (w w0 : World) (rest : List Piece) (hX : Ext w0 w) (hS : Lt.Sep w0.heap.size w rest) :
  Lt.Spec Tryz.prog 153 [.int .i64 n] w (fun r w' => ∃ gh F A, r = .pointer (some ⟨gh, 0, none⟩) /\ F.length = n /\ HpB w0 w' gh F rest [] A (fun _ => False)) := by
 have hB := hX.size
 have hn1 : ((n : Nat) : Int).toNat = n := by omega
 refine Spec.of _ Tryz.func153 rfl Tryz.ntmps153 (by kernel_rfl) rfl ?_
 repeat' (first | (apply WL.gF; exact rfl; exact rfl; exact dFf (by omega)) | (apply W.cKF; exact rfl; exact dFf (by omega)) | (first | apply WL.nil | refine WL.au (k := ?_)) | apply Z.tn | (first | apply W.seq | apply W.region | apply W.skip))
 refine W.cutT (σ := Nat × Nat × Nat × World) (fun s => Lt.Sep w0.heap.size s.2.2.2 ([pcell s.1 #[.slice (some ⟨s.2.1, 0, none⟩) n n, .slice none 0 0, .slice (some ⟨s.2.2.1, 0, none⟩) n n] 168, prow 1 encF 171 w0.heap.size (some ⟨s.2.1, 0, none⟩) n (List.replicate n 0), prow 1 encI 3 w0.heap.size none 0 [], prow 1 encI 3 w0.heap.size (some ⟨s.2.2.1, 0, none⟩) n (List.replicate n 0)] ++ rest) /\ Ext w0 s.2.2.2)
  (fun s => [(0, .int .i64 n), (3, .pointer (some ⟨s.1, 0, none⟩))]) (fun s => s.2.2.2) ?_ ?_
 ·replace hS : Lt.Sep w0.heap.size w (prow 1 encI 3 w0.heap.size none 0 [] :: rest) := Sep.newRow hS (Ext.refl _) Own.nil (fun k hk => by cases hk) hB
  repeat' (first | (show W _ _ (.region 3 _ _) _ _ _; apply W.regionGB (.fl true 0 (.fl true 2 (.br 1 (.br 3 (.fl true 4 (.br 5 (.fl true 6 .done) .stop)) .stop) (.br 3 (.br 1 (.fl true 4 (.br 5 (.fl true 6 .done) .stop)) .stop) .stop)))) [] (none) tMix; kernel_rfl) | (apply WL.make (w0 := w0) (z := (0 : Nat)) thOk; (iterate 9 exact rfl); exact encF_ok; exact rfl; exact rfl; exact extA; omega; intro gb w' hO hge hx; replace hS := Sep.newRow (Sep.ext hS extA) hx hO (fun k hk => by cases hk; exact hge) (by exact Below.size extA)) | (apply WL.make (w0 := w0) (z := (0:Int)) tOk; (iterate 9 exact rfl); exact eIk; exact rfl; exact rfl; exact extA; omega; intro gb w' hO hge hx; replace hS := Sep.newRow (Sep.ext hS extA) hx hO (fun k hk => by cases hk; exact hge) (by (exact Below.size extA)); (try simp only [List.set_cons_zero, List.set_cons_succ] at hS); (try have hR0 := hS.row (i := 0) rfl); (try have hR1 := hS.row (i := 1) rfl); (try have hR2 := hS.row (i := 2) rfl)) | (apply FL.build tOk; (iterate 7 exact rfl); kernel_rfl) | (apply WL.box; (iterate 3 exact rfl); intro gb w' hb hge hc hx; have hcc := hc; obtain ⟨h1, h2, h3, _⟩ := hc; replace hS := Sep.newCell (Sep.ext hS extA) hx hb hge (by (exact Below.size extA)); (try simp only [List.set_cons_zero, List.set_cons_succ] at hS); (try have hR1 := hS.row (i := 1) rfl); (try have hR2 := hS.row (i := 2) rfl); (try have hR3 := hS.row (i := 3) rfl); (try have hC0 := hS.cell (i := 0) rfl); (try have hD0 := (cHp hC0).1); (try have hE0 := (cHp hC0).2.1); (try have hF0 := (cHp hC0).2.2.1)) | apply WL.nil | (first | apply SG.done | (apply SG.fl0; exact rfl) | (apply SG.br1; exact rfl) | (apply SG.br; exact rfl)) | (first | apply FL.nilS | refine FL.au (k := ?_)) | (apply Z.sgL; exact rfl))
  all_goals (rw [hn1] at hS; simp only [List.length_replicate] at hS)
  ·exact Z.cut (_, _, _, _) ⟨Sep.swap23 (Sep.swap12 hS), extA⟩ ⟨rfl, rfl, trivial⟩ rfl
  ·exact Z.cut (_, _, _, _) ⟨Sep.swap23 hS, extA⟩ ⟨rfl, rfl, trivial⟩ rfl
 ·rintro ⟨gh, gf, ga, w1⟩ ⟨hS, hx1⟩
  simp only at hx1 hS ⊢
  (try simp only [List.set_cons_zero, List.set_cons_succ] at hS); (try have hR1 := hS.row (i := 1) rfl); (try have hR2 := hS.row (i := 2) rfl); (try have hR3 := hS.row (i := 3) rfl); (try have hC0 := hS.cell (i := 0) rfl); (try have hD0 := (cHp hC0).1); (try have hE0 := (cHp hC0).2.1); (try have hF0 := (cHp hC0).2.2.1)
  repeat' (first | (apply WL.nilc; (iterate 3 exact rfl)) | (first | apply WL.nil | refine WL.au (k := ?_)) | apply Z.tn | (first | apply W.seq | apply W.region | apply W.block))
  refine W.loopW n (fun k w' => k <= n /\ Ext w0 w' /\ ∃ A : List Int, A.length = n /\ (∀ u : Nat, u < k -> A[u]? = some (-1)) /\ Lt.Sep w0.heap.size w' ([pcell gh #[.slice (some ⟨gf, 0, none⟩) n n, .slice none 0 0, .slice (some ⟨ga, 0, none⟩) n n] 168, prow 1 encF 171 w0.heap.size (some ⟨gf, 0, none⟩) n (List.replicate n 0), prow 1 encI 3 w0.heap.size none 0 [], prow 1 encI 3 w0.heap.size (some ⟨ga, 0, none⟩) n A] ++ rest))
   (fun k => [(0, .int .i64 n), (3, .pointer (some ⟨gh, 0, none⟩)), (21, .int .i64 n), (22, .int .i64 k)]) ⟨Nat.zero_le _, hx1, List.replicate n 0, by simp, fun u hu => absurd hu (Nat.not_lt_zero _), hS⟩ (fun k w' h => h.1) ⟨rfl, rfl, rfl, rfl, trivial⟩ ?_
  clear hS
  rintro k w' ⟨hk, hx', A, hAl, hAk, hS⟩
  (try simp only [List.set_cons_zero, List.set_cons_succ] at hS); (try have hR1 := hS.row (i := 1) rfl); (try have hR2 := hS.row (i := 2) rfl); (try have hR3 := hS.row (i := 3) rfl); (try have hC0 := hS.cell (i := 0) rfl); (try have hD0 := (cHp hC0).1); (try have hE0 := (cHp hC0).2.1); (try have hF0 := (cHp hC0).2.2.1)
  by_cases hlt : k < n
  ·obtain ⟨z, hz⟩ := getI A (show ((k : Nat) : Int).toNat < A.length by omega)
   repeat' (first | (apply W.cKT; exact rfl; exact dTt (by omega)) | (apply WL.nilc; (iterate 3 exact rfl)) | (apply WL.storeO tOk; (iterate 4 exact rfl); assumption; exact extA; (iterate 3 exact rfl); exact eIk; assumption; exact rfl; exact extA; intro w' hO hX' hU; (replace hS := Sep.uRw (i := 3) rfl hU hO (.inl rfl) hS extA (by (exact Below.size extA))); (try simp only [List.set_cons_zero, List.set_cons_succ] at hS); (try have hR1 := hS.row (i := 1) rfl); (try have hR2 := hS.row (i := 2) rfl); (try have hR3 := hS.row (i := 3) rfl); (try have hC0 := hS.cell (i := 0) rfl); (try have hD0 := (cHp hC0).1); (try have hE0 := (cHp hC0).2.1); (try have hF0 := (cHp hC0).2.2.1)) | (apply WL.indexO tOk; (iterate 8 exact rfl); assumption; exact extA; exact eIk; ((focus (simp [*]; done))); omega; assumption; intro gb ha hc; cases ha; have hcc := hc; first | (obtain ⟨h1, h2, h3, _⟩ := hc) | (obtain ⟨h1, h2, _⟩ := hc) | (obtain ⟨h1, _⟩ := hc)) | (first | apply WL.nil | refine WL.au (k := ?_)) | (first | apply Z.tn | apply Z.bkn) | (first | apply W.seq | apply W.region | apply W.block | apply W.skip))
   refine Z.agW ⟨by omega, hX', _, by rw [List.length_set]; exact hAl, fun u hu => ?_, hS⟩ ⟨rfl, rfl, rfl, rfl, trivial⟩
   rw [List.getElem?_set]
   split
   ·rw [if_pos (by omega)]
   ·exact hAk u (by omega)
  ·obtain rfl : k = n := by omega
   repeat' (first | (apply W.cKF; exact rfl; exact dFf (by omega)) | (first | apply WL.nil | refine WL.au (k := ?_)) | (first | apply Z.tn | apply Z.tnx | apply Z.bkx) | (first | apply W.seq | apply W.region | apply W.ret | apply W.exit))
   refine Z.bd1 Tryz.results153 rfl fun m => ⟨gh, List.replicate k 0, A, rfl, by simp, hx'.at m, ?_, fun j j0 jl => absurd jl (by simp), fun x => by simp⟩
   refine HpS.ext (w := w') ?_ ((Ext.refl _).at m)
   have hS2 : Lt.Sep w0.heap.size w' (hpPn w0.heap.size gh (some ⟨gf, 0, none⟩) k (List.replicate k 0) none 0 0 [] (some ⟨ga, 0, none⟩) k k A ++ rest) := by
    unfold hpPn
    rw [show (List.replicate k 0).length = k by simp]
    exact hS
   exact HpS.mk' ⟨by simp [hAl], fun i x hx => by simp at hx, fun v hv _ => hAk v (by simpa using hv)⟩ (fun x hx => (List.mem_replicate.1 hx).2) rfl hAl.symm hS2

theorem mget_mem {κ ν : Type} {a : κ} {v : ν} : ∀ {L : List (κ × ν)}, mget a L = some v -> (a, v) ∈ L
 | [], h => by cases h
 | x :: r, h => by
  unfold mget at h
  by_cases hax : a = x.1
  ·rw [dTt hax] at h
   have h' : some x.2 = some v := h
   have := Option.some.inj h'
   subst this; subst hax; simp
  ·rw [dFf hax] at h
   exact List.mem_cons_of_mem _ (mget_mem h)
theorem mget_no {κ ν : Type} {a : κ} : ∀ {L : List (κ × ν)}, mget a L = none -> ∀ v, (a, v) ∉ L
 | [], _, v => by simp
 | x :: r, h, v => by
  unfold mget at h
  by_cases hax : a = x.1
  ·rw [dTt hax] at h; cases h
  ·rw [dFf hax] at h
   intro hm
   rcases List.mem_cons.1 hm with he | hm
   ·exact hax (by rw [<- he])
   ·exact mget_no h v hm
def plcM (gs : List G3) : Nat -> List (Int × Int)
 | 0 => []
 | k + 1 => plcM gs k ++ (match gs[k]? with | some g => [(g.1 / 2, (k : Int))] | none => [])
theorem plcM_s {gs : List G3} {k : Nat} {g : G3} (h : gs[k]? = some g) : plcM gs (k + 1) = plcM gs k ++ [(g.1 / 2, (k : Int))] := by rw [plcM, h]
theorem mem_plcM {gs : List G3} {a v : Int} : ∀ {k : Nat}, (a, v) ∈ plcM gs k ↔ ∃ (j : Nat) (g : G3), j < k /\ gs[j]? = some g /\ a = g.1 / 2 /\ v = (j : Int)
 | 0 => by simp [plcM]
 | k + 1 => by
  rw [plcM, List.mem_append, mem_plcM (k := k)]
  constructor
  ·rintro (⟨j, g, h1, h2⟩ | h)
   ·exact ⟨j, g, by omega, h2⟩
   ·cases hg : gs[k]? with
    | none => rw [hg] at h; cases h
    | some g =>
     rw [hg] at h
     simp only [List.mem_singleton, Prod.mk.injEq] at h
     exact ⟨k, g, by omega, hg, h.1, h.2⟩
  ·rintro ⟨j, g, h1, h2, h3⟩
   by_cases hj : j = k
   ·subst hj; rw [h2]; right; simp only [List.mem_singleton, Prod.mk.injEq]; exact h3
   ·exact .inl ⟨j, g, by omega, h2, h3⟩
theorem plcM_new {gs : List G3} (ho : Once gs) {k : Nat} {g : G3} (h : gs[k]? = some g) : mget (g.1 / 2) (plcM gs k) = none := by
 cases hm : mget (g.1 / 2) (plcM gs k) with
 | none => rfl
 | some v =>
  obtain ⟨j, x, h1, h2, h3, _⟩ := mem_plcM.1 (mget_mem hm)
  have := ho j k x g h2 h (by omega)
  omega
theorem plcM_some {gs : List G3} {l v : Int} (h : mget l (plcM gs gs.length) = some v) : ∃ (j : Nat) (g : G3), gs[j]? = some g /\ g.1 / 2 = l /\ v = (j : Int) := by
 obtain ⟨j, x, h1, h2, h3, h4⟩ := mem_plcM.1 (mget_mem h)
 exact ⟨j, x, h2, h3.symm, h4⟩
theorem plcM_none {gs : List G3} {l : Int} (h : mget l (plcM gs gs.length) = none) : ∀ (j : Nat) (g : G3), gs[j]? = some g -> g.1 / 2 ≠ l := fun j g hg he =>
 mget_no h (j : Int) (mem_plcM.2 ⟨j, g, lGt hg, hg, he.symm, rfl⟩)

abbrev nilR : RowV Int := (none, 0, [])
abbrev pI (B : Nat) (r : RowV Int) : Piece := prow 1 encI 3 B r.1 r.2.1 r.2.2
abbrev rst (B : Nat) (al : Option Addr) (cl : Nat) (lk : List Int) (ao : Option Addr) (co : Nat) (rs : List (RowV Int)) (rm : Nat) (M : List (Int × Int)) (ou : Option Addr) (cu : Nat) (out : List Int) (lit : RowV Int) (inn : List (RowV Int)) : List Piece :=
 [prow 1 encI 3 B al cl lk, prow 1 encRow 22 B ao co rs, pmap encK encK rm M, prow 1 encI 3 B ou cu out, pI B lit] ++ inn.map (pI B)
section
variable {B : Nat} {al : Option Addr} {cl : Nat} {lk : List Int} {ao : Option Addr} {co : Nat} {rs : List (RowV Int)} {rm : Nat} {M : List (Int × Int)} {ou : Option Addr} {cu : Nat} {out : List Int} {lit : RowV Int} {inn : List (RowV Int)} {k : Nat} {r : RowV Int}
theorem rst_in (h : inn[k]? = some r) (q : List Piece) (hq : q.length = 4) : (q ++ rst B al cl lk ao co rs rm M ou cu out lit inn)[9 + k]? = some (pI B r) := by
 rw [List.getElem?_append_right (by omega), show 9 + k - q.length = 5 + k by omega]
 show (_ :: _ :: _ :: _ :: _ :: inn.map (pI B))[5 + k]? = _
 rw [show 5 + k = k + 1 + 1 + 1 + 1 + 1 by omega]
 simp only [List.getElem?_cons_succ, List.getElem?_map, h, Option.map_some]
theorem rst_set (q : List Piece) (hq : q.length = 4) : (q ++ rst B al cl lk ao co rs rm M ou cu out lit inn).set (9 + k) (pI B r) = q ++ rst B al cl lk ao co rs rm M ou cu out lit (inn.set k r) := by
 rw [List.set_append_right _ _ (by omega), show 9 + k - q.length = k + 1 + 1 + 1 + 1 + 1 by omega]
 congr 1
 show (_ :: _ :: _ :: _ :: _ :: inn.map (pI B)).set _ _ = _
 simp only [List.set_cons_succ, <- List.map_set]
 rfl
end
theorem Sep.addNils {B : Nat} {w : World} {ps : List Piece} (hS : Lt.Sep B w ps) (n : Nat) : Lt.Sep B w (ps ++ (List.replicate n ((none, 0, []) : RowV Int)).map (pI B)) := by
 have key : ∀ (i : Nat) (p : Piece), (ps ++ (List.replicate n ((none, 0, []) : RowV Int)).map (pI B))[i]? = some p -> ps[i]? = some p ∨ p = pI B (none, 0, []) := fun i p h => by
  rcases get_app h with h | ⟨_, h⟩
  ·exact .inl h
  ·rw [List.getElem?_map, List.getElem?_replicate] at h
   split at h
   ·simp at h; exact .inr h.symm
   ·cases h
 refine ⟨fun i p h => ?_, fun i j p q h1 h2 hne => ?_⟩
 ·rcases key i p h with h | rfl
  ·exact hS.holds i p h
  ·exact ⟨Own.nil, fun k hk => by cases hk⟩
 ·rcases key i p h1 with k1 | rfl
  ·rcases key j q h2 with k2 | rfl
   ·exact hS.apart i j p q k1 k2 hne
   ·cases hb : p.b with
    | none => exact .inl rfl
    | some k => exact .inr (by simp [prow, blk])
  ·exact .inl rfl
theorem HpB.mono {w0 w : World} {gh : Nat} {F : List Nat} {rest : List Piece} {t A : List Int} {p q : Int -> Prop} (h : HpB w0 w gh F rest t A p) (k : ∀ x, p x ↔ q x) : HpB w0 w gh F rest t A q := ⟨h.ext, h.hp, h.ho, fun x => (h.mem x).trans (k x)⟩
theorem HpB.up {w0 w w' : World} {gh : Nat} {F : List Nat} {rest : List Piece} {t A : List Int} {p : Int -> Prop} (h : HpB w0 w gh F rest t A p) (hx : Ext w w') : HpB w0 w' gh F rest t A p := ⟨h.ext.trans hx, h.hp.ext hx, h.ho, h.mem⟩

theorem HpB.setLit {w0 w w' : World} {gh : Nat} {F : List Nat} {t A : List Int} {p : Int -> Prop} {al : Option Addr} {cl : Nat} {lk : List Int} {ao : Option Addr} {co : Nat} {rs : List (RowV Int)} {rm : Nat} {M : List (Int × Int)} {ou : Option Addr} {cu : Nat} {out : List Int} {lit : RowV Int} {inn : List (RowV Int)} {gt cap : Nat} {l : List Int}
  (h : HpB w0 w gh F (rst w0.heap.size al cl lk ao co rs rm M ou cu out lit inn) t A p) (hx : Ext w w') (hO : Own 1 encI 3 w0.heap.size w' (some ⟨gt, 0, none⟩) cap l) (hge : w.heap.size <= gt) : HpB w0 w' gh F (rst w0.heap.size al cl lk ao co rs rm M ou cu out (some ⟨gt, 0, none⟩, cap, l) inn) t A p := by
 obtain ⟨hX, ⟨hat, hze, as_, cs, tr, ct, ap, cp, hS⟩, hO9, hm⟩ := h
 exact ⟨hX.trans hx, ⟨hat, hze, as_, cs, tr, ct, ap, cp, hS.upd (i := 8) (p' := pI w0.heap.size (some ⟨gt, 0, none⟩, cap, l)) rfl (But.ext hx) hO (.inr ⟨gt, rfl, hge, (hO.blk_lt gt rfl).2⟩) hX.size⟩, hO9, hm⟩

theorem heap_PopO (w w0 : World) (gh : Nat) (F : List Nat) (t A : List Int) (rest : List Piece) (p : Int -> Prop) (hB : HpB w0 w gh F rest t A p) (hn : F.length <= 1048576) :
  Lt.Spec Tryz.prog 155 [.pointer (some ⟨gh, 0, none⟩)] w (fun r w' => ∃ nx : Option Int, r = .tuple #[.int .i64 (nx.getD 0), .bool nx.isSome] /\ (∀ y, nx = some y -> p y /\ ∀ x, p x -> y <= x) /\ (nx = none -> ∀ x, ¬ p x) /\ ∃ t' A', HpB w0 w' gh F rest t' A' (fun x => p x /\ ∀ y, nx = some y -> x ≠ y)) := by
 cases ht : t with
 | nil =>
  subst ht
  have hno : ∀ x, ¬ p x := fun x hx => by have := (hB.mem x).2 hx; cases this
  refine Spec.mono (heap_Pop0 hB) ?_
  rintro r w' ⟨rfl, m, rfl⟩
  exact ⟨none, rfl, (fun y h => by cases h), (fun _ => hno), _, _, (hB.up ((Ext.refl _).at m)).mono fun x => ⟨fun h => absurd h (hno x), fun h => h.1⟩⟩
 | cons ya tl =>
  have h0 : t[0]? = some ya := by rw [ht]; rfl
  refine Spec.mono (heap_Pop w w0 gh F t A rest p hB hn ya h0) ?_
  rintro r w' ⟨rfl, t', A', h⟩
  refine ⟨some ya, rfl, (fun y hy => ?_), (fun h => by cases h), t', A', h.mono fun x => ⟨fun hx => ⟨hx.1, fun y hy => by cases hy; exact hx.2⟩, fun hx => ⟨hx.1, hx.2 ya rfl⟩⟩⟩
  have hy' := Option.some.inj hy
  subst hy'
  refine ⟨(hB.mem ya).1 (by rw [ht]; simp), fun x hx => ?_⟩
  obtain ⟨i, hi⟩ := List.mem_iff_getElem?.1 ((hB.mem x).2 hx)
  exact hB.ho.min h0 i x hi

def litJ (g : G3) : Nat -> Int
 | 0 => g.2.1
 | _ => g.2.2
noncomputable def lackJ (gs : List G3) (g : G3) : Nat -> Nat
 | 0 => 0
 | j + 1 => lackJ gs g j + one (Bl gs [] (litJ g j))
theorem lackJ_s (gs : List G3) (g : G3) (j : Nat) : lackJ gs g (j + 1) = lackJ gs g j + one (Bl gs [] (litJ g j)) := rfl
noncomputable def hangsJ (g y : G3) : Nat -> Nat
 | 0 => 0
 | j + 1 => hangsJ g y j + one (y.1 / 2 = litJ g j / 2)
theorem lackJ2 (gs : List G3) (g : G3) : lackJ gs g 2 = lackG gs [] g := by
 show 0 + one (Bl gs [] g.2.1) + one (Bl gs [] g.2.2) = _
 rw [Nat.zero_add]; rfl
theorem hangsJ2 (g y : G3) : hangsJ g y 2 = hangs g y := by
 show 0 + one (y.1 / 2 = g.2.1 / 2) + one (y.1 / 2 = g.2.2 / 2) = _
 rw [Nat.zero_add]; rfl
theorem lackJ_le (gs : List G3) (g : G3) : ∀ j, lackJ gs g j <= j
 | 0 => Nat.le_refl _
 | j + 1 => by have := lackJ_le gs g j; have := one_le (Bl gs [] (litJ g j)); unfold lackJ; omega
theorem hangsJ_le (g y : G3) : ∀ j, hangsJ g y j <= j
 | 0 => Nat.le_refl _
 | j + 1 => by have := hangsJ_le g y j; have := one_le (y.1 / 2 = litJ g j / 2); unfold hangsJ; omega
structure StA (gs : List G3) (i : Nat) (g : G3) (j : Nat) (lk : List Int) (rs : List (RowV Int)) : Prop where
 llen : lk.length = gs.length
 old : ∀ (q : Nat) (x : G3), gs[q]? = some x -> q < i -> lk[q]? = some (lackG gs [] x : Int)
 now : lk[i]? = some (lackJ gs g j : Int)
 new : ∀ q : Nat, i < q -> q < gs.length -> lk[q]? = some 0
 rlen : rs.length = gs.length
 row : ∀ (q : Nat) (y : G3), gs[q]? = some y -> ∃ r, rs[q]? = some r /\ r.2.2 = abv gs y i ++ List.replicate (hangsJ g y j) ((i : Nat) : Int)
structure StI (gs : List G3) (i : Nat) (lk : List Int) (rs : List (RowV Int)) : Prop where
 llen : lk.length = gs.length
 old : ∀ (q : Nat) (x : G3), gs[q]? = some x -> q < i -> lk[q]? = some (lackG gs [] x : Int)
 new : ∀ q : Nat, i <= q -> q < gs.length -> lk[q]? = some 0
 rlen : rs.length = gs.length
 row : ∀ (q : Nat) (y : G3), gs[q]? = some y -> ∃ r, rs[q]? = some r /\ r.2.2 = abv gs y i
theorem StI.first (gs : List G3) : StI gs 0 (List.replicate gs.length 0) (List.replicate gs.length (none, 0, [])) :=
 ⟨by simp, fun q x _ h => absurd h (Nat.not_lt_zero _), fun q _ h => by rw [List.getElem?_replicate, if_pos h], by simp, fun q y hy => ⟨(none, 0, []), by rw [List.getElem?_replicate, if_pos (lGt hy)], rfl⟩⟩
theorem StI.enter {gs : List G3} {i : Nat} {g : G3} {lk : List Int} {rs : List (RowV Int)} (h : StI gs i lk rs) (hg : gs[i]? = some g) : StA gs i g 0 lk rs :=
 ⟨h.llen, h.old, h.new i (Nat.le_refl _) (lGt hg), fun q h1 h2 => h.new q (by omega) h2, h.rlen, fun q y hy => by obtain ⟨r, h1, h2⟩ := h.row q y hy; exact ⟨r, h1, by rw [h2]; simp [hangsJ]⟩⟩
theorem StA.leave {gs : List G3} {i : Nat} {g : G3} {lk : List Int} {rs : List (RowV Int)} (h : StA gs i g 2 lk rs) (hg : gs[i]? = some g) : StI gs (i + 1) lk rs :=
 ⟨h.llen, fun q x hx hq => by
  by_cases hqi : q = i
  ·subst hqi; rw [hg] at hx; cases hx; rw [h.now, lackJ2]
  ·exact h.old q x hx (by omega), fun q h1 h2 => h.new q (by omega) h2, h.rlen, fun q y hy => by obtain ⟨r, h1, h2⟩ := h.row q y hy; exact ⟨r, h1, by rw [h2, hangsJ2, abv, hg]⟩⟩
theorem StA.skip {gs : List G3} {i j : Nat} {g : G3} {lk : List Int} {rs : List (RowV Int)} (h : StA gs i g j lk rs) (hn : ∀ (q : Nat) (y : G3), gs[q]? = some y -> y.1 / 2 ≠ litJ g j / 2) : StA gs i g (j + 1) lk rs := by
  have e1 : one (Bl gs [] (litJ g j)) = 0 := one_no fun ⟨q, y, h1, _, h2⟩ => hn q y h1 h2
  refine ⟨h.llen, h.old, by rw [h.now, lackJ_s, e1]; rfl, h.new, h.rlen, fun q y hy => ?_⟩
  obtain ⟨r, h1, h2⟩ := h.row q y hy
  exact ⟨r, h1, by rw [h2]; conv => rhs; rw [hangsJ]
                   rw [one_no (hn q y hy)]; rfl⟩
theorem StA.take {gs : List G3} (ho : Once gs) {i j k : Nat} {g y : G3} {lk : List Int} {rs : List (RowV Int)} {r : RowV Int} {a' : Option Addr} {cap' : Nat} (h : StA gs i g j lk rs) (hy : gs[k]? = some y) (he : y.1 / 2 = litJ g j / 2) (hr : rs[k]? = some r) :
  StA gs i g (j + 1) (lk.set i ((lackJ gs g j : Int) + 1)) (rs.set k (a', cap', r.2.2 ++ [((i : Nat) : Int)])) := by
 have e1 : one (Bl gs [] (litJ g j)) = 1 := one_yes ⟨k, y, hy, by simp, he⟩
 have hil := lGt h.now
 refine ⟨by simp [h.llen], fun q x hx hq => by rw [List.getElem?_set_ne (by omega)]; exact h.old q x hx hq, ?_, fun q h1 h2 => by rw [List.getElem?_set_ne (by omega)]; exact h.new q h1 h2, by simp [h.rlen], fun q z hz => ?_⟩
 ·rw [List.getElem?_set_self hil, lackJ_s, e1]; rfl
 ·obtain ⟨r', h1, h2⟩ := h.row q z hz
  by_cases hq : k = q
  ·subst hq
   rw [hr] at h1; cases h1
   rw [hy] at hz; cases hz
   refine ⟨_, List.getElem?_set_self (lGt hr), ?_⟩
   show r.2.2 ++ _ = _
   rw [h2, hangsJ, one_yes he, List.append_assoc, List.replicate_succ']
  ·refine ⟨r', by rw [List.getElem?_set_ne hq]; exact h1, ?_⟩
   rw [h2, hangsJ, one_no fun hh => hq (ho k q y z hy hz (by omega))]; rfl
def pA (i : Nat) (lk : List Int) (x : Int) : Prop := ∃ j : Nat, x = (j : Int) /\ j < i /\ lk[j]? = some 0
def pH (T : List Nat) (lk : List Int) (x : Int) : Prop := ∃ j : Nat, x = (j : Int) /\ j ∉ T /\ lk[j]? = some 0
theorem pA_set {i : Nat} {lk : List Int} {v : Int} (x : Int) : pA i (lk.set i v) x ↔ pA i lk x := by
 constructor
 ·rintro ⟨j, h1, h2, h3⟩; exact ⟨j, h1, h2, by rwa [List.getElem?_set_ne (by omega)] at h3⟩
 ·rintro ⟨j, h1, h2, h3⟩; exact ⟨j, h1, h2, by rwa [List.getElem?_set_ne (by omega)]⟩
theorem pA_push {i : Nat} {lk : List Int} (h : lk[i]? = some 0) (x : Int) : (pA i lk x ∨ x = (i : Int)) ↔ pA (i + 1) lk x := by
 constructor
 ·rintro (⟨j, h1, h2, h3⟩ | h1)
  ·exact ⟨j, h1, by omega, h3⟩
  ·exact ⟨i, h1, by omega, h⟩
 ·rintro ⟨j, h1, h2, h3⟩
  by_cases hj : j = i
  ·subst hj; exact .inr h1
  ·exact .inl ⟨j, h1, by omega, h3⟩
theorem pA_next {i : Nat} {lk : List Int} {v : Int} (h : lk[i]? = some v) (hv : v ≠ 0) (x : Int) : pA i lk x ↔ pA (i + 1) lk x := by
 constructor
 ·rintro ⟨j, h1, h2, h3⟩; exact ⟨j, h1, by omega, h3⟩
 ·rintro ⟨j, h1, h2, h3⟩
  by_cases hj : j = i
  ·subst hj; rw [h] at h3; cases h3; exact absurd rfl hv
  ·exact ⟨j, h1, by omega, h3⟩
theorem pA_all {n : Nat} {lk : List Int} (h : lk.length = n) (x : Int) : pA n lk x ↔ pH [] lk x := by
 constructor
 ·rintro ⟨j, h1, h2, h3⟩; exact ⟨j, h1, by simp, h3⟩
 ·rintro ⟨j, h1, h2, h3⟩; exact ⟨j, h1, by have := lGt h3; omega, h3⟩
structure StB (gs : List G3) (L : List Nat) (Y : List Int) (lk : List Int) : Prop where
 llen : lk.length = gs.length
 val : ∀ (q : Nat) (x : G3), gs[q]? = some x -> lk[q]? = some ((lackG gs L x : Int) - (Y.count (q : Int) : Int))
theorem StB.rdy {gs : List G3} {L : List Nat} {lk : List Int} (h : StB gs L [] lk) (x : Int) : pH L lk x ↔ ∃ j : Nat, x = (j : Int) /\ Rdy gs L j := by
 constructor
 ·rintro ⟨j, h1, h2, h3⟩
  obtain ⟨g, hg⟩ := getI gs (show j < gs.length by have := lGt h3; have := h.llen; omega)
  have := h.val j g hg
  rw [h3] at this
  have h4 := Option.some.inj this
  simp at h4
  exact ⟨j, h1, (rdy_lack hg).2 ⟨h2, by omega⟩⟩
 ·rintro ⟨j, h1, h2⟩
  have h2' := h2
  obtain ⟨g, hg, _⟩ := h2'
  have h3 := (rdy_lack hg).1 h2
  exact ⟨j, h1, h3.1, by rw [h.val j g hg, h3.2]; simp⟩
theorem StB.next {gs : List G3} (ho : Once gs) {L : List Nat} {i : Nat} {y : G3} {lk : List Int} (hy : gs[i]? = some y) (hi : i ∉ L) (h : StB gs L (abv gs y gs.length) lk) : StB gs (L ++ [i]) [] lk := by
 refine ⟨h.llen, fun q x hx => ?_⟩
 rw [h.val q x hx, abv_count hx, if_pos (lGt hx), lack_push ho hy hi x]
 simp <;> omega
theorem StB.step {gs : List G3} (ho : Once gs) {L : List Nat} {i k m : Nat} {y g : G3} {lk : List Int} (hy : gs[i]? = some y) (hi : i ∉ L) (hg : gs[k]? = some g) (h : StB gs L ((abv gs y gs.length).take m) lk) (hk : (abv gs y gs.length)[m]? = some (k : Int)) :
  ∃ v, lk[k]? = some v /\ 1 <= v /\ v <= 2 /\ StB gs L ((abv gs y gs.length).take (m + 1)) (lk.set k (v - 1)) := by
 have h1 := h.val k g hg
 have hc := abv_count (y := y) hg gs.length
 rw [if_pos (lGt hg)] at hc
 have hl := lack_push ho hy hi g
 have hle : ((abv gs y gs.length).take (m + 1)).count (k : Int) <= hangs g y := by
  rw [<- hc]; exact (List.take_sublist _ _).count_le _
 have hs : ((abv gs y gs.length).take (m + 1)).count (k : Int) = ((abv gs y gs.length).take m).count (k : Int) + 1 := by
  rw [tkS hk, List.count_append]; simp
 have b1 := one_le (Bl gs L g.2.1)
 have b2 := one_le (Bl gs L g.2.2)
 have b3 : lackG gs L g = one (Bl gs L g.2.1) + one (Bl gs L g.2.2) := rfl
 refine ⟨_, h1, by omega, by omega, ⟨by simp [h.llen], fun q x hx => ?_⟩⟩
 by_cases hq : k = q
 ·subst hq
  rw [hg] at hx; cases hx
  rw [List.getElem?_set_self (lGt h1), hs]
  congr 1; omega
 ·rw [List.getElem?_set_ne hq, h.val q x hx, tkS hk, List.count_append]
  have : [(k : Int)].count (q : Int) = 0 := List.count_eq_zero.2 (fun hm => hq (by have := List.mem_singleton.1 hm; omega))
  rw [this]; rfl
theorem pH_dec {T : List Nat} {lk : List Int} {k : Nat} {v : Int} (h : lk[k]? = some v) (h1 : 1 <= v) (hv : v - 1 ≠ 0) (x : Int) : pH T lk x ↔ pH T (lk.set k (v - 1)) x := by
 constructor
 ·rintro ⟨j, a1, a2, a3⟩
  by_cases hj : k = j
  ·subst hj; rw [h] at a3; cases a3; omega
  ·exact ⟨j, a1, a2, by rw [List.getElem?_set_ne hj]; exact a3⟩
 ·rintro ⟨j, a1, a2, a3⟩
  by_cases hj : k = j
  ·subst hj; rw [List.getElem?_set_self (lGt h)] at a3; have := Option.some.inj a3; omega
  ·exact ⟨j, a1, a2, by rwa [List.getElem?_set_ne hj] at a3⟩
theorem pH_zero {T : List Nat} {lk : List Int} {k : Nat} {v : Int} (h : lk[k]? = some v) (h1 : 1 <= v) (hv : v - 1 = 0) (hk : k ∉ T) (x : Int) : (pH T lk x ∨ x = (k : Int)) ↔ pH T (lk.set k (v - 1)) x := by
 constructor
 ·rintro (⟨j, a1, a2, a3⟩ | a1)
  ·by_cases hj : k = j
   ·subst hj; rw [h] at a3; cases a3; omega
   ·exact ⟨j, a1, a2, by rw [List.getElem?_set_ne hj]; exact a3⟩
  ·exact ⟨k, a1, hk, by rw [List.getElem?_set_self (lGt h), hv]⟩
 ·rintro ⟨j, a1, a2, a3⟩
  by_cases hj : k = j
  ·subst hj; exact .inr a1
  ·exact .inl ⟨j, a1, a2, by rwa [List.getElem?_set_ne hj] at a3⟩
theorem pH_no {T : List Nat} {lk : List Int} {k : Nat} {v : Int} (h : lk[k]? = some v) (h1 : 1 <= v) : ¬ pH T lk (k : Int) := by
 rintro ⟨j, a1, a2, a3⟩
 have : j = k := by omega
 subst this
 rw [h] at a3; cases a3; omega
theorem pH_out {L : List Nat} {i : Nat} {lk : List Int} (x : Int) : (pH L lk x /\ x ≠ (i : Int)) ↔ pH (L ++ [i]) lk x := by
 constructor
 ·rintro ⟨⟨j, a1, a2, a3⟩, hne⟩
  refine ⟨j, a1, fun hm => ?_, a3⟩
  rcases List.mem_append.1 hm with hm | hm
  ·exact a2 hm
  ·have := List.mem_singleton.1 hm; omega
 ·rintro ⟨j, a1, a2, a3⟩
  refine ⟨⟨j, a1, fun hm => a2 (by simp [hm]), a3⟩, fun he => a2 ?_⟩
  have : j = i := by omega
  simp [this]
theorem rdy_self {gs : List G3} {L : List Nat} {i : Nat} {y : G3} (hr : Rdy gs L i) (hy : gs[i]? = some y) : hangs y y = 0 := by
 obtain ⟨g, hg, h1, h2⟩ := hr
 rw [hy] at hg; cases hg
 have := h2 i y hy h1
 unfold hangs
 rw [one_no this.1, one_no this.2]

theorem circ_Order (c : Circ) (w : World) (hG : Row 3 enc3 w c.gates.1 c.gates.2.2) (hok : gsOk c.gates.2.2) (hn : c.gates.2.2.length <= 1048576) (ho : Once c.gates.2.2) :
  Lt.Spec Tryz.prog 111 [c.val] w (IsFresh 1 encI 3 w (natI (ordL c.gates.2.2))) := by
 refine Spec.of _ Tryz.func111 rfl Tryz.ntmps111 (by kernel_rfl) rfl ?_
 repeat' (first | (apply WL.box; (iterate 3 exact rfl); intro gc wc hb hge hc hxc; have hcc := hc; obtain ⟨h1, h2, h3, _⟩ := hc; (have hcells := hcc; obtain ⟨y0, y1, y2, y3, y4, y5, y6, _⟩ := hcc)) | (apply WL.makeMap (kv := encK) (vv := encK); exact rfl; exact rfl; intro rm w1 hM1 hge1 hx1) | (first | apply WL.nil | refine WL.au (k := ?_)) | apply Z.tn | (first | apply W.seq | apply W.region | apply W.block))
 have Rg := hG.ext hxc
 have hwc := Below.size hxc
 have hS : Lt.Sep wc.heap.size w1 [pmap encK encK rm (plcM c.gates.2.2 0)] := Sep.newMap Sep.none' hx1 hM1 hge1 (Nat.le_refl _)
 refine W.loopW c.gates.2.2.length (fun k w' => k <= c.gates.2.2.length /\ Ext wc w' /\ Lt.Sep wc.heap.size w' [pmap encK encK rm (plcM c.gates.2.2 k)]) (fun k => [(1, .pointer (some ⟨gc, 0, none⟩)), (3, .map (some rm)), (22, rowVal c.gates), (23, .int .i64 (c.gates.2.2.length : Nat)), (24, .int .i64 k)]) ⟨Nat.zero_le _, hx1, hS⟩ (fun k w' h => h.1) ⟨rfl, rfl, rfl, rfl, rfl, trivial⟩ ?_
 clear hS
 rintro k w3 ⟨hk, hX3, hS⟩
 have hM3 := hS.map (i := 0) rfl
 have hrm := (hS.lt (i := 0) rfl rfl).1
 by_cases hlt : k < c.gates.2.2.length
 ·obtain ⟨g, hgg⟩ := getI c.gates.2.2 hlt
  have hgo := hok g (List.mem_of_getElem? hgg)
  have hnew := plcM_new ho hgg
  repeat' (first | (first | apply WL.nil | refine WL.au (k := ?_)) | apply Z.tn | (first | apply W.seq | apply W.region))
  refine W.cKT rfl (dTt (by omega)) ?_
  repeat' (first | (apply WL.alloc tOk; (iterate 3 exact rfl); intro gb w' hb hge hx) | (apply WL.storeB (w0 := w3) tOk; (iterate 4 exact rfl); assumption; exact extA; (iterate 3 exact rfl); exact extA; assumption; intro w4 hb hc hX4 hU; have hcc := hc; obtain ⟨h1, h2, _⟩ := hc; (have hC4 := cHp hb; obtain ⟨i0, i1, i2, _⟩ := hC4)) | (apply WL.mapPutF (B := 0) (w0 := wc) (vv := encK) tOk keyI; (iterate 6 exact rfl); exact hM3.ext extA; exact extA; assumption; intro w' hM' hX' hU) | (first | apply WL.nil | refine WL.au (k := ?_) | (apply WL.index tOk; (iterate 8 exact rfl); assumption; exact extA; exact rfl; omega; assumption; intro b off h; have hcc := h; first | (obtain ⟨h1, h2, h3, h4, h5, h6, _⟩ := h) | (obtain ⟨h1, h2, h3, _⟩ := h) | (obtain ⟨h1, h2, _⟩ := h) | (obtain ⟨h1, _⟩ := h))) | (first | apply Z.tn | apply Z.bkn) | (first | apply W.seq | apply W.region | apply W.block | apply W.skip))
  rw [hnew] at hM'
  have hS4 := Sep.updMap (i := 0) rfl hU hM' hS extA (Below.size extA)
  exact Z.agW ⟨by omega, extA, by rw [plcM_s hgg]; exact hS4⟩ ⟨rfl, rfl, rfl, rfl, rfl, trivial⟩
 obtain rfl : k = c.gates.2.2.length := by omega
 repeat' (first | (first | apply WL.nil | refine WL.au (k := ?_)) | apply Z.tn | (first | apply W.seq | apply W.region))
 refine W.cKF rfl (dFf (by omega)) ?_
 repeat' (first | (first | apply Z.tn | apply Z.tnx | apply Z.bkx) | (first | apply W.seq | apply W.exit))
 have y6w : w3.cell? ⟨gc, 0 + 1 + 1 + 1 + 1 + 1 + 1, none⟩ = some (rowVal c.gates) := (hcells.ext hX3).2.2.2.2.2.2.1
 have ei : ((c.gates.2.2.length : Nat) : Int).toNat = c.gates.2.2.length := by omega
 refine W.cutT (σ := Nat × Nat × World) (fun s => Ext wc s.2.2 /\ Lt.Sep wc.heap.size s.2.2 [prow 1 encI 3 wc.heap.size (some ⟨s.1, 0, none⟩) c.gates.2.2.length (List.replicate c.gates.2.2.length 0), prow 1 encRow 22 wc.heap.size (some ⟨s.2.1, 0, none⟩) c.gates.2.2.length (List.replicate c.gates.2.2.length ((none, 0, []) : RowV Int)), pmap encK encK rm (plcM c.gates.2.2 c.gates.2.2.length)]) (fun s => [(1, .pointer (some ⟨gc, 0, none⟩)), (3, .map (some rm)), (6, .slice (some ⟨s.1, 0, none⟩) c.gates.2.2.length c.gates.2.2.length), (7, .slice (some ⟨s.2.1, 0, none⟩) c.gates.2.2.length c.gates.2.2.length)]) (fun s => s.2.2) ?_ ?_
 ·repeat' (first | (show W _ _ (.region 7 _ _) _ _ _; apply W.regionGX (.fl true 0 (.fl true 4 (.fl false 1 (.fl true 2 (.fl false 5 (.fl true 6 (.br 3 (.fl true 8 (.br 7 (.fl true 9 .done) .stop)) (.br 7 (.br 3 (.fl true 8 (.fl true 9 .done)) .stop) .stop)))))))) [3, 5, 6, 7, 8] tMix; kernel_rfl) | (apply WL.make (w0 := wc) (z := (0:Int)) tOk; (iterate 9 exact rfl); exact eIk; exact rfl; exact rfl; exact extA; omega; intro gb w' hO hge hx; replace hS := Sep.newRow (Sep.ext hS extA) hx hO (fun k hk => by cases hk; exact hge) (by (exact Below.size extA)); (try simp only [List.set_cons_zero, List.set_cons_succ] at hS); (try have hR0 := hS.row (i := 0) rfl); (try have hR1 := hS.row (i := 1) rfl); (try have hM1 := hS.map (i := 1) rfl); (try have hM2 := hS.map (i := 2) rfl)) | (apply WL.make (w0 := wc) (z := nilR) tOk; (iterate 9 exact rfl); exact encRow_ok; exact rfl; exact rfl; exact extA; omega; intro gb w' hO hge hx; replace hS := Sep.newRow (Sep.ext hS extA) hx hO (fun k hk => by cases hk; exact hge) (by (exact Below.size extA)); (try simp only [List.set_cons_zero, List.set_cons_succ] at hS); (try have hR0 := hS.row (i := 0) rfl); (try have hR1 := hS.row (i := 1) rfl); (try have hM1 := hS.map (i := 1) rfl); (try have hM2 := hS.map (i := 2) rfl)) | (first | (apply SX.done; intro w' hx) | (apply SX.fl0; exact rfl) | (apply SX.fl1; exact rfl; exact extA) | (apply SX.br1; exact rfl; intro w' hx) | (apply SX.br; exact rfl; (intro w' hx))) | (first | apply FL.nilX | (apply FL.loadE tOk; (iterate 5 exact rfl); assumption)) | refine FL.au (k := ?_) | (apply Z.sxE; exact extA) | apply WL.nil)
  all_goals (rw [ei] at hS; rw [ei]; rw [List.length_replicate, List.length_replicate])
  ·exact Z.cut (_, _, w') ⟨extA, (Sep.swap01 hS).ext extA⟩ ⟨rfl, rfl, rfl, rfl, trivial⟩ rfl
  ·exact Z.cut (_, _, w') ⟨extA, hS.ext extA⟩ ⟨rfl, rfl, rfl, rfl, trivial⟩ rfl
 clear hS hX3 hM3 y6w
 rintro ⟨gl, go, w4⟩ ⟨hX4, hS⟩
 dsimp only at hX4 hS
 obtain ⟨n, hnn⟩ : ∃ n, c.gates.2.2.length = n := ⟨_, rfl⟩
 have hS4 : Lt.Sep wc.heap.size w4 (rst wc.heap.size (some ⟨gl, 0, none⟩) n (List.replicate n 0) (some ⟨go, 0, none⟩) n (List.replicate n nilR) rm (plcM c.gates.2.2 n) none 0 [] nilR (List.replicate n nilR)) := by
  have := Sep.addNils hS (n + 2)
  rw [hnn] at this
  exact this
 repeat' (first | (apply WL.call (f := 153); (iterate 4 exact rfl); exact heap_New c.gates.2.2.length hn _ wc _ extA (hS4.ext extA); rintro v' w5 ⟨gh, F, A, rfl, hFl, hB5⟩; have hX5 := HpB.ext hB5) | (first | apply WL.nil | refine WL.au (k := ?_)) | apply Z.tn | (first | apply W.seq | apply W.region | apply W.block))
 have hFn : F.length = n := by omega
 refine W.loopW n (fun k w' => k <= n /\ ∃ lk rs lit t A, HpB wc w' gh F (rst wc.heap.size (some ⟨gl, 0, none⟩) n lk (some ⟨go, 0, none⟩) n rs rm (plcM c.gates.2.2 n) none 0 [] lit rs) t A (pA k lk) /\ StI c.gates.2.2 k lk rs) (fun k => [(1, .pointer (some ⟨gc, 0, none⟩)), (3, .map (some rm)), (6, .slice (some ⟨gl, 0, none⟩) n n), (7, .slice (some ⟨go, 0, none⟩) n n), (8, .pointer (some ⟨gh, 0, none⟩)), (48, rowVal c.gates), (49, .int .i64 (n : Nat)), (50, .int .i64 k)]) ⟨Nat.zero_le _, _, _, _, _, _, hB5.mono (fun x => ⟨fun h => h.elim, fun ⟨j, _, h, _⟩ => absurd h (Nat.not_lt_zero _)⟩), by rw [<- hnn]; exact StI.first _⟩ (fun k w' h => h.1) (by rw [<- hnn]; exact ⟨rfl, rfl, rfl, rfl, rfl, rfl, rfl, rfl, trivial⟩) ?_
 clear hS hS4 hB5 hX5 hX4
 rintro k w6 ⟨hk, lk, rs, lit, t, A, hB6, hI6⟩
 have hX6 := hB6.ext
 by_cases hlt : k < n
 ·obtain ⟨g, hgg⟩ := getI c.gates.2.2 (show k < c.gates.2.2.length by omega)
  have hgo := hok g (List.mem_of_getElem? hgg)
  repeat' (first | (first | apply WL.nil | refine WL.au (k := ?_)) | apply Z.tn | (first | apply W.seq | apply W.region))
  refine W.cKT rfl (dTt (by omega)) ?_
  repeat' (first | (apply WL.alloc tOk; (iterate 3 exact rfl); intro gb w' hb hge hx) | (apply WL.storeB (w0 := w6) tOk; (iterate 4 exact rfl); assumption; exact extA; (iterate 3 exact rfl); exact extA; assumption; intro w7 hb hc hX7 hU; have hcc := hc; obtain ⟨h1, h2, _⟩ := hc; (have hC7 := cHp hb; obtain ⟨i0, i1, i2, _⟩ := hC7)) | (apply WL.lit tOk; (iterate 6 exact rfl); kernel_rfl; exact rfl; intro gt w8 hb hge8 hc hx8; have hO := Own.of_block ([g.2.1, g.2.2]) eIk hb hge8 rfl; (obtain ⟨hO8, rfl⟩ : ∃ x, x = hO := ⟨_, rfl⟩)) | (first | apply WL.nil | refine WL.au (k := ?_) | (apply WL.index tOk; (iterate 8 exact rfl); assumption; exact extA; exact rfl; omega; assumption; intro b off h; have hcc := h; first | (obtain ⟨h1, h2, h3, h4, h5, h6, _⟩ := h) | (obtain ⟨h1, h2, h3, _⟩ := h) | (obtain ⟨h1, h2, _⟩ := h) | (obtain ⟨h1, _⟩ := h))) | apply Z.tn | (first | apply W.seq | apply W.region | apply W.block | apply W.skip))
  have hB8 := hB6.setLit (show Ext w6 w8 from extA) (hO8.base (Nat.le_trans (Below.size hX6) (Below.size hX7))) (Nat.le_trans (Below.size hX7) hge8)
  have hA8 := hI6.enter hgg
  refine W.loopW 2 (fun j w' => j <= 2 /\ ∃ lk rs t A, HpB wc w' gh F (rst wc.heap.size (some ⟨gl, 0, none⟩) n lk (some ⟨go, 0, none⟩) n rs rm (plcM c.gates.2.2 n) none 0 [] (some ⟨gt, 0, none⟩, 2, [g.2.1, g.2.2]) rs) t A (pA k lk) /\ StA c.gates.2.2 k g j lk rs) (fun j => [(1, .pointer (some ⟨gc, 0, none⟩)), (3, .map (some rm)), (6, .slice (some ⟨gl, 0, none⟩) n n), (7, .slice (some ⟨go, 0, none⟩) n n), (8, .pointer (some ⟨gh, 0, none⟩)), (9, .int .i64 k), (48, rowVal c.gates), (49, .int .i64 (n : Nat)), (50, .int .i64 k), (59, .slice (some ⟨gt, 0, none⟩) 2 2), (60, .int .i64 2), (61, .int .i64 j)]) ⟨Nat.zero_le _, _, _, _, _, hB8, hA8⟩ (fun k w' h => h.1) ⟨rfl, rfl, rfl, rfl, rfl, rfl, rfl, rfl, rfl, rfl, rfl, rfl, trivial⟩ ?_
  clear hB8 hA8 hB6 hI6 hX6
  rintro j w9 ⟨hj, lk, rs, t, A, hB9, hA9⟩
  have hX9 := hB9.ext
  by_cases hjl : j < 2
  ·obtain ⟨l, hl⟩ : ∃ l, litJ g j = l := ⟨_, rfl⟩
   have hll : ([g.2.1, g.2.2] : List Int)[((j : Nat) : Int).toNat]? = some l := by
    rw [Int.toNat_natCast, <- hl]
    match j, hjl with
    | 0, _ => rfl
    | 1, _ => rfl
   have hl0 : 0 <= l /\ l <= 33554433 := by
    rw [<- hl]
    match j, hjl with
    | 0, _ => exact hgo.2.1
    | 1, _ => exact hgo.2.2
   obtain ⟨hX9, ⟨hat, hze, as_, cs, tr, ct, ap, cp, hS⟩, hO9, hm9⟩ := hB9
   have hMp := hS.map (i := 6) rfl
   have hLo := hS.row (i := 4) rfl
   have RL := (hS.row (i := 8) rfl).row eIk
   have hll3 := hA9.llen
   have hrl3 := hA9.rlen
   have hLn : lk.length = n := by omega
   have hRn : rs.length = n := by omega
   cases hmg : mget (l / 2) (plcM c.gates.2.2 n) with
   | none =>
    repeat' (first | (first | apply WL.nil | refine WL.au (k := ?_)) | apply Z.tn | (first | apply W.seq | apply W.region))
    refine W.cKT rfl (dTt (by omega)) ?_
    repeat' (first | (apply WL.lookNoneF tOk keyI; (iterate 7 exact rfl); exact hMp; exact hmg) | (first | apply WL.nil | refine WL.au (k := ?_) | (apply WL.index tOk; (iterate 8 exact rfl); assumption; exact extA; exact rfl; omega; assumption; intro b off h; have hcc := h; first | (obtain ⟨h1, h2, h3, h4, h5, h6, _⟩ := h) | (obtain ⟨h1, h2, h3, _⟩ := h) | (obtain ⟨h1, h2, _⟩ := h) | (obtain ⟨h1, _⟩ := h))) | apply Z.tn | (first | apply W.seq | apply W.region | apply W.block | apply W.skip))
    refine W.cKF rfl rfl ?_
    repeat' (first | (first | apply WL.nil | refine WL.au (k := ?_)) | (first | apply Z.tn | apply Z.bkn) | (first | apply W.region | apply W.skip))
    refine Z.agW ⟨by omega, lk, rs, t, A, ⟨extA, ⟨hat, hze, as_, cs, tr, ct, ap, cp, hS⟩, hO9, hm9⟩, hA9.skip fun q y hy he => ?_⟩ ⟨rfl, rfl, rfl, rfl, rfl, rfl, rfl, rfl, rfl, rfl, rfl, rfl, trivial⟩
    rw [<- hnn] at hmg
    exact plcM_none hmg q y hy (by rw [<- hl, he])
   | some v =>
    have hmg' := hmg
    rw [<- hnn] at hmg'
    obtain ⟨kk, y, hy, hyl, rfl⟩ := plcM_some hmg'
    have hkk := lGt hy
    obtain ⟨r, hr, hrv⟩ := hA9.row kk y hy
    have hnow := hA9.now
    have hLk : lk[((k : Nat) : Int).toNat]? = some (lackJ c.gates.2.2 g j : Int) := by rw [Int.toNat_natCast]; exact hnow
    have hRk : rs[((kk : Nat) : Int).toNat]? = some r := by rw [Int.toNat_natCast]; exact hr
    have hlj := lackJ_le c.gates.2.2 g j
    repeat' (first | (first | apply WL.nil | refine WL.au (k := ?_)) | apply Z.tn | (first | apply W.seq | apply W.region))
    refine W.cKT rfl (dTt (by omega)) ?_
    repeat' (first | (apply WL.lookSomeF tOk keyI; (iterate 7 exact rfl); exact hMp; exact hmg) | (first | apply WL.nil | refine WL.au (k := ?_) | (apply WL.index tOk; (iterate 8 exact rfl); assumption; exact extA; exact rfl; omega; assumption; intro b off h; have hcc := h; first | (obtain ⟨h1, h2, h3, h4, h5, h6, _⟩ := h) | (obtain ⟨h1, h2, h3, _⟩ := h) | (obtain ⟨h1, h2, _⟩ := h) | (obtain ⟨h1, _⟩ := h))) | apply Z.tn | (first | apply W.seq | apply W.region | apply W.block | apply W.skip))
    refine W.cKT rfl rfl ?_
    repeat' (first | (apply WL.indexO tOk; (iterate 8 exact rfl); assumption; exact extA; exact eIk; ((focus (simp [*]; done))); omega; assumption; intro gb ha hc; cases ha; have hcc := hc; first | (obtain ⟨h1, h2, h3, _⟩ := hc) | (obtain ⟨h1, h2, _⟩ := hc) | (obtain ⟨h1, _⟩ := hc)) | (apply WL.storeO (z' := (((lackJ c.gates.2.2 g j : Nat) : Int) + 1)) tOk; (iterate 4 exact rfl); assumption; exact extA; (iterate 3 exact rfl); exact eIk; assumption; exact rfl; exact extA; intro w' hO hX' hU) | (first | apply WL.nil | refine WL.au (k := ?_)) | apply Z.tn | (first | apply W.seq | apply W.region))
    obtain ⟨w10, rfl⟩ : ∃ x, x = w' := ⟨_, rfl⟩
    have hS1 : Lt.Sep wc.heap.size w10 (hpP wc.heap.size gh as_ cs F tr ct t.length t ap cp A ++ rst wc.heap.size (some ⟨gl, 0, none⟩) n (lk.set ((k : Nat) : Int).toNat (((lackJ c.gates.2.2 g j : Nat) : Int) + 1)) (some ⟨go, 0, none⟩) n rs rm (plcM c.gates.2.2 n) none 0 [] (some ⟨gt, 0, none⟩, 2, [g.2.1, g.2.2]) rs) := Sep.uRw (i := 4) rfl hU hO (.inl rfl) hS (Ext.refl _) (Below.size hX9)
    have hOu := hS1.row (i := 5) rfl
    have hIn := hS1.row (rst_in hr _ rfl)
    have hX10 : Ext wc w10 := extA
    have hrl : r.2.2.length <= 2 * n + 2 := by
     have q1 := abv_len c.gates.2.2 y k
     have q2 := hangsJ_le g y j
     rw [hrv, List.length_append, List.length_replicate]; omega
    repeat' (first | (apply WL.indexO tOk; (iterate 8 exact rfl); assumption; exact extA; exact encRow_ok; ((focus (simp [*]; done))); omega; assumption; intro gb ha hc; cases ha; have hcc := hc; first | (obtain ⟨h1, h2, h3, _⟩ := hc) | (obtain ⟨h1, h2, _⟩ := hc) | (obtain ⟨h1, _⟩ := hc)) | (apply WL.lit tOk; (iterate 6 exact rfl); kernel_rfl; exact rfl; intro gb w' hb hge hc hx) | (apply WL.ap1 (z := (((k : Nat) : Int))) tOk eIk; (iterate 10 exact rfl); assumption; exact extA; exact rfl; assumption; exact rfl; exact rfl; exact extA; omega; intro a' cap' w' hO hX' hU hF) | refine WL.au (k := ?_))
    obtain ⟨w12, rfl⟩ : ∃ x, x = w' := ⟨_, rfl⟩; obtain ⟨a2, rfl⟩ : ∃ x, x = a' := ⟨_, rfl⟩; obtain ⟨cp2, rfl⟩ : ∃ x, x = cap' := ⟨_, rfl⟩
    have hS2 := Sep.uRw (rst_in hr _ rfl) hU hO hF hS1 extA (Below.size extA)
    rw [show prow 1 encI 3 wc.heap.size a2 cp2 (r.2.2 ++ [((k : Nat) : Int)]) = pI wc.heap.size (a2, cp2, r.2.2 ++ [((k : Nat) : Int)]) from rfl, rst_set _ rfl] at hS2
    have hOu2 := hS2.row (i := 5) rfl
    have hX12 : Ext wc w12 := extA
    repeat' (first | (apply WL.indexO tOk; (iterate 8 exact rfl); assumption; exact extA; exact encRow_ok; ((focus (simp [*]; done))); omega; assumption; intro gb ha hc; cases ha; have hcc := hc; first | (obtain ⟨h1, h2, h3, _⟩ := hc) | (obtain ⟨h1, h2, _⟩ := hc) | (obtain ⟨h1, _⟩ := hc)) | (apply WL.storeO (z' := (((a2, cp2, r.2.2 ++ [((k : Nat) : Int)]) : RowV Int))) tOk; (iterate 4 exact rfl); assumption; exact extA; (iterate 3 exact rfl); exact encRow_ok; assumption; exact rfl; exact extA; intro w' hO hX' hU) | (first | apply WL.nil | refine WL.au (k := ?_)) | (first | apply Z.tn | apply Z.bkn) | apply W.region)
    have hS3 : Lt.Sep wc.heap.size w' (hpP wc.heap.size gh as_ cs F tr ct t.length t ap cp A ++ rst wc.heap.size (some ⟨gl, 0, none⟩) n (lk.set ((k : Nat) : Int).toNat (((lackJ c.gates.2.2 g j : Nat) : Int) + 1)) (some ⟨go, 0, none⟩) n (rs.set ((kk : Nat) : Int).toNat (a2, cp2, r.2.2 ++ [((k : Nat) : Int)])) rm (plcM c.gates.2.2 n) none 0 [] (some ⟨gt, 0, none⟩, 2, [g.2.1, g.2.2]) (rs.set kk (a2, cp2, r.2.2 ++ [((k : Nat) : Int)]))) := Sep.uRw (i := 5) rfl hU hO (.inl rfl) hS2 (Ext.refl _) (Below.size hX12)
    rw [Int.toNat_natCast, Int.toNat_natCast] at hS3
    exact Z.agW ⟨by omega, _, _, t, A, ⟨extA, ⟨hat, hze, as_, cs, tr, ct, ap, cp, hS3⟩, hO9, fun x => (hm9 x).trans (pA_set x).symm⟩, hA9.take ho hy (by rw [hyl, hl]) hr⟩ ⟨rfl, rfl, rfl, rfl, rfl, rfl, rfl, rfl, rfl, rfl, rfl, rfl, trivial⟩
  obtain rfl : j = 2 := by omega
  have hI9 := hA9.leave hgg
  have hnow : lk[k]? = some (lackG c.gates.2.2 [] g : Int) := by rw [hA9.now, lackJ2]
  have hll3 := hA9.llen
  have hB9' := hB9
  obtain ⟨hX9, ⟨hat, hze, as_, cs, tr, ct, ap, cp, hS⟩, hO9, hm9⟩ := hB9'
  have hLo := hS.row (i := 4) rfl
  have hLn : lk.length = n := by omega
  have hLk : lk[((k : Nat) : Int).toNat]? = some (lackG c.gates.2.2 [] g : Int) := by rw [Int.toNat_natCast]; exact hnow
  repeat' (first | (first | apply WL.nil | refine WL.au (k := ?_)) | apply Z.tn | (first | apply W.seq | apply W.region))
  refine W.cKF rfl (dFf (by omega)) ?_
  repeat' (first | (apply WL.indexO tOk; (iterate 8 exact rfl); assumption; exact extA; exact eIk; ((focus (simp [*]; done))); omega; assumption; intro gb ha hc; cases ha; have hcc := hc; first | (obtain ⟨h1, h2, h3, _⟩ := hc) | (obtain ⟨h1, h2, _⟩ := hc) | (obtain ⟨h1, _⟩ := hc)) | (first | apply WL.nil | refine WL.au (k := ?_)) | (first | apply Z.tn | apply Z.tnx | apply Z.bkx) | (first | apply W.seq | apply W.region | apply W.exit))
  by_cases h0 : lackG c.gates.2.2 [] g = 0
  ·refine W.cKT rfl (dTt (by omega)) ?_
   have hnp : ¬ pA k lk (k : Int) := fun ⟨q, q1, q2, q3⟩ => by omega
   repeat' (first | (apply WL.call (f := 154); (iterate 4 exact rfl); exact heap_Push w9 wc gh F t A _ (pA k lk) hB9 (by omega) k (by omega) hnp; rintro v' w10 ⟨rfl, t1, A1, hB10⟩) | (first | apply WL.nil | refine WL.au (k := ?_)) | (first | apply Z.tn | apply Z.bkn) | apply W.region)
   exact Z.agW ⟨by omega, _, _, _, t1, A1, hB10.mono (fun x => pA_push (by rw [hnow, h0]; rfl) x), hI9⟩ ⟨rfl, rfl, rfl, rfl, rfl, rfl, rfl, rfl, trivial⟩
  ·refine W.cKF rfl (dFf (by omega)) ?_
   repeat' (first | (first | apply WL.nil | refine WL.au (k := ?_)) | (first | apply Z.tn | apply Z.bkn) | (first | apply W.region | apply W.skip))
   exact Z.agW ⟨by omega, _, _, _, t, A, hB9.mono (fun x => pA_next hnow (by omega) x), hI9⟩ ⟨rfl, rfl, rfl, rfl, rfl, rfl, rfl, rfl, trivial⟩
 obtain rfl : k = n := by omega
 repeat' (first | (first | apply WL.nil | refine WL.au (k := ?_)) | apply Z.tn | (first | apply W.seq | apply W.region))
 refine W.cKF rfl (dFf (by omega)) ?_
 have hll6 := hI6.llen
 have hB7 := hB6.mono (fun x => pA_all (show lk.length = k by omega) x)
 have hSB : StB c.gates.2.2 [] [] lk := ⟨hI6.llen, fun q x hx => by rw [hI6.old q x hx (by have := lGt hx; omega)]; simp⟩
 have hrows : ∀ (q : Nat) (y : G3), c.gates.2.2[q]? = some y -> ∃ r, rs[q]? = some r /\ r.2.2 = abv c.gates.2.2 y c.gates.2.2.length := by
  rw [hnn]; exact hI6.row
 have hrl6 := hI6.rlen
 have start : ∀ (L : List Nat) (lk : List Int) (ya : Int), StB c.gates.2.2 L [] lk -> pH L lk ya -> (∀ x, pH L lk x -> ya <= x) -> ∃ i : Nat, ya = (i : Int) /\ Least c.gates.2.2 L i := fun L lk ya hS hp hm => by
  obtain ⟨i, rfl, hr⟩ := (hS.rdy ya).1 hp
  exact ⟨i, rfl, hr, fun j hj => by have := hm (j : Int) ((hS.rdy _).2 ⟨j, rfl, hj⟩); omega⟩
 repeat' (first | (apply WL.call (f := 155); (iterate 4 exact rfl); exact heap_PopO w6 wc gh F t A _ (pH [] lk) hB7 (by omega); rintro v' w7 ⟨nx, rfl, hnx1, hnx2, t1, A1, hB8⟩) | (first | apply WL.nil | refine WL.au (k := ?_)) | (first | apply Z.tn | apply Z.tnx | apply Z.bkx) | (first | apply W.seq | apply W.region | apply W.block | apply W.exit))
 refine W.loop (σ := List Nat × Option Int × Option Addr × Nat × World) (fun s => PreOrd c.gates.2.2 s.1 /\ ∃ lk t A, HpB wc s.2.2.2.2 gh F (rst wc.heap.size (some ⟨gl, 0, none⟩) k lk (some ⟨go, 0, none⟩) k rs rm (plcM c.gates.2.2 k) s.2.2.1 s.2.2.2.1 (natI s.1) lit rs) t A (fun x => pH s.1 lk x /\ ∀ y, s.2.1 = some y -> x ≠ y) /\ StB c.gates.2.2 s.1 [] lk /\ (∀ y, s.2.1 = some y -> pH s.1 lk y /\ ∀ x, pH s.1 lk x -> y <= x) /\ (s.2.1 = none -> ∀ x, ¬ pH s.1 lk x)) (fun s => [(6, .slice (some ⟨gl, 0, none⟩) k k), (7, .slice (some ⟨go, 0, none⟩) k k), (8, .pointer (some ⟨gh, 0, none⟩)), (15, .slice s.2.2.1 (natI s.1).length s.2.2.2.1), (16, .int .i64 (s.2.1.getD 0)), (17, .bool s.2.1.isSome)]) (fun s => s.2.2.2.2) (fun s => c.gates.2.2.length + 1 - s.1.length) ([], nx, none, 0, w7) ⟨PreOrd.nil _, lk, t1, A1, hB8, hSB, hnx1, hnx2⟩ ⟨rfl, rfl, rfl, rfl, rfl, rfl, trivial⟩ rfl ?_
 clear hB7 hB8 hSB hnx1 hnx2 hB6 hI6 hX6 hll6
 rintro ⟨L, nx, ou, cu, w8⟩ ⟨hP, lk, t, A, hB8, hSB, hn1, hn2⟩
 dsimp only at hP hB8 hSB hn1 hn2 ⊢
 have hX8 := hB8.ext
 have hLle := hP.le
 cases nx with
 | none =>
  repeat' (first | (first | apply WL.nil | refine WL.au (k := ?_)) | apply Z.tn | (first | apply W.seq | apply W.region))
  refine W.cKF rfl rfl ?_
  repeat' (first | (first | apply WL.nil | refine WL.au (k := ?_)) | (first | apply Z.tn | apply Z.tnx | apply Z.bkx) | (first | apply W.seq | apply W.region | apply W.ret | apply W.exit))
  obtain ⟨hX9, ⟨hat, hze, as_, cs, tr, ct, ap, cp, hS⟩, hO9, hm9⟩ := hB8
  have hOut := hS.row (i := 7) rfl
  have hLo : L = ordL c.gates.2.2 := IsOrd.ord ⟨hP, fun q hq => hn2 rfl (q : Int) ((hSB.rdy _).2 ⟨q, rfl, hq⟩)⟩
  exact Z.bd1 Tryz.results111 rfl fun m => ⟨hxc.trans (Ext.at hX8 m), ou, cu, by rw [<- hLo], by rw [<- hLo]; exact (hOut.base hwc).ext ((Ext.refl _).at m)⟩
 | some ya =>
  obtain ⟨i, rfl, hle⟩ := start L lk ya hSB (hn1 ya rfl).1 (hn1 ya rfl).2
  obtain ⟨y, hy, hiL, hself⟩ := hle.1
  have hself := rdy_self hle.1 hy
  have hik := lGt hy
  obtain ⟨r, hr, hrv⟩ := hrows i y hy
  repeat' (first | (first | apply WL.nil | refine WL.au (k := ?_)) | apply Z.tn | (first | apply W.seq | apply W.region))
  refine W.cKT rfl rfl ?_
  refine W.sub [(6, .slice (some ⟨gl, 0, none⟩) k k), (7, .slice (some ⟨go, 0, none⟩) k k), (8, .pointer (some ⟨gh, 0, none⟩)), (15, .slice ou (natI L).length cu), (16, .int .i64 ((i : Nat) : Int))] ⟨rfl, rfl, rfl, rfl, rfl, trivial⟩ ?_
  obtain ⟨hX9, ⟨hat, hze, as_, cs, tr, ct, ap, cp, hS⟩, hO9, hm9⟩ := hB8
  have hOut := hS.row (i := 7) rfl
  have hnl : (natI L).length = L.length := List.length_map _
  repeat' (first | (apply WL.lit tOk; (iterate 6 exact rfl); kernel_rfl; exact rfl; intro gb w' hb hge hc hx) | (apply WL.ap1 (z := (((i : Nat) : Int))) tOk eIk; (iterate 10 exact rfl); assumption; exact extA; exact rfl; assumption; exact rfl; exact rfl; exact extA; omega; intro a' cap' w' hO hX' hU hF) | (first | apply WL.nil | refine WL.au (k := ?_)) | apply Z.tn | (first | apply W.seq | apply W.region | apply W.block | apply W.skip))
  obtain ⟨w9, rfl⟩ : ∃ x, x = w' := ⟨_, rfl⟩; obtain ⟨ou2, rfl⟩ : ∃ x, x = a' := ⟨_, rfl⟩; obtain ⟨cu2, rfl⟩ : ∃ x, x = cap' := ⟨_, rfl⟩
  have hnat : natI L ++ [((i : Nat) : Int)] = natI (L ++ [i]) := by simp [natI]
  have hS1 : Lt.Sep wc.heap.size w9 (hpP wc.heap.size gh as_ cs F tr ct t.length t ap cp A ++ rst wc.heap.size (some ⟨gl, 0, none⟩) k lk (some ⟨go, 0, none⟩) k rs rm (plcM c.gates.2.2 k) ou2 cu2 (natI (L ++ [i])) lit rs) := by
   rw [<- hnat]; exact Sep.uRw (i := 7) rfl hU hO hF hS extA (Below.size extA)
  have hX9' : Ext wc w9 := extA
  have hOu := hS1.row (i := 5) rfl
  have hRk : rs[((i : Nat) : Int).toNat]? = some r := by rw [Int.toNat_natCast]; exact hr
  rw [hnat]
  have hrl6' : rs.length = k := by omega
  repeat' (first | (apply WL.indexO tOk; (iterate 8 exact rfl); assumption; exact extA; exact encRow_ok; ((focus (simp [*]; done))); omega; assumption; intro gb ha hc; cases ha; have hcc := hc; first | (obtain ⟨h1, h2, h3, _⟩ := hc) | (obtain ⟨h1, h2, _⟩ := hc) | (obtain ⟨h1, _⟩ := hc)) | (first | apply WL.nil | refine WL.au (k := ?_)) | apply Z.tn | apply W.block)
  have hYl : r.2.2.length <= 2 * k := by rw [hrv, hnn]; exact abv_len _ _ _
  have hm9' : ∀ x, x ∈ t ↔ pH (L ++ [i]) lk x := fun x => ((hm9 x).trans ⟨fun ⟨h1, h2⟩ => ⟨h1, h2 _ rfl⟩, fun ⟨h1, h2⟩ => ⟨h1, fun y hy => by cases hy; exact h2⟩⟩).trans (pH_out x)
  refine W.loopW r.2.2.length (fun m w' => m <= r.2.2.length /\ ∃ lk t A, HpB wc w' gh F (rst wc.heap.size (some ⟨gl, 0, none⟩) k lk (some ⟨go, 0, none⟩) k rs rm (plcM c.gates.2.2 k) ou2 cu2 (natI (L ++ [i])) lit rs) t A (pH (L ++ [i]) lk) /\ StB c.gates.2.2 L (r.2.2.take m) lk) (fun m => [(6, .slice (some ⟨gl, 0, none⟩) k k), (7, .slice (some ⟨go, 0, none⟩) k k), (8, .pointer (some ⟨gh, 0, none⟩)), (15, .slice ou2 (natI (L ++ [i])).length cu2), (117, .slice r.1 r.2.2.length r.2.1), (118, .int .i64 (r.2.2.length : Nat)), (119, .int .i64 m)]) ⟨Nat.zero_le _, lk, t, A, ⟨hX9', ⟨hat, hze, as_, cs, tr, ct, ap, cp, hS1⟩, hO9, hm9'⟩, by rw [List.take_zero]; exact hSB⟩ (fun m w' h => h.1) ⟨rfl, rfl, rfl, rfl, rfl, rfl, rfl, trivial⟩ ?_
  have hPi := hP.push hle
  clear hSB hS hS1 hO9 hm9 hm9' hat hze hOut hOu hO hX9 hX9' hn1 hn2
  rintro m w10 ⟨hm, lk, t, A, hB10, hSB⟩
  have hX10 := hB10.ext
  by_cases hml : m < r.2.2.length
  ·obtain ⟨z, hgz⟩ := getI r.2.2 hml
   have hgz' := hgz
   rw [hrv] at hgz'
   obtain ⟨kk, g, rfl, hkk, hg, hh⟩ := abv_mem (List.mem_of_getElem? hgz')
   rw [hrv] at hSB
   obtain ⟨v, hv, hv1, hv2, hSB2⟩ := hSB.step ho hy hiL hg hgz'
   rw [<- hrv] at hSB2
   have hkL : kk ∉ L ++ [i] := fun hm2 => by
    rcases List.mem_append.1 hm2 with h | h
    ·exact not_told hP hy hg hh hiL h
    ·obtain rfl := List.mem_singleton.1 h
     rw [hy] at hg; cases hg; omega
   have hB10' := hB10
   obtain ⟨_, ⟨hat, hze, as_, cs, tr, ct, ap, cp, hS⟩, hO9, hm9⟩ := hB10'
   have RL := (hS.row (rst_in hr _ rfl)).row eIk
   have hLo := hS.row (i := 4) rfl
   have hlk3 := hSB.llen
   have hLn : lk.length = k := by omega
   have hvk : lk[((kk : Nat) : Int).toNat]? = some v := by rw [Int.toNat_natCast]; exact hv
   have hvs : (lk.set ((kk : Nat) : Int).toNat (v - 1))[((kk : Nat) : Int).toNat]? = some (v - 1) := List.getElem?_set_self (by rw [Int.toNat_natCast]; omega)
   repeat' (first | (first | apply WL.nil | refine WL.au (k := ?_)) | apply Z.tn | (first | apply W.seq | apply W.region))
   refine W.cKT rfl (dTt (by omega)) ?_
   repeat' (first | (apply WL.indexO tOk; (iterate 8 exact rfl); assumption; exact extA; exact eIk; ((focus (simp [*]; done))); omega; assumption; intro gb ha hc; cases ha; have hcc := hc; first | (obtain ⟨h1, h2, h3, _⟩ := hc) | (obtain ⟨h1, h2, _⟩ := hc) | (obtain ⟨h1, _⟩ := hc)) | (apply WL.storeO (z' := (v - 1)) tOk; (iterate 4 exact rfl); assumption; exact extA; (iterate 3 exact rfl); exact eIk; assumption; exact rfl; exact extA; intro w' hO hX' hU) | (first | apply WL.nil | refine WL.au (k := ?_) | (apply WL.index tOk; (iterate 8 exact rfl); assumption; exact extA; exact rfl; omega; assumption; intro b off h; have hcc := h; first | (obtain ⟨h1, h2, h3, h4, h5, h6, _⟩ := h) | (obtain ⟨h1, h2, h3, _⟩ := h) | (obtain ⟨h1, h2, _⟩ := h) | (obtain ⟨h1, _⟩ := h))) | apply Z.tn | (first | apply W.seq | apply W.region | apply W.block | apply W.skip))
   obtain ⟨w11, rfl⟩ : ∃ x, x = w' := ⟨_, rfl⟩
   have hS2 : Lt.Sep wc.heap.size w11 (hpP wc.heap.size gh as_ cs F tr ct t.length t ap cp A ++ rst wc.heap.size (some ⟨gl, 0, none⟩) k (lk.set ((kk : Nat) : Int).toNat (v - 1)) (some ⟨go, 0, none⟩) k rs rm (plcM c.gates.2.2 k) ou2 cu2 (natI (L ++ [i])) lit rs) := Sep.uRw (i := 4) rfl hU hO (.inl rfl) hS (Ext.refl _) (Below.size hX10)
   rw [Int.toNat_natCast] at hS2
   by_cases hv0 : v - 1 = 0
   ·refine W.cKT rfl (dTt hv0) ?_
    repeat' (first | (apply WL.call (f := 154); (iterate 4 exact rfl); exact heap_Push w11 wc gh F t A _ (pH (L ++ [i]) lk) ⟨hX', ⟨hat, hze, as_, cs, tr, ct, ap, cp, hS2⟩, hO9, hm9⟩ (by omega) kk (by omega) (pH_no hv hv1); rintro v' w12 ⟨rfl, t2, A2, hB12⟩) | (first | apply WL.nil | refine WL.au (k := ?_)) | (first | apply Z.tn | apply Z.bkn) | apply W.region)
    exact Z.agW ⟨by omega, _, t2, A2, hB12.mono (fun x => pH_zero hv hv1 hv0 hkL x), hSB2⟩ ⟨rfl, rfl, rfl, rfl, rfl, rfl, rfl, trivial⟩
   ·refine W.cKF rfl (dFf hv0) ?_
    repeat' (first | (first | apply WL.nil | refine WL.au (k := ?_)) | (first | apply Z.tn | apply Z.bkn) | (first | apply W.region | apply W.skip))
    exact Z.agW ⟨by omega, _, t, A, ⟨hX', ⟨hat, hze, as_, cs, tr, ct, ap, cp, hS2⟩, hO9, fun x => (hm9 x).trans (pH_dec hv hv1 hv0 x)⟩, hSB2⟩ ⟨rfl, rfl, rfl, rfl, rfl, rfl, rfl, trivial⟩
  obtain rfl : m = r.2.2.length := by omega
  rw [List.take_length, hrv] at hSB
  have hSB2 := hSB.next ho hy hiL
  repeat' (first | (first | apply WL.nil | refine WL.au (k := ?_)) | apply Z.tn | (first | apply W.seq | apply W.region))
  refine W.cKF rfl (dFf (by omega)) ?_
  repeat' (first | (apply WL.call (f := 155); (iterate 4 exact rfl); exact heap_PopO w10 wc gh F t A _ (pH (L ++ [i]) lk) hB10 (by omega); rintro v' w11 ⟨nx, rfl, hnx1, hnx2, t1, A1, hB11⟩) | (first | apply WL.nil | refine WL.au (k := ?_)) | (first | apply Z.tn | apply Z.bkn | apply Z.tnx | apply Z.bkx) | (first | apply W.region | apply W.exit))
  exact Z.again (L ++ [i], nx, ou2, cu2, w11) ⟨hPi, lk, t1, A1, hB11, hSB2, hnx1, hnx2⟩ (by have := hPi.le; simp only [List.length_append, List.length_singleton] at this ⊢; omega) ⟨rfl, rfl, rfl, rfl, rfl, rfl, trivial⟩ rfl
end Go.Proofs.YteidpnpbfagaeaaGreat
namespace Go.Lt
open Go.RowKit

theorem and1_any (a : Int) : IntKind.i64.wrap (BitVec.ofInt IntKind.i64.bits a &&& BitVec.ofInt IntKind.i64.bits 1).toNat = a % 2 := by
 show IntKind.i64.wrap (BitVec.ofInt 64 a &&& BitVec.ofInt 64 1).toNat = a % 2
 have h1 : (BitVec.ofInt 64 a &&& BitVec.ofInt 64 1).toNat = (BitVec.ofInt 64 a).toNat % 2 := by
  rw [BitVec.toNat_and, show (BitVec.ofInt 64 1).toNat = 1 from rfl, Nat.and_one_is_mod]
 have h2 : ((BitVec.ofInt 64 a).toNat : Int) = a % 18446744073709551616 := by
  rw [BitVec.toNat_ofInt]
  have : (0 : Int) <= a % ((2 ^ 64 : Nat) : Int) := Int.emod_nonneg _ (by decide)
  rw [Int.toNat_of_nonneg this]
  rfl
 rw [h1, IntWalk.i64_in _ (by omega)]
 omega
section rules
variable {P : Program} {N : Nat} {e : Env} {w : World} {Q : Exit -> Act -> World -> Prop} {K : Act -> World -> Prop} {C : World -> Prop} {ops : List Oper} {l : List Oper} {Kf : Act -> Prop}
 {d : Nat} {tt t ty : TypeId} {ps : String} {af : Array Edge} {g : Option (Nat × Bool)} {x y : Operand} {a : Int}
theorem yandA {dd : Option Tmp} (hx : ev e x = some (.int .i64 a)) (hy : ev e y = some (.int .i64 1)) : Yields P e ⟨dd, .binOp .and t x y ty, tt, ps, af, g⟩ (.int .i64 (a % 2)) := by
 have := Yields.bin (P := P) (d := dd) (op := .and) (t := t) (ty := ty) (tt := tt) (ps := ps) (af := af) (g := g) hx hy (v := .int .i64 (IntKind.i64.wrap (BitVec.ofInt IntKind.i64.bits a &&& BitVec.ofInt IntKind.i64.bits 1).toNat)) rfl
 rwa [and1_any a] at this
theorem WL.andA (hg : gate ops e g = some true) (hd : Nat.blt d N = true) (hx : ev e x = some (.int .i64 a)) (hy : ev e y = some (.int .i64 1)) (k : WL P N ops.toArray l ((d, .int .i64 (a % 2)) :: e) w Q) : WL P N ops.toArray (⟨some d, .binOp .and t x y ty, tt, ps, af, g⟩ :: l) e w Q := WL.step hg hd (yandA hx hy).in k
end rules
end Go.Lt
namespace Go.Proofs.YteidpnpbfagaeaaGreat
open Go Go.Lt Go.RowKit

theorem once_of {c : CirT} (h : ¬ Twice c) (hown : ∀ x ∈ c.own, x % 2 = 0) : Once c.gates := by
 have hn : c.own.Nodup := nodup_take fun i x hx hm => h ⟨i, x, hx, hm⟩
 rw [List.nodup_append] at hn
 have hp := List.pairwise_iff_getElem.1 (List.nodup_iff_pairwise_ne.1 hn.2.1)
 intro i j x y hi hj he
 have h1 := hown x.1 (List.mem_append_right _ (List.mem_map.2 ⟨x, List.mem_of_getElem? hi, rfl⟩))
 have h2 := hown y.1 (List.mem_append_right _ (List.mem_map.2 ⟨y, List.mem_of_getElem? hj, rfl⟩))
 have ei : (c.gates.map (·.1))[i]? = some x.1 := by rw [List.getElem?_map, hi]; rfl
 have ej : (c.gates.map (·.1))[j]? = some y.1 := by rw [List.getElem?_map, hj]; rfl
 obtain ⟨li, gi⟩ := List.getElem?_eq_some_iff.1 ei
 obtain ⟨lj, gj⟩ := List.getElem?_eq_some_iff.1 ej
 refine Classical.byContradiction fun hne => ?_
 rcases Nat.lt_or_gt_of_ne hne with h3 | h3
 ·exact hp i j li lj h3 (by rw [gi, gj]; omega)
 ·exact hp j i lj li h3 (by rw [gi, gj]; omega)

abbrev netP (B g4 g5 : Nat) (an : Option Addr) (cn : Nat) (aa : Option Addr) (ca : Nat) (s : NA) : List Piece :=
 [pcell g4 #[.slice an s.1.length cn] 59, pcell g5 #[.slice aa s.2.length ca] 22, prow 2 encN 84 B an cn s.1, prow 1 encI 3 B aa ca s.2]
theorem circ_Net2 (w : World) (g5 : Nat) (aa : Option Addr) (ca : Nat) (A : List Int) (l z : Int) (hc : w.cell? ⟨g5, 0, none⟩ = some (.slice aa A.length ca)) (R : Row 1 encI w aa A) (h0 : 0 <= l) (hl9 : l <= 4294967296) (hz : A[(l / 2).toNat]? = some z) (hz0 : 0 <= z /\ z <= 4294967296) :
  Still Tryz.prog 116 [.int .i64 l, .pointer (some ⟨g5, 0, none⟩)] w (.int .i64 (litI A l)) := by
 have hlt := lGt hz
 have hl := R.len
 have e0 : litI A l = xorI z (l % 2) := litI_some hz
 refine Spec.of _ Tryz.func116 rfl Tryz.ntmps116 (by kernel_rfl) rfl ?_
 repeat' (first | (apply WL.andA; (iterate 4 exact rfl)) | (apply WL.xorI; (iterate 4 exact rfl); omega; omega) | (first | apply WL.nil | refine WL.au (k := ?_) | (apply WL.index tOk; (iterate 8 exact rfl); assumption; exact extA; exact rfl; omega; assumption; intro b off h; have hcc := h; first | (obtain ⟨h1, h2, h3, h4, h5, h6, _⟩ := h) | (obtain ⟨h1, h2, h3, _⟩ := h) | (obtain ⟨h1, h2, _⟩ := h) | (obtain ⟨h1, _⟩ := h))) | apply Z.tn | (first | apply W.seq | apply W.region | apply W.ret))
 exact Z.bd1 Tryz.results116 rfl fun m => ⟨by rw [e0], m, rfl⟩
theorem circ_Net1 (w0 w : World) (g4 g5 : Nat) (an : Option Addr) (cn : Nat) (aa : Option Addr) (ca : Nat) (s : NA) (rest : List Piece) (l : Int) (x : Int × Int) (hX : Ext w0 w) (hS : Lt.Sep w0.heap.size w (netP w0.heap.size g4 g5 an cn aa ca s ++ rest)) (hl : 0 <= l /\ (l / 2).toNat < s.2.length) (hl2 : l <= 4294967296) (hs : s.1.length <= 1000000) :
  Lt.Spec Tryz.prog 115 [.int .i64 l, .agg (encN x).toArray, .pointer (some ⟨g4, 0, none⟩), .pointer (some ⟨g5, 0, none⟩)] w (fun v w' => v = .tuple #[] /\ Ext w0 w' /\ ∃ an' cn', Lt.Sep w0.heap.size w' (netP w0.heap.size g4 g5 an' cn' aa ca (cput s l x) ++ rest)) := by
 obtain ⟨N, A⟩ := s
 dsimp only at hs hl
 have k0 := (cHp (hS.cell (i := 0) rfl)).1
 have k1 := (cHp (hS.cell (i := 1) rfl)).1
 have hg4 := (hS.lt (i := 0) rfl rfl).1
 have hN := hS.row (i := 2) rfl
 obtain ⟨zz, hzz⟩ := getI A hl.2
 refine Spec.of _ Tryz.func115 rfl Tryz.ntmps115 (by kernel_rfl) rfl ?_
 repeat' (first | (apply WL.box; (iterate 3 exact rfl); intro gb w1 hb hge hc hx1; have hcc := hc; obtain ⟨h1, h2, h3, _⟩ := hc; (have hcells := hcc; obtain ⟨y0, y1, _⟩ := hcc)) | (apply WL.lit tOk; (iterate 6 exact rfl); kernel_rfl; exact rfl; intro gb w2 hb hge hc hx2) | (apply WL.ap1 (z := (x)) tOk encN_ok; (iterate 10 exact rfl); assumption; exact extA; exact rfl; assumption; exact rfl; exact rfl; exact extA; ((simp; omega)); intro a' cap' w' hO hX' hU hF) | (first | apply WL.nil | refine WL.au (k := ?_)) | apply Z.tn | (first | apply W.seq | apply W.region))
 obtain ⟨w3, rfl⟩ : ∃ x, x = w' := ⟨_, rfl⟩; obtain ⟨an2, rfl⟩ : ∃ x, x = a' := ⟨_, rfl⟩; obtain ⟨cn2, rfl⟩ : ∃ x, x = cap' := ⟨_, rfl⟩
 have hS1 : Lt.Sep w0.heap.size w3 ([pcell g4 #[.slice an N.length cn] 59, pcell g5 #[.slice aa A.length ca] 22, prow 2 encN 84 w0.heap.size an2 cn2 (N ++ [x]), prow 1 encI 3 w0.heap.size aa ca A] ++ rest) := Sep.uRw (i := 2) rfl hU hO hF hS extA (Below.size extA)
 have hX3 : Ext w0 w3 := extA
 have hc4 := hS1.cell (i := 0) rfl
 repeat' (first | (apply WL.storeB (w0 := w0) tOk; (iterate 4 exact rfl); assumption; exact extA; (iterate 3 exact rfl); exact extA; assumption; intro w4 hb4 hc hX4 hU4; have hcc := hc; obtain ⟨h1, h2, _⟩ := hc; (have hS2 : Lt.Sep w0.heap.size w4 ([pcell g4 #[.slice an2 (N ++ [x]).length cn2] 59, pcell g5 #[.slice aa A.length ca] 22, prow 2 encN 84 w0.heap.size an2 cn2 (N ++ [x]), prow 1 encI 3 w0.heap.size aa ca A] ++ rest) := Sep.uCl (i := 0) rfl hU4 hb4 hS1 (Ext.refl _) (Below.size hX3); have p0 := (cHp (hS2.cell (i := 0) rfl)).1; have p1 := (cHp (hS2.cell (i := 1) rfl)).1; have hA4 := hS2.row (i := 3) rfl; have hnl : (N ++ [x]).length = N.length + 1 := by simp)) | (apply WL.indexO tOk; (iterate 8 exact rfl); assumption; exact extA; exact eIk; exact rfl; omega; assumption; intro gb ha hc; cases ha; have hcc := hc; first | (obtain ⟨h1, h2, h3, _⟩ := hc) | (obtain ⟨h1, h2, _⟩ := hc) | (obtain ⟨h1, _⟩ := hc)) | (apply WL.storeO (z' := (2 * ((N ++ [x]).length : Int))) tOk; (iterate 4 exact rfl); assumption; exact extA; (iterate 3 exact rfl); exact eIk; assumption; exact rfl; exact extA; intro w' hO hX' hU) | (first | apply WL.nil | refine WL.au (k := ?_)) | apply Z.tn | apply W.region)
 refine Z.body0n Tryz.results115 fun m => ⟨rfl, hX'.at m, an2, cn2, ?_⟩
 have hS3 := Sep.uRw (i := 3) rfl hU hO (.inl rfl) hS2 (Ext.refl _) (Below.size hX4)
 have e1 : cput (N, A) l x = (N ++ [x], A.set (l / 2).toNat (2 * ((N ++ [x]).length : Int))) := by unfold cput; rw [hnl]; rfl
 rw [e1]
 refine Sep.ext (w := w') ?_ ((Ext.refl _).at m)
 show Lt.Sep _ _ ([pcell g4 #[.slice an2 (N ++ [x]).length cn2] 59, pcell g5 #[.slice _ (A.set (l / 2).toNat (2 * ((N ++ [x]).length : Int))).length ca] 22, prow 2 encN 84 w0.heap.size an2 cn2 (N ++ [x]), prow 1 encI 3 w0.heap.size _ ca (A.set (l / 2).toNat (2 * ((N ++ [x]).length : Int)))] ++ rest)
 rw [List.length_set]
 exact hS3

structure AtK (m k : Nat) (A : List Int) : Prop where
 len : A.length = m + 1
 zero : A[0]? = some 0
 neg : ∀ u : Nat, 1 <= u -> u < k -> A[u]? = some (-1)
theorem AtK.all {m : Nat} {A : List Int} (h : AtK m (m + 1) A) : A = cAt0 (m : Int) := by
 apply List.ext_getElem?
 intro u
 have hr := PutOk.start m
 by_cases hu : u < m + 1
 ·cases u with
  | zero => rw [h.zero]; exact hr.zero.symm
  | succ u => rw [h.neg (u + 1) (by omega) hu]; exact (hr.not (u + 1) (by omega) (by omega) (fun l hl => by cases hl)).symm
 ·rw [List.getElem?_eq_none (by have := h.len; omega)]
  have h2 : (cAt0 (m : Int)).length = m + 1 := hr.len2
  exact (List.getElem?_eq_none (by omega)).symm
theorem Sep.perm4 {B : Nat} {w : World} {p q r s : Piece} (hS : Lt.Sep B w [p, q, r, s]) : Lt.Sep B w [r, p, s, q] := by
 refine hS.pick (fun i => match i with | 0 => 2 | 1 => 0 | 2 => 3 | _ => 1) (fun i x h => ?_) (fun i j hi hj hne => ?_)
 ·match i, h with
  | 0, h => exact h
  | 1, h => exact h
  | 2, h => exact h
  | 3, h => exact h
 ·have hi' : i < 4 := hi
  have hj' : j < 4 := hj
  match i, j, hi', hj', hne with
  | 0, 1, _, _, _ => decide
  | 0, 2, _, _, _ => decide
  | 0, 3, _, _, _ => decide
  | 1, 0, _, _, _ => decide
  | 1, 2, _, _, _ => decide
  | 1, 3, _, _, _ => decide
  | 2, 0, _, _, _ => decide
  | 2, 1, _, _, _ => decide
  | 2, 3, _, _, _ => decide
  | 3, 0, _, _, _ => decide
  | 3, 1, _, _, _ => decide
  | 3, 2, _, _, _ => decide
  | 0, 0, _, _, h => exact absurd rfl h
  | 1, 1, _, _, h => exact absurd rfl h
  | 2, 2, _, _, h => exact absurd rfl h
  | 3, 3, _, _, h => exact absurd rfl h
theorem circ_Net (c : Circ) (w : World) (hC : CAt w c) (hg : GoodC' c.t) (hz : SzC c.t 100000) :
  Lt.Spec Tryz.prog 49 [c.val] w (IsFresh2 2 encN 84 1 encI 3 w (cNet c.t).1 (cNet c.t).2) := by
 have z1 : c.ins.2.2.length <= 100000 := hz.1
 have z2 : c.lat.2.2.length <= 100000 := hz.2.1
 have z6 : c.gates.2.2.length <= 100000 := hz.2.2.2.2.2
 have hm : 0 <= c.max /\ c.max <= 16777216 := hg.max
 have hcm : c.t.max = c.max := rfl
 obtain ⟨m, hmm⟩ : ∃ m : Nat, c.max = (m : Int) := ⟨c.max.toNat, by omega⟩
 have hmt : c.max.toNat = m := by omega
 have hown : ∀ x ∈ c.t.own, 2 <= x /\ x % 2 = 0 /\ x <= 2 * c.max := hg.own
 have hused : ∀ x ∈ c.t.used, 0 <= x /\ x <= 2 * c.max + 1 := hg.used
 refine Spec.of _ Tryz.func49 rfl Tryz.ntmps49 (by kernel_rfl) rfl ?_
 repeat' (first | (apply WL.box; (iterate 3 exact rfl); intro gc wc hb hge hc hxc; have hcc := hc; obtain ⟨h1, h2, h3, _⟩ := hc; (have hcells := hcc; obtain ⟨y0, y1, y2, y3, y4, y5, y6, _⟩ := hcc; have hS : Lt.Sep wc.heap.size wc [prow 2 encN 84 wc.heap.size none 0 []] := Sep.newRow Sep.none' (Ext.refl _) Own.nil (fun k hk => by cases hk) (Nat.le_refl _))) | (apply WL.alloc tOk; (iterate 3 exact rfl); intro gb w' hb hge hx; replace hS := Sep.newCell (Sep.ext hS extA) hx hb hge (by (first | exact Nat.le_refl _ | exact Below.size extA)); (try simp only [List.set_cons_zero, List.set_cons_succ] at hS); (try have hR1 := hS.row (i := 1) rfl); (try have hR3 := hS.row (i := 3) rfl); (try have hC0 := hS.cell (i := 0) rfl); (try have hD0 := (cHp hC0).1); (try have hD1 := (cHp hC1).1); (try have hC2 := hS.cell (i := 2) rfl); (try have hD2 := (cHp hC2).1); (first | (have h_0 := g4; clear h_0) | (obtain ⟨g4, rfl⟩ : ∃ x, x = gb := ⟨_, rfl⟩))) | (apply WL.make (w0 := wc) (z := (0:Int)) tOk; (iterate 9 exact rfl); exact eIk; exact rfl; exact rfl; exact extA; omega; intro ga w' hO hge hx; replace hS := Sep.newRow (Sep.ext hS extA) hx hO (fun k hk => by cases hk; exact hge) (by (exact Below.size extA)); (try simp only [List.set_cons_zero, List.set_cons_succ] at hS); (try have hR0 := hS.row (i := 0) rfl); (try have hR2 := hS.row (i := 2) rfl); (try have hD0 := (cHp hC0).1); (try have hC1 := hS.cell (i := 1) rfl); (try have hD1 := (cHp hC1).1)) | (apply WL.storeB (w0 := wc) tOk; (iterate 4 exact rfl); assumption; exact extA; (iterate 3 exact rfl); exact extA; ((focus (apply Nat.le_trans; rotate_left; assumption; exact Below.size extA; done))); intro w' hb hc hX' hU; have hcc := hc; obtain ⟨h1, h2, _⟩ := hc; (replace hS := Sep.uCl (i := 0) rfl hU hb hS extA (by (exact Below.size extA))); (try simp only [List.set_cons_zero, List.set_cons_succ] at hS); (try have hR1 := hS.row (i := 1) rfl); (try have hR3 := hS.row (i := 3) rfl); (try have hC0 := hS.cell (i := 0) rfl); (try have hD0 := (cHp hC0).1); (try have hD1 := (cHp hC1).1); (try have hC2 := hS.cell (i := 2) rfl); (try have hD2 := (cHp hC2).1)) | (first | apply WL.nil | refine WL.au (k := ?_)) | apply Z.tn | (first | apply W.seq | apply W.region | apply W.block))
 obtain ⟨g5, rfl⟩ : ∃ x, x = gb := ⟨_, rfl⟩
 have e1 : (c.max + 1).toNat = m + 1 := by omega
 rw [e1, List.length_replicate] at hS
 have hS2 : Lt.Sep wc.heap.size w' (netP wc.heap.size g4 g5 none 0 (some ⟨ga, 0, none⟩) (m + 1) ([], List.replicate (m + 1) 0)) := by
  have := Sep.perm4 hS
  unfold netP
  rw [List.length_replicate]
  exact this
 have hA0 : AtK m 1 (List.replicate (m + 1) 0) := ⟨by simp, rfl, fun u h1 h2 => by omega⟩
 have hX1 : Ext wc w' := extA
 refine W.loopW (m + 1) (fun k w' => k <= m /\ Ext wc w' /\ ∃ A, AtK m (k + 1) A /\ Lt.Sep wc.heap.size w' (netP wc.heap.size g4 g5 none 0 (some ⟨ga, 0, none⟩) (m + 1) ([], A))) (fun k => [(1, .pointer (some ⟨gc, 0, none⟩)), (4, .pointer (some ⟨g4, 0, none⟩)), (5, .pointer (some ⟨g5, 0, none⟩)), (6, .int .i64 ((k : Int) + 1))]) ⟨Nat.zero_le _, hX1, _, hA0, hS2⟩ (fun k w' h => by have := h.1; omega) ⟨rfl, rfl, rfl, rfl, trivial⟩ ?_
 clear hS hS2 hA0 hX1
 rintro k w3 ⟨hk, hX3, A, hA, hS⟩
 have hlA := hA.len
 have hlA2 : (([], A) : NA).2.length = m + 1 := hA.len
 have k1 := (cHp (hS.cell (i := 1) rfl)).1
 have hAo := hS.row (i := 3) rfl
 by_cases hlt : k < m
 ·obtain ⟨yv, hyv⟩ := getI A (show ((k : Int) + 1).toNat < A.length by omega)
  repeat' (first | (first | apply WL.nil | refine WL.au (k := ?_)) | apply Z.tn | (first | apply W.seq | apply W.region))
  refine W.cKT rfl (dTt (by omega)) ?_
  repeat' (first | (apply WL.indexO tOk; (iterate 8 exact rfl); assumption; exact extA; exact eIk; exact rfl; omega; assumption; intro gb ha hc; cases ha; have hcc := hc; first | (obtain ⟨h1, h2, h3, _⟩ := hc) | (obtain ⟨h1, h2, _⟩ := hc) | (obtain ⟨h1, _⟩ := hc)) | (apply WL.storeO (z' := ((-1 : Int))) tOk; (iterate 4 exact rfl); assumption; exact extA; (iterate 3 exact rfl); exact eIk; assumption; exact rfl; exact extA; intro w' hO hX' hU) | (first | apply WL.nil | refine WL.au (k := ?_)) | (first | apply Z.tn | apply Z.bkn) | (first | apply W.seq | apply W.region | apply W.block | apply W.skip))
  have hS3 := Sep.uRw (i := 3) rfl hU hO (.inl rfl) hS (Ext.refl _) (Below.size hX3)
  refine Z.agW ⟨by omega, extA, A.set ((k : Int) + 1).toNat (-1), ⟨by simp [hlA], ?_, fun u h1 h2 => ?_⟩, ?_⟩ ⟨rfl, rfl, rfl, rfl, trivial⟩
  ·rw [List.getElem?_set_ne (by omega)]; exact hA.zero
  ·by_cases hu : u = k + 1
   ·subst hu; rw [show ((k : Int) + 1).toNat = k + 1 by omega, List.getElem?_set_self (by omega)]
   ·rw [List.getElem?_set_ne (by omega)]; exact hA.neg u h1 (by omega)
  ·unfold netP
   rw [List.length_set]
   exact hS3
 obtain rfl : k = m := by omega
 obtain rfl := hA.all
 repeat' (first | (first | apply WL.nil | refine WL.au (k := ?_)) | apply Z.tn | (first | apply W.seq | apply W.region))
 refine W.cKF rfl (dFf (by omega)) ?_
 repeat' (first | (first | apply WL.nil | refine WL.au (k := ?_)) | (first | apply Z.tn | apply Z.tnx | apply Z.bkx) | (first | apply W.seq | apply W.region | apply W.block | apply W.exit))
 have Ri := hC.ins.row.ext hxc
 have Rl := hC.lat.row.ext hxc
 have Rg := hC.gates.row.ext hxc
 have hown1 : ∀ x ∈ c.ins.2.2, 2 <= x /\ x % 2 = 0 /\ x <= 2 * c.max := fun x hx => hown x (List.mem_append_left _ (List.mem_append_left _ hx))
 have hown2 : ∀ x ∈ c.lat.2.2, 2 <= x.1 /\ x.1 % 2 = 0 /\ x.1 <= 2 * c.max := fun x hx => hown x.1 (List.mem_append_left _ (List.mem_append_right _ (List.mem_map.2 ⟨x, hx, rfl⟩)))
 have e10 : cS1 c.t 0 = ([], cAt0 (k : Int)) := by rw [cS1_0, hcm, hmm]
 refine W.loopW c.ins.2.2.length (fun j w' => j <= c.ins.2.2.length /\ Ext wc w' /\ ∃ an cn, Lt.Sep wc.heap.size w' (netP wc.heap.size g4 g5 an cn (some ⟨ga, 0, none⟩) (k + 1) (cS1 c.t j) ++ [])) (fun j => [(1, .pointer (some ⟨gc, 0, none⟩)), (4, .pointer (some ⟨g4, 0, none⟩)), (5, .pointer (some ⟨g5, 0, none⟩)), (7, .func (.func 115) #[] #[.pointer (some ⟨g4, 0, none⟩), .pointer (some ⟨g5, 0, none⟩)]), (31, rowVal c.ins), (32, .int .i64 (c.ins.2.2.length : Nat)), (33, .int .i64 j)]) ⟨Nat.zero_le _, hX3, none, 0, by rw [e10]; exact hS⟩ (fun k w' h => h.1) ⟨rfl, rfl, rfl, rfl, rfl, rfl, rfl, trivial⟩ ?_
 clear hS hAo k1 hX3 hlA hlA2 hA
 rintro j w4 ⟨hj, hX4, an, cn, hS⟩
 have hl1 : (cS1 c.t j).1.length = j /\ (cS1 c.t j).2.length = c.max.toNat + 1 := cS1_len c.t hj
 by_cases hlt : j < c.ins.2.2.length
 ·obtain ⟨x, hgx⟩ := getI c.ins.2.2 hlt
  have hxo := hown1 x (List.mem_of_getElem? hgx)
  have e1 := cS1_s (c := c.t) hgx
  have hcall := circ_Net1 wc w4 g4 g5 an cn (some ⟨ga, 0, none⟩) (k + 1) (cS1 c.t j) [] x (-1, 0) hX4 hS (by omega) (by omega) (by omega)
  repeat' (first | (first | apply WL.nil | refine WL.au (k := ?_)) | apply Z.tn | (first | apply W.seq | apply W.region))
  refine W.cKT rfl (dTt (by omega)) ?_
  repeat' (first | (apply WL.build tOk; (iterate 7 exact rfl); kernel_rfl) | (show WL _ _ _ (⟨_, .call ⟨.value (.tmp _), _, _⟩, _, _, _, _⟩ :: _) _ _ _; apply WL.call; (iterate 4 exact rfl); exact hcall; rintro v' w5 ⟨rfl, hX5, an2, cn2, hS5⟩) | (first | apply WL.nil | refine WL.au (k := ?_) | (apply WL.index tOk; (iterate 8 exact rfl); assumption; exact extA; exact rfl; omega; assumption; intro b off h; have hcc := h; first | (obtain ⟨h1, h2, h3, h4, h5, h6, _⟩ := h) | (obtain ⟨h1, h2, h3, _⟩ := h) | (obtain ⟨h1, h2, _⟩ := h) | (obtain ⟨h1, _⟩ := h))) | (first | apply Z.tn | apply Z.bkn) | (first | apply W.seq | apply W.region | apply W.block | apply W.skip))
  exact Z.agW ⟨by omega, hX5, an2, cn2, by rw [e1]; exact hS5⟩ ⟨rfl, rfl, rfl, rfl, rfl, rfl, rfl, trivial⟩
 obtain rfl : j = c.ins.2.2.length := by omega
 repeat' (first | (first | apply WL.nil | refine WL.au (k := ?_)) | apply Z.tn | (first | apply W.seq | apply W.region))
 refine W.cKF rfl (dFf (by omega)) ?_
 repeat' (first | (first | apply WL.nil | refine WL.au (k := ?_)) | (first | apply Z.tn | apply Z.tnx | apply Z.bkx) | (first | apply W.seq | apply W.region | apply W.block | apply W.exit))
 have e20 : cS2 c.t 0 = cS1 c.t c.ins.2.2.length := cS2_0 c.t
 refine W.loopW c.lat.2.2.length (fun j w' => j <= c.lat.2.2.length /\ Ext wc w' /\ ∃ an cn, Lt.Sep wc.heap.size w' (netP wc.heap.size g4 g5 an cn (some ⟨ga, 0, none⟩) (k + 1) (cS2 c.t j) ++ [])) (fun j => [(1, .pointer (some ⟨gc, 0, none⟩)), (4, .pointer (some ⟨g4, 0, none⟩)), (5, .pointer (some ⟨g5, 0, none⟩)), (7, .func (.func 115) #[] #[.pointer (some ⟨g4, 0, none⟩), .pointer (some ⟨g5, 0, none⟩)]), (43, rowVal c.lat), (44, .int .i64 (c.lat.2.2.length : Nat)), (45, .int .i64 j)]) ⟨Nat.zero_le _, hX4, an, cn, by rw [e20]; exact hS⟩ (fun k w' h => h.1) ⟨rfl, rfl, rfl, rfl, rfl, rfl, rfl, trivial⟩ ?_
 clear hS hX4 hl1 hj hlt
 rintro j w4 ⟨hj, hX4, an, cn, hS⟩
 have hl1 : (cS2 c.t j).1.length = c.ins.2.2.length + j /\ (cS2 c.t j).2.length = c.max.toNat + 1 := cS2_len c.t hj
 by_cases hlt : j < c.lat.2.2.length
 ·obtain ⟨x, hgx⟩ := getI c.lat.2.2 hlt
  have hxo := hown2 x (List.mem_of_getElem? hgx)
  have e1 := cS2_s (c := c.t) hgx
  have hcall := fun (w9 : World) (h9 : Ext w4 w9) => circ_Net1 wc w9 g4 g5 an cn (some ⟨ga, 0, none⟩) (k + 1) (cS2 c.t j) [] x.1 (-1, 0) (hX4.trans h9) (hS.ext h9) (by omega) (by omega) (by omega)
  repeat' (first | (first | apply WL.nil | refine WL.au (k := ?_)) | apply Z.tn | (first | apply W.seq | apply W.region))
  refine W.cKT rfl (dTt (by omega)) ?_
  repeat' (first | (apply WL.alloc tOk; (iterate 3 exact rfl); intro gb w' hb hge hx) | (apply WL.storeB (w0 := w4) tOk; (iterate 4 exact rfl); assumption; exact extA; (iterate 3 exact rfl); exact extA; assumption; intro w' hb hc hX' hU; have hcc := hc; obtain ⟨h1, h2, _⟩ := hc; (have hC8 := cHp hb; obtain ⟨i0, i1, i2, _⟩ := hC8)) | (apply WL.build tOk; (iterate 7 exact rfl); kernel_rfl) | (show WL _ _ _ (⟨_, .call ⟨.value (.tmp _), _, _⟩, _, _, _, _⟩ :: _) _ _ _; apply WL.call; (iterate 4 exact rfl); exact hcall _ extA; rintro v' w5 ⟨rfl, hX5, an2, cn2, hS5⟩) | (first | apply WL.nil | refine WL.au (k := ?_) | (apply WL.index tOk; (iterate 8 exact rfl); assumption; exact extA; exact rfl; omega; assumption; intro b off h; have hcc := h; first | (obtain ⟨h1, h2, h3, h4, h5, h6, _⟩ := h) | (obtain ⟨h1, h2, h3, _⟩ := h) | (obtain ⟨h1, h2, _⟩ := h) | (obtain ⟨h1, _⟩ := h))) | (first | apply Z.tn | apply Z.bkn) | (first | apply W.seq | apply W.region | apply W.block | apply W.skip))
  exact Z.agW ⟨by omega, hX5, an2, cn2, by rw [e1]; exact hS5⟩ ⟨rfl, rfl, rfl, rfl, rfl, rfl, rfl, trivial⟩
 obtain rfl : j = c.lat.2.2.length := by omega
 repeat' (first | (first | apply WL.nil | refine WL.au (k := ?_)) | apply Z.tn | (first | apply W.seq | apply W.region))
 refine W.cKF rfl (dFf (by omega)) ?_
 have hgm : ∀ g ∈ c.gates.2.2, g.1 ∈ c.t.own /\ g.2.1 ∈ c.t.used /\ g.2.2 ∈ c.t.used := fun g hg =>
  ⟨List.mem_append.2 (.inr (List.mem_map.2 ⟨g, hg, rfl⟩)), List.mem_append.2 (.inr (List.mem_flatMap.2 ⟨g, hg, by simp⟩)), List.mem_append.2 (.inr (List.mem_flatMap.2 ⟨g, hg, by simp⟩))⟩
 have hok : gsOk c.gates.2.2 := fun g hg => by
  obtain ⟨r1, r2, r3⟩ := hgm g hg
  have := hown _ r1
  have := hused _ r2
  have := hused _ r3
  omega
 have h7 : ¬ Twice c.t := fun ⟨i, x, a1, a2⟩ => by
  have h3 := List.pairwise_iff_getElem.1 (List.nodup_iff_pairwise_ne.1 hg.once)
  obtain ⟨j, hj, he⟩ := List.mem_take_iff_getElem.1 a2
  obtain ⟨hi, he2⟩ := List.getElem?_eq_some_iff.1 a1
  exact h3 j i (by omega) hi (by omega) (by rw [he, he2])
 have honce : Once c.gates.2.2 := once_of (c := c.t) h7 fun x hx => (hown x hx).2.1
 have hcells4 := hcells.ext hX4
 have x0 : Cells w4 gc 0 c.vals := hcells4
 repeat' (first | (apply WL.call (f := 111); (iterate 4 exact rfl); exact circ_Order c _ (Rg.ext extA) hok (by omega) honce; rintro v' wd ⟨hxd, ad, cd, rfl, hOd⟩) | (first | apply WL.nil | refine WL.au (k := ?_)) | (first | apply Z.tn | apply Z.tnx | apply Z.bkx) | (first | apply W.seq | apply W.region | apply W.block | apply W.exit))
 have hS0 : Lt.Sep wc.heap.size wd (netP wc.heap.size g4 g5 an cn (some ⟨ga, 0, none⟩) (k + 1) (cS2 c.t c.lat.2.2.length) ++ [prow 1 encI 3 wc.heap.size ad cd (natI (ordL c.gates.2.2))]) := by
  have h1 := hS.newRow' hxd hOd (Below.size hX4)
  rw [List.append_nil] at h1
  exact Sep.comm (ps := [prow 1 encI 3 wc.heap.size ad cd (natI (ordL c.gates.2.2))]) h1
 have hXd : Ext wc wd := extA
 have e30 : cS3 c.t 0 = cS2 c.t c.lat.2.2.length := cS3_0 c.t
 have hnl : (natI (ordL c.gates.2.2)).length = (ordL c.gates.2.2).length := by simp [natI]
 have hol : (ordL c.gates.2.2).length <= c.gates.2.2.length := (ordL_is c.gates.2.2).1.le
 refine W.loopW (ordL c.gates.2.2).length (fun j w' => j <= (ordL c.gates.2.2).length /\ Ext wc w' /\ ∃ an cn, Lt.Sep wc.heap.size w' (netP wc.heap.size g4 g5 an cn (some ⟨ga, 0, none⟩) (k + 1) (cS3 c.t j) ++ [prow 1 encI 3 wc.heap.size ad cd (natI (ordL c.gates.2.2))])) (fun j => [(1, .pointer (some ⟨gc, 0, none⟩)), (4, .pointer (some ⟨g4, 0, none⟩)), (5, .pointer (some ⟨g5, 0, none⟩)), (7, .func (.func 115) #[] #[.pointer (some ⟨g4, 0, none⟩), .pointer (some ⟨g5, 0, none⟩)]), (12, .func (.func 116) #[] #[.pointer (some ⟨g5, 0, none⟩)]), (57, .slice ad (natI (ordL c.gates.2.2)).length cd), (58, .int .i64 (natI (ordL c.gates.2.2)).length), (59, .int .i64 j)]) ⟨Nat.zero_le _, hXd, an, cn, by rw [e30]; exact hS0⟩ (fun k w' h => h.1) ⟨rfl, rfl, rfl, rfl, rfl, rfl, rfl, rfl, trivial⟩ ?_
 clear hS hS0 hX4 hl1 hj hlt hcells4 x0 hXd
 rintro j w4 ⟨hj, hX4, an, cn, hS⟩
 have hl1 : (cS3 c.t j).1.length = c.ins.2.2.length + c.lat.2.2.length + j /\ (cS3 c.t j).2.length = c.max.toNat + 1 := cS3_len c.t hj
 by_cases hlt : j < (ordL c.gates.2.2).length
 ·obtain ⟨i, hi⟩ := getI (ordL c.gates.2.2) hlt
  obtain ⟨g, za, zb, hgg, hza, hzb, ka, kb⟩ := cS3_get hg (c := c.t) hi
  have hgg : c.gates.2.2[i]? = some g := hgg
  have hgi : c.gates.2.2[((i : Nat) : Int).toNat]? = some g := by rw [Int.toNat_natCast]; exact hgg
  have hgo := hok g (List.mem_of_getElem? hgg)
  have hgw := hown g.1 (hgm g (List.mem_of_getElem? hgg)).1
  have hgl := lGt hgg
  have hni : (natI (ordL c.gates.2.2))[((j : Nat) : Int).toNat]? = some (i : Int) := by rw [Int.toNat_natCast, natI, List.getElem?_map, hi]; rfl
  have e1 : cS3 c.t (j + 1) = cput (cS3 c.t j) g.1 (litI (cS3 c.t j).2 g.2.1, litI (cS3 c.t j).2 g.2.2) := by rw [cS3_s (c := c.t) hi]; unfold cGate; rw [gAt_of hgg]
  have k1 := (cHp (hS.cell (i := 1) rfl)).1
  have RA := (hS.row (i := 3) rfl).row eIk
  have RO := (hS.row (i := 4) rfl).row eIk
  have hcall := fun (w9 : World) (h9 : Ext w4 w9) => circ_Net1 wc w9 g4 g5 an cn (some ⟨ga, 0, none⟩) (k + 1) (cS3 c.t j) [prow 1 encI 3 wc.heap.size ad cd (natI (ordL c.gates.2.2))] g.1 (litI (cS3 c.t j).2 g.2.1, litI (cS3 c.t j).2 g.2.2) (hX4.trans h9) (hS.ext h9) (by omega) (by omega) (by omega)
  repeat' (first | (first | apply WL.nil | refine WL.au (k := ?_)) | apply Z.tn | (first | apply W.seq | apply W.region))
  refine W.cKT rfl (dTt (by omega)) ?_
  repeat' (first | (apply WL.alloc tOk; (iterate 3 exact rfl); intro gb w' hb hge hx) | (apply WL.storeB (w0 := w4) tOk; (iterate 4 exact rfl); assumption; exact extA; (iterate 3 exact rfl); exact extA; assumption; intro w6 hb hc hX6 hU; have hcc := hc; obtain ⟨h1, h2, _⟩ := hc; (have hC8 := cHp hb; obtain ⟨i0, i1, i2, _⟩ := hC8)) | (first | apply WL.nil | refine WL.au (k := ?_) | (apply WL.index tOk; (iterate 8 exact rfl); assumption; exact extA; exact rfl; omega; assumption; intro b off h; have hcc := h; first | (obtain ⟨h1, h2, h3, h4, h5, h6, _⟩ := h) | (obtain ⟨h1, h2, h3, _⟩ := h) | (obtain ⟨h1, h2, _⟩ := h) | (obtain ⟨h1, _⟩ := h))) | apply Z.tn | (first | apply W.seq | apply W.region | apply W.block | apply W.skip))
  have k1' := hX6.cell k1
  have RA' := RA.ext hX6
  repeat' (first | (apply W.regionQS 12 tMix; kernel_rfl; exact rfl; kernel_rfl; kernel_rfl) | (apply QL.build tOk; (iterate 7 exact rfl); kernel_rfl) | ((show QL _ _ _ _ (⟨_, .call ⟨.value (.tmp _), _, _⟩, _, _, _, _⟩ :: _) _ _); apply QL.callS; (iterate 4 exact rfl); exact circ_Net2 _ g5 _ _ (cS3 c.t j).2 g.2.1 za k1' RA' (by omega) (by omega) hza (by omega)) | ((show QL _ _ _ _ (⟨_, .call ⟨.value (.tmp _), _, _⟩, _, _, _, _⟩ :: _) _ _); apply QL.callS; (iterate 4 exact rfl); exact circ_Net2 _ g5 _ _ (cS3 c.t j).2 g.2.2 zb k1' RA' (by omega) (by omega) hzb (by omega)) | (show WL _ _ _ (⟨_, .call ⟨.value (.tmp _), _, _⟩, _, _, _, _⟩ :: _) _ _ _; apply WL.call; (iterate 4 exact rfl); exact hcall _ extA; rintro v' w5 ⟨rfl, hX5, an2, cn2, hS5⟩) | (first | apply WL.nil | refine WL.au (k := ?_)) | (first | apply QL.nil | refine QL.au (k := ?_)) | (first | apply Z.tail | apply Z.tn | apply Z.bkn) | apply W.region)
  exact Z.agW ⟨by omega, hX5, an2, cn2, by rw [e1]; exact hS5⟩ ⟨rfl, rfl, rfl, rfl, rfl, rfl, rfl, rfl, trivial⟩
 obtain rfl : j = (ordL c.gates.2.2).length := by omega
 repeat' (first | (first | apply WL.nil | refine WL.au (k := ?_)) | apply Z.tn | (first | apply W.seq | apply W.region))
 refine W.cKF rfl (dFf (by omega)) ?_
 have e39 : cS3 c.t (ordL c.gates.2.2).length = cNet c.t := cS3_all c.t
 rw [e39] at hS
 have k0 := (cHp (hS.cell (i := 0) rfl)).1
 have k1 := (cHp (hS.cell (i := 1) rfl)).1
 have hwc := Below.size hxc
 repeat' (first | (first | apply QL.nil | refine QL.au (k := ?_)) | (first | apply Z.tn | apply Z.tnx | apply Z.bkx) | (first | apply W.seq | apply W.ret | apply W.exit | (apply W.rgD tMix; kernel_rfl)))
 exact Z.body2 Tryz.results49 rfl rfl fun q => ⟨Ext.at extA q, an, cn, some ⟨ga, 0, none⟩, k + 1, rfl, ((hS.row (i := 2) rfl).base hwc).ext ((Ext.refl _).at q), ((hS.row (i := 3) rfl).base hwc).ext ((Ext.refl _).at q)⟩

theorem ordL_nil : ordL [] = [] := (IsOrd.ord (gs := []) (L := []) ⟨PreOrd.nil _, fun i ⟨g, hg, _⟩ => by simp at hg⟩).symm

theorem few_sz2 {c : CirT} {m : Int} (h : FewC c m) (hm : m <= 100000) : SzC c 100000 /\ c.syms.length <= 100000 := by
 obtain ⟨h1, h2, h3, h4, h5, h6, h7, _⟩ := few_iff.1 h
 exact ⟨⟨by omega, by omega, by omega, by omega, by omega, by omega⟩, by omega⟩
end Go.Proofs.YteidpnpbfagaeaaGreat
namespace Go.Lt
open Go.RowKit
section
variable {P : Program} {T : Tab} {e : Env} {dd : Option Tmp} {tt ty t : TypeId} {x y : Operand} {ps : String} {af : Array Edge} {g : Option (Nat × Bool)} {i : TI} {u v : ByteArray}
theorem loop_eq (u : ByteArray) : ∀ (n i : Nat) (r : List UInt8), u.size - i = n -> ByteArray.toList.loop u i r = r.reverse ++ u.data.toList.drop i := by
 intro n
 induction n with
 | zero =>
  intro i r h
  unfold ByteArray.toList.loop
  rw [if_neg (by omega), List.drop_eq_nil_of_le (by show u.data.size <= i; have : u.size = u.data.size := rfl; omega), List.append_nil]
 | succ n ih =>
  intro i r h
  unfold ByteArray.toList.loop
  have hi : i < u.data.toList.length := by show i < u.data.size; have : u.size = u.data.size := rfl; omega
  rw [if_pos (by omega), ih (i + 1) _ (by omega), List.reverse_cons, List.append_assoc, List.drop_eq_getElem_cons hi]
  congr 1
  rw [List.singleton_append]
  congr 1
  show u.data[i]! = u.data.toList[i]
  have hi2 : i < u.data.size := hi
  rw [getElem!_pos u.data i hi2]; rfl
theorem bytesL (u : ByteArray) : u.toList = u.data.toList := by
 unfold ByteArray.toList
 rw [loop_eq u u.size 0 [] rfl]; rfl
theorem bytesL_inj {u v : ByteArray} (h : u.toList = v.toList) : u = v := by
 rw [bytesL, bytesL] at h
 exact ByteArray.ext (Array.ext' h)
theorem yneStr (hT : OkTab P T) (hx : ev e x = some (.string u)) (hy : ev e y = some (.string v)) (ht : tget T t = some i) (hd : i.desc = .string) : Yields P e ⟨dd, .binOp .neq t x y ty, tt, ps, af, g⟩ (.bool (dec (u ≠ v))) := by
 intro ρ hρ w
 have h1 : (eqGuard .neq t x y (.string u) (.string v)).run P w = .ok () w := by simp [eqGuard]
 have h3 : (!dec (u = v)) = dec (u ≠ v) := by
  by_cases hh : u = v
  ·rw [dTt hh, dFf (fun h => h hh)]; rfl
  ·rw [dFf hh, dTt hh]; rfl
 have h2 : (binOp .neq t (.string u) (.string v)).run P w = .ok (.bool (dec (u ≠ v))) w := by
  by_cases h : u = v
  ·subst h; rw [dFf (fun h => h rfl)]; simp [binOp, Op.stringOp]
  ·rw [dTt h]; have hh : ¬ u.toList = v.toList := fun q => h (bytesL_inj q); simp [binOp, Op.stringOp, hh]
 simp [execOp, hρ _ _ hx, hρ _ _ hy, h1, h2]
variable {N d : Nat} {w : World} {Q : Exit -> Act -> World -> Prop} {C : World -> Prop} {ops l : List Oper}
theorem WL.neStr (hT : OkTab P T) (hg : gate ops e g = some true) (hd : Nat.blt d N = true) (hx : ev e x = some (.string u)) (hy : ev e y = some (.string v)) (ht : tget T t = some i) (htd : i.desc = .string) (k : WL P N ops.toArray l ((d, .bool (dec (u ≠ v))) :: e) w Q) : WL P N ops.toArray (⟨some d, .binOp .neq t x y ty, tt, ps, af, g⟩ :: l) e w Q := WL.step hg hd (yneStr hT hx hy ht htd).in k
end
end Go.Lt
namespace Go.Proofs.YteidpnpbfagaeaaGreat
open Go Go.Lt Go.RowKit

def Stay (b : Nat) (w : World) (P : World -> Prop) : Prop := ∀ w', w.heap.size <= w'.heap.size -> (∀ k, b <= k -> k < w.heap.size -> w'.heap[k]? = w.heap[k]?) -> P w'
theorem Sep.stay {B b : Nat} {w : World} {ps : List Piece} (hS : Lt.Sep B w ps) (hb : b <= B) : Stay b w (fun w' => Lt.Sep B w' ps) := by
 intro w' hsz hk
 refine ⟨fun i p h => ⟨p.keep (hS.holds i p h).1 (fun k hp => hk k (Nat.le_trans hb ((hS.holds i p h).2 k hp).1) ((hS.holds i p h).2 k hp).2), fun k hp => ⟨((hS.holds i p h).2 k hp).1, Nat.lt_of_lt_of_le ((hS.holds i p h).2 k hp).2 hsz⟩⟩, hS.apart⟩

def brV (l : List Bool) (m : Nat) : List Bool := (List.range m).map fun i => l.getD i false
theorem brV_len (l : List Bool) (m : Nat) : (brV l m).length = m := by simp [brV]
theorem brV_get (l : List Bool) {m i : Nat} (h : i < m) : (brV l m)[i]? = some (l.getD i false) := by
 unfold brV; rw [List.getElem?_map, List.getElem?_range h]; rfl
theorem brV_succ (l : List Bool) (m : Nat) : brV l (m + 1) = brV l m ++ [l.getD m false] := by
 unfold brV; rw [List.range_succ, List.map_append]; rfl
theorem brV_self (l : List Bool) : brV l l.length = l := by
 apply List.ext_getElem?
 intro i
 by_cases h : i < l.length
 ·rw [brV_get l h, List.getD, List.getElem?_eq_getElem h]; rfl
 ·rw [List.getElem?_eq_none (by rw [brV_len]; omega), List.getElem?_eq_none (by omega)]
noncomputable def insV (c : CirT) (s i : List Bool) : List Bool := brV i c.ins.length ++ brV s c.lat.length
noncomputable def stepV (c : CirT) (s i : List Bool) : List Bool := values (cNet c).1 (insV c s i)
noncomputable def litV (c : CirT) (s i : List Bool) (l : Int) : Bool := ofL (stepV c s i) (litI (cNet c).2 l)
noncomputable def nextV (c : CirT) (s i : List Bool) : List Bool := c.lat.map fun x => litV c s i x.2.1
theorem nextV_len (c : CirT) (s i : List Bool) : (nextV c s i).length = c.lat.length := by simp [nextV]
def StartsP (c : CirT) (s : List Bool) : Prop := s.length = c.lat.length /\ ∀ (k : Nat) x b, c.lat[k]? = some x -> s[k]? = some b -> ¬ (x.2.2 = 0 /\ b = true) /\ ¬ (x.2.2 = 1 /\ b = false)
def HoldsP (c : CirT) (s i : List Bool) : Prop := ∀ l ∈ c.cons, litV c s i l = true
def BadP (c : CirT) (s i : List Bool) (p : Int) : Prop := 0 <= p /\ ∃ l, c.bads[p.toNat]? = some l /\ litV c s i l = true
noncomputable def stateV (c : CirT) (s : List Bool) (r : List (List Bool)) : Nat -> List Bool
 | 0 => brV s c.lat.length
 | k + 1 => nextV c (stateV c s r k) (r.getD k [])
theorem stateV_len (c : CirT) (s : List Bool) (r : List (List Bool)) : ∀ k, (stateV c s r k).length = c.lat.length
 | 0 => brV_len _ _
 | _ + 1 => nextV_len _ _ _
noncomputable def statesV (c : CirT) (s : List Bool) (r : List (List Bool)) : List (List Bool) := (List.range r.length).map (stateV c s r)
theorem statesV_len (c : CirT) (s : List Bool) (r : List (List Bool)) : (statesV c s r).length = r.length := by simp [statesV]
theorem statesV_get (c : CirT) (s : List Bool) (r : List (List Bool)) {k : Nat} (h : k < r.length) : (statesV c s r)[k]? = some (stateV c s r k) := by
 unfold statesV; rw [List.getElem?_map, List.getElem?_range h]; rfl
def GoesP (c : CirT) (s : List Bool) (r : List (List Bool)) (k : Nat) : Prop := ∀ j i, j < k -> r[j]? = some i -> i.length = c.ins.length /\ HoldsP c (stateV c s r j) i
def BreaksP (c : CirT) (s : List Bool) (r : List (List Bool)) (p : Int) : Prop :=
 StartsP c s /\ r ≠ [] /\ GoesP c s r r.length /\ BadP c (stateV c s r (r.length - 1)) (r.getD (r.length - 1) []) p

theorem net_lit {c : CirT} (h : GoodC' c) {l : Int} (hl : l ∈ c.used) : ∃ z, (cNet c).2[(l / 2).toNat]? = some z /\ 0 <= z /\ z % 2 = 0 /\ z <= 2 * ((cNet c).1.length : Int) := by
 have h0 := (cNet_ok h).1
 refine h0.ge ?_
 have h1 := h.used l hl
 rcases Int.lt_or_le 1 l with h2 | h2
 ·exact .inr ⟨_, seq_all h (h.has l hl h2), by omega⟩
 ·left; omega
theorem litI_range {c : CirT} (h : GoodC' c) {l : Int} (hl : l ∈ c.used) : 0 <= litI (cNet c).2 l /\ litI (cNet c).2 l <= 2 * ((cNet c).1.length : Int) + 1 := by
 obtain ⟨z, h1, h2, h3, h4⟩ := net_lit h hl
 rw [litI_some h1]
 unfold xorI Lt.xor1
 split <;> (try split) <;> omega
theorem litV_ref {A : List Int} {V : List Bool} {l z : Int} (h1 : A[(l / 2).toNat]? = some z) (h2 : 0 <= z) : (ofL V z != decide (l % 2 = 1)) = ofL V (litI A l) := by
 rw [litI_some h1]
 unfold xorI
 by_cases h : l % 2 = 1
 ·rw [if_pos h, ofL_xor1 _ h2, decide_eq_true h]; simp
 ·rw [if_neg h, decide_eq_false h]; simp
theorem used_next {c : CirT} {x : T3} (h : x ∈ c.lat) : x.2.1 ∈ c.used := List.mem_append_left _ (List.mem_append_right _ (List.mem_map.2 ⟨x, h, rfl⟩))
theorem used_bad {c : CirT} {l : Int} (h : l ∈ c.bads) : l ∈ c.used := List.mem_append_left _ (List.mem_append_left _ (List.mem_append_left _ (List.mem_append_right _ h)))
theorem used_con {c : CirT} {l : Int} (h : l ∈ c.cons) : l ∈ c.used := List.mem_append_left _ (List.mem_append_left _ (List.mem_append_right _ h))
theorem net_len {c : CirT} (h : GoodC' c) (hz : SzC c 100000) : (cNet c).1.length <= 300000 := by
 rw [(cNet_ok h).1.len1]
 have h2 := (ordL_is c.gates).1.le
 obtain ⟨z1, z2, z3, z4, z5, z6⟩ := hz
 show (c.ins ++ c.lat.map (·.1) ++ (ordL c.gates).map (fun i => (gAt c.gates i).1)).length <= _
 simp; omega

structure OnlyG (m : Nat) (N : List (Int × Int)) : Prop where
 le : m <= N.length
 inp : ∀ i x, N[i]? = some x -> i < m -> x = (-1, 0)
 gate : ∀ i x, N[i]? = some x -> m <= i -> 0 <= x.1
theorem OnlyG.start (m : Nat) : OnlyG m (List.replicate m (-1, 0)) := by
 refine ⟨by simp, fun i x h hm => ?_, fun i x h hm => ?_⟩
 ·rw [List.getElem?_replicate, if_pos hm] at h
  exact (Option.some.inj h).symm
 ·have := lGt h; simp at this; omega
def evenL (a n : Nat) : List Int := (List.range n).map fun i => 2 * (((a + i : Nat) : Int) + 1)
theorem evenL_len (a n : Nat) : (evenL a n).length = n := by simp [evenL]
theorem evenL_get (a n : Nat) {i : Nat} (h : i < n) : (evenL a n)[i]? = some (2 * (((a + i : Nat) : Int) + 1)) := by
 unfold evenL; rw [List.getElem?_map, List.getElem?_range h]; rfl
theorem evenL_succ (a n : Nat) : evenL a (n + 1) = evenL a n ++ [2 * (((a + n : Nat) : Int) + 1)] := by
 unfold evenL; rw [List.range_succ, List.map_append]; rfl
theorem evenL_app (a n m : Nat) : evenL a n ++ evenL (a + n) m = evenL a (n + m) := by
 induction m with
 | zero => simp [evenL]
 | succ m ih => rw [evenL_succ, <- List.append_assoc, ih, show n + (m + 1) = (n + m) + 1 by omega, evenL_succ, Nat.add_assoc]
theorem evenL_mem {a n : Nat} {x : Int} : x ∈ evenL a n ↔ x % 2 = 0 /\ 2 * ((a : Int) + 1) <= x /\ x <= 2 * ((a : Int) + n) := by
 unfold evenL
 rw [List.mem_map]
 constructor
 ·rintro ⟨i, hi, rfl⟩
  have := List.mem_range.1 hi
  omega
 ·rintro ⟨h1, h2, h3⟩
  exact ⟨(x / 2 - 1 - a).toNat, List.mem_range.2 (by omega), by omega⟩
theorem evenL_nodup (a n : Nat) : (evenL a n).Nodup := by
 unfold evenL
 rw [List.nodup_iff_pairwise_ne, List.pairwise_map]
 refine (List.nodup_iff_pairwise_ne.1 (List.nodup_range (n := n))).imp fun h he => h (by omega)
def gateG (i : Nat) (x : Int × Int) : T3 := (2 * ((i : Int) + 1), max x.1 x.2, min x.1 x.2)
def gatesG (N : List (Int × Int)) (m k : Nat) : List T3 := (List.range k).map fun i => gateG (m + i) (N.getD (m + i) (0, 0))
def latsG (a : Nat) (next reset : List Int) : List T3 := (List.range next.length).map fun i => (2 * (((a + i : Nat) : Int) + 1), next.getD i 0, reset.getD i 0)
theorem gatesG_len (N : List (Int × Int)) (m k : Nat) : (gatesG N m k).length = k := by simp [gatesG]
theorem latsG_len (a : Nat) (next reset : List Int) : (latsG a next reset).length = next.length := by simp [latsG]
theorem gatesG_get {N : List (Int × Int)} {m k i : Nat} {x : Int × Int} (h : i < k) (hx : N[m + i]? = some x) : (gatesG N m k)[i]? = some (gateG (m + i) x) := by
 unfold gatesG; rw [List.getElem?_map, List.getElem?_range h]; show some (gateG _ (N.getD _ _)) = _; rw [gDo hx]
theorem latsG_get {a : Nat} {next reset : List Int} {i : Nat} (h : i < next.length) : (latsG a next reset)[i]? = some (2 * (((a + i : Nat) : Int) + 1), next.getD i 0, reset.getD i 0) := by
 unfold latsG; rw [List.getElem?_map, List.getElem?_range h]; rfl
theorem latsG_fst (a : Nat) (next reset : List Int) : (latsG a next reset).map (·.1) = evenL a next.length := by
 unfold latsG evenL; rw [List.map_map]; rfl
theorem gatesG_fst (N : List (Int × Int)) (m k : Nat) : (gatesG N m k).map (·.1) = evenL m k := by
 unfold gatesG evenL; rw [List.map_map]; rfl
structure Rest where
 outs : List Int
 bads : List Int
 cons : List Int
 syms : List Sy
 com : ByteArray
def genC (nin : Nat) (next reset : List Int) (bad : Rest) (N : List (Int × Int)) : CirT :=
 ⟨N.length, evenL 0 nin, latsG nin next reset, bad.outs, bad.bads, bad.cons, gatesG N (nin + next.length) (N.length - (nin + next.length)), bad.syms, bad.com⟩
structure GenOk (nin : Nat) (next reset : List Int) (bad : Rest) (N : List (Int × Int)) : Prop where
 good : GNt N
 only : OnlyG (nin + next.length) N
 len : N.length <= 16777216
 nexts : ∀ z ∈ next, hasL N z
 resets : ∀ i, i < next.length -> reset.getD i 0 = 0 ∨ reset.getD i 0 = 1 ∨ reset.getD i 0 = 2 * (((nin + i : Nat) : Int) + 1)
 outs : ∀ z ∈ bad.outs, hasL N z
 bads : ∀ z ∈ bad.bads, hasL N z
 cons : ∀ z ∈ bad.cons, hasL N z
section
variable {nin : Nat} {next reset : List Int} {bad : Rest} {N : List (Int × Int)}
theorem genC_own (h : GenOk nin next reset bad N) : (genC nin next reset bad N).own = evenL 0 N.length := by
 show evenL 0 nin ++ (latsG nin next reset).map (·.1) ++ (gatesG N (nin + next.length) (N.length - (nin + next.length))).map (·.1) = _
 have e1 := evenL_app 0 nin next.length
 rw [Nat.zero_add] at e1
 have e2 := evenL_app 0 (nin + next.length) (N.length - (nin + next.length))
 rw [Nat.zero_add] at e2
 rw [latsG_fst, gatesG_fst, e1, e2]
 have := h.only.le
 rw [show nin + next.length + (N.length - (nin + next.length)) = N.length by omega]
theorem genC_gate (h : GenOk nin next reset bad N) {i : Nat} {g : T3} (hi : (genC nin next reset bad N).gates[i]? = some g) : ∃ x, N[nin + next.length + i]? = some x /\ (0 <= x.1 /\ 0 <= x.2) /\ x.1 / 2 <= ((nin + next.length + i : Nat) : Int) /\ x.2 / 2 <= ((nin + next.length + i : Nat) : Int) /\ g = (2 * (((nin + next.length + i : Nat) : Int) + 1), max x.1 x.2, min x.1 x.2) := by
 have hl := lGt hi
 have hl' : i < N.length - (nin + next.length) := by have : (genC nin next reset bad N).gates.length = _ := gatesG_len N _ _; omega
 obtain ⟨x, hx⟩ := getI N (show nin + next.length + i < N.length by omega)
 have h0 := h.only.gate _ _ hx (by omega)
 have hgt := h.good.gate hx h0
 have e : (genC nin next reset bad N).gates[i]? = some (gateG (nin + next.length + i) x) := gatesG_get hl' hx
 rw [e] at hi; cases hi
 exact ⟨x, hx, ⟨h0, hgt.2.1⟩, by omega, by omega, rfl⟩
theorem genC_used (h : GenOk nin next reset bad N) {x : Int} (hx : x ∈ (genC nin next reset bad N).used) : hasL N x := by
 rcases List.mem_append.1 hx with hx | hx
 ·rcases List.mem_append.1 hx with hx | hx
  ·rcases List.mem_append.1 hx with hx | hx
   ·rcases List.mem_append.1 hx with hx | hx
    ·exact h.outs x hx
    ·exact h.bads x hx
   ·exact h.cons x hx
  ·obtain ⟨y, hy, rfl⟩ := List.mem_map.1 hx
   obtain ⟨i, hi⟩ := List.mem_iff_getElem?.1 hy
   have hl := lGt hi
   have hl' : i < next.length := by have : (genC nin next reset bad N).lat.length = _ := latsG_len nin next reset; omega
   have e : (genC nin next reset bad N).lat[i]? = _ := latsG_get (a := nin) (reset := reset) hl'
   rw [e] at hi; cases hi
   obtain ⟨z, hz⟩ := getI next hl'
   show hasL N (next.getD i 0)
   rw [gDo hz]; exact h.nexts z (List.mem_of_getElem? hz)
 ·obtain ⟨g, hg, hm⟩ := List.mem_flatMap.1 hx
  obtain ⟨i, hi⟩ := List.mem_iff_getElem?.1 hg
  obtain ⟨y, hy, y1, y2, y3, rfl⟩ := genC_gate h hi
  have hlt := lGt hy
  simp only [List.mem_cons, List.not_mem_nil, or_false] at hm
  unfold hasL
  rcases hm with rfl | rfl <;> omega
theorem genC_ordIs (h : GenOk nin next reset bad N) : IsOrd (genC nin next reset bad N).gates (List.range (genC nin next reset bad N).gates.length) := by
 have hfst : ∀ (j : Nat) (x : G3), (genC nin next reset bad N).gates[j]? = some x -> x.1 / 2 = ((nin + next.length + j : Nat) : Int) + 1 := fun j x hj => by
  obtain ⟨y, _, _, _, _, rfl⟩ := genC_gate h hj
  show (2 * (((nin + next.length + j : Nat) : Int) + 1)) / 2 = _
  omega
 refine ⟨fun k i hk => ?_, fun i hi => ?_⟩
 ·have hkl := lGt hk
  rw [List.length_range] at hkl
  rw [List.getElem?_range hkl] at hk
  cases hk
  have ht : (List.range (genC nin next reset bad N).gates.length).take k = List.range k := by rw [List.take_range, Nat.min_eq_left (by omega)]
  rw [ht]
  refine ⟨?_, fun j hj => ?_⟩
  ·obtain ⟨g, hg⟩ := getI (genC nin next reset bad N).gates hkl
   refine ⟨g, hg, by simp, fun j x hj hn => ?_⟩
   obtain ⟨y, hy, y1, y2, y3, rfl⟩ := genC_gate h hg
   have h1 := hfst j x hj
   have h2 : ¬ j < k := fun hh => hn (List.mem_range.2 hh)
   dsimp only
   omega
  ·obtain ⟨_, _, hn, _⟩ := hj
   exact Nat.le_of_not_lt fun hh => hn (List.mem_range.2 hh)
 ·obtain ⟨g, hg, hn, _⟩ := hi
  exact hn (List.mem_range.2 (lGt hg))
theorem genC_ord (h : GenOk nin next reset bad N) : ordL (genC nin next reset bad N).gates = List.range (genC nin next reset bad N).gates.length := (genC_ordIs h).ord.symm
theorem genC_good (h : GenOk nin next reset bad N) : GoodC' (genC nin next reset bad N) := by
 have hl := h.len
 refine ⟨?_, fun x hx => ?_, fun x hx => ?_, fun x hx => ?_, ?_, fun x hx h1 => ?_, ?_⟩
 ·show 0 <= (N.length : Int) /\ (N.length : Int) <= 16777216; omega
 ·rw [genC_own h, evenL_mem] at hx
  show 2 <= x /\ x % 2 = 0 /\ x <= 2 * (N.length : Int)
  omega
 ·have := genC_used h hx
  show 0 <= x /\ x <= 2 * (N.length : Int) + 1
  unfold hasL at this; omega
 ·obtain ⟨i, hi⟩ := List.mem_iff_getElem?.1 hx
  have hl := lGt hi
  have hl' : i < next.length := by have : (genC nin next reset bad N).lat.length = _ := latsG_len nin next reset; omega
  have e : (genC nin next reset bad N).lat[i]? = _ := latsG_get (a := nin) (reset := reset) hl'
  rw [e] at hi; cases hi
  exact h.resets i hl'
 ·rw [genC_own h]; exact evenL_nodup _ _
 ·have := genC_used h hx
  rw [genC_own h, evenL_mem]
  unfold hasL at this; omega
 ·rw [genC_ord h, List.length_range]
def sw (x : Int × Int) : Int × Int := if 0 <= x.1 then (max x.1 x.2, min x.1 x.2) else x
theorem cIn_fst (ls : List Int) : ∀ s : NA, (cIn s ls).1 = s.1 ++ List.replicate ls.length (-1, 0) := by
 induction ls with
 | nil => intro s; simp [cIn]
 | cons l ls ih =>
  intro s
  show (cIn (cput s l (-1, 0)) ls).1 = _
  rw [ih]; show (s.1 ++ [(-1, 0)]) ++ _ = _
  simp [List.replicate_succ]
theorem genC_seq (h : GenOk nin next reset bad N) {k : Nat} (hk : k <= (genC nin next reset bad N).gates.length) : (genC nin next reset bad N).inl ++ ((ordL (genC nin next reset bad N).gates).take k).map (fun i => (gAt (genC nin next reset bad N).gates i).1) = evenL 0 (nin + next.length + k) := by
 have e0 : (genC nin next reset bad N).inl = evenL 0 (nin + next.length) := by
  show evenL 0 nin ++ (latsG nin next reset).map (·.1) = _
  have e1 := evenL_app 0 nin next.length
  rw [Nat.zero_add] at e1
  rw [latsG_fst, e1]
 have e1 := evenL_app 0 (nin + next.length) k
 rw [Nat.zero_add] at e1
 rw [e0, <- e1, genC_ord h, List.take_range, Nat.min_eq_left hk]
 congr 1
 unfold evenL
 refine List.map_congr_left fun i hi => ?_
 obtain ⟨g, hg⟩ := getI (genC nin next reset bad N).gates (show i < _ by have := List.mem_range.1 hi; omega)
 obtain ⟨y, _, _, _, _, rfl⟩ := genC_gate h hg
 rw [gAt_of hg]
theorem genC_at (h : GenOk nin next reset bad N) {k : Nat} (hk : k <= (genC nin next reset bad N).gates.length) {l : Int} (hl : 0 <= l /\ l / 2 <= ((nin + next.length + k : Nat) : Int)) : litI (cGates (genC nin next reset bad N).gates (cIn ([], cAt0 (genC nin next reset bad N).max) (genC nin next reset bad N).inl) ((ordL (genC nin next reset bad N).gates).take k)).2 l = l := by
 have hp := (net_to (genC_good h) k (by rw [genC_ord h, List.length_range]; exact hk)).1
 rw [genC_seq h hk] at hp
 have hz : (cGates (genC nin next reset bad N).gates (cIn ([], cAt0 (genC nin next reset bad N).max) (genC nin next reset bad N).inl) ((ordL (genC nin next reset bad N).gates).take k)).2[(l / 2).toNat]? = some (2 * (l / 2)) := by
  by_cases h0 : l / 2 = 0
  ·rw [h0]; exact hp.zero
  ·have := hp.has ((l / 2).toNat - 1) _ (evenL_get 0 _ (show (l / 2).toNat - 1 < nin + next.length + k by omega))
   rw [show ((2 * (((0 + ((l / 2).toNat - 1) : Nat) : Int) + 1)) / 2).toNat = (l / 2).toNat by omega] at this
   rw [this]; congr 1; omega
 rw [litI_some hz]
 unfold xorI Lt.xor1
 split
 ·rw [if_pos (by omega)]; omega
 ·omega
theorem genC_to (h : GenOk nin next reset bad N) : ∀ k, k <= (genC nin next reset bad N).gates.length ->
  (cGates (genC nin next reset bad N).gates (cIn ([], cAt0 (genC nin next reset bad N).max) (genC nin next reset bad N).inl) ((ordL (genC nin next reset bad N).gates).take k)).1 = (N.take (nin + next.length + k)).map sw
 | 0, _ => by
  have e0 : (genC nin next reset bad N).inl.length = nin + next.length := by
   show (evenL 0 nin ++ (latsG nin next reset).map (·.1)).length = _
   rw [List.length_append, evenL_len, List.length_map, latsG_len]
  show (cIn ([], cAt0 (genC nin next reset bad N).max) (genC nin next reset bad N).inl).1 = _
  rw [cIn_fst, e0, List.nil_append]
  apply List.ext_getElem?
  intro i
  have hle := h.only.le
  by_cases hi : i < nin + next.length
  ·obtain ⟨x, hx⟩ := getI N (show i < N.length by omega)
   have hx0 := h.only.inp i x hx hi
   rw [List.getElem?_replicate, if_pos hi, List.getElem?_map, List.getElem?_take, if_pos (by omega), hx, hx0]; rfl
  ·rw [List.getElem?_replicate, if_neg hi, List.getElem?_map, List.getElem?_take, if_neg (by omega)]; rfl
 | k + 1, hk => by
  have ih := genC_to h k (by omega)
  have ho : (ordL (genC nin next reset bad N).gates)[k]? = some k := by rw [genC_ord h, List.getElem?_range (by omega)]
  obtain ⟨g, hg⟩ := getI (genC nin next reset bad N).gates (show k < _ by omega)
  obtain ⟨y, hy, y1, y2, y3, hge⟩ := genC_gate h hg
  rw [tkS ho, cGates_snoc]
  unfold cGate cput
  rw [gAt_of hg, hge]
  show _ ++ [(litI _ (max y.1 y.2), litI _ (min y.1 y.2))] = _
  rw [genC_at h (by omega) (by omega), genC_at h (by omega) (by omega), ih, show nin + next.length + (k + 1) = (nin + next.length + k) + 1 by omega, tkS hy, List.map_append]
  congr 1
  show _ = [sw y]
  unfold sw; rw [if_pos (by omega)]
theorem genC_net (h : GenOk nin next reset bad N) : (cNet (genC nin next reset bad N)).1 = N.map sw /\ ∀ l, hasL N l -> litI (cNet (genC nin next reset bad N)).2 l = l := by
 have hlen : (genC nin next reset bad N).gates.length = N.length - (nin + next.length) := gatesG_len N _ _
 have hle := h.only.le
 have e : cNet (genC nin next reset bad N) = cGates (genC nin next reset bad N).gates (cIn ([], cAt0 (genC nin next reset bad N).max) (genC nin next reset bad N).inl) ((ordL (genC nin next reset bad N).gates).take (genC nin next reset bad N).gates.length) := by
  rw [List.take_of_length_le (by rw [genC_ord h, List.length_range]; exact Nat.le_refl _)]; rfl
 rw [e]
 refine ⟨?_, fun l hl => ?_⟩
 ·rw [genC_to h _ (Nat.le_refl _), List.take_of_length_le (by omega)]
 ·refine genC_at h (Nat.le_refl _) ?_
  unfold hasL at hl; omega
end
theorem vto_sw {N : List (Int × Int)} (hg : GNt N) (ins : List Bool) : ∀ k, k <= N.length -> vto (N.map sw) ins k = vto N ins k
 | 0, _ => rfl
 | k + 1, h => by
  obtain ⟨x, hx⟩ := getI N (show k < N.length by omega)
  have hx' : (N.map sw)[k]? = some (sw x) := by rw [List.getElem?_map, hx]; rfl
  rw [vto_succ ins hx, vto_succ ins hx', vto_sw hg ins k (by omega)]
  unfold vstep sw
  by_cases h0 : 0 <= x.1
  ·have h1 := (hg.gate hx h0).2.1
   rw [if_pos h0]
   rw [if_neg (show ¬ x.1 < 0 by omega), if_neg (show ¬ max x.1 x.2 < 0 by omega)]
   by_cases h2 : x.1 <= x.2
   ·rw [show max x.1 x.2 = x.2 by omega, show min x.1 x.2 = x.1 by omega]
    simp only [Bool.and_comm]
   ·rw [show max x.1 x.2 = x.1 by omega, show min x.1 x.2 = x.2 by omega]
  ·rw [if_neg h0]
theorem values_sw {N : List (Int × Int)} (hg : GNt N) (ins : List Bool) : values (N.map sw) ins = values N ins := by
 unfold values; rw [List.length_map, vto_sw hg ins _ (Nat.le_refl _)]
theorem genC_step {nin : Nat} {next reset : List Int} {bad : Rest} {N : List (Int × Int)} (h : GenOk nin next reset bad N) (s i : List Bool) : stepV (genC nin next reset bad N) s i = values N (brV i nin ++ brV s next.length) := by
 unfold stepV insV
 rw [(genC_net h).1, values_sw h.good]
 show values N (brV i (evenL 0 nin).length ++ brV s (latsG nin next reset).length) = _
 rw [evenL_len, latsG_len]
theorem genC_lit {nin : Nat} {next reset : List Int} {bad : Rest} {N : List (Int × Int)} (h : GenOk nin next reset bad N) (s i : List Bool) {l : Int} (hl : hasL N l) : litV (genC nin next reset bad N) s i l = ofL (values N (brV i nin ++ brV s next.length)) l := by
 unfold litV
 rw [genC_step h, (genC_net h).2 l hl]

def tin (ins : List Int) (c : Nat) : Int := val3 (ins.getD c 2)
noncomputable def tstep (ins : List Int) (s : List Int × Nat) (x : Int × Int) : List Int × Nat :=
 if 0 <= x.1 then (s.1 ++ [and3 (lit3 s.1 x.1) (lit3 s.1 x.2)], s.2) else (s.1 ++ [tin ins s.2], s.2 + 1)
noncomputable def tto (n : List (Int × Int)) (ins : List Int) (k : Nat) : List Int × Nat := (n.take k).foldl (tstep ins) ([0], 0)
noncomputable def tvals (n : List (Int × Int)) (ins : List Int) : List Int := (tto n ins n.length).1
theorem tto_succ {n : List (Int × Int)} {k : Nat} {x : Int × Int} (ins : List Int) (h : n[k]? = some x) : tto n ins (k + 1) = tstep ins (tto n ins k) x := by
 unfold tto; rw [tkS h, List.foldl_append]; rfl
theorem tto_len (n : List (Int × Int)) (ins : List Int) : ∀ k, k <= n.length -> (tto n ins k).1.length = k + 1 /\ (tto n ins k).2 <= k
 | 0, _ => by simp [tto]
 | k + 1, h => by
  obtain ⟨x, hx⟩ := getI n (show k < n.length by omega)
  have ih := tto_len n ins k (by omega)
  rw [tto_succ ins hx]; unfold tstep
  split <;> simp <;> omega

theorem tern_value (v : Int) (w : World) : Still Tryz.prog 135 [.int .i64 v] w (.int .i64 (val3 v)) := by
 refine Spec.of _ Tryz.func135 rfl Tryz.ntmps135 (by kernel_rfl) rfl ?_
 repeat' (first | (apply WL.callS (f := 139); (iterate 4 exact rfl); exact tri_Not _ _) | (first | apply WL.nil | refine WL.au (k := ?_)) | apply Z.tn | (first | apply W.seq | apply W.region | apply W.ret))
 refine Z.bd1 Tryz.results135 rfl fun m => ⟨?_, m, rfl⟩
 congr 1; grind [not3, val3]

theorem tern_Eval (a b : Option Addr) (cap cb : Nat) (n : List (Int × Int)) (ins : List Int) (w : World) (R : Row 2 encN w a n) (Rb : Row 1 encI w b ins) (hcb : ins.length <= cb) (hg : GNt n) (hn : n.length <= 1048576) :
  Lt.Spec Tryz.prog 82 [.slice a n.length cap, .slice b ins.length cb] w (IsFresh 1 encI 3 w (tvals n ins)) := by
 have hlen := Rb.len
 refine Spec.of _ Tryz.func82 rfl Tryz.ntmps82 (by kernel_rfl) rfl ?_
 repeat' (first | (apply WL.makeC (w0 := w) (z := (0:Int)) tOk; (iterate 9 exact rfl); exact eIk; exact rfl; exact rfl; exact extA; omega; intro gb w' hO hge hx) | (first | apply WL.nil | refine WL.au (k := ?_)) | apply Z.tn | (first | apply W.seq | apply W.region | apply W.block))
 refine W.loopO2 n.length (fun k c cp b dp w' => k <= n.length /\ Ext w w' /\ Own 1 encI 3 w.heap.size w' c cp (tto n ins k).1 /\ Row 1 encI w b (ins.drop (tto n ins k).2) /\ (ins.drop (tto n ins k).2).length <= dp)
  (fun k c cp b dp => [(0, .slice a n.length cap), (1, .slice b (ins.drop (tto n ins k).2).length dp), (5, .slice c (tto n ins k).1.length cp), (13, .slice a n.length cap), (14, .int .i64 n.length), (15, .int .i64 k)])
  (some ⟨gb, 0, none⟩) _ b cb ⟨by omega, hx, hO, Rb, hcb⟩ (fun k c cp b dp w' h => h.1) ⟨rfl, rfl, rfl, rfl, rfl, rfl, trivial⟩ ?_
 rintro k c cp ba dp w' ⟨hk, hx', hO', Rb', hdp⟩
 have hvl := tto_len n ins k hk
 by_cases hlt : k < n.length
 ·obtain ⟨x, hxn⟩ := getI n hlt
  have hs := tto_succ ins hxn
  by_cases hin : 0 <= x.1
  ·have hgt := hg.gate hxn hin
   have e2 : (tto n ins (k + 1)).2 = (tto n ins k).2 := by rw [hs, tstep, if_pos hin]
   have e1 : (tto n ins (k + 1)).1 = (tto n ins k).1 ++ [and3 (lit3 (tto n ins k).1 x.1) (lit3 (tto n ins k).1 x.2)] := by rw [hs, tstep, if_pos hin]
   repeat' (first | (apply W.cKT; exact rfl; (focus (exact dTt (by omega)))) | (apply WL.alloc tOk; (iterate 3 exact rfl); intro gb w' hb hge hx) | (apply WL.storeB (w0 := w) tOk; (iterate 4 exact rfl); assumption; exact extA; (iterate 3 exact rfl); exact extA; ((focus (apply Nat.le_trans; rotate_left; assumption; exact Below.size extA; done))); intro w' hb hc hX' hU; have hcc := hc; obtain ⟨h1, h2, _⟩ := hc; have hO3 := Upd.own hU (Own.ext hO' hx) (Own.blk_ne hO' hge)) | (apply QL.callS (f := 83); (iterate 4 exact rfl); exact tri_Lit _ _ (tto n ins k).1 x.1 _ (Own.row eIk (by assumption))) | (apply QL.callS (f := 83); (iterate 4 exact rfl); exact tri_Lit _ _ (tto n ins k).1 x.2 _ (Own.row eIk (by assumption))) | (apply QL.callS (f := 134); (iterate 4 exact rfl); exact tri_And _ _ _) | (apply WL.lit tOk; (iterate 6 exact rfl); kernel_rfl; exact rfl; intro gb w' hb hge hc hx) | (apply WL.ap1 (z := (and3 (lit3 (tto n ins k).1 x.1) (lit3 (tto n ins k).1 x.2))) tOk eIk; (iterate 10 exact rfl); assumption; exact extA; exact rfl; assumption; exact rfl; exact rfl; exact extA; omega; intro a' cap' w' hO hX' hU hF) | (first | apply WL.nil | refine WL.au (k := ?_) | (apply WL.index tOk; (iterate 8 exact rfl); assumption; exact extA; exact rfl; omega; assumption; intro b off h; have hcc := h; first | (obtain ⟨h1, h2, h3, h4, h5, h6, _⟩ := h) | (obtain ⟨h1, h2, h3, _⟩ := h) | (obtain ⟨h1, h2, _⟩ := h) | (obtain ⟨h1, _⟩ := h))) | (first | apply QL.nil | refine QL.au (k := ?_)) | (first | apply Z.tn | apply Z.bkn) | (first | apply W.seq | apply W.region | apply W.block | apply W.skip | (apply W.rgD tMix; kernel_rfl)))
   exact Z.againO2 a' cap' ba dp ⟨by omega, hX', by rw [e1]; exact hO, by rw [e2]; exact Rb', by rw [e2]; exact hdp⟩ (by repeat' first | exact trivial | (refine And.intro ?_ ?_) | exact rfl | (rw [e1]; exact rfl) | (rw [e2]; exact rfl))
  ·have e2 : (tto n ins (k + 1)).2 = (tto n ins k).2 + 1 := by rw [hs, tstep, if_neg hin]
   have e1 : (tto n ins (k + 1)).1 = (tto n ins k).1 ++ [tin ins (tto n ins k).2] := by rw [hs, tstep, if_neg hin]
   by_cases hki : (tto n ins k).2 < ins.length
   ·obtain ⟨z, hz⟩ := getI ins hki
    have hz' : (ins.drop (tto n ins k).2)[0]? = some z := by rw [List.getElem?_drop]; exact hz
    have hdl : 0 < (ins.drop (tto n ins k).2).length := by rw [List.length_drop]; omega
    rw [tin, gDo hz] at e1
    have e3 : (ins.drop (tto n ins k).2).drop 1 = ins.drop (tto n ins (k + 1)).2 := by rw [e2, List.drop_drop]
    repeat' (first | (apply W.cKT; exact rfl; (focus (exact dTt (by omega)))) | (apply W.cKF; exact rfl; exact dFf (by omega)) | (apply WL.alloc tOk; (iterate 3 exact rfl); intro gb w' hb hge hx) | (apply WL.storeB (w0 := w) tOk; (iterate 4 exact rfl); assumption; exact extA; (iterate 3 exact rfl); exact extA; ((focus (apply Nat.le_trans; rotate_left; assumption; exact Below.size extA; done))); intro w' hb hc hX' hU; have hcc := hc; obtain ⟨h1, h2, _⟩ := hc; have hO3 := Upd.own hU (Own.ext hO' hx) (Own.blk_ne hO' hge)) | (apply QL.sliceL tOk; (iterate 8 exact rfl); assumption; exact rfl; assumption; omega; intro as' cs' hR hcs) | (apply QL.callS (f := 135); (iterate 4 exact rfl); exact tern_value _ _) | (apply WL.lit tOk; (iterate 6 exact rfl); kernel_rfl; exact rfl; intro gb w' hb hge hc hx) | (apply WL.ap1 (z := (val3 z)) tOk eIk; (iterate 10 exact rfl); assumption; exact extA; exact rfl; assumption; exact rfl; exact rfl; exact extA; omega; intro a' cap' w' hO hX' hU hF) | (first | apply WL.nil | refine WL.au (k := ?_) | (apply WL.index tOk; (iterate 8 exact rfl); assumption; exact extA; exact rfl; omega; assumption; intro b off h; have hcc := h; first | (obtain ⟨h1, h2, h3, h4, h5, h6, _⟩ := h) | (obtain ⟨h1, h2, h3, _⟩ := h) | (obtain ⟨h1, h2, _⟩ := h) | (obtain ⟨h1, _⟩ := h))) | (first | apply QL.nil | refine QL.au (k := ?_) | (apply QL.index tOk; (iterate 8 exact rfl); assumption; exact extA; exact rfl; omega; assumption; intro b off h; have hcc := h; first | (obtain ⟨h1, h2, h3, h4, h5, h6, _⟩ := h) | (obtain ⟨h1, h2, h3, _⟩ := h) | (obtain ⟨h1, h2, _⟩ := h) | (obtain ⟨h1, _⟩ := h))) | (first | apply Z.tn | apply Z.bkn) | (first | apply W.seq | apply W.region | apply W.block | apply W.skip | (apply W.rgD tMix; kernel_rfl)))
    exact Z.againO2 a' cap' as' cs' ⟨by omega, hX', by rw [e1]; exact hO, by rw [<- e3]; exact hR, by rw [<- e3]; exact hcs⟩ (by repeat' first | exact trivial | (refine And.intro ?_ ?_) | exact rfl | (rw [e1]; exact rfl) | (rw [<-e3]; exact rfl))
   ·have hd0 : (ins.drop (tto n ins k).2).length = 0 := by rw [List.length_drop]; omega
    have e4 : ins.drop (tto n ins (k + 1)).2 = ins.drop (tto n ins k).2 := by rw [e2, List.drop_eq_nil_of_le (by omega), List.drop_eq_nil_of_le (by omega)]
    have e5 : tin ins (tto n ins k).2 = 2 := by rw [tin, List.getD, List.getElem?_eq_none (by omega)]; rfl
    rw [e5] at e1
    repeat' (first | (apply W.cKT; exact rfl; (focus (exact dTt (by omega)))) | (apply W.cKF; exact rfl; exact dFf (by omega)) | (apply WL.alloc tOk; (iterate 3 exact rfl); intro gb w' hb hge hx) | (apply WL.storeB (w0 := w) tOk; (iterate 4 exact rfl); assumption; exact extA; (iterate 3 exact rfl); exact extA; ((focus (apply Nat.le_trans; rotate_left; assumption; exact Below.size extA; done))); intro w' hb hc hX' hU; have hcc := hc; obtain ⟨h1, h2, _⟩ := hc; have hO3 := Upd.own hU (Own.ext hO' hx) (Own.blk_ne hO' hge)) | (apply WL.lit tOk; (iterate 6 exact rfl); kernel_rfl; exact rfl; intro gb w' hb hge hc hx) | (apply WL.ap1 (z := ((2 : Int))) tOk eIk; (iterate 10 exact rfl); assumption; exact extA; exact rfl; assumption; exact rfl; exact rfl; exact extA; omega; intro a' cap' w' hO hX' hU hF) | (first | apply WL.nil | refine WL.au (k := ?_) | (apply WL.index tOk; (iterate 8 exact rfl); assumption; exact extA; exact rfl; omega; assumption; intro b off h; have hcc := h; first | (obtain ⟨h1, h2, h3, h4, h5, h6, _⟩ := h) | (obtain ⟨h1, h2, h3, _⟩ := h) | (obtain ⟨h1, h2, _⟩ := h) | (obtain ⟨h1, _⟩ := h))) | (first | apply Z.tn | apply Z.bkn) | (first | apply W.seq | apply W.region | apply W.block | apply W.skip))
    exact Z.againO2 a' cap' ba dp ⟨by omega, hX', by rw [e1]; exact hO, by rw [e4]; exact Rb', by rw [e4]; exact hdp⟩ (by repeat' first | exact trivial | (refine And.intro ?_ ?_) | exact rfl | (rw [e1]; exact rfl) | (rw [e4]; exact rfl))
 ·repeat' (first | (apply W.cKF; exact rfl; exact dFf (by omega)) | (first | apply WL.nil | refine WL.au (k := ?_)) | (first | apply Z.tn | apply Z.tnx | apply Z.bkx) | (first | apply W.seq | apply W.region | apply W.ret | apply W.exit))
  obtain rfl : k = n.length := by omega
  exact Z.bd1 Tryz.results82 rfl fun m => ⟨hx'.at m, c, cp, rfl, hO'⟩

theorem ref10_Eval (a b : Option Addr) (cap cb : Nat) (n : List (Int × Int)) (ins : List Int) (w : World) (R : Row 2 encN w a n) (Rb : Row 1 encI w b ins) (hg : GNt n) (hn : n.length <= 1048576) :
  Lt.Spec Tryz.prog 93 [.slice a n.length cap, .slice b ins.length cb] w (IsFresh 1 encI 3 w (tvals n ins)) := by
 have hlen := Rb.len
 refine Spec.of _ Tryz.func93 rfl Tryz.ntmps93 (by kernel_rfl) rfl ?_
 repeat' (first | (apply WL.lit tOk; (iterate 6 exact rfl); kernel_rfl; exact rfl; intro gb w' hb hge hc hx; have hO := Own.of_block ([(0 : Int)]) eIk hb hge rfl) | (first | apply WL.nil | refine WL.au (k := ?_)) | apply Z.tn | (first | apply W.seq | apply W.region | apply W.block))
 refine W.loopO n.length (fun k c cp w' => k <= n.length /\ Ext w w' /\ Own 1 encI 3 w.heap.size w' c cp (tto n ins k).1)
  (fun k c cp => [(0, .slice a n.length cap), (1, .slice b ins.length cb), (5, .slice c (tto n ins k).1.length cp), (6, .int .i64 ((tto n ins k).2 : Nat)), (7, .int .i64 k)]) (some ⟨gb, 0, none⟩) 1 ⟨by omega, hx, hO⟩ (fun k c cp w' h => h.1) ⟨rfl, rfl, rfl, rfl, rfl, trivial⟩ ?_
 rintro k c cp w' ⟨hk, hx', hO'⟩
 have hvl := tto_len n ins k hk
 have RO := Own.row eIk hO'
 by_cases hlt : k < n.length
 ·obtain ⟨x, hxn⟩ := getI n hlt
  have hs := tto_succ ins hxn
  by_cases hin : 0 <= x.1
  ·have hgt := hg.gate hxn hin
   have e2 : (tto n ins (k + 1)).2 = (tto n ins k).2 := by rw [hs, tstep, if_pos hin]
   have e1 : (tto n ins (k + 1)).1 = (tto n ins k).1 ++ [and3 (lit3 (tto n ins k).1 x.1) (lit3 (tto n ins k).1 x.2)] := by rw [hs, tstep, if_pos hin]
   have hBC : ∀ k, blk c = some k -> w.heap.size <= k := fun k hk => (hO'.blk_lt k hk).1
   repeat' (first | (apply W.cKT; exact rfl; (focus (exact dTt (by omega)))) | (apply W.regionF [0, 1, 2, 3, 4, 5, 6, 8, 9, 10, 11, 12, 13] [7, 14, 15, 16, 17] [18] (But _ (blk c)) tMix; kernel_rfl; (iterate 3 exact rfl); exact fun m => But.at _ _ m) | (apply WL.callS (f := 94); (iterate 4 exact rfl); exact ref_Lit _ _ (tto n ins k).1 x.1 _ RO) | (apply WL.callS (f := 94); (iterate 4 exact rfl); exact ref_Lit _ _ (tto n ins k).1 x.2 _ RO) | (apply WL.callS (f := 145); (iterate 4 exact rfl); exact ref_And _ _ _) | (apply WL.lit tOk; (iterate 6 exact rfl); kernel_rfl; exact rfl; intro gb w' hb hge hc hx) | (apply WL.ap1 (z := (and3 (lit3 (tto n ins k).1 x.1) (lit3 (tto n ins k).1 x.2))) tOk eIk; (iterate 10 exact rfl); assumption; exact extA; exact rfl; assumption; exact rfl; exact rfl; exact extA; omega; intro a' cap' w' hO hX' hU hF) | (first | apply WL.nil | refine WL.au (k := ?_) | (apply WL.index tOk; (iterate 8 exact rfl); assumption; exact extA; exact rfl; omega; assumption; intro b off h; have hcc := h; first | (obtain ⟨h1, h2, h3, h4, h5, h6, _⟩ := h) | (obtain ⟨h1, h2, h3, _⟩ := h) | (obtain ⟨h1, h2, _⟩ := h) | (obtain ⟨h1, _⟩ := h))) | (first | apply FL.nil | refine FL.au (k := ?_) | (apply FL.load tOk; (iterate 5 exact rfl); assumption; ((focus (intro h; have h9 := hBC _ h; (try simp only at h9); omega)))) | (apply FL.index tOk; (iterate 8 exact rfl); assumption; exact extA; exact rfl; omega; assumption; exact List.cons_ne_nil _ _; intro b off h hbl; have hcc := h; first | (obtain ⟨h1, h2, h3, h4, h5, h6, _⟩ := h) | (obtain ⟨h1, h2, h3, _⟩ := h) | (obtain ⟨h1, h2, _⟩ := h) | (obtain ⟨h1, _⟩ := h))) | (first | apply CL.nil | apply CL.cons) | (first | apply Z.only | (apply Z.early; (focus (intro m; apply But.of_at; first | exact But.upd (by assumption) | exact But.ext extA | (refine But.trans ?_ (But.upd (by assumption)); exact But.ext extA) | exact But.at _ _ _; done)))) | (first | apply Z.tn | apply Z.tnx | apply Z.bkx) | (first | apply W.seq | apply W.region | apply W.block | apply W.skip | apply W.exit))
   exact Z.agO a' cap' ⟨by omega, hX', by rw [e1]; exact hO⟩ (by repeat' first | exact trivial | (refine And.intro ?_ ?_) | exact rfl | (rw [e1]; exact rfl) | (rw [e2]; exact rfl))
  ·have e2 : (tto n ins (k + 1)).2 = (tto n ins k).2 + 1 := by rw [hs, tstep, if_neg hin]
   have e1 : (tto n ins (k + 1)).1 = (tto n ins k).1 ++ [tin ins (tto n ins k).2] := by rw [hs, tstep, if_neg hin]
   have e3 : (((tto n ins k).2 : Nat) : Int) + 1 = ((tto n ins (k + 1)).2 : Nat) := by rw [e2]; rfl
   by_cases hki : (tto n ins k).2 < ins.length
   ·obtain ⟨z, hz⟩ := getI ins hki
    rw [tin, gDo hz] at e1
    by_cases hz0 : z = 0
    ·rw [show val3 z = z by rw [val3, if_pos (.inl hz0)]] at e1
     repeat' (first | (apply WL.gT; exact rfl; exact rfl; (focus (exact dTt (by omega)))) | (apply W.cKT; exact rfl; (focus (exact dTt (by omega)))) | (apply W.cKF; exact rfl; exact dFf (by omega)) | (apply WL.lit tOk; (iterate 6 exact rfl); kernel_rfl; exact rfl; intro gb w' hb hge hc hx) | (apply WL.ap1 (z := (z)) tOk eIk; (iterate 10 exact rfl); assumption; exact extA; exact rfl; assumption; exact rfl; exact rfl; exact extA; omega; intro a' cap' w' hO hX' hU hF) | (first | apply WL.nil | refine WL.au (k := ?_) | (apply WL.index tOk; (iterate 8 exact rfl); assumption; exact extA; exact rfl; omega; assumption; intro b off h; have hcc := h; first | (obtain ⟨h1, h2, h3, h4, h5, h6, _⟩ := h) | (obtain ⟨h1, h2, h3, _⟩ := h) | (obtain ⟨h1, h2, _⟩ := h) | (obtain ⟨h1, _⟩ := h)) | (apply WL.gdF; exact rfl; exact rfl)) | (first | apply Z.tn | apply Z.bkn) | (first | apply W.seq | apply W.region | apply W.block | apply W.skip | (apply W.condT; exact rfl)))
     exact Z.agO a' cap' ⟨by omega, hX', by rw [e1]; exact hO⟩ (by repeat' first | exact trivial | (refine And.intro ?_ ?_) | exact rfl | (rw [e1]; exact rfl) | (rw [<-e3]; exact rfl))
    by_cases hz1 : z = 1
    ·rw [show val3 z = z by rw [val3, if_pos (.inr hz1)]] at e1
     repeat' (first | (apply WL.gT; exact rfl; exact rfl; (focus (exact dTt (by omega)))) | (apply WL.gF; exact rfl; exact rfl; exact dFf (by omega)) | (apply W.cKT; exact rfl; (focus (exact dTt (by omega)))) | (apply W.cKF; exact rfl; exact dFf (by omega)) | (apply WL.lit tOk; (iterate 6 exact rfl); kernel_rfl; exact rfl; intro gb w' hb hge hc hx) | (apply WL.ap1 (z := (z)) tOk eIk; (iterate 10 exact rfl); assumption; exact extA; exact rfl; assumption; exact rfl; exact rfl; exact extA; omega; intro a' cap' w' hO hX' hU hF) | (first | apply WL.nil | refine WL.au (k := ?_) | (apply WL.index tOk; (iterate 8 exact rfl); assumption; exact extA; exact rfl; omega; assumption; intro b off h; have hcc := h; first | (obtain ⟨h1, h2, h3, h4, h5, h6, _⟩ := h) | (obtain ⟨h1, h2, h3, _⟩ := h) | (obtain ⟨h1, h2, _⟩ := h) | (obtain ⟨h1, _⟩ := h))) | (first | apply Z.tn | apply Z.bkn) | (first | apply W.seq | apply W.region | apply W.block | apply W.skip))
     exact Z.agO a' cap' ⟨by omega, hX', by rw [e1]; exact hO⟩ (by repeat' first | exact trivial | (refine And.intro ?_ ?_) | exact rfl | (rw [e1]; exact rfl) | (rw [<-e3]; exact rfl))
    ·rw [show val3 z = 2 by rw [val3, if_neg (by omega)]] at e1
     repeat' (first | (apply WL.gT; exact rfl; exact rfl; (focus (exact dTt (by omega)))) | (apply WL.gF; exact rfl; exact rfl; exact dFf (by omega)) | (apply W.cKT; exact rfl; (focus (exact dTt (by omega)))) | (apply W.cKF; exact rfl; exact dFf (by omega)) | (apply WL.lit tOk; (iterate 6 exact rfl); kernel_rfl; exact rfl; intro gb w' hb hge hc hx) | (apply WL.ap1 (z := ((2 : Int))) tOk eIk; (iterate 10 exact rfl); assumption; exact extA; exact rfl; assumption; exact rfl; exact rfl; exact extA; omega; intro a' cap' w' hO hX' hU hF) | (first | apply WL.nil | refine WL.au (k := ?_) | (apply WL.index tOk; (iterate 8 exact rfl); assumption; exact extA; exact rfl; omega; assumption; intro b off h; have hcc := h; first | (obtain ⟨h1, h2, h3, h4, h5, h6, _⟩ := h) | (obtain ⟨h1, h2, h3, _⟩ := h) | (obtain ⟨h1, h2, _⟩ := h) | (obtain ⟨h1, _⟩ := h))) | (first | apply Z.tn | apply Z.bkn) | (first | apply W.seq | apply W.region | apply W.block | apply W.skip))
     exact Z.agO a' cap' ⟨by omega, hX', by rw [e1]; exact hO⟩ (by repeat' first | exact trivial | (refine And.intro ?_ ?_) | exact rfl | (rw [e1]; exact rfl) | (rw [<-e3]; exact rfl))
   ·have e5 : tin ins (tto n ins k).2 = 2 := by rw [tin, List.getD, List.getElem?_eq_none (by omega)]; rfl
    rw [e5] at e1
    repeat' (first | (apply WL.gF; exact rfl; exact rfl; exact dFf (by omega)) | (apply W.cKT; exact rfl; (focus (exact dTt (by omega)))) | (apply W.cKF; exact rfl; exact dFf (by omega)) | (apply WL.lit tOk; (iterate 6 exact rfl); kernel_rfl; exact rfl; intro gb w' hb hge hc hx) | (apply WL.ap1 (z := ((2 : Int))) tOk eIk; (iterate 10 exact rfl); assumption; exact extA; exact rfl; assumption; exact rfl; exact rfl; exact extA; omega; intro a' cap' w' hO hX' hU hF) | (first | apply WL.nil | refine WL.au (k := ?_) | (apply WL.index tOk; (iterate 8 exact rfl); assumption; exact extA; exact rfl; omega; assumption; intro b off h; have hcc := h; first | (obtain ⟨h1, h2, h3, h4, h5, h6, _⟩ := h) | (obtain ⟨h1, h2, h3, _⟩ := h) | (obtain ⟨h1, h2, _⟩ := h) | (obtain ⟨h1, _⟩ := h)) | (apply WL.gdF; exact rfl; exact rfl)) | (first | apply Z.tn | apply Z.bkn) | (first | apply W.seq | apply W.region | apply W.block | apply W.skip | (apply W.condF; exact rfl)))
    exact Z.agO a' cap' ⟨by omega, hX', by rw [e1]; exact hO⟩ (by repeat' first | exact trivial | (refine And.intro ?_ ?_) | exact rfl | (rw [e1]; exact rfl) | (rw [<-e3]; exact rfl))
 ·repeat' (first | (apply W.cKF; exact rfl; exact dFf (by omega)) | (first | apply WL.nil | refine WL.au (k := ?_)) | (first | apply Z.tn | apply Z.tnx | apply Z.bkx) | (first | apply W.seq | apply W.region | apply W.ret | apply W.exit))
  obtain rfl : k = n.length := by omega
  exact Z.bd1 Tryz.results93 rfl fun m => ⟨hx'.at m, c, cp, rfl, hO'⟩


theorem tvals_len (n : List (Int × Int)) (ins : List Int) : (tvals n ins).length = n.length + 1 := (tto_len n ins n.length (Nat.le_refl _)).1
theorem tto_cnt (n : List (Int × Int)) (ins : List Int) : ∀ k, k <= n.length -> (tto n ins k).2 = cnt n k
 | 0, _ => rfl
 | k + 1, h => by
  obtain ⟨x, hx⟩ := getI n (show k < n.length by omega)
  rw [tto_succ ins hx, tstep]
  split
  ·rw [cnt_gate hx (by omega), <- tto_cnt n ins k (by omega)]
  ·rw [cnt_in hx (by omega), <- tto_cnt n ins k (by omega)]
theorem tto_pre (n : List (Int × Int)) (ins : List Int) {j : Nat} : ∀ {k}, j <= k -> k <= n.length -> (tto n ins k).1.getD j 0 = (tto n ins j).1.getD j 0
  | 0, h, _ => by obtain rfl : j = 0 := by omega
                  rfl
  | k + 1, h, hk => by
    by_cases hjk : j = k + 1
    · subst hjk; rfl
    · obtain ⟨x, hx⟩ := getI n (show k < n.length by omega)
      rw [<- tto_pre n ins (show j <= k by omega) (by omega), tto_succ ins hx]
      have hl := (tto_len n ins k (by omega)).1
      unfold tstep
      split <;> (simp only [List.getD]; rw [List.getElem?_append_left (by omega)])
theorem tto_val (n : List (Int × Int)) (ins : List Int) {j k : Nat} (h : j <= k) (hk : k <= n.length) : (tto n ins k).1.getD j 0 = (tvals n ins).getD j 0 := by
 rw [tto_pre n ins h hk, tvals, tto_pre n ins (show j <= n.length by omega) (Nat.le_refl _)]
theorem tvals_zero (n : List (Int × Int)) (ins : List Int) : (tvals n ins).getD 0 0 = 0 := by
 rw [<- tto_val n ins (Nat.le_refl 0) (Nat.zero_le _)]; rfl
theorem tvals_in {n : List (Int × Int)} {k : Nat} {x : Int × Int} (ins : List Int) (h : n[k]? = some x) (hx : x.1 < 0) : (tvals n ins).getD (k + 1) 0 = tin ins (cnt n k) := by
 have hk := lGt h
 have hl := (tto_len n ins k (by omega)).1
 rw [<- tto_val n ins (Nat.le_refl (k + 1)) (by omega), tto_succ ins h, tstep, if_neg (by omega), tto_cnt n ins k (by omega)]
 simp only [List.getD]
 rw [List.getElem?_append_right (by omega), hl]; simp
def tl (s : List Int) (x : Int) : Int := if x % 2 = 1 then not3 (val3 (s.getD (x / 2).toNat 0)) else val3 (s.getD (x / 2).toNat 0)
theorem lit3_tl {s : List Int} (h0 : s.getD 0 0 = 0) {x : Int} (hx : 0 <= x) (hl : (x / 2).toNat < s.length) (hm : x <= 33554433) : lit3 s x = tl s x := by
 have hg : goodL x := ⟨hx, hm⟩
 have hv : varL x = x / 2 := by unfold varL; rw [if_pos hg]
 have hb : lit3v s x = val3 (s.getD (x / 2).toNat 0) := by
  unfold lit3v
  rw [hv]
  by_cases h : x / 2 = 0
  ·rw [if_pos h, show (x / 2).toNat = 0 by omega, h0]; rfl
  ·rw [if_neg h, if_pos (by omega)]
 unfold lit3 tl
 by_cases h1 : x % 2 = 1
 ·rw [if_pos ⟨hg, h1⟩, if_pos h1, hb]
 ·rw [if_neg (fun h => h1 h.2), if_neg h1, hb]
theorem tvals_gate {n : List (Int × Int)} (hg : GNt n) (hn : n.length <= 1048576) {k : Nat} {x : Int × Int} (ins : List Int) (h : n[k]? = some x) (hx : 0 <= x.1) : (tvals n ins).getD (k + 1) 0 = and3 (tl (tvals n ins) x.1) (tl (tvals n ins) x.2) := by
 have hk := lGt h
 have hl := (tto_len n ins k (by omega)).1
 have hgt := hg.gate h hx
 have e : ∀ y : Int, 0 <= y -> y <= 2 * k + 1 -> lit3 (tto n ins k).1 y = tl (tvals n ins) y := by
  intro y h1 h2
  rw [lit3_tl (by rw [tto_val n ins (Nat.zero_le _) (by omega), tvals_zero]) h1 (by omega) (by omega)]
  unfold tl
  rw [tto_val n ins (by omega) (by omega)]
 rw [<- tto_val n ins (Nat.le_refl (k + 1)) (by omega), tto_succ ins h, tstep, if_pos hx, e _ hx hgt.1, e _ hgt.2.1 hgt.2.2]
 simp only [List.getD]
 rw [List.getElem?_append_right (by omega), hl]; simp
theorem tvals_three {n : List (Int × Int)} (hg : GNt n) (hn : n.length <= 1048576) (ins : List Int) (v : Nat) : val3 ((tvals n ins).getD v 0) = (tvals n ins).getD v 0 := by
 by_cases hv : v <= n.length
 ·match v, hv with
  | 0, _ => rw [tvals_zero]; rfl
  | k + 1, hv =>
   obtain ⟨x, hx⟩ := getI n (show k < n.length by omega)
   by_cases hin : x.1 < 0
   ·rw [tvals_in ins hx hin, tin]; grind [val3]
   ·rw [tvals_gate hg hn ins hx (by omega)]; grind [and3, val3]
 ·rw [List.getD, List.getElem?_eq_none (by rw [tvals_len]; omega)]; rfl

def le3 (a b : Int) : Prop := a = 2 ∨ a = b
theorem le3_not {a b : Int} (h : le3 (val3 a) (val3 b)) : le3 (not3 (val3 a)) (not3 (val3 b)) := by
 rcases h with h | h
 ·rw [h]; exact .inl rfl
 ·rw [h]; exact .inr rfl
theorem le3_and {a b c d : Int} (ha : le3 a b) (hc : le3 c d) (hb : b = 0 ∨ b = 1 ∨ b = 2) (hd : d = 0 ∨ d = 1 ∨ d = 2) : le3 (and3 a c) (and3 b d) := by
 rcases ha with rfl | rfl <;> rcases hc with rfl | rfl <;> rcases hb with rfl | rfl | rfl <;> rcases hd with rfl | rfl | rfl <;> simp [le3, and3]
theorem val3_three (a : Int) : val3 a = 0 ∨ val3 a = 1 ∨ val3 a = 2 := by unfold val3; split <;> omega
theorem not3_three (a : Int) : not3 (val3 a) = 0 ∨ not3 (val3 a) = 1 ∨ not3 (val3 a) = 2 := by rcases val3_three a with h | h | h <;> rw [h] <;> simp [not3]
theorem tl_three (s : List Int) (x : Int) : tl s x = 0 ∨ tl s x = 1 ∨ tl s x = 2 := by unfold tl; split; exact not3_three _; exact val3_three _
theorem tvals_mono {n : List (Int × Int)} (hg : GNt n) (hn : n.length <= 1048576) {a b : List Int} (h : ∀ c, le3 (tin a c) (tin b c)) : ∀ v, le3 (val3 ((tvals n a).getD v 0)) (val3 ((tvals n b).getD v 0)) := by
 intro v
 induction v using Nat.strongRecOn with
 | _ v ih =>
  by_cases hv : v <= n.length
  ·match v, ih, hv with
   | 0, _, _ => rw [tvals_zero, tvals_zero]; exact .inr rfl
   | k + 1, ih, hv =>
    obtain ⟨x, hx⟩ := getI n (show k < n.length by omega)
    rw [tvals_three hg hn, tvals_three hg hn]
    by_cases hin : x.1 < 0
    ·rw [tvals_in a hx hin, tvals_in b hx hin]; exact h _
    ·have hgt := hg.gate hx (by omega)
     rw [tvals_gate hg hn a hx (by omega), tvals_gate hg hn b hx (by omega)]
     have e : ∀ y : Int, 0 <= y -> y <= 2 * k + 1 -> le3 (tl (tvals n a) y) (tl (tvals n b) y) := by
      intro y h1 h2
      have := ih (y / 2).toNat (by omega)
      unfold tl; split; exact le3_not this; exact this
     exact le3_and (e _ (by omega) hgt.1) (e _ hgt.2.1 hgt.2.2) (tl_three _ _) (tl_three _ _)
  ·rw [List.getD, List.getD, List.getElem?_eq_none (by rw [tvals_len]; omega), List.getElem?_eq_none (by rw [tvals_len]; omega)]; exact .inr rfl
theorem tern_sound {n : List (Int × Int)} (hg : GNt n) (hn : n.length <= 1048576) {ins : List Int} {full : List Bool} (h : ∀ k x, n[k]? = some x -> x.1 < 0 -> (tin ins (cnt n k) = 0 -> full.getD (cnt n k) false = false) /\ (tin ins (cnt n k) = 1 -> full.getD (cnt n k) false = true)) :
  ∀ v, v <= n.length -> ((tvals n ins).getD v 0 = 0 -> (values n full).getD v false = false) /\ ((tvals n ins).getD v 0 = 1 -> (values n full).getD v false = true) := by
 intro v
 induction v using Nat.strongRecOn with
 | _ v ih =>
  intro hv
  match v, ih, hv with
  | 0, _, _ => rw [values_zero, tvals_zero]; exact ⟨fun _ => rfl, fun h => by omega⟩
  | k + 1, ih, hv =>
   obtain ⟨x, hx⟩ := getI n (show k < n.length by omega)
   by_cases hin : x.1 < 0
   ·rw [tvals_in ins hx hin, values_in full hx hin]
    exact h k x hx hin
   ·have hgt := hg.gate hx (by omega)
    rw [tvals_gate hg hn ins hx (by omega), values_gate hg full hx (by omega)]
    have e : ∀ y : Int, 0 <= y -> y <= 2 * k + 1 -> (tl (tvals n ins) y = 0 -> ofL (values n full) y = false) /\ (tl (tvals n ins) y = 1 -> ofL (values n full) y = true) := by
     intro y h1 h2
     have := ih (y / 2).toNat (by omega) (by omega)
     unfold tl ofL
     rw [tvals_three hg hn]
     by_cases hy : y % 2 = 1
     ·rw [if_pos hy, decide_eq_true hy]
      unfold not3
      constructor
      ·intro h3; rw [this.2 (by split at h3 <;> (try split at h3) <;> omega)]; rfl
      ·intro h3; rw [this.1 (by split at h3 <;> (try split at h3) <;> omega)]; rfl
     ·rw [if_neg hy, decide_eq_false hy]
      exact ⟨fun h3 => by rw [this.1 h3]; rfl, fun h3 => by rw [this.2 h3]; rfl⟩
    have e1 := e x.1 (by omega) hgt.1
    have e2 := e x.2 hgt.2.1 hgt.2.2
    unfold and3
    constructor
    ·intro h3
     have : tl (tvals n ins) x.1 = 0 ∨ tl (tvals n ins) x.2 = 0 := by
      split at h3
      ·assumption
      ·split at h3 <;> omega
     rcases this with h4 | h4
     ·rw [e1.1 h4]; rfl
     ·rw [e2.1 h4, Bool.and_false]
    ·intro h3
     have : tl (tvals n ins) x.1 = 1 /\ tl (tvals n ins) x.2 = 1 := by
      split at h3
      ·omega
      ·split at h3
       ·assumption
       ·omega
     rw [e1.2 this.1, e2.2 this.2]; rfl


noncomputable abbrev cl (c : CirT) (l : Int) : Int := litI (cNet c).2 l
def stk0 (c : CirT) : List Int := c.lat.map fun t => min t.2.2 2
noncomputable def stkE (c : CirT) (v : List Int) : List Int := tvals (cNet c).1 (List.replicate c.ins.length 2 ++ v)
open Classical in
noncomputable def stkF (c : CirT) (v : List Int) (i : Nat) : Int := if v.getD i 0 ≠ 2 /\ lit3 (stkE c v) (cl c (c.lat.getD i (0, 0, 0)).2.1) ≠ v.getD i 0 then 2 else v.getD i 0
noncomputable def stkS (c : CirT) (v : List Int) : List Int := tab c.lat.length (stkF c v)
noncomputable def stkI (c : CirT) : Nat -> List Int
 | 0 => stk0 c
 | k + 1 => stkS c (stkI c k)
noncomputable def skV (c : CirT) : List Int := stkI c c.lat.length
section
variable {c : CirT}
theorem stkS_len (v : List Int) : (stkS c v).length = c.lat.length := tab_len _ _
theorem stkI_len : ∀ k, (stkI c k).length = c.lat.length
 | 0 => List.length_map _
 | _ + 1 => stkS_len _
theorem stkF_or (v : List Int) (i : Nat) : stkF c v i = 2 ∨ stkF c v i = v.getD i 0 := by unfold stkF; split <;> simp
theorem stkS_get (v : List Int) {i : Nat} (h : i < c.lat.length) : (stkS c v).getD i 0 = stkF c v i := tab_getD _ _ h
theorem min_two {r o : Int} (h : r = 0 ∨ r = 1 ∨ r = o) (ho : 2 <= o) : (min r 2 = 0 /\ r = 0) ∨ (min r 2 = 1 /\ r = 1) ∨ (min r 2 = 2 /\ r = o) := by omega
theorem stk0_get {i : Nat} {t : T3} (h : c.lat[i]? = some t) : (stk0 c).getD i 0 = min t.2.2 2 := by
 unfold stk0
 exact gDo (by rw [List.getElem?_map, h]; rfl)
theorem lat_own (hg : GoodC' c) {t : T3} (h : t ∈ c.lat) : 2 <= t.1 := (hg.own t.1 (List.mem_append_left _ (List.mem_append_right _ (List.mem_map.2 ⟨t, h, rfl⟩)))).1
theorem stkI_three (hg : GoodC' c) : ∀ k i, i < c.lat.length -> (stkI c k).getD i 0 = 0 ∨ (stkI c k).getD i 0 = 1 ∨ (stkI c k).getD i 0 = 2
 | 0, i, hi => by
  obtain ⟨t, ht⟩ := getI c.lat hi
  have hm := List.mem_of_getElem? ht
  show (stk0 c).getD i 0 = 0 ∨ _
  rw [show stkI c 0 = stk0 c from rfl, stk0_get ht]
  rcases min_two (hg.res t hm) (lat_own hg hm) with ⟨e, _⟩ | ⟨e, _⟩ | ⟨e, _⟩ <;> rw [e] <;> simp
 | k + 1, i, hi => by
  have e : (stkI c (k + 1)).getD i 0 = stkF c (stkI c k) i := stkS_get _ hi
  rw [e]
  rcases stkF_or (c := c) (stkI c k) i with e | e
  ·rw [e]; simp
  ·rw [e]; exact stkI_three hg k i hi
def opn (v : List Int) : Nat := v.countP fun x => decide (x = 2)
theorem opn_le (v : List Int) : opn v <= v.length := List.countP_le_length
theorem opn_up : ∀ {v u : List Int}, v.length = u.length -> (∀ i, i < v.length -> u.getD i 0 = 2 ∨ u.getD i 0 = v.getD i 0) -> u ≠ v -> opn v < opn u
 | [], [], _, _, hne => absurd rfl hne
 | x :: v, y :: u, hl, h, hne => by
  have h0 := h 0 (by simp)
  simp only [List.getD_cons_zero] at h0
  have hr : ∀ i, i < v.length -> u.getD i 0 = 2 ∨ u.getD i 0 = v.getD i 0 := fun i hi => by
   have := h (i + 1) (by simp; omega)
   simpa using this
  have hl' : v.length = u.length := by simpa using hl
  have hle : opn v <= opn u := by
   by_cases e : u = v
   ·rw [e]; exact Nat.le_refl _
   ·exact Nat.le_of_lt (opn_up hl' hr e)
  have e1 : opn (x :: v) = opn v + (if x = 2 then 1 else 0) := by unfold opn; rw [List.countP_cons]; simp
  have e2 : opn (y :: u) = opn u + (if y = 2 then 1 else 0) := by unfold opn; rw [List.countP_cons]; simp
  rw [e1, e2]
  rcases h0 with h0 | h0
  ·subst h0
   by_cases hx : x = 2
   ·subst hx
    have : u ≠ v := fun e => hne (by rw [e])
    have := opn_up hl' hr this
    simp; omega
   ·rw [if_neg hx]; simp; omega
  ·subst h0
   have : u ≠ v := fun e => hne (by rw [e])
   have := opn_up hl' hr this
   omega
theorem stk_up {v : List Int} (hl : v.length = c.lat.length) (h : stkS c v ≠ v) : opn v < opn (stkS c v) :=
 opn_up (by rw [stkS_len, hl]) (fun i hi => by rw [stkS_get _ (by omega)]; exact stkF_or _ _) h
theorem stk_stays {k : Nat} (h : stkS c (stkI c k) = stkI c k) : ∀ m, stkI c (k + m) = stkI c k
 | 0 => rfl
 | m + 1 => by
  show stkS c (stkI c (k + m)) = _
  rw [stk_stays h m, h]
theorem stk_long {k : Nat} (h : ∀ j, j < k -> stkS c (stkI c j) ≠ stkI c j) : k <= opn (stkI c k) := by
 induction k with
 | zero => exact Nat.zero_le _
 | succ k ih =>
  have h1 := ih fun j hj => h j (by omega)
  have h2 := stk_up (stkI_len k) (h k (by omega))
  show k + 1 <= opn (stkS c (stkI c k))
  omega
theorem stk_short {k : Nat} (h : ∀ j, j < k -> stkS c (stkI c j) ≠ stkI c j) : k <= c.lat.length := by
 have h1 := stk_long h
 have h2 := opn_le (stkI c k)
 rw [stkI_len] at h2
 omega
theorem stk_done {k : Nat} (hk : k <= c.lat.length) (h : stkS c (stkI c k) = stkI c k) : stkI c k = skV c := by
 unfold skV
 have := stk_stays h (c.lat.length - k)
 rw [show k + (c.lat.length - k) = c.lat.length by omega] at this
 exact this.symm
theorem stuck_fix : stkS c (skV c) = skV c := by
 apply Classical.byContradiction
 intro hne
 have hall : ∀ j, j < c.lat.length + 1 -> stkS c (stkI c j) ≠ stkI c j := fun j hj e => by
  have h1 := stk_done (by omega) e
  rw [h1] at e; exact hne e
 have := stk_short hall
 omega
theorem stuck_len : (skV c).length = c.lat.length := stkI_len _
theorem stuck_three (hg : GoodC' c) {i : Nat} (h : i < c.lat.length) : (skV c).getD i 0 = 0 ∨ (skV c).getD i 0 = 1 ∨ (skV c).getD i 0 = 2 := stkI_three hg _ i h
theorem stuck_reset {t : T3} {i : Nat} (ht : c.lat[i]? = some t) : ∀ k, (stkI c k).getD i 0 ≠ 2 -> (stkI c k).getD i 0 = min t.2.2 2
 | 0, _ => stk0_get ht
 | k + 1, h => by
  have e : (stkI c (k + 1)).getD i 0 = stkF c (stkI c k) i := stkS_get _ (lGt ht)
  rw [e] at h ⊢
  rcases stkF_or (c := c) (stkI c k) i with e1 | e1
  ·exact absurd e1 h
  ·rw [e1] at h ⊢; exact stuck_reset ht k h
theorem stuck_next {t : T3} {i : Nat} (ht : c.lat[i]? = some t) (h : (skV c).getD i 0 ≠ 2) : lit3 (stkE c (skV c)) (cl c t.2.1) = (skV c).getD i 0 := by
 have e : (stkS c (skV c)).getD i 0 = (skV c).getD i 0 := by rw [stuck_fix]
 rw [stkS_get _ (lGt ht)] at e
 unfold stkF at e
 rw [gDo ht] at e
 apply Classical.byContradiction
 intro hne
 rw [if_pos ⟨h, hne⟩] at e
 exact h e.symm
end
def StkAt (c : CirT) (s : List Bool) : Prop := ∀ i, i < c.lat.length -> ((skV c).getD i 0 = 0 -> s.getD i false = false) /\ ((skV c).getD i 0 = 1 -> s.getD i false = true)
theorem lit3_sound {n : List (Int × Int)} (hn : n.length <= 1048576) {ins : List Int} {full : List Bool} (h : ∀ v, v <= n.length -> ((tvals n ins).getD v 0 = 0 -> (values n full).getD v false = false) /\ ((tvals n ins).getD v 0 = 1 -> (values n full).getD v false = true)) {x : Int} (hx : 0 <= x) (hl : x <= 2 * (n.length : Int) + 1) : (lit3 (tvals n ins) x = 0 -> ofL (values n full) x = false) /\ (lit3 (tvals n ins) x = 1 -> ofL (values n full) x = true) := by
 rw [lit3_tl (tvals_zero n ins) hx (by rw [tvals_len]; omega) (by omega)]
 obtain ⟨h1, h2⟩ := h (x / 2).toNat (by omega)
 unfold tl ofL
 generalize (tvals n ins).getD (x / 2).toNat 0 = a at h1 h2
 generalize (values n full).getD (x / 2).toNat false = b at h1 h2
 by_cases hp : x % 2 = 1
 ·rw [if_pos hp, decide_eq_true hp]
  unfold not3 val3
  by_cases a0 : a = 0
  ·rw [h1 a0]; simp [a0]
  ·by_cases a1 : a = 1
   ·rw [h2 a1]; simp [a1]
   ·simp [a0, a1]
 ·rw [if_neg hp, decide_eq_false hp]
  unfold val3
  by_cases a0 : a = 0
  ·rw [h1 a0]; simp [a0]
  ·by_cases a1 : a = 1
   ·rw [h2 a1]; simp [a1]
   ·simp [a0, a1]
section
variable {c : CirT}
theorem stk_ins {v : List Int} {s i : List Bool} (hv : v.length = c.lat.length) (h : ∀ j, j < c.lat.length -> (v.getD j 0 = 0 -> s.getD j false = false) /\ (v.getD j 0 = 1 -> s.getD j false = true)) (q : Nat) :
  (tin (List.replicate c.ins.length 2 ++ v) q = 0 -> (insV c s i).getD q false = false) /\ (tin (List.replicate c.ins.length 2 ++ v) q = 1 -> (insV c s i).getD q false = true) := by
 unfold tin
 by_cases h1 : q < c.ins.length
 ·have e : (List.replicate c.ins.length (2 : Int) ++ v).getD q 2 = 2 := by
   rw [List.getD_eq_getElem?_getD, List.getElem?_append_left (by simpa using h1), List.getElem?_replicate, if_pos h1]; rfl
  rw [e]; simp [val3]
 ·by_cases h2 : q < c.ins.length + c.lat.length
  ·obtain ⟨z, hz⟩ := getI v (show q - c.ins.length < v.length by omega)
   have e : (List.replicate c.ins.length (2 : Int) ++ v).getD q 2 = z := by
    rw [List.getD_eq_getElem?_getD, List.getElem?_append_right (by simp; omega), List.length_replicate, hz]; rfl
   have e2 : (insV c s i).getD q false = s.getD (q - c.ins.length) false := by
    unfold insV
    rw [List.getD_eq_getElem?_getD, List.getElem?_append_right (by rw [brV_len]; omega), brV_len, brV_get _ (by omega)]; rfl
   have h3 := h (q - c.ins.length) (by omega)
   rw [gDo hz] at h3
   rw [e, e2]
   unfold val3
   by_cases a0 : z = 0
   ·subst a0; simpa using h3
   ·by_cases a1 : z = 1
    ·subst a1; simpa using h3
    ·simp [a0, a1]
  ·have e : (List.replicate c.ins.length (2 : Int) ++ v).getD q 2 = 2 := by
    rw [List.getD_eq_getElem?_getD, List.getElem?_eq_none (by simp; omega)]; rfl
   rw [e]; simp [val3]
theorem stk_step (hg : GoodC' c) (hz : SzC c 100000) {s i : List Bool} (h : StkAt c s) : StkAt c (nextV c s i) := fun j hj => by
 obtain ⟨t, ht⟩ := getI c.lat hj
 have e : (nextV c s i).getD j false = litV c s i t.2.1 := gDo (by unfold nextV; rw [List.getElem?_map, ht]; rfl)
 have hn : (cNet c).1.length <= 1048576 := by have := net_len hg hz; omega
 have hr := litI_range hg (used_next (List.mem_of_getElem? ht))
 have h1 := lit3_sound hn (tern_sound (cNet_ok hg).2 hn (ins := List.replicate c.ins.length 2 ++ skV c) (full := insV c s i) (fun k x _ _ => stk_ins stuck_len h _)) hr.1 hr.2
 rw [e]
 constructor
 ·intro h0
  exact h1.1 ((stuck_next ht (by omega)).trans h0)
 ·intro h0
  exact h1.2 ((stuck_next ht (by omega)).trans h0)
theorem stk_start (hg : GoodC' c) {s : List Bool} (h : StartsP c s) : StkAt c s := fun j hj => by
 obtain ⟨t, ht⟩ := getI c.lat hj
 obtain ⟨b, hb⟩ := getI s (show j < s.length by rw [h.1]; exact hj)
 obtain ⟨h1, h2⟩ := h.2 j t b ht hb
 have hm := List.mem_of_getElem? ht
 have hr := min_two (hg.res t hm) (lat_own hg hm)
 rw [gDo hb]
 constructor
 ·intro h0
  have e := stuck_reset ht c.lat.length (show (skV c).getD j 0 ≠ 2 by omega)
  rw [show stkI c c.lat.length = skV c from rfl, h0] at e
  cases b
  ·rfl
  ·exact absurd ⟨by omega, rfl⟩ h1
 ·intro h0
  have e := stuck_reset ht c.lat.length (show (skV c).getD j 0 ≠ 2 by omega)
  rw [show stkI c c.lat.length = skV c from rfl, h0] at e
  cases b
  ·exact absurd ⟨by omega, rfl⟩ h2
  ·rfl
theorem stk_state (hg : GoodC' c) (hz : SzC c 100000) {s : List Bool} (h : StartsP c s) (r : List (List Bool)) : ∀ k, StkAt c (stateV c s r k)
 | 0 => by
  show StkAt c (brV s c.lat.length)
  rw [<- h.1, brV_self]; exact stk_start hg h
 | k + 1 => stk_step hg hz (stk_state hg hz h r k)
end

def KnL (c : CirT) (l : Int) : Prop := 0 <= l /\ (1 < l -> l - l % 2 ∈ c.own)
theorem kLu {c : CirT} (h : GoodC' c) {l : Int} (hl : l ∈ c.used) : KnL c l := ⟨(h.used l hl).1, h.has l hl⟩
theorem knL_lit {c : CirT} (h : GoodC' c) {l : Int} (hl : KnL c l) : ∃ z, (cNet c).2[(l / 2).toNat]? = some z /\ 0 <= z /\ z % 2 = 0 /\ z <= 2 * ((cNet c).1.length : Int) := by
 have h0 := (cNet_ok h).1
 refine h0.ge ?_
 rcases Int.lt_or_le 1 l with h2 | h2
 ·exact .inr ⟨_, seq_all h (hl.2 h2), by omega⟩
 ·left; have := hl.1; omega
theorem knL_max {c : CirT} (h : GoodC' c) {l : Int} (hl : KnL c l) : l <= 2 * c.max + 1 := by
 have hm := h.max
 by_cases h1 : 1 < l
 ·have := h.own _ (hl.2 h1); omega
 ·omega
theorem knL_range {c : CirT} (h : GoodC' c) {l : Int} (hl : KnL c l) : 0 <= litI (cNet c).2 l /\ litI (cNet c).2 l <= 2 * ((cNet c).1.length : Int) + 1 := by
 obtain ⟨z, h1, h2, h3, h4⟩ := knL_lit h hl
 rw [litI_some h1]
 unfold xorI Lt.xor1
 split <;> (try split) <;> omega
theorem cIn_nodes : ∀ (ls : List Int) (s : NA), (cIn s ls).1 = s.1 ++ ls.map (fun _ => ((-1, 0) : Int × Int))
 | [], s => by simp [cIn]
 | l :: ls, s => by
  have ih := cIn_nodes ls (cput s l (-1, 0))
  show (cIn (cput s l (-1, 0)) ls).1 = _
  rw [ih]
  simp [cput]
theorem net_nodes {c : CirT} (h : GoodC' c) : ∀ k, k <= (ordL c.gates).length ->
  ∀ (j : Nat) x, (cGates c.gates (cIn ([], cAt0 c.max) c.inl) ((ordL c.gates).take k)).1[j]? = some x -> (x.1 < 0 ↔ j < c.inl.length) := by
 intro k
 induction k with
 | zero =>
  intro _ j x hx
  have e : (cGates c.gates (cIn ([], cAt0 c.max) c.inl) ((ordL c.gates).take 0)).1 = c.inl.map (fun _ => ((-1, 0) : Int × Int)) := by
   show (cIn ([], cAt0 c.max) c.inl).1 = _
   rw [cIn_nodes]; rfl
  rw [e, List.getElem?_map] at hx
  cases hl : c.inl[j]? with
  | none => rw [hl] at hx; cases hx
  | some y =>
   rw [hl] at hx
   rw [<- Option.some.inj hx]
   exact ⟨fun _ => lGt hl, fun _ => (show (-1 : Int) < 0 by decide)⟩
 | succ k ih =>
  intro hk j x hx
  obtain ⟨i, hi⟩ := getI (ordL c.gates) (show k < _ by omega)
  have ih' := ih (by omega)
  have h1 := (net_to h k (by omega)).1
  have hO := (ordL_is c.gates).1
  obtain ⟨g, hg, hn, hr⟩ := (hO k i hi).1
  have hm' := List.mem_of_getElem? hg
  have ua : g.2.1 ∈ c.used := List.mem_append_right _ (List.mem_flatMap.2 ⟨g, hm', by simp⟩)
  obtain ⟨za, a1, a2, a3, a4⟩ := h1.ge (used_put h ua fun j x hx hj => (hr j x hx hj).1)
  have eg : gAt c.gates i = g := gAt_of hg
  rw [tkS hi, cGates_snoc] at hx
  unfold cGate at hx
  rw [eg] at hx
  have hx' : ((cGates c.gates (cIn ([], cAt0 c.max) c.inl) ((ordL c.gates).take k)).1 ++ [_])[j]? = some x := hx
  rw [litI_some a1] at hx'
  have hlen := h1.len1
  rw [List.length_append] at hlen
  by_cases hj : j < (cGates c.gates (cIn ([], cAt0 c.max) c.inl) ((ordL c.gates).take k)).1.length
  ·rw [List.getElem?_append_left hj] at hx'; exact ih' j x hx'
  ·rw [List.getElem?_append_right (by omega)] at hx'
   have h0 : j - (cGates c.gates (cIn ([], cAt0 c.max) c.inl) ((ordL c.gates).take k)).1.length = 0 := by have := lGt hx'; simpa using this
   rw [h0] at hx'
   simp only [List.getElem?_cons_zero, Option.some.injEq] at hx'
   subst hx'
   have ka : 0 <= xorI za (g.2.1 % 2) := by unfold xorI Lt.xor1; split <;> (try split) <;> omega
   constructor
   ·intro hh; dsimp only at hh; omega
   ·intro hh; omega
theorem net_in {c : CirT} (h : GoodC' c) {j : Nat} {x : Int × Int} (hx : (cNet c).1[j]? = some x) : x.1 < 0 ↔ j < c.inl.length := by
 have := net_nodes h (ordL c.gates).length (Nat.le_refl _) j x
 rw [List.take_length] at this
 exact this hx
theorem inl_len (c : CirT) : c.inl.length = c.ins.length + c.lat.length := by show (c.ins ++ c.lat.map (·.1)).length = _; simp
theorem net_cnt {c : CirT} (h : GoodC' c) : ∀ k, k <= (cNet c).1.length -> cnt (cNet c).1 k = min k c.inl.length
 | 0, _ => by simp [cnt]
 | k + 1, hk => by
  obtain ⟨x, hx⟩ := getI (cNet c).1 (show k < _ by omega)
  have ih := net_cnt h k (by omega)
  have hi := net_in h hx
  by_cases hin : x.1 < 0
  ·have := hi.1 hin
   rw [cnt_in hx hin, ih]; omega
  ·have : ¬ k < c.inl.length := fun hh => hin (hi.2 hh)
   rw [cnt_gate hx hin, ih]; omega
def b3 (b : Bool) : Int := if b = true then 1 else 0
section
variable {c : CirT} {s i : List Bool} {want : List Int}
end

structure UnV where
 N : List (Int × Int)
 ins : List (List Int)
 own : List (List Int)
 st : List (List Int)
theorem at_len {c : CirT} (hg : GoodC' c) : ((cNet c).2.length : Int) = c.max + 1 := by
 have h1 := (cNet_ok hg).1.len2
 have := hg.max
 omega
theorem at_is {c : CirT} (hg : GoodC' c) {v : Nat} {a : Int} (h : (cNet c).2[v]? = some a) : a = -1 ∨ (0 <= a /\ a % 2 = 0 /\ a <= 2 * ((cNet c).1.length : Int)) := by
 have hP := (cNet_ok hg).1
 have hl := hP.len2
 have hv := lGt h
 by_cases h0 : v = 0
 ·subst h0
  rw [hP.zero] at h; cases h; right; omega
 ·by_cases hex : ∃ l ∈ c.seq, (l / 2).toNat = v
  ·obtain ⟨l, hm, he⟩ := hex
   obtain ⟨i, hi⟩ := List.mem_iff_getElem?.1 hm
   have h2 := hP.has i l hi
   rw [he, h] at h2
   cases h2
   have := lGt hi
   have := hP.len1
   right; omega
  ·have h2 := hP.not v (by omega) (by omega) (fun l hm he => hex ⟨l, hm, he⟩)
   rw [h] at h2; cases h2; left; rfl
theorem copyV_yes {N n : List (Int × Int)} {ins : List Int} (hh : ∀ z ∈ ins, hasL N z) : copyV N n ins = ((cto N n ins n.length).1, (cto N n ins n.length).2.2) := by unfold copyV; rw [dTt hh]; rfl
def pickL (l : List Int) (i : Int) : Int := if 0 <= i /\ i < (l.length : Int) then l.getD i.toNat 0 else -1

theorem aig_NetV (gs r cap : Nat) (a : Option Addr) (N : List (Int × Int)) (rest : List Piece) (w w0 : World) (hS : Sep w0.heap.size w (stN w0.heap.size gs a cap r N ++ rest)) (hN : N.length <= 1048576) :
  Lt.Spec Tryz.prog 68 [.pointer (some ⟨gs, 0, none⟩)] w (IsFresh 2 encN 84 w N) := by
 have hC0 := hS.cell (i := 0) rfl
 have hR1 := hS.row (i := 1) rfl
 obtain ⟨hD0, _⟩ := cHp hC0
 refine Spec.of _ Tryz.func68 rfl Tryz.ntmps68 (by kernel_rfl) rfl ?_
 repeat' (first | (apply WL.nilc; (iterate 3 exact rfl)) | (apply WL.eqNilS tOk; (iterate 6 exact rfl)) | (apply WL.call (f := 127); (iterate 4 exact rfl); exact slices_CloneN _ _ N _ (Own.row encN_ok hR1) (Own.nCp hR1) hN; rintro v' w' ⟨hx, a', cap', rfl, hO⟩) | (first | apply WL.nil | refine WL.au (k := ?_)) | apply Z.tn | (first | apply W.seq | apply W.region | apply W.skip | apply W.ret | (apply W.condF; exact rfl)))
 exact Z.bd1 Tryz.results68 rfl fun m => ⟨Ext.at extA m, a', cap', rfl, hO⟩

theorem copy_semG {N n : List (Int × Int)} (hg : GNt n) (hT : Tidy N) {L : List Int} (hL : ∀ z ∈ L, hasL N z) (hin : cnt n n.length <= L.length) (ins : List Bool) : ∀ k, k <= n.length ->
  Tidy (cto N n L k).2.2 /\ (cto N n L k).2.1 = cnt n k /\ ∀ i z, (cto N n L k).1[i]? = some z -> ofL (values (cto N n L k).2.2 ins) z = (values n (L.map (ofL (values N ins)))).getD i false
 | 0, _ => by
  refine ⟨hT, rfl, fun i z hz => ?_⟩
  have hz' : [(0 : Int)][i]? = some z := hz
  have hi := lGt hz'
  simp at hi
  subst hi
  simp at hz'
  subst hz'
  rw [values_zero, ofL_zero]
 | k + 1, hk => by
  obtain ⟨x, hx⟩ := getI n (show k < n.length by omega)
  obtain ⟨h1, h2, h3⟩ := copy_semG hg hT hL hin ins k (by omega)
  obtain ⟨i1, i2, i3, i4, i5, i6⟩ := cto_inv (N := N) (ins := L) hg hL k (by omega)
  rw [cto_succ hx]
  generalize cto N n L k = s at h1 h2 h3 i1 i2 i3 i4 i5 i6
  unfold cstep
  by_cases h0 : 0 <= x.1
  ·rw [if_pos h0]
   have hgt := hg.gate hx h0
   have ha := hasL_litI i2 (x := x.1) (by omega)
   have hb := hasL_litI i2 (x := x.2) (by omega)
   have hG : Grow s.2.2 (andV s.2.2 (litI s.1 x.1) (litI s.1 x.2)).2 := .gate _ _ (.refl _)
   have hl : ∀ y : Int, 0 <= y -> (y / 2).toNat < s.1.length -> ofL (values s.2.2 ins) (litI s.1 y) = ofL (values n (L.map (ofL (values N ins)))) y := by
    intro y hy0 hy
    obtain ⟨z, hz⟩ := getI s.1 hy
    have hzv := h3 _ z hz
    have hz0 := (i2 z (List.mem_of_getElem? hz)).1
    unfold litI xorI
    rw [gDo hz]
    by_cases hp : y % 2 = 1
    ·rw [if_pos hp, ofL_xor1 _ hz0, hzv, ofL, decide_eq_true hp]; simp
    ·rw [if_neg hp, hzv, ofL, decide_eq_false hp]; simp
   refine ⟨h1.and _ _, by rw [h2, cnt_gate hx (by omega)], fun i z hz => ?_⟩
   rcases get_snoc hz with hz1 | ⟨rfl, rfl⟩
   ·rw [hG.of ins (i2 z (List.mem_of_getElem? hz1))]; exact h3 i z hz1
   ·rw [andV_of h1 ins ha hb, hl _ h0 (by omega), hl _ (by omega) (by omega), i1, values_gate hg _ hx h0]
  ·have hx0 : x.1 < 0 := by omega
   have hc1 := cnt_in hx hx0
   have hc2 := cnt_mono n (i := k + 1) (k := n.length) (by omega)
   have hlt : s.2.1 < L.length := by omega
   rw [if_neg h0, if_pos hlt]
   obtain ⟨q, hq⟩ := getI L hlt
   refine ⟨h1, by dsimp only; rw [h2, hc1], fun i z hz => ?_⟩
   rcases get_snoc hz with hz1 | ⟨rfl, rfl⟩
   ·exact h3 i z hz1
   ·rw [gDo hq, i5.of ins (hL q (List.mem_of_getElem? hq)), i1, values_in _ hx hx0, <- h2]
    have e : (L.map (ofL (values N ins)))[s.2.1]? = some (ofL (values N ins) q) := by rw [List.getElem?_map, hq]; rfl
    rw [gDo e]
theorem litI_of_copy {own : List Int} {V W : List Bool} {N : List (Int × Int)} (h : ∀ (i : Nat) z, own[i]? = some z -> ofL V z = W.getD i false) (h0 : ∀ z ∈ own, hasL N z) {y : Int} (hy : (y / 2).toNat < own.length) : ofL V (litI own y) = ofL W y := by
 obtain ⟨z, hz⟩ := getI own hy
 have hzv := h _ z hz
 have hz0 := (h0 z (List.mem_of_getElem? hz)).1
 unfold litI xorI
 rw [gDo hz]
 by_cases hp : y % 2 = 1
 ·rw [if_pos hp, ofL_xor1 _ hz0, hzv, ofL, decide_eq_true hp]; simp
 ·rw [if_neg hp, hzv, ofL, decide_eq_false hp]; simp
section
variable {c : CirT} (hg : GoodC' c)
include hg
end

theorem OnlyG.and {m : Nat} {N : List (Int × Int)} (h : OnlyG m N) (x y : Int) : OnlyG m (andV N x y).2 := by
 obtain ⟨a, b, _, _, hw⟩ := andV_ways N x y
 rcases hw with ⟨_, hw⟩ | ⟨_, _, hw⟩ | ⟨_, _, _, hw⟩ | ⟨_, _, _, _, _, _, hw⟩ | ⟨h0, h1, h2, hw⟩ <;> rw [hw]
 ·exact h
 ·exact h
 ·exact h
 ·exact h
 ·refine ⟨by have := h.le; simp; omega, fun i z hz hi => ?_, fun i z hz hi => ?_⟩
  ·rcases get_snoc hz with k | ⟨rfl, rfl⟩
   ·exact h.inp i z k hi
   ·have := h.le; omega
  ·rcases get_snoc hz with k | ⟨rfl, rfl⟩
   ·exact h.gate i z k hi
   ·show 0 <= a; omega

theorem cnt_only {m : Nat} {N : List (Int × Int)} (h : OnlyG m N) : ∀ k, k <= m -> cnt N k = k
 | 0, _ => rfl
 | k + 1, hk => by
  have hle := h.le
  obtain ⟨x, hx⟩ := getI N (show k < N.length by omega)
  rw [cnt_in hx (by rw [h.inp k x hx (by omega)]; decide), cnt_only h k (by omega)]
theorem ofL_even (V : List Bool) (k : Nat) : ofL V (2 * ((k : Int) + 1)) = V.getD (k + 1) false := by
 unfold ofL
 rw [show (2 * ((k : Int) + 1) / 2).toNat = k + 1 by omega, decide_eq_false (show ¬ 2 * ((k : Int) + 1) % 2 = 1 by omega)]
 simp

theorem ref08_lit (a : Option Addr) (cap : Nat) (A : List Int) (l z : Int) (w : World) (R : Row 1 encI w a A) (h0 : 0 <= l) (hl : l <= 4294967296) (hz : A[(l / 2).toNat]? = some z) (hz0 : 0 <= z /\ z % 2 = 0 /\ z <= 4194304) :
  Still Tryz.prog 97 [.slice a A.length cap, .int .i64 l] w (.int .i64 (z + l % 2)) := by
 have hlt := lGt hz
 by_cases h : l % 2 = 1
 ·refine Spec.of _ Tryz.func97 rfl Tryz.ntmps97 (by kernel_rfl) rfl ?_
  repeat' (first | (apply W.cKT; exact rfl; exact dTt h) | (first | apply WL.nil | refine WL.au (k := ?_)) | (first | apply QL.nil | refine QL.au (k := ?_) | (apply QL.index tOk; (iterate 8 exact rfl); assumption; exact extA; exact rfl; omega; assumption; intro b off h; have hcc := h; first | (obtain ⟨h1, h2, h3, h4, h5, h6, _⟩ := h) | (obtain ⟨h1, h2, h3, _⟩ := h) | (obtain ⟨h1, h2, _⟩ := h) | (obtain ⟨h1, _⟩ := h))) | (first | apply Z.tn | apply Z.tnr) | (first | apply W.seq | apply W.region | apply W.ret | (apply W.rgD tMix; kernel_rfl)))
  exact Z.bd1 Tryz.results97 rfl fun m => ⟨by congr 1; omega, m, rfl⟩
 ·refine Spec.of _ Tryz.func97 rfl Tryz.ntmps97 (by kernel_rfl) rfl ?_
  repeat' (first | (apply W.cKF; exact rfl; exact dFf h) | (first | apply WL.nil | refine WL.au (k := ?_) | (apply WL.index tOk; (iterate 8 exact rfl); assumption; exact extA; exact rfl; omega; assumption; intro b off h; have hcc := h; first | (obtain ⟨h1, h2, h3, h4, h5, h6, _⟩ := h) | (obtain ⟨h1, h2, h3, _⟩ := h) | (obtain ⟨h1, h2, _⟩ := h) | (obtain ⟨h1, _⟩ := h))) | apply Z.tn | (first | apply W.seq | apply W.region | apply W.skip | apply W.ret))
  exact Z.bd1 Tryz.results97 rfl fun m => ⟨by congr 1; omega, m, rfl⟩

theorem sel_split {P : Nat -> Prop} {k : Nat} : ∀ {m}, k <= m -> ∃ r, sel m P = sel k P ++ r /\ ∀ x ∈ r, (k : Int) <= x
  | 0, h => by obtain rfl : k = 0 := by omega
               exact ⟨[], by simp, by simp⟩
  | m + 1, h => by
    by_cases hk : k = m + 1
    · subst hk; exact ⟨[], by simp, by simp⟩
    · obtain ⟨r, h1, h2⟩ := sel_split (P := P) (show k <= m by omega)
      by_cases hp : P m
      · refine ⟨r ++ [(m : Int)], by rw [sel_yes hp, h1, List.append_assoc], fun x hx => ?_⟩
        rcases List.mem_append.1 hx with hx | hx
        · exact h2 x hx
        · rw [List.mem_singleton.1 hx]; omega
      · exact ⟨r, by rw [sel_no hp, h1], h2⟩
theorem of_at {P : Nat -> Prop} {m k : Nat} (h : P (k + 1)) (hk : k + 1 < m) : (sel m P)[rnk P k]? = some ((k + 1 : Nat) : Int) := by
 obtain ⟨r, h1, _⟩ := sel_split (P := P) (show k + 2 <= m by omega)
 rw [h1, sel_yes h, rnk, List.append_assoc, List.getElem?_append_right (Nat.le_refl _), Nat.sub_self]; rfl
theorem of_beyond {P : Nat -> Prop} {m k : Nat} (h : ¬ P (k + 1)) (hk : k + 1 < m) {y : Int} (hy : (sel m P)[rnk P k]? = some y) : ¬ y = ((k + 1 : Nat) : Int) := by
 obtain ⟨r, h1, h2⟩ := sel_split (P := P) (show k + 2 <= m by omega)
 rw [h1, sel_no h, rnk, List.getElem?_append_right (Nat.le_refl _), Nat.sub_self] at hy
 have := h2 y (List.mem_of_getElem? hy)
 omega
theorem rnk_sel {P : Nat -> Prop} {m k : Nat} (hk : k + 1 <= m) : rnk P k <= (sel m P).length := by
 obtain ⟨r, h1, _⟩ := sel_split (P := P) hk
 rw [h1, rnk, List.length_append]; omega

noncomputable def atA (P : Nat -> Prop) (k : Nat) : List Int := tab (k + 1) (atv P)
theorem atA_succ (P : Nat -> Prop) (k : Nat) : atA P (k + 1) = atA P k ++ [atv P (k + 1)] := tab_succ _ _
theorem atA_len (P : Nat -> Prop) (k : Nat) : (atA P k).length = k + 1 := tab_len _ _
theorem atA_get {P : Nat -> Prop} {k u : Nat} (h : u <= k) : (atA P k)[u]? = some (atv P u) := tab_get _ (by omega)
theorem atA_at (n : List (Int × Int)) (P : Nat -> Prop) : atA P n.length = atT n P (n.length + 1) := tab_congr fun u hu => (if_pos hu).symm

theorem ref08_Cut (a b : Option Addr) (cap cb : Nat) (n : List (Int × Int)) (l : List Int) (w : World) (R : Row 2 encN w a n) (Rb : Row 1 encI w b l) (hg : GNt n) (hn : n.length <= 1048576) (hl : ∀ x ∈ l, inI64 x) :
  Lt.Spec Tryz.prog 38 [.slice a n.length cap, .slice b l.length cb] w (IsFresh2 2 encN 84 1 encI 3 w (outTo n (OfP n l) n.length) (atT n (OfP n l) (n.length + 1))) := by
 have hP0 : ¬ OfP n l 0 := fun h => by have := h.1; omega
 have hofl : (onL n l).length <= n.length + 1 := sel_le _ _
 have ea0 : atA (OfP n l) 0 = [0] := by rw [atA, tab]; simp [atv]
 refine Spec.of _ Tryz.func38 rfl Tryz.ntmps38 (by kernel_rfl) rfl ?_
 repeat' (first | (apply WL.lit (len := 0) tOk; (iterate 6 exact rfl); kernel_rfl; exact rfl; intro gb w' hb hge hc hx; have hO0 := Own.ofB0 (enc := encN) (s := 2) hb hge) | (first | apply WL.nil | refine WL.au (k := ?_)) | apply Z.tn | (first | apply W.seq | apply W.region))
 have hS : Sep w.heap.size w' [prow 2 encN 84 w.heap.size (some ⟨gb, 0, none⟩) 0 []] := Sep.none'.newRow' hx hO0 (Nat.le_refl _)
 obtain ⟨g0, rfl⟩ : ∃ x, x = gb := ⟨_, rfl⟩
 have hxa := hx
 repeat' (first | (apply WL.lit tOk; (iterate 6 exact rfl); kernel_rfl; exact rfl; intro gb w' hb hge hc hx; have hO := Own.of_block ([(0 : Int)]) eIk hb hge rfl) | refine WL.au (k := ?_))
 have hS := hS.newRow (s := 1) (enc := encI) (el := 3) (cap := 1) (l := [0]) hx (hO.base (B' := w.heap.size) (by first | exact Nat.le_refl _ | exact Below.size hxa | (refine Nat.le_trans ?_ (Below.size hx); exact Below.size hxa))) (fun k hk => by cases hk; exact hge) (Below.size hxa)
 obtain ⟨g1, rfl⟩ : ∃ x, x = gb := ⟨_, rfl⟩; obtain ⟨w2, rfl⟩ : ∃ x, x = w' := ⟨_, rfl⟩
 have hx2 : Ext w w2 := extA
 repeat' (first | (apply WL.call (f := 96); (iterate 4 exact rfl); exact ref08_Of _ _ _ _ n l _ (R.ext hx2) (Rb.ext hx2) hg hn hl; rintro v' w' ⟨hx, a', cap', rfl, hO⟩) | (first | apply WL.nil | refine WL.au (k := ?_)) | apply Z.tn | (first | apply W.seq | apply W.region | apply W.block))
 have hS := hS.newRow' hx hO (Below.size hx2)
 obtain ⟨mo, rfl⟩ : ∃ x, x = a' := ⟨_, rfl⟩; obtain ⟨cmo, rfl⟩ : ∃ x, x = cap' := ⟨_, rfl⟩
 refine W.loopO2 n.length (fun k c cp d dp w' => k <= n.length /\ Ext w w' /\ Sep w.heap.size w' [prow 1 encI 3 w.heap.size mo cmo (onL n l), prow 1 encI 3 w.heap.size d dp (atA (OfP n l) k), prow 2 encN 84 w.heap.size c cp (outTo n (OfP n l) k)])
  (fun k c cp d dp => [(0, .slice a n.length cap), (6, .slice c (outTo n (OfP n l) k).length cp), (7, .slice d (atA (OfP n l) k).length dp), (8, .slice mo (onL n l).length cmo), (9, .int .i64 (rnk (OfP n l) k : Nat)), (10, .int .i64 ((k + 1 : Nat) : Int))]) (some ⟨g0, 0, none⟩) 0 (some ⟨g1, 0, none⟩) 1 ⟨by omega, extA, by rw [ea0]; exact hS⟩ (fun k c cp d dp w' h => h.1) ⟨rfl, rfl, by rw [ea0]; exact rfl, rfl, by rw [rnk, sel_no hP0]; exact rfl, rfl, trivial⟩ ?_
 clear hS hO hO0
 rintro k c cp d dp w' ⟨hk, hx', hS⟩
 have hR0 := hS.row (i := 0) rfl
 have hR1 := hS.row (i := 1) rfl
 have hR2 := hS.row (i := 2) rfl
 have hal := atA_len (OfP n l) k
 have hol := outTo_len n hP0 k
 have hrk := rnk_le (OfP n l) k
 have RO := Own.row eIk hR0
 have RA := Own.row eIk hR1
 by_cases hlt : k < n.length
 ·obtain ⟨x, hxn⟩ := getI n hlt
  have hxn1 : n[(((k + 1 : Nat) : Int) - 1).toNat]? = some x := by rw [show (((k + 1 : Nat) : Int) - 1).toNat = k by omega]; exact hxn
  have hrs := rnk_sel (P := OfP n l) (m := n.length + 1) (k := k) (by omega)
  have hrs' : rnk (OfP n l) k <= (onL n l).length := hrs
  by_cases hy : OfP n l (k + 1)
  ·have hof : (onL n l)[rnk (OfP n l) k]? = some ((k + 1 : Nat) : Int) := of_at hy (by omega)
   have hofl := lGt hof
   have e1 := outTo_yes (n := n) hy
   have eat : atv (OfP n l) (k + 1) = 2 * (rnk (OfP n l) (k + 1) : Nat) := by rw [atv, if_neg (by omega), if_pos hy]
   have e3 := atA_succ (OfP n l) k
   have e4 := rnk_yes hy
   have hol2 := outTo_len n hP0 (k + 1)
   have hrk2 := rnk_le (OfP n l) (k + 1)
   by_cases hin : x.1 < 0
   ·have e2 : nodeC n (OfP n l) k = (-1, 0) := by rw [nodeC, hxn]; exact if_pos hin
    rw [e2] at e1
    rw [e1] at hol2
    repeat' (first | (apply WL.gF; exact rfl; exact rfl; (focus (exact dFf (by omega)))) | (apply W.cKT; exact rfl; (focus (exact dTt (by omega)))) | (apply W.cKF; exact rfl; (focus (exact dFf (by omega)))) | (apply WL.build tOk; (iterate 7 exact rfl); kernel_rfl) | (apply WL.alloc tOk; (iterate 3 exact rfl); intro gb w' hb hge hx; replace hS := Sep.newCell (Sep.ext hS extA) hx hb hge (by (exact Below.size extA)); (try simp only [List.set_cons_zero, List.set_cons_succ] at hS); (try have hR1 := hS.row (i := 1) rfl); (try have hR2 := hS.row (i := 2) rfl); (try have hR3 := hS.row (i := 3) rfl); (try have hC0 := hS.cell (i := 0) rfl); (try have hD0 := (cHp hC0).1); (try have hE0 := (cHp hC0).2.1)) | (apply WL.storeB (w0 := w) tOk; (iterate 4 exact rfl); assumption; exact extA; (iterate 3 exact rfl); exact extA; ((focus (apply Nat.le_trans; rotate_left; assumption; exact Below.size extA; done))); intro w' hb hc hX' hU; have hcc := hc; obtain ⟨h1, h2, _⟩ := hc; replace hS := Sep.uCl (i := 0) rfl hU hb hS extA (by (exact Below.size extA)); (try simp only [List.set_cons_zero, List.set_cons_succ] at hS); (try have hR1 := hS.row (i := 1) rfl); (try have hR2 := hS.row (i := 2) rfl); (try have hR3 := hS.row (i := 3) rfl); (try have hC0 := hS.cell (i := 0) rfl); (try have hD0 := (cHp hC0).1); (try have hE0 := (cHp hC0).2.1)) | (apply WL.lit tOk; (iterate 6 exact rfl); kernel_rfl; exact rfl; intro gb w' hb hge hc hx) | (apply WL.ap1 (z := (((-1 : Int), (0 : Int)))) tOk encN_ok; (iterate 10 exact rfl); assumption; exact extA; exact rfl; assumption; exact rfl; exact rfl; exact extA; omega; intro a' cap' w' hO hX' hU hF; (replace hS := Sep.uRw (i := 3) rfl hU hO hF hS extA (by (exact Below.size extA))); (try simp only [List.set_cons_zero, List.set_cons_succ] at hS); (try have hR1 := hS.row (i := 1) rfl); (try have hR2 := hS.row (i := 2) rfl); (try have hR3 := hS.row (i := 3) rfl); (try have hC0 := hS.cell (i := 0) rfl); (try have hD0 := (cHp hC0).1); (try have hE0 := (cHp hC0).2.1)) | (first | apply WL.nil | refine WL.au (k := ?_) | (apply WL.index tOk; (iterate 8 exact rfl); assumption; exact extA; exact rfl; omega; assumption; intro b off h; have hcc := h; first | (obtain ⟨h1, h2, h3, h4, h5, h6, _⟩ := h) | (obtain ⟨h1, h2, h3, _⟩ := h) | (obtain ⟨h1, h2, _⟩ := h) | (obtain ⟨h1, _⟩ := h))) | apply Z.tn | (first | apply W.seq | apply W.region | apply W.block | apply W.skip))
    obtain ⟨c2, rfl⟩ : ∃ x, x = a' := ⟨_, rfl⟩; obtain ⟨cp2, rfl⟩ : ∃ x, x = cap' := ⟨_, rfl⟩
    repeat' (first | (apply WL.ap1 (z := (2 * (((outTo n (OfP n l) k ++ [(-1, 0)]).length : Nat) : Int))) tOk eIk; (iterate 10 exact rfl); assumption; exact extA; exact rfl; assumption; exact rfl; exact rfl; exact extA; omega; intro a' cap' w' hO hX' hU hF; (replace hS := Sep.uRw (i := 2) rfl hU hO hF hS extA (by (exact Below.size extA))); (try simp only [List.set_cons_zero, List.set_cons_succ] at hS); (try have hR1 := hS.row (i := 1) rfl); (try have hR2 := hS.row (i := 2) rfl); (try have hR3 := hS.row (i := 3) rfl); (try have hC0 := hS.cell (i := 0) rfl); (try have hD0 := (cHp hC0).1); (try have hE0 := (cHp hC0).2.1)) | (first | apply WL.nil | refine WL.au (k := ?_)) | (first | apply Z.tn | apply Z.bkn) | apply W.region)
    rw [hol2, <- eat, <- e3] at hS
    exact Z.againO2 c2 cp2 a' cap' ⟨by omega, by assumption, by rw [e1]; exact hS.drop 1⟩ (by repeat' first | exact trivial | (refine And.intro ?_ ?_) | exact rfl | (rw [e1]; exact rfl) | (rw [e3, eat, <- hol2]; exact rfl) | (rw [e4]; exact rfl))
   ·have h0 : 0 <= x.1 := by omega
    have hgt := hg.gate hxn h0
    have hk1 := of_kid hg hy ⟨k, x, rfl, hxn, h0, .inl rfl⟩
    have hk2 := of_kid hg hy ⟨k, x, rfl, hxn, h0, .inr rfl⟩
    have hz1 := atA_get (P := OfP n l) (k := k) (u := (x.1 / 2).toNat) (by omega)
    have hz2 := atA_get (P := OfP n l) (k := k) (u := (x.2 / 2).toNat) (by omega)
    have hv1 := atv_even (OfP n l) hk1 (by omega)
    have hv2 := atv_even (OfP n l) hk2 (by omega)
    have e2 : nodeC n (OfP n l) k = (atL (OfP n l) x.1, atL (OfP n l) x.2) := by rw [nodeC, hxn]; exact if_neg hin
    rw [e2] at e1
    rw [e1] at hol2
    repeat' (first | (apply WL.gF; exact rfl; exact rfl; (focus (exact dFf (by omega)))) | (apply W.cKT; exact rfl; (focus (exact dTt (by omega)))) | (apply W.cKF; exact rfl; (focus (exact dFf (by omega)))) | (apply WL.build tOk; (iterate 7 exact rfl); kernel_rfl) | (apply QL.build tOk; (iterate 7 exact rfl); kernel_rfl) | (apply W.regionQS 17 tMix; kernel_rfl; exact rfl; kernel_rfl; kernel_rfl) | (apply WL.alloc tOk; (iterate 3 exact rfl); intro gb w' hb hge hx; replace hS := Sep.newCell (Sep.ext hS extA) hx hb hge (by (exact Below.size extA)); (try simp only [List.set_cons_zero, List.set_cons_succ] at hS); (try have hR1 := hS.row (i := 1) rfl); (try have hR2 := hS.row (i := 2) rfl); (try have hR3 := hS.row (i := 3) rfl); (try have hC0 := hS.cell (i := 0) rfl); (try have hD0 := (cHp hC0).1); (try have hE0 := (cHp hC0).2.1)) | (apply WL.storeB (w0 := w) tOk; (iterate 4 exact rfl); assumption; exact extA; (iterate 3 exact rfl); exact extA; ((focus (apply Nat.le_trans; rotate_left; assumption; exact Below.size extA; done))); intro w' hb hc hX' hU; have hcc := hc; obtain ⟨h1, h2, _⟩ := hc; replace hS := Sep.uCl (i := 0) rfl hU hb hS extA (by (exact Below.size extA)); (try simp only [List.set_cons_zero, List.set_cons_succ] at hS); (try have hR1 := hS.row (i := 1) rfl); (try have hR2 := hS.row (i := 2) rfl); (try have hR3 := hS.row (i := 3) rfl); (try have hC0 := hS.cell (i := 0) rfl); (try have hD0 := (cHp hC0).1); (try have hE0 := (cHp hC0).2.1)) | (apply QL.callS (f := 97); (iterate 4 exact rfl); exact ref08_lit _ _ (atA (OfP n l) k) x.1 _ _ (Own.row eIk (by assumption)) (by omega) (by omega) hz1 hv1) | (apply QL.callS (f := 97); (iterate 4 exact rfl); exact ref08_lit _ _ (atA (OfP n l) k) x.2 _ _ (Own.row eIk (by assumption)) (by omega) (by omega) hz2 hv2) | (apply WL.lit tOk; (iterate 6 exact rfl); kernel_rfl; exact rfl; intro gb w' hb hge hc hx) | (apply WL.ap1 (z := ((atL (OfP n l) x.1, atL (OfP n l) x.2))) tOk encN_ok; (iterate 10 exact rfl); assumption; exact extA; exact rfl; assumption; exact rfl; exact rfl; exact extA; omega; intro a' cap' w' hO hX' hU hF; (replace hS := Sep.uRw (i := 3) rfl hU hO hF hS extA (by (exact Below.size extA))); (try simp only [List.set_cons_zero, List.set_cons_succ] at hS); (try have hR1 := hS.row (i := 1) rfl); (try have hR2 := hS.row (i := 2) rfl); (try have hR3 := hS.row (i := 3) rfl); (try have hC0 := hS.cell (i := 0) rfl); (try have hD0 := (cHp hC0).1); (try have hE0 := (cHp hC0).2.1)) | (first | apply WL.nil | refine WL.au (k := ?_) | (apply WL.index tOk; (iterate 8 exact rfl); assumption; exact extA; exact rfl; omega; assumption; intro b off h; have hcc := h; first | (obtain ⟨h1, h2, h3, h4, h5, h6, _⟩ := h) | (obtain ⟨h1, h2, h3, _⟩ := h) | (obtain ⟨h1, h2, _⟩ := h) | (obtain ⟨h1, _⟩ := h))) | (first | apply QL.nil | refine QL.au (k := ?_) | (apply QL.index tOk; (iterate 8 exact rfl); assumption; exact extA; exact rfl; omega; assumption; intro b off h; have hcc := h; first | (obtain ⟨h1, h2, h3, h4, h5, h6, _⟩ := h) | (obtain ⟨h1, h2, h3, _⟩ := h) | (obtain ⟨h1, h2, _⟩ := h) | (obtain ⟨h1, _⟩ := h))) | (first | apply Z.tail | apply Z.tn) | (first | apply W.seq | apply W.region | apply W.block | apply W.skip))
    obtain ⟨c2, rfl⟩ : ∃ x, x = a' := ⟨_, rfl⟩; obtain ⟨cp2, rfl⟩ : ∃ x, x = cap' := ⟨_, rfl⟩
    repeat' (first | (apply WL.ap1 (z := (2 * (((outTo n (OfP n l) k ++ [(atL (OfP n l) x.1, atL (OfP n l) x.2)]).length : Nat) : Int))) tOk eIk; (iterate 10 exact rfl); assumption; exact extA; exact rfl; assumption; exact rfl; exact rfl; exact extA; omega; intro a' cap' w' hO hX' hU hF; (replace hS := Sep.uRw (i := 2) rfl hU hO hF hS extA (by (exact Below.size extA))); (try simp only [List.set_cons_zero, List.set_cons_succ] at hS); (try have hR1 := hS.row (i := 1) rfl); (try have hR2 := hS.row (i := 2) rfl); (try have hR3 := hS.row (i := 3) rfl); (try have hC0 := hS.cell (i := 0) rfl); (try have hD0 := (cHp hC0).1); (try have hE0 := (cHp hC0).2.1)) | (first | apply WL.nil | refine WL.au (k := ?_)) | (first | apply Z.tn | apply Z.bkn) | apply W.region)
    rw [hol2, <- eat, <- e3] at hS
    exact Z.againO2 c2 cp2 a' cap' ⟨by omega, by assumption, by rw [e1]; exact hS.drop 1⟩ (by repeat' first | exact trivial | (refine And.intro ?_ ?_) | exact rfl | (rw [e1]; exact rfl) | (rw [e3, eat, <- hol2]; exact rfl) | (rw [e4]; exact rfl))
  ·have e1 := outTo_no (n := n) hy
   have eat : (-1 : Int) = atv (OfP n l) (k + 1) := by rw [atv, if_neg (by omega), if_neg hy]
   have e3 := atA_succ (OfP n l) k
   have e4 := rnk_no hy
   rw [<- eat] at e3
   by_cases hend : rnk (OfP n l) k = (onL n l).length
   ·repeat' (first | (apply WL.gT; exact rfl; exact rfl; exact dTt (by omega)) | (apply W.cKT; exact rfl; exact dTt (by omega)) | (apply WL.lit tOk; (iterate 6 exact rfl); kernel_rfl; exact rfl; intro gb w' hb hge hc hx) | (apply WL.ap1 (z := ((-1 : Int))) tOk eIk; (iterate 10 exact rfl); assumption; exact extA; exact rfl; assumption; exact rfl; exact rfl; exact extA; omega; intro a' cap' w' hO hX' hU hF; (replace hS := Sep.uRw (i := 1) rfl hU hO hF hS extA (by (exact Below.size extA))); (try simp only [List.set_cons_zero, List.set_cons_succ] at hS); (try have hR0 := hS.row (i := 0) rfl); (try have hR1 := hS.row (i := 1) rfl); (try have hR2 := hS.row (i := 2) rfl)) | (first | apply WL.nil | refine WL.au (k := ?_) | (apply WL.gdF; exact rfl; exact rfl)) | (first | apply Z.tn | apply Z.tnx | apply Z.bkx) | (first | apply W.seq | apply W.region | apply W.block | apply W.skip | apply W.exit | (apply W.condT; exact rfl)))
    exact Z.againO2 c cp a' cap' ⟨by omega, by assumption, by rw [e1, e3]; exact hS⟩ (by repeat' first | exact trivial | (refine And.intro ?_ ?_) | exact rfl | (rw [e1]; exact rfl) | (rw [e3]; exact rfl) | (rw [e4]; exact rfl))
   ·obtain ⟨y, hof⟩ := getI (onL n l) (show rnk (OfP n l) k < _ by omega)
    have hny := of_beyond hy (by omega) hof
    repeat' (first | (apply WL.gF; exact rfl; exact rfl; (focus (exact dFf (by omega)))) | (apply W.cKT; exact rfl; (focus (exact dTt (by omega)))) | (apply WL.lit tOk; (iterate 6 exact rfl); kernel_rfl; exact rfl; intro gb w' hb hge hc hx) | (apply WL.ap1 (z := ((-1 : Int))) tOk eIk; (iterate 10 exact rfl); assumption; exact extA; exact rfl; assumption; exact rfl; exact rfl; exact extA; omega; intro a' cap' w' hO hX' hU hF; (replace hS := Sep.uRw (i := 1) rfl hU hO hF hS extA (by (exact Below.size extA))); (try simp only [List.set_cons_zero, List.set_cons_succ] at hS); (try have hR0 := hS.row (i := 0) rfl); (try have hR1 := hS.row (i := 1) rfl); (try have hR2 := hS.row (i := 2) rfl)) | (first | apply WL.nil | refine WL.au (k := ?_) | (apply WL.index tOk; (iterate 8 exact rfl); assumption; exact extA; exact rfl; omega; assumption; intro b off h; have hcc := h; first | (obtain ⟨h1, h2, h3, h4, h5, h6, _⟩ := h) | (obtain ⟨h1, h2, h3, _⟩ := h) | (obtain ⟨h1, h2, _⟩ := h) | (obtain ⟨h1, _⟩ := h))) | (first | apply Z.tn | apply Z.tnx | apply Z.bkx) | (first | apply W.seq | apply W.region | apply W.block | apply W.skip | apply W.exit))
    exact Z.againO2 c cp a' cap' ⟨by omega, by assumption, by rw [e1, e3]; exact hS⟩ (by repeat' first | exact trivial | (refine And.intro ?_ ?_) | exact rfl | (rw [e1]; exact rfl) | (rw [e3]; exact rfl) | (rw [e4]; exact rfl))
 ·repeat' (first | (apply W.cKF; exact rfl; exact dFf (by omega)) | (first | apply WL.nil | refine WL.au (k := ?_)) | (first | apply Z.tn | apply Z.tnx | apply Z.bkx) | (first | apply W.seq | apply W.region | apply W.ret | apply W.exit))
  obtain rfl : k = n.length := by omega
  rw [atA_at] at hR1 hal
  exact Z.body2 Tryz.results38 rfl rfl fun m => ⟨hx'.at m, c, cp, d, dp, by rw [atA_at], hR2.ext ((Ext.refl _).at m), hR1.ext ((Ext.refl _).at m)⟩

theorem rnk_mono {P : Nat -> Prop} {j k : Nat} (h : j <= k) : rnk P j <= rnk P k := by
 obtain ⟨r, h1, _⟩ := sel_split (P := P) (show j + 1 <= k + 1 by omega)
 rw [rnk, rnk, h1, List.length_append]; omega
open Classical in
noncomputable def fewTo (n : List (Int × Int)) (P : Nat -> Prop) (ins : List Bool) : Nat -> List Bool
 | 0 => []
 | k + 1 => match n[k]? with
  | some x => if x.1 < 0 /\ P (k + 1) then fewTo n P ins k ++ [ins.getD (cnt n k) false] else fewTo n P ins k
  | none => fewTo n P ins k
theorem fewTo_yes {n : List (Int × Int)} {P : Nat -> Prop} {ins : List Bool} {k : Nat} {x : Int × Int} (hx : n[k]? = some x) (h : x.1 < 0 /\ P (k + 1)) : fewTo n P ins (k + 1) = fewTo n P ins k ++ [ins.getD (cnt n k) false] := by rw [fewTo, hx]; exact if_pos h
theorem fewTo_no {n : List (Int × Int)} {P : Nat -> Prop} {ins : List Bool} {k : Nat} {x : Int × Int} (hx : n[k]? = some x) (h : ¬ (x.1 < 0 /\ P (k + 1))) : fewTo n P ins (k + 1) = fewTo n P ins k := by rw [fewTo, hx]; exact if_neg h
section cut
variable {n : List (Int × Int)} {P : Nat -> Prop}
theorem outTo_get (h0 : ¬ P 0) {k : Nat} (h : P (k + 1)) : ∀ {M}, k < M -> (outTo n P M)[rnk P k]? = some (nodeC n P k)
 | M + 1, hM => by
  by_cases hkM : k = M
  ·subst hkM
   rw [outTo_yes h, List.getElem?_append_right (by rw [outTo_len n h0]; exact Nat.le_refl _), outTo_len n h0, Nat.sub_self]; rfl
  ·have ih := outTo_get h0 h (show k < M by omega)
   by_cases hP : P (M + 1)
   ·rw [outTo_yes hP, List.getElem?_append_left (lGt ih)]; exact ih
   ·rw [outTo_no hP]; exact ih
theorem outTo_all (h0 : ¬ P 0) {i : Nat} {x : Int × Int} : ∀ {M}, (outTo n P M)[i]? = some x -> ∃ k, k < M /\ P (k + 1) /\ i = rnk P k /\ x = nodeC n P k
 | 0, h => by simp [outTo] at h
 | M + 1, h => by
  by_cases hP : P (M + 1)
  ·rw [outTo_yes hP] at h
   by_cases hi : i < (outTo n P M).length
   ·rw [List.getElem?_append_left hi] at h
    obtain ⟨k, h1, h2⟩ := outTo_all h0 h
    exact ⟨k, by omega, h2⟩
   ·rw [List.getElem?_append_right (by omega)] at h
    have hl := lGt h
    simp only [List.length_cons, List.length_nil] at hl
    have hi2 : i = (outTo n P M).length := by omega
    rw [hi2, Nat.sub_self] at h
    exact ⟨M, by omega, hP, by rw [hi2, outTo_len n h0], (Option.some.inj h).symm⟩
  ·rw [outTo_no hP] at h
   obtain ⟨k, h1, h2⟩ := outTo_all h0 h
   exact ⟨k, by omega, h2⟩
theorem atL_bound {l : Int} {k : Nat} (hl : 0 <= l) (hlk : l <= 2 * k + 1) (hc : (l / 2).toNat = 0 ∨ P (l / 2).toNat) : 0 <= atL P l /\ atL P l <= 2 * (rnk P k : Nat) + 1 /\ atL P l % 2 = l % 2 /\ (atL P l / 2).toNat = if (l / 2).toNat = 0 then 0 else rnk P (l / 2).toNat := by
 unfold atL atv
 by_cases h : (l / 2).toNat = 0
 ·rw [if_pos h, if_pos h]; omega
 ·have := rnk_mono (P := P) (show (l / 2).toNat <= k by omega)
  rw [if_neg h, if_pos (hc.resolve_left h), if_neg h]; omega
theorem node_gate (hk : ∀ v c, P v -> Kid n v c -> c = 0 ∨ P c) {k : Nat} {x : Int × Int} (hx : n[k]? = some x) (h : P (k + 1)) (h1 : 0 <= x.1) : nodeC n P k = (atL P x.1, atL P x.2) /\ ((x.1 / 2).toNat = 0 ∨ P (x.1 / 2).toNat) /\ ((x.2 / 2).toNat = 0 ∨ P (x.2 / 2).toNat) :=
 ⟨by rw [nodeC, hx]; exact if_neg (by omega), hk _ _ h ⟨k, x, rfl, hx, h1, .inl rfl⟩, hk _ _ h ⟨k, x, rfl, hx, h1, .inr rfl⟩⟩
theorem good_out (hg : GNt n) (h0 : ¬ P 0) (hk : ∀ v c, P v -> Kid n v c -> c = 0 ∨ P c) {M : Nat} (hM : M <= n.length) : GNt (outTo n P M) := by
 intro i y hy
 obtain ⟨k, h1, h2, rfl, rfl⟩ := outTo_all h0 hy
 obtain ⟨x, hx⟩ := getI n (show k < n.length by omega)
 by_cases hin : x.1 < 0
 ·have : nodeC n P k = (-1, 0) := by rw [nodeC, hx]; exact if_pos hin
  rw [this]; unfold badNode; omega
 ·have hgt := hg.gate hx (by omega)
  obtain ⟨e, c1, c2⟩ := node_gate hk hx h2 (by omega)
  have b1 := atL_bound (P := P) (k := k) (by omega) hgt.1 c1
  have b2 := atL_bound (P := P) (k := k) hgt.2.1 hgt.2.2 c2
  rw [e]; unfold badNode; omega
theorem few_cnt (hg : GNt n) (h0 : ¬ P 0) (hk : ∀ v c, P v -> Kid n v c -> c = 0 ∨ P c) (ins : List Bool) {M : Nat} (hM : M <= n.length) : ∀ k, k <= M -> cnt (outTo n P M) (rnk P k) = (fewTo n P ins k).length
 | 0, _ => by rw [rnk, sel_no h0]; rfl
 | k + 1, h => by
  have ih := few_cnt hg h0 hk ins hM k (by omega)
  obtain ⟨x, hx⟩ := getI n (show k < n.length by omega)
  by_cases hP : P (k + 1)
  ·have hget := outTo_get (n := n) h0 hP (show k < M by omega)
   rw [rnk_yes hP]
   by_cases hin : x.1 < 0
   ·have e : nodeC n P k = (-1, 0) := by rw [nodeC, hx]; exact if_pos hin
    rw [e] at hget
    rw [cnt_in hget (by decide), fewTo_yes hx ⟨hin, hP⟩, List.length_append, ih]; rfl
   ·have hgt := hg.gate hx (by omega)
    obtain ⟨e, c1, c2⟩ := node_gate hk hx hP (by omega)
    have b1 := atL_bound (P := P) (k := k) (by omega) hgt.1 c1
    rw [e] at hget
    rw [cnt_gate hget (by show ¬ atL P x.1 < 0; omega), fewTo_no hx (fun h => hin h.1), ih]
  ·rw [rnk_no hP, fewTo_no hx (fun h => hP h.2), ih]
theorem few_get {ins : List Bool} {k : Nat} {x : Int × Int} (hx : n[k]? = some x) (h : x.1 < 0 /\ P (k + 1)) : ∀ {M}, k < M -> (fewTo n P ins M)[(fewTo n P ins k).length]? = some (ins.getD (cnt n k) false)
 | M + 1, hM => by
  by_cases hkM : k = M
  ·subst hkM
   rw [fewTo_yes hx h, List.getElem?_append_right (Nat.le_refl _), Nat.sub_self]; rfl
  ·have ih := few_get (ins := ins) hx h (show k < M by omega)
   cases hy : n[M]? with
   | none => rw [fewTo, hy]; exact ih
   | some y =>
    by_cases hM' : y.1 < 0 /\ P (M + 1)
    ·rw [fewTo_yes hy hM', List.getElem?_append_left (lGt ih)]; exact ih
    ·rw [fewTo_no hy hM']; exact ih
theorem cut_val (hg : GNt n) (h0 : ¬ P 0) (hk : ∀ v c, P v -> Kid n v c -> c = 0 ∨ P c) (ins : List Bool) : ∀ v, v <= n.length -> P v -> (values (outTo n P n.length) (fewTo n P ins n.length)).getD (rnk P v) false = (values n ins).getD v false := by
 intro v
 induction v using Nat.strongRecOn with
 | _ v ih =>
  intro hv hP
  match v, ih, hv, hP with
  | 0, _, _, hP => exact absurd hP h0
  | k + 1, ih, hv, hP =>
   obtain ⟨x, hx⟩ := getI n (show k < n.length by omega)
   have hget := outTo_get (n := n) h0 hP (show k < n.length by omega)
   have hgo := good_out hg h0 hk (Nat.le_refl n.length)
   rw [rnk_yes hP]
   by_cases hin : x.1 < 0
   ·have e : nodeC n P k = (-1, 0) := by rw [nodeC, hx]; exact if_pos hin
    rw [e] at hget
    rw [values_in _ hget (by decide), few_cnt hg h0 hk ins (Nat.le_refl _) k (by omega), gDo (few_get hx ⟨hin, hP⟩ (show k < n.length by omega)), values_in ins hx hin]
   ·have hgt := hg.gate hx (by omega)
    obtain ⟨e, c1, c2⟩ := node_gate hk hx hP (by omega)
    have b1 := atL_bound (P := P) (k := k) (by omega) hgt.1 c1
    have b2 := atL_bound (P := P) (k := k) hgt.2.1 hgt.2.2 c2
    rw [e] at hget
    have hof : ∀ l : Int, 0 <= l -> l <= 2 * k + 1 -> ((l / 2).toNat = 0 ∨ P (l / 2).toNat) -> ofL (values (outTo n P n.length) (fewTo n P ins n.length)) (atL P l) = ofL (values n ins) l := by
     intro l hl0 hl1 hc
     have b := atL_bound (P := P) (k := k) hl0 hl1 hc
     unfold ofL
     rw [b.2.2.1, b.2.2.2]
     by_cases hz : (l / 2).toNat = 0
     ·rw [if_pos hz, hz, values_zero, values_zero]
     ·rw [if_neg hz, ih _ (by omega) (by omega) (hc.resolve_left hz)]
    rw [values_gate hgo _ hget (by show 0 <= atL P x.1; omega), values_gate hg ins hx (by omega), hof _ (by omega) hgt.1 c1, hof _ hgt.2.1 hgt.2.2 c2]
theorem cut_of (hg : GNt n) (h0 : ¬ P 0) (hk : ∀ v c, P v -> Kid n v c -> c = 0 ∨ P c) (ins : List Bool) {v : Nat} (hv : v <= n.length) (ha : 0 <= atv P v) : ofL (values (outTo n P n.length) (fewTo n P ins n.length)) (atv P v) = (values n ins).getD v false := by
 unfold atv at ha ⊢
 by_cases hv0 : v = 0
 ·rw [if_pos hv0, hv0, values_zero]
  unfold ofL
  rw [show ((0 : Int) / 2).toNat = 0 from rfl, values_zero]; rfl
 ·rw [if_neg hv0] at ha ⊢
  by_cases hP : P v
  ·rw [if_pos hP]
   unfold ofL
   rw [show (2 * ((rnk P v : Nat) : Int) / 2).toNat = rnk P v by omega, cut_val hg h0 hk ins v hv hP, decide_eq_false (by omega)]; simp
  ·rw [if_neg hP] at ha; omega
end cut
end Go.Proofs.YteidpnpbfagaeaaGreat
