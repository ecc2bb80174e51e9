/- Part 4 of what the claim UnrollPlays needs: lemmas and contracts, printed from longer texts. No conditions. -/
import Derived.Test.YteidpnpbfagaeaaGreatRows
import Derived.Lib.SmallJoins
import Derived.KernelRfl
import Derived.WalkKit
import Derived.ProofKit
import Derived.Deep.Quiet
import Derived.Deep.LoopGhost
import Derived.StillTail
import Derived.Test.YteidpnpbfagaeaaGreatProg
import Derived.OpenShut
import Derived.ShutString
import Derived.ChangeOld
import Derived.Deep.Slices
import Derived.SizedLaws
import Derived.Laws.StructEq
import Derived.Laws.Externs
import Derived.MapKept
import Derived.JoinedCond
import Derived.Test.YteidpnpbfagaeaaGreatUnrollPlaysP3
namespace Go.Proofs.YteidpnpbfagaeaaGreat
open Go Go.Lt Go.RowKit
set_option linter.unusedVariables false
set_option linter.unusedSimpArgs false
set_option maxRecDepth 20000

structure RM where
 gF : Nat
 gs : Nat
 d : Circ
 aN : Option Addr
 cN : Nat
 aA : Option Addr
 cA : Nat
structure RX where
 a : Option Addr
 cap : Nat
 ai : Option Addr
 ci : Nat
 is : List (RowV Int)
 av : Option Addr
 cv : Nat
 vs : List (RowV Int)
 as' : Option Addr
 cs : Nat
 ss : List (RowV Int)
 R : List Piece
noncomputable abbrev RM.vals (m : RM) (ai : Option Addr) (ni ci : Nat) (av : Option Addr) (nv cv : Nat) (as' : Option Addr) (ns cs : Nat) : List Value :=
 [.int .i64 m.d.max, rowVal m.d.ins, rowVal m.d.lat, rowVal m.d.outs, rowVal m.d.bads, rowVal m.d.cons, rowVal m.d.gates, rowVal m.d.syms, .string m.d.com,
  .pointer (some ⟨m.gs, 0, none⟩), .slice ai ni ci, .slice av nv cv, .slice as' ns cs, .slice m.aN (cNet m.d.t).1.length m.cN, .slice m.aA (cNet m.d.t).2.length m.cA]
noncomputable abbrev rvP (B : Nat) (m : RM) (N : List (Int × Int)) (a : Option Addr) (cap : Nat) (ai : Option Addr) (ci : Nat) (is : List (RowV Int)) (av : Option Addr) (cv : Nat) (vs : List (RowV Int)) (as' : Option Addr) (cs : Nat) (ss : List (RowV Int)) (R : List Piece) : List Piece :=
 rsN B m.gs a cap N ++ (pcell m.gF (m.vals ai is.length ci av vs.length cv as' ss.length cs).toArray 61 :: prow 1 encRow 22 B ai ci is :: prow 1 encRow 22 B av cv vs :: prow 1 encRow 22 B as' cs ss :: R)
structure RRows (m : RM) (is vs ss : List (RowV Int)) (w : World) : Prop where
 c : CAt w m.d
 n : Row 2 encN w m.aN (cNet m.d.t).1
 a : Row 1 encI w m.aA (cNet m.d.t).2
 ri : ∀ s ∈ is, Row 1 encI w s.1 s.2.2
 rv : ∀ s ∈ vs, Row 1 encI w s.1 s.2.2
 rs : ∀ s ∈ ss, Row 1 encI w s.1 s.2.2
structure RKn (w0 : World) (m : RM) (u : UnV) (is vs ss : List (RowV Int)) (R : List Piece) : Prop where
 hi : is.map (fun r => r.2.2) = u.ins
 hv : vs.map (fun r => r.2.2) = u.own
 hs : ss.map (fun r => r.2.2) = u.st
 sn : ∀ s ∈ ss, s.1 = none → s.2.1 = 0
 rows : Known w0 R (RRows m is vs ss)
structure RAtU (w0 w : World) (m : RM) (u : UnV) (x : RX) (rest : List Piece) : Prop where
 ext : Ext w0 w
 sep : Lt.Sep w0.heap.size w (rvP w0.heap.size m u.N x.a x.cap x.ai x.ci x.is x.av x.cv x.vs x.as' x.cs x.ss x.R ++ rest)
 kn : RKn w0 m u x.is x.vs x.ss x.R
section
variable {w0 w : World} {m : RM} {u : UnV} {x : RX} {rest : List Piece}
theorem RAtU.rows (h : RAtU w0 w m u x rest) : RRows m x.is x.vs x.ss w :=
 h.kn.rows.sep h.ext h.sep fun p hp => List.mem_append_left _ (List.mem_append_right _ (List.mem_cons_of_mem _ (List.mem_cons_of_mem _ (List.mem_cons_of_mem _ (List.mem_cons_of_mem _ hp)))))
theorem RAtU.up {w' : World} (h : RAtU w0 w m u x rest) (hx : Ext w w') : RAtU w0 w' m u x rest := ⟨h.ext.trans hx, h.sep.ext hx, h.kn⟩
theorem RAtU.lens (h : RAtU w0 w m u x rest) : x.is.length = u.ins.length ∧ x.vs.length = u.own.length ∧ x.ss.length = u.st.length := by
 have h1 := congrArg List.length h.kn.hi
 have h2 := congrArg List.length h.kn.hv
 have h3 := congrArg List.length h.kn.hs
 simp only [List.length_map] at h1 h2 h3
 exact ⟨h1, h2, h3⟩
theorem RAtU.cells (h : RAtU w0 w m u x rest) : Cells w m.gF 0 (m.vals x.ai x.is.length x.ci x.av x.vs.length x.cv x.as' x.ss.length x.cs) := by
 have h1 := cells_heap (h.sep.cell (i := 2) (gb := m.gF) (cs := (m.vals x.ai x.is.length x.ci x.av x.vs.length x.cv x.as' x.ss.length x.cs).toArray) (t := 61) rfl)
 simpa using h1
structure RC' (w : World) (m : RM) (ai : Option Addr) (ni ci : Nat) (av : Option Addr) (nv cv : Nat) (as' : Option Addr) (ns cs : Nat) : Prop where
 max : w.cell? ⟨m.gF, 0, none⟩ = some (.int .i64 m.d.max)
 ins : w.cell? ⟨m.gF, 0 + 1, none⟩ = some (rowVal m.d.ins)
 lat : w.cell? ⟨m.gF, 0 + 2, none⟩ = some (rowVal m.d.lat)
 bads : w.cell? ⟨m.gF, 0 + 4, none⟩ = some (rowVal m.d.bads)
 cons : w.cell? ⟨m.gF, 0 + 5, none⟩ = some (rowVal m.d.cons)
 store : w.cell? ⟨m.gF, 0 + 9, none⟩ = some (.pointer (some ⟨m.gs, 0, none⟩))
 is : w.cell? ⟨m.gF, 0 + 10, none⟩ = some (.slice ai ni ci)
 vs : w.cell? ⟨m.gF, 0 + 11, none⟩ = some (.slice av nv cv)
 ss : w.cell? ⟨m.gF, 0 + 12, none⟩ = some (.slice as' ns cs)
 net : w.cell? ⟨m.gF, 0 + 13, none⟩ = some (.slice m.aN (cNet m.d.t).1.length m.cN)
 at_ : w.cell? ⟨m.gF, 0 + 14, none⟩ = some (.slice m.aA (cNet m.d.t).2.length m.cA)
theorem RC'.of {ai av as' : Option Addr} {ni ci nv cv ns cs : Nat} (h : Cells w m.gF 0 (m.vals ai ni ci av nv cv as' ns cs)) : RC' w m ai ni ci av nv cv as' ns cs := by
 obtain ⟨h0, h1, h2, _, h4, h5, _, _, _, h9, h10, h11, h12, h13, h14, _⟩ := h
 exact ⟨h0, h1, h2, h4, h5, h9, h10, h11, h12, h13, h14⟩
theorem RAtU.irow (h : RAtU w0 w m u x rest) : Own 1 encRow 22 w0.heap.size w x.ai x.ci x.is := h.sep.row (i := 3) rfl
theorem RAtU.vrow (h : RAtU w0 w m u x rest) : Own 1 encRow 22 w0.heap.size w x.av x.cv x.vs := h.sep.row (i := 4) rfl
theorem RAtU.srow (h : RAtU w0 w m u x rest) : Own 1 encRow 22 w0.heap.size w x.as' x.cs x.ss := h.sep.row (i := 5) rfl
theorem ref19_of (a : Option Addr) (cap : Nat) (l : List Int) (i : Int) (w : World) (R : Row 1 encI w a l) :
  Still Tryz.prog 121 [.slice a l.length cap, .int .i64 i] w (.int .i64 (pickL l i)) := by
 refine Spec.of _ Tryz.func121 rfl Tryz.ntmps121 (by kernel_rfl) rfl ?_
 by_cases h : 0 ≤ i ∧ i < (l.length : Int)
 ·obtain ⟨z, hz⟩ := getI l (show i.toNat < l.length by omega)
  have e : pickL l i = z := by unfold pickL; rw [if_pos h, getD_of hz]
  rw [e]
  repeat' (first
   | (apply WL.gF; exact rfl; exact rfl; (focus (exact dec_false (by omega); done)))
   | (apply W.condKF; exact rfl; (focus (exact dec_false (by omega); done)))
   | (show WL _ _ _ _ _ _ _; first | apply WL.nil | (refine WL.au (k := ?_)) | (apply WL.index tOk; (iterate 8 exact rfl); assumption; (exact extA); exact rfl; omega; assumption; intro b off h; have hcc := h; first | (obtain ⟨h1, h2, h3, h4, h5, h6, _⟩ := h) | (obtain ⟨h1, h2, h3, _⟩ := h) | (obtain ⟨h1, h2, _⟩ := h) | (obtain ⟨h1, _⟩ := h)))
   | (show Z _ _ _ _ _; apply Z.then_normal)
   | (show W _ _ _ _ _ _; first | apply W.seq | apply W.region | apply W.skip | apply W.ret)
   | fail)
  exact Z.body1 Tryz.results121 rfl fun m => ⟨rfl, m, rfl⟩
 ·have e : pickL l i = -1 := by unfold pickL; rw [if_neg h]
  rw [e]
  by_cases h0 : i < 0
  ·repeat' (first
    | (apply WL.gT; exact rfl; exact rfl; (focus (exact dec_true (by omega))))
    | (show WL _ _ _ _ _ _ _; first | apply WL.nil | (refine WL.au (k := ?_)) | (apply WL.guardF; exact rfl; exact rfl))
    | (show Z _ _ _ _ _; first | apply Z.then_normal | apply Z.then_ret)
    | (show W _ _ _ _ _ _; first | apply W.seq | apply W.region | apply W.ret | (apply W.condT; exact rfl))
    | fail)
   exact Z.body1 Tryz.results121 rfl fun m => ⟨rfl, m, rfl⟩
  ·repeat' (first
    | (apply WL.gF; exact rfl; exact rfl; (focus (exact dec_false (by omega); done)))
    | (apply W.condKT; exact rfl; (focus (exact dec_true (by omega))))
    | (show WL _ _ _ _ _ _ _; first | apply WL.nil | (refine WL.au (k := ?_)))
    | (show Z _ _ _ _ _; first | apply Z.then_normal | apply Z.then_ret)
    | (show W _ _ _ _ _ _; first | apply W.seq | apply W.region | apply W.ret)
    | fail)
   exact Z.body1 Tryz.results121 rfl fun m => ⟨rfl, m, rfl⟩
theorem ref19_turned (l : Int) (b : Bool) (w : World) (h : l ≤ 9223372036854775807) : Still Tryz.prog 122 [.int .i64 l, .bool b] w (.int .i64 (if b then notL l else l)) := by
 refine Spec.of _ Tryz.func122 rfl Tryz.ntmps122 (by kernel_rfl) rfl ?_
 cases b
 ·repeat' (first
   | (show WL _ _ _ _ _ _ _; first | apply WL.nil | (refine WL.au (k := ?_)))
   | (show Z _ _ _ _ _; apply Z.then_normal)
   | (show W _ _ _ _ _ _; first | apply W.seq | apply W.region | apply W.skip | apply W.ret | (apply W.condF; exact rfl))
   | fail)
  exact Z.body1 Tryz.results122 rfl fun m => ⟨rfl, m, rfl⟩
 ·repeat' (first
   | ((show WL _ _ _ (⟨_, .call ⟨.value (.func 95), _, _⟩, _, _, _, _⟩ :: _) _ _ _); apply WL.callS; (iterate 4 exact rfl); exact rs_Not l _ h)
   | (show WL _ _ _ _ _ _ _; first | apply WL.nil | (refine WL.au (k := ?_)))
   | (show Z _ _ _ _ _; first | apply Z.then_normal | apply Z.then_ret)
   | (show W _ _ _ _ _ _; first | apply W.seq | apply W.region | apply W.ret | (apply W.condT; exact rfl))
   | fail)
  exact Z.body1 Tryz.results122 rfl fun m => ⟨rfl, m, rfl⟩
theorem row_in {rs : List (RowV Int)} {ls : List (List Int)} (h : rs.map (fun r => r.2.2) = ls) {k : Int} (hk : 0 ≤ k ∧ k < (ls.length : Int)) : ∃ s, rs[k.toNat]? = some s ∧ s.2.2 = rowU ls k := by
 have hl := congrArg List.length h
 simp only [List.length_map] at hl
 obtain ⟨s, hs⟩ := getI rs (show k.toNat < rs.length by omega)
 have h1 := map_get' h hs
 refine ⟨s, hs, ?_⟩
 unfold rowU; rw [if_pos hk, getD_of h1]
theorem r19_In (h : RAtU w0 w m u x rest) (k i : Int) : Still Tryz.prog 58 [.pointer (some ⟨m.gF, 0, none⟩), .int .i64 k, .int .i64 i] w (.int .i64 (u.inL k i)) := by
 obtain ⟨c0, c1, c2, c4, c5, c9, c10, c11, c12, c13, c14⟩ := RC'.of h.cells
 obtain ⟨l1, l2, l3⟩ := h.lens
 have RS' := Own.row encRow_ok h.irow
 refine Spec.of _ Tryz.func58 rfl Tryz.ntmps58 (by kernel_rfl) rfl ?_
 by_cases hk : 0 ≤ k ∧ k < (u.ins.length : Int)
 ·obtain ⟨s, hs, he⟩ := row_in h.kn.hi hk
  have R := h.rows.ri s (List.mem_of_getElem? hs)
  have hpk := ref19_of s.1 s.2.1 s.2.2 i w R
  have e : u.inL k i = pickL s.2.2 i := by unfold UnV.inL; rw [he]
  rw [e]
  repeat' (first
   | (apply WL.nilc; (iterate 3 exact rfl))
   | (apply WL.gF; exact rfl; exact rfl; (focus (exact dec_false (by omega); done)))
   | (apply W.condKF; exact rfl; (focus (exact dec_false (by omega); done)))
   | (((show WL _ _ _ (⟨_, .call ⟨.value (.func 121), _, _⟩, _, _, _, _⟩ :: _) _ _ _); apply WL.callS; (iterate 4 exact rfl); exact hpk))
   | (show WL _ _ _ _ _ _ _; first | apply WL.nil | (refine WL.au (k := ?_)) | (apply WL.index tOk; (iterate 8 exact rfl); assumption; (exact extA); exact rfl; omega; assumption; intro b off h; have hcc := h; first | (obtain ⟨h1, h2, h3, h4, h5, h6, _⟩ := h) | (obtain ⟨h1, h2, h3, _⟩ := h) | (obtain ⟨h1, h2, _⟩ := h) | (obtain ⟨h1, _⟩ := h)))
   | (show Z _ _ _ _ _; apply Z.then_normal)
   | (show W _ _ _ _ _ _; first | apply W.seq | apply W.region | apply W.skip | apply W.ret)
   | fail)
  exact Z.body1 Tryz.results58 rfl fun m => ⟨rfl, m, rfl⟩
 ·have e : u.inL k i = -1 := by unfold UnV.inL rowU pickL; rw [if_neg hk, if_neg (fun hh => by have h2 := hh.2; have h1 := hh.1; simp only [List.length_nil] at h2; omega)]
  rw [e]
  by_cases h0 : k < 0
  ·repeat' (first
    | (apply WL.gT; exact rfl; exact rfl; (focus (exact dec_true (by omega))))
    | (show WL _ _ _ _ _ _ _; first | apply WL.nil | (refine WL.au (k := ?_)) | (apply WL.guardF; exact rfl; exact rfl))
    | (show Z _ _ _ _ _; first | apply Z.then_normal | apply Z.then_ret)
    | (show W _ _ _ _ _ _; first | apply W.seq | apply W.region | apply W.ret | (apply W.condT; exact rfl))
    | fail)
   exact Z.body1 Tryz.results58 rfl fun m => ⟨rfl, m, rfl⟩
  ·repeat' (first
    | (apply WL.nilc; (iterate 3 exact rfl))
    | (apply WL.gF; exact rfl; exact rfl; (focus (exact dec_false (by omega); done)))
    | (apply W.condKT; exact rfl; (focus (exact dec_true (by omega))))
    | (show WL _ _ _ _ _ _ _; first | apply WL.nil | (refine WL.au (k := ?_)))
    | (show Z _ _ _ _ _; first | apply Z.then_normal | apply Z.then_ret)
    | (show W _ _ _ _ _ _; first | apply W.seq | apply W.region | apply W.ret)
    | fail)
   exact Z.body1 Tryz.results58 rfl fun m => ⟨rfl, m, rfl⟩
theorem r19_State (h : RAtU w0 w m u x rest) (k i : Int) : Still Tryz.prog 59 [.pointer (some ⟨m.gF, 0, none⟩), .int .i64 k, .int .i64 i] w (.int .i64 (u.state k i)) := by
 obtain ⟨c0, c1, c2, c4, c5, c9, c10, c11, c12, c13, c14⟩ := RC'.of h.cells
 obtain ⟨l1, l2, l3⟩ := h.lens
 have RS' := Own.row encRow_ok h.srow
 refine Spec.of _ Tryz.func59 rfl Tryz.ntmps59 (by kernel_rfl) rfl ?_
 by_cases hk : 0 ≤ k ∧ k < (u.st.length : Int)
 ·obtain ⟨s, hs, he⟩ := row_in h.kn.hs hk
  have R := h.rows.rs s (List.mem_of_getElem? hs)
  have hpk := ref19_of s.1 s.2.1 s.2.2 i w R
  have e : u.state k i = pickL s.2.2 i := by unfold UnV.state; rw [he]
  rw [e]
  repeat' (first
   | (apply WL.nilc; (iterate 3 exact rfl))
   | (apply WL.gF; exact rfl; exact rfl; (focus (exact dec_false (by omega); done)))
   | (apply W.condKF; exact rfl; (focus (exact dec_false (by omega); done)))
   | (((show WL _ _ _ (⟨_, .call ⟨.value (.func 121), _, _⟩, _, _, _, _⟩ :: _) _ _ _); apply WL.callS; (iterate 4 exact rfl); exact hpk))
   | (show WL _ _ _ _ _ _ _; first | apply WL.nil | (refine WL.au (k := ?_)) | (apply WL.index tOk; (iterate 8 exact rfl); assumption; (exact extA); exact rfl; omega; assumption; intro b off h; have hcc := h; first | (obtain ⟨h1, h2, h3, h4, h5, h6, _⟩ := h) | (obtain ⟨h1, h2, h3, _⟩ := h) | (obtain ⟨h1, h2, _⟩ := h) | (obtain ⟨h1, _⟩ := h)))
   | (show Z _ _ _ _ _; apply Z.then_normal)
   | (show W _ _ _ _ _ _; first | apply W.seq | apply W.region | apply W.skip | apply W.ret)
   | fail)
  exact Z.body1 Tryz.results59 rfl fun m => ⟨rfl, m, rfl⟩
 ·have e : u.state k i = -1 := by unfold UnV.state rowU pickL; rw [if_neg hk, if_neg (fun hh => by have h2 := hh.2; have h1 := hh.1; simp only [List.length_nil] at h2; omega)]
  rw [e]
  by_cases h0 : k < 0
  ·repeat' (first
    | (apply WL.gT; exact rfl; exact rfl; (focus (exact dec_true (by omega))))
    | (show WL _ _ _ _ _ _ _; first | apply WL.nil | (refine WL.au (k := ?_)) | (apply WL.guardF; exact rfl; exact rfl))
    | (show Z _ _ _ _ _; first | apply Z.then_normal | apply Z.then_ret)
    | (show W _ _ _ _ _ _; first | apply W.seq | apply W.region | apply W.ret | (apply W.condT; exact rfl))
    | fail)
   exact Z.body1 Tryz.results59 rfl fun m => ⟨rfl, m, rfl⟩
  ·repeat' (first
    | (apply WL.nilc; (iterate 3 exact rfl))
    | (apply WL.gF; exact rfl; exact rfl; (focus (exact dec_false (by omega); done)))
    | (apply W.condKT; exact rfl; (focus (exact dec_true (by omega))))
    | (show WL _ _ _ _ _ _ _; first | apply WL.nil | (refine WL.au (k := ?_)))
    | (show Z _ _ _ _ _; first | apply Z.then_normal | apply Z.then_ret)
    | (show W _ _ _ _ _ _; first | apply W.seq | apply W.region | apply W.ret)
    | fail)
   exact Z.body1 Tryz.results59 rfl fun m => ⟨rfl, m, rfl⟩
end
end Go.Proofs.YteidpnpbfagaeaaGreat
namespace Go.Lt
open Go.RowKit
set_option linter.unusedVariables false

theorem and1_any (a : Int) : IntKind.i64.wrap (BitVec.ofInt IntKind.i64.bits a &&& BitVec.ofInt IntKind.i64.bits 1).toNat = a % 2 := by
 show IntKind.i64.wrap (BitVec.ofInt 64 a &&& BitVec.ofInt 64 1).toNat = a % 2
 have h1 : (BitVec.ofInt 64 a &&& BitVec.ofInt 64 1).toNat = (BitVec.ofInt 64 a).toNat % 2 := by
  rw [BitVec.toNat_and, show (BitVec.ofInt 64 1).toNat = 1 from rfl, Nat.and_one_is_mod]
 have h2 : ((BitVec.ofInt 64 a).toNat : Int) = a % 18446744073709551616 := by
  rw [BitVec.toNat_ofInt]
  have : (0 : Int) ≤ a % ((2 ^ 64 : Nat) : Int) := Int.emod_nonneg _ (by decide)
  rw [Int.toNat_of_nonneg this]
  rfl
 rw [h1, IntWalk.i64_in _ (by omega)]
 omega
section rules
variable {P : Program} {N : Nat} {e : Env} {w : World} {Q : Exit → Act → World → Prop} {K : Act → World → Prop} {C : World → Prop} {ops : List Oper} {l : List Oper} {Kf : Act → Prop}
 {d : Nat} {tt t ty : TypeId} {ps : String} {af : Array Edge} {g : Option (Nat × Bool)} {x y : Operand} {a : Int}
theorem yandA {dd : Option Tmp} (hx : ev e x = some (.int .i64 a)) (hy : ev e y = some (.int .i64 1)) : Yields P e ⟨dd, .binOp .and t x y ty, tt, ps, af, g⟩ (.int .i64 (a % 2)) := by
 have := Yields.bin (P := P) (d := dd) (op := .and) (t := t) (ty := ty) (tt := tt) (ps := ps) (af := af) (g := g) hx hy (v := .int .i64 (IntKind.i64.wrap (BitVec.ofInt IntKind.i64.bits a &&& BitVec.ofInt IntKind.i64.bits 1).toNat)) rfl
 rwa [and1_any a] at this
theorem WL.andA (hg : gate ops e g = some true) (hd : Nat.blt d N = true) (hx : ev e x = some (.int .i64 a)) (hy : ev e y = some (.int .i64 1)) (k : WL P N ops.toArray l ((d, .int .i64 (a % 2)) :: e) w Q) : WL P N ops.toArray (⟨some d, .binOp .and t x y ty, tt, ps, af, g⟩ :: l) e w Q := WL.step hg hd (yandA hx hy).in k
theorem QL.andA (hg : gate ops e g = some true) (hd : Nat.blt d N = true) (hx : ev e x = some (.int .i64 a)) (hy : ev e y = some (.int .i64 1)) (k : QL P N C ops.toArray l ((d, .int .i64 (a % 2)) :: e) Q) : QL P N C ops.toArray (⟨some d, .binOp .and t x y ty, tt, ps, af, g⟩ :: l) e Q := QL.step hg hd (yandA hx hy).in k
theorem FL.andA (hg : gate ops e g = some true) (hd : Nat.blt d N = true) (hx : ev e x = some (.int .i64 a)) (hy : ev e y = some (.int .i64 1)) (k : FL P N ops.toArray C l ((d, .int .i64 (a % 2)) :: e) w Kf) : FL P N ops.toArray C (⟨some d, .binOp .and t x y ty, tt, ps, af, g⟩ :: l) e w Kf := FL.step hg hd (yandA hx hy).in k
end rules
end Go.Lt
namespace Go.Proofs.YteidpnpbfagaeaaGreat
open Go Go.Lt Go.RowKit
set_option linter.unusedVariables false
set_option linter.unusedSimpArgs false
set_option maxRecDepth 20000

theorem un_pick (a : Option Addr) (cap : Nat) (l : List Int) (i : Int) (w : World) (R : Row 1 encI w a l) :
  Still Tryz.prog 106 [.slice a l.length cap, .int .i64 i] w (.int .i64 (pickL l i)) := by
 refine Spec.of _ Tryz.func106 rfl Tryz.ntmps106 (by kernel_rfl) rfl ?_
 by_cases h : 0 ≤ i ∧ i < (l.length : Int)
 ·obtain ⟨z, hz⟩ := getI l (show i.toNat < l.length by omega)
  have e : pickL l i = z := by unfold pickL; rw [if_pos h, getD_of hz]
  rw [e]
  repeat' (first
   | (apply WL.gF; exact rfl; exact rfl; (focus (exact dec_false (by omega); done)))
   | (apply W.condKF; exact rfl; (focus (exact dec_false (by omega); done)))
   | (show WL _ _ _ _ _ _ _; first | apply WL.nil | (refine WL.au (k := ?_)) | (apply WL.index tOk; (iterate 8 exact rfl); assumption; (exact extA); exact rfl; omega; assumption; intro b off h; have hcc := h; first | (obtain ⟨h1, h2, h3, h4, h5, h6, _⟩ := h) | (obtain ⟨h1, h2, h3, _⟩ := h) | (obtain ⟨h1, h2, _⟩ := h) | (obtain ⟨h1, _⟩ := h)))
   | (show Z _ _ _ _ _; apply Z.then_normal)
   | (show W _ _ _ _ _ _; first | apply W.seq | apply W.region | apply W.skip | apply W.ret)
   | fail)
  exact Z.body1 Tryz.results106 rfl fun m => ⟨rfl, m, rfl⟩
 ·have e : pickL l i = -1 := by unfold pickL; rw [if_neg h]
  rw [e]
  by_cases h0 : i < 0
  ·repeat' (first
    | (apply WL.gT; exact rfl; exact rfl; (focus (exact dec_true (by omega))))
    | (show WL _ _ _ _ _ _ _; first | apply WL.nil | (refine WL.au (k := ?_)) | (apply WL.guardF; exact rfl; exact rfl))
    | (show Z _ _ _ _ _; first | apply Z.then_normal | apply Z.then_ret)
    | (show W _ _ _ _ _ _; first | apply W.seq | apply W.region | apply W.ret | (apply W.condT; exact rfl))
    | fail)
   exact Z.body1 Tryz.results106 rfl fun m => ⟨rfl, m, rfl⟩
  ·repeat' (first
    | (apply WL.gF; exact rfl; exact rfl; (focus (exact dec_false (by omega); done)))
    | (apply W.condKT; exact rfl; (focus (exact dec_true (by omega))))
    | (show WL _ _ _ _ _ _ _; first | apply WL.nil | (refine WL.au (k := ?_)))
    | (show Z _ _ _ _ _; first | apply Z.then_normal | apply Z.then_ret)
    | (show W _ _ _ _ _ _; first | apply W.seq | apply W.region | apply W.ret)
    | fail)
   exact Z.body1 Tryz.results106 rfl fun m => ⟨rfl, m, rfl⟩
theorem cell_pick {w : World} {b off : Nat} {p : Int × Int} {l : Int} (h1 : w.cell? ⟨b, off, none⟩ = some (.int .i64 p.1)) (h2 : w.cell? ⟨b, off + 1, none⟩ = some (.int .i64 p.2)) : w.cell? ⟨b, off + (l % 2).toNat * 1, none⟩ = some (.int .i64 (pickS p l)) := by
 unfold pickS
 rcases (show l % 2 = 0 ∨ l % 2 = 1 by omega) with k | k
 ·rw [k, if_neg (by decide)]; exact h1
 ·rw [k, if_pos rfl]; exact h2
theorem un_lit (c : CirT) (hg : GoodC' c) (av : Option Addr) (cv : Nat) (vi : Value) (hvi : vi.oneCell' = true) (own : List Int) (l : Int) (w : World) (R : Row 2 encN w av (signsL c own)) (hl9 : l ≤ 9223372036854775807) :
  Pure Tryz.prog 104 [.agg #[.slice av (signsL c own).length cv, vi], .int .i64 l] w (.int .i64 (uLit c own l)) := by
 have ha := at_len hg
 have hm := hg.max
 have hsl := signsL_len c own
 refine Spec.of _ Tryz.func104 rfl Tryz.ntmps104 (by kernel_rfl) rfl ?_
 by_cases h : 0 ≤ l ∧ l ≤ 2 * c.max + 1
 ·obtain ⟨z, hz⟩ := getI (cNet c).2 (show (l / 2).toNat < (cNet c).2.length by omega)
  have hzs : (signsL c own)[(l / 2).toNat]? = some (signs own z) := by unfold signsL; rw [List.getElem?_map, hz]; rfl
  have e : uLit c own l = pickS (signs own z) l := by unfold uLit; rw [if_pos h, getD_of hz]
  rw [e]
  repeat' (first
   | (apply WL.box; (iterate 3 exact rfl); intro gb w' hb hge hc hx; have hcc := hc; ((obtain ⟨h1, h2, h3, _⟩ := hc)))
   | (apply WL.and1; (iterate 4 exact rfl); omega)
   | (apply WL.gF; exact rfl; exact rfl; (focus (exact dec_false (by omega); done)))
   | (apply W.condKF; exact rfl; (focus (exact dec_false (by omega); done)))
   | ((apply WL.indexA tOk; (iterate 8 exact rfl); omega))
   | ((apply WL.load tOk; (iterate 5 exact rfl); exact cell_pick (by assumption) (by assumption)))
   | (show WL _ _ _ _ _ _ _; first | apply WL.nil | (refine WL.au (k := ?_)) | (apply WL.index tOk; (iterate 8 exact rfl); assumption; (exact extA); exact rfl; omega; assumption; intro b off h; have hcc := h; first | (obtain ⟨h1, h2, h3, h4, h5, h6, _⟩ := h) | (obtain ⟨h1, h2, h3, _⟩ := h) | (obtain ⟨h1, h2, _⟩ := h) | (obtain ⟨h1, _⟩ := h)))
   | (show Z _ _ _ _ _; apply Z.then_normal)
   | (show W _ _ _ _ _ _; first | apply W.seq | apply W.region | apply W.skip | apply W.ret)
   | fail)
  exact Z.body1 Tryz.results104 rfl fun m => ⟨rfl, Ext.at (by assumption) m⟩
 ·have e : uLit c own l = -1 := by unfold uLit; rw [if_neg h]
  rw [e]
  by_cases h0 : l < 0
  ·repeat' (first
    | (apply WL.box; (iterate 3 exact rfl); intro gb w' hb hge hc hx; have hcc := hc; ((obtain ⟨h1, h2, h3, _⟩ := hc)))
    | (apply WL.gT; exact rfl; exact rfl; (focus (exact dec_true (by omega))))
    | (show WL _ _ _ _ _ _ _; first | apply WL.nil | (refine WL.au (k := ?_)) | (apply WL.guardF; exact rfl; exact rfl))
    | (show Z _ _ _ _ _; first | apply Z.then_normal | apply Z.then_ret)
    | (show W _ _ _ _ _ _; first | apply W.seq | apply W.region | apply W.ret | (apply W.condT; exact rfl))
    | fail)
   exact Z.body1 Tryz.results104 rfl fun m => ⟨rfl, Ext.at (by assumption) m⟩
  ·repeat' (first
    | (apply WL.box; (iterate 3 exact rfl); intro gb w' hb hge hc hx; have hcc := hc; ((obtain ⟨h1, h2, h3, _⟩ := hc)))
    | (apply WL.gF; exact rfl; exact rfl; (focus (exact dec_false (by omega); done)))
    | (apply W.condKT; exact rfl; (focus (exact dec_true (by omega))))
    | (show WL _ _ _ _ _ _ _; first | apply WL.nil | (refine WL.au (k := ?_)))
    | (show Z _ _ _ _ _; first | apply Z.then_normal | apply Z.then_ret)
    | (show W _ _ _ _ _ _; first | apply W.seq | apply W.region | apply W.ret)
    | fail)
   exact Z.body1 Tryz.results104 rfl fun m => ⟨rfl, Ext.at (by assumption) m⟩
section
variable {w0 w : World} {m : UM} {u : UnV} {x : UX} {rest : List Piece}
structure UC (w : World) (m : UM) (af : Option Addr) (nf cf : Nat) (as' : Option Addr) (ns cs : Nat) : Prop where
 ins : w.cell? ⟨m.gf, 0 + 1, none⟩ = some (rowVal m.d.ins)
 lat : w.cell? ⟨m.gf, 0 + 2, none⟩ = some (rowVal m.d.lat)
 bads : w.cell? ⟨m.gf, 0 + 4, none⟩ = some (rowVal m.d.bads)
 cons : w.cell? ⟨m.gf, 0 + 5, none⟩ = some (rowVal m.d.cons)
 gates : w.cell? ⟨m.gf, 0 + 6, none⟩ = some (rowVal m.d.gates)
 net : w.cell? ⟨m.gf, 0 + 9, none⟩ = some (.slice m.aN (cNet m.d.t).1.length m.cN)
 at_ : w.cell? ⟨m.gf, 0 + 10, none⟩ = some (.slice m.aA (cNet m.d.t).2.length m.cA)
 store : w.cell? ⟨m.gf, 0 + 11, none⟩ = some (.pointer (some ⟨m.gs, 0, none⟩))
 frames : w.cell? ⟨m.gf, 0 + 12, none⟩ = some (.slice af nf cf)
 states : w.cell? ⟨m.gf, 0 + 13, none⟩ = some (.slice as' ns cs)
theorem UC.of {af as' : Option Addr} {nf cf ns cs : Nat} (h : Cells w m.gf 0 (m.vals af nf cf as' ns cs)) : UC w m af nf cf as' ns cs := by
 obtain ⟨_, h1, h2, _, h4, h5, h6, _, _, h9, h10, h11, h12, h13, _⟩ := h
 exact ⟨h1, h2, h4, h5, h6, h9, h10, h11, h12, h13⟩
theorem UC.ext {w' : World} {af as' : Option Addr} {nf cf ns cs : Nat} (h : UC w m af nf cf as' ns cs) (hx : Ext w w') : UC w' m af nf cf as' ns cs :=
 ⟨hx.cell h.1, hx.cell h.2, hx.cell h.3, hx.cell h.4, hx.cell h.5, hx.cell h.6, hx.cell h.7, hx.cell h.8, hx.cell h.9, hx.cell h.10⟩
theorem un_Len (h : UAt w0 w m u x rest) : Still Tryz.prog 21 [.pointer (some ⟨m.gf, 0, none⟩)] w (.int .i64 u.own.length) := by
 obtain ⟨c1, c2, c4, c5, c6, c9, c10, c11, c12, c13⟩ := UC.of h.cells
 rw [← h.lf.1]
 refine Spec.of _ Tryz.func21 rfl Tryz.ntmps21 (by kernel_rfl) rfl ?_
 repeat' (first
  | (apply WL.nilc; (iterate 3 exact rfl))
  | (apply WL.eqNilS tOk; (iterate 6 exact rfl))
  | (show WL _ _ _ _ _ _ _; first | apply WL.nil | (refine WL.au (k := ?_)))
  | (show Z _ _ _ _ _; apply Z.then_normal)
  | (show W _ _ _ _ _ _; first | apply W.seq | apply W.region | apply W.skip | apply W.ret | (apply W.condF; exact rfl))
  | fail)
 exact Z.body1 Tryz.results21 rfl fun m => ⟨rfl, m, rfl⟩
theorem un_frame (h : UAt w0 w m u x rest) {k : Int} {f : Fr} (h0 : 0 ≤ k) (hf : x.fr[k.toNat]? = some f) : Pure Tryz.prog 120 [.pointer (some ⟨m.gf, 0, none⟩), .int .i64 k] w (.agg #[rowVal f.1, rowVal f.2]) := by
 obtain ⟨c1, c2, c4, c5, c6, c9, c10, c11, c12, c13⟩ := UC.of h.cells
 have hl := h.lf.1
 have hlt := lt_of_get hf
 have RF := Own.row encUF_ok h.frow
 refine Spec.of _ Tryz.func120 rfl Tryz.ntmps120 (by kernel_rfl) rfl ?_
 repeat' (first
  | (apply WL.nilc; (iterate 3 exact rfl))
  | (apply WL.alloc tOk; (iterate 3 exact rfl); intro gb w' hb hge hx)
  | (apply WL.storeB (w0 := w) tOk; (iterate 4 exact rfl); assumption; (exact extA); (iterate 3 exact rfl); (exact extA); (assumption); intro w' hb hc hX' hU; have hcc := hc; obtain ⟨h1, h2, _⟩ := hc)
  | ((show WL _ _ _ (⟨_, .call ⟨.value (.func 21), _, _⟩, _, _, _, _⟩ :: _) _ _ _); apply WL.callS; (iterate 4 exact rfl); exact un_Len (h.up extA))
  | (apply WL.gF; exact rfl; exact rfl; (focus (exact dec_false (by omega); done)))
  | (apply W.condKF; exact rfl; (focus (exact dec_false (by omega); done)))
  | (show WL _ _ _ _ _ _ _; first | apply WL.nil | (refine WL.au (k := ?_)) | (apply WL.index tOk; (iterate 8 exact rfl); assumption; (exact extA); exact rfl; omega; assumption; intro b off h; have hcc := h; first | (obtain ⟨h1, h2, h3, h4, h5, h6, _⟩ := h) | (obtain ⟨h1, h2, h3, _⟩ := h) | (obtain ⟨h1, h2, _⟩ := h) | (obtain ⟨h1, _⟩ := h)))
  | (show Z _ _ _ _ _; apply Z.then_normal)
  | (show W _ _ _ _ _ _; first | apply W.seq | apply W.region | apply W.skip | apply W.ret)
  | fail)
 exact Z.bodyC tOk Tryz.results120 rfl rfl rfl rfl hcc fun m => ⟨rfl, Ext.at extA m⟩
theorem un_frameN (h : UAt w0 w m u x rest) {k : Int} (hk : ¬ (0 ≤ k ∧ k < (u.own.length : Int))) : Pure Tryz.prog 120 [.pointer (some ⟨m.gf, 0, none⟩), .int .i64 k] w (.agg #[.slice none 0 0, .slice none 0 0]) := by
 refine Spec.of _ Tryz.func120 rfl Tryz.ntmps120 (by kernel_rfl) rfl ?_
 by_cases h0 : k < 0
 ·repeat' (first
   | (apply WL.build tOk; (iterate 7 exact rfl); kernel_rfl)
   | (apply WL.alloc tOk; (iterate 3 exact rfl); intro gb w' hb hge hx)
   | (apply WL.storeB (w0 := w) tOk; (iterate 4 exact rfl); assumption; (exact extA); (iterate 3 exact rfl); (exact extA); (assumption); intro w' hb hc hX' hU; have hcc := hc; obtain ⟨h1, h2, _⟩ := hc)
   | (apply WL.gT; exact rfl; exact rfl; (focus (exact dec_true (by omega))))
   | (show WL _ _ _ _ _ _ _; first | apply WL.nil | (refine WL.au (k := ?_)) | (apply WL.guardF; exact rfl; exact rfl))
   | (show Z _ _ _ _ _; first | apply Z.then_normal | apply Z.then_ret)
   | (show W _ _ _ _ _ _; first | apply W.seq | apply W.region | apply W.ret | (apply W.condT; exact rfl))
   | fail)
  exact Z.bodyC tOk Tryz.results120 rfl rfl rfl rfl hcc fun m => ⟨rfl, Ext.at extA m⟩
 ·repeat' (first
   | (apply WL.build tOk; (iterate 7 exact rfl); kernel_rfl)
   | (apply WL.alloc tOk; (iterate 3 exact rfl); intro gb w' hb hge hx)
   | (apply WL.storeB (w0 := w) tOk; (iterate 4 exact rfl); assumption; (exact extA); (iterate 3 exact rfl); (exact extA); (assumption); intro w' hb hc hX' hU; have hcc := hc; obtain ⟨h1, h2, _⟩ := hc)
   | ((show WL _ _ _ (⟨_, .call ⟨.value (.func 21), _, _⟩, _, _, _, _⟩ :: _) _ _ _); apply WL.callS; (iterate 4 exact rfl); exact un_Len (h.up extA))
   | (apply WL.gF; exact rfl; exact rfl; (focus (exact dec_false (by omega); done)))
   | (apply W.condKT; exact rfl; (focus (exact dec_true (by omega))))
   | (show WL _ _ _ _ _ _ _; first | apply WL.nil | (refine WL.au (k := ?_)))
   | (show Z _ _ _ _ _; first | apply Z.then_normal | apply Z.then_ret)
   | (show W _ _ _ _ _ _; first | apply W.seq | apply W.region | apply W.ret)
   | fail)
  exact Z.bodyC tOk Tryz.results120 rfl rfl rfl rfl hcc fun m => ⟨rfl, Ext.at extA m⟩
theorem un_state (h : UAt w0 w m u x rest) {k : Int} {s : RowV Int} (h0 : 0 ≤ k) (hs : x.st[k.toNat]? = some s) : Still Tryz.prog 105 [.pointer (some ⟨m.gf, 0, none⟩), .int .i64 k] w (.tuple #[rowVal s, .bool true]) := by
 obtain ⟨c1, c2, c4, c5, c6, c9, c10, c11, c12, c13⟩ := UC.of h.cells
 have hlt := lt_of_get hs
 have RS' := Own.row encRow_ok h.srow
 refine Spec.of _ Tryz.func105 rfl Tryz.ntmps105 (by kernel_rfl) rfl ?_
 repeat' (first
  | (apply WL.nilc; (iterate 3 exact rfl))
  | (apply WL.eqNilS tOk; (iterate 6 exact rfl))
  | (apply WL.gF; exact rfl; exact rfl; (focus (exact dec_false (by omega); done)))
  | (apply W.condKF; exact rfl; (focus (exact dec_false (by omega); done)))
  | (show WL _ _ _ _ _ _ _; first | apply WL.nil | (refine WL.au (k := ?_)) | (apply WL.index tOk; (iterate 8 exact rfl); assumption; (exact extA); exact rfl; omega; assumption; intro b off h; have hcc := h; first | (obtain ⟨h1, h2, h3, h4, h5, h6, _⟩ := h) | (obtain ⟨h1, h2, h3, _⟩ := h) | (obtain ⟨h1, h2, _⟩ := h) | (obtain ⟨h1, _⟩ := h)))
  | (show Z _ _ _ _ _; apply Z.then_normal)
  | (show W _ _ _ _ _ _; first | apply W.seq | apply W.region | apply W.skip | apply W.ret)
  | fail)
 exact Z.body2 Tryz.results105 rfl rfl fun m => ⟨rfl, m, rfl⟩
theorem un_stateN (h : UAt w0 w m u x rest) {k : Int} (hk : ¬ (0 ≤ k ∧ k < (u.st.length : Int))) : Still Tryz.prog 105 [.pointer (some ⟨m.gf, 0, none⟩), .int .i64 k] w (.tuple #[.slice none 0 0, .bool false]) := by
 obtain ⟨c1, c2, c4, c5, c6, c9, c10, c11, c12, c13⟩ := UC.of h.cells
 have hl := h.lf.2.2
 refine Spec.of _ Tryz.func105 rfl Tryz.ntmps105 (by kernel_rfl) rfl ?_
 by_cases h0 : k < 0
 ·repeat' (first
   | (apply WL.eqNilS tOk; (iterate 6 exact rfl))
   | (apply WL.gT; exact rfl; exact rfl; (focus (exact dec_true (by omega))))
   | (show WL _ _ _ _ _ _ _; first | apply WL.nil | (refine WL.au (k := ?_)) | (apply WL.guardF; exact rfl; exact rfl))
   | (show Z _ _ _ _ _; first | apply Z.then_normal | apply Z.then_ret)
   | (show W _ _ _ _ _ _; first | apply W.seq | apply W.region | apply W.ret | (apply W.condT; exact rfl))
   | fail)
  exact Z.body2 Tryz.results105 rfl rfl fun m => ⟨rfl, m, rfl⟩
 ·repeat' (first
   | (apply WL.nilc; (iterate 3 exact rfl))
   | (apply WL.eqNilS tOk; (iterate 6 exact rfl))
   | (apply WL.gF; exact rfl; exact rfl; (focus (exact dec_false (by omega); done)))
   | (apply W.condKT; exact rfl; (focus (exact dec_true (by omega))))
   | (show WL _ _ _ _ _ _ _; first | apply WL.nil | (refine WL.au (k := ?_)))
   | (show Z _ _ _ _ _; first | apply Z.then_normal | apply Z.then_ret)
   | (show W _ _ _ _ _ _; first | apply W.seq | apply W.region | apply W.ret)
   | fail)
  exact Z.body2 Tryz.results105 rfl rfl fun m => ⟨rfl, m, rfl⟩
theorem un_State (h : UAt w0 w m u x rest) (k i : Int) : Still Tryz.prog 45 [.pointer (some ⟨m.gf, 0, none⟩), .int .i64 k, .int .i64 i] w (.int .i64 (u.state k i)) := by
 refine Spec.of _ Tryz.func45 rfl Tryz.ntmps45 (by kernel_rfl) rfl ?_
 by_cases hk : 0 ≤ k ∧ k < (u.st.length : Int)
 ·obtain ⟨s, hs, he, R⟩ := h.state (show k.toNat < u.st.length by omega)
  have e : ((k.toNat : Nat) : Int) = k := by omega
  rw [e] at he R
  have hst := un_state h hk.1 hs
  have hpk := un_pick s.1 s.2.1 _ i w R
  rw [show (rowU u.st k).length = s.2.2.length by rw [he]] at hpk
  repeat' (first
   | (apply WL.callS; (iterate 4 exact rfl); exact hst)
   | (((show WL _ _ _ (⟨_, .call ⟨.value (.func 106), _, _⟩, _, _, _, _⟩ :: _) _ _ _); apply WL.callS; (iterate 4 exact rfl); exact hpk))
   | (show WL _ _ _ _ _ _ _; first | apply WL.nil | (refine WL.au (k := ?_)))
   | (show Z _ _ _ _ _; apply Z.then_normal)
   | (show W _ _ _ _ _ _; first | apply W.seq | apply W.region | apply W.ret)
   | fail)
  exact Z.body1 Tryz.results45 rfl fun m => ⟨rfl, m, rfl⟩
 ·have hst := un_stateN h hk
  have hpk := un_pick none 0 [] i w (Row.nil _ _ _ _)
  have e : u.state k i = pickL [] i := by unfold UnV.state rowU; rw [if_neg hk]
  rw [e]
  repeat' (first
   | (((show WL _ _ _ (⟨_, .call ⟨.value (.func 105), _, _⟩, _, _, _, _⟩ :: _) _ _ _); apply WL.callS; (iterate 4 exact rfl); exact hst))
   | (((show WL _ _ _ (⟨_, .call ⟨.value (.func 106), _, _⟩, _, _, _, _⟩ :: _) _ _ _); apply WL.callS; (iterate 4 exact rfl); exact hpk))
   | (show WL _ _ _ _ _ _ _; first | apply WL.nil | (refine WL.au (k := ?_)))
   | (show Z _ _ _ _ _; apply Z.then_normal)
   | (show W _ _ _ _ _ _; first | apply W.seq | apply W.region | apply W.ret)
   | fail)
  exact Z.body1 Tryz.results45 rfl fun m => ⟨rfl, m, rfl⟩
theorem un_In (h : UAt w0 w m u x rest) (k i : Int) : Pure Tryz.prog 57 [.pointer (some ⟨m.gf, 0, none⟩), .int .i64 k, .int .i64 i] w (.int .i64 (u.inL k i)) := by
 refine Spec.of _ Tryz.func57 rfl Tryz.ntmps57 (by kernel_rfl) rfl ?_
 have hl := h.lf
 by_cases hk : 0 ≤ k ∧ k < (u.own.length : Int)
 ·obtain ⟨f, hf, _, he, _, R⟩ := h.frame (show k.toNat < u.own.length by omega)
  have e : ((k.toNat : Nat) : Int) = k := by omega
  rw [e] at he R
  have hst := un_frame h hk.1 hf
  have hpk := fun (w9 : World) (h9 : Ext w w9) => un_pick f.2.1 f.2.2.1 _ i w9 (R.ext h9)
  rw [show (rowU u.ins k).length = f.2.2.2.length by rw [he]] at hpk
  repeat' (first
   | (((show WL _ _ _ (⟨_, .call ⟨.value (.func 120), _, _⟩, _, _, _, _⟩ :: _) _ _ _); apply WL.callP; (iterate 4 exact rfl); exact hst; intro w' hx))
   | (((show WL _ _ _ (⟨_, .call ⟨.value (.func 106), _, _⟩, _, _, _, _⟩ :: _) _ _ _); apply WL.callS; (iterate 4 exact rfl); exact hpk _ hx))
   | (show WL _ _ _ _ _ _ _; first | apply WL.nil | (refine WL.au (k := ?_)))
   | (show Z _ _ _ _ _; apply Z.then_normal)
   | (show W _ _ _ _ _ _; first | apply W.seq | apply W.region | apply W.ret)
   | fail)
  exact Z.body1 Tryz.results57 rfl fun m => ⟨rfl, hx.at m⟩
 ·have hst := un_frameN h hk
  have hpk := fun (w9 : World) => un_pick none 0 [] i w9 (Row.nil _ _ _ _)
  have e : u.inL k i = pickL [] i := by unfold UnV.inL rowU; rw [if_neg (by omega)]
  rw [e]
  repeat' (first
   | (((show WL _ _ _ (⟨_, .call ⟨.value (.func 120), _, _⟩, _, _, _, _⟩ :: _) _ _ _); apply WL.callP; (iterate 4 exact rfl); exact hst; intro w' hx))
   | (((show WL _ _ _ (⟨_, .call ⟨.value (.func 106), _, _⟩, _, _, _, _⟩ :: _) _ _ _); apply WL.callS; (iterate 4 exact rfl); exact hpk _))
   | (show WL _ _ _ _ _ _ _; first | apply WL.nil | (refine WL.au (k := ?_)))
   | (show Z _ _ _ _ _; apply Z.then_normal)
   | (show W _ _ _ _ _ _; first | apply W.seq | apply W.region | apply W.ret)
   | fail)
  exact Z.body1 Tryz.results57 rfl fun m => ⟨rfl, hx.at m⟩
theorem un_litN (l : Int) (w : World) (hl9 : l ≤ 9223372036854775807) : Pure Tryz.prog 104 [.agg #[.slice none 0 0, .slice none 0 0], .int .i64 l] w (.int .i64 (-1)) := by
 refine Spec.of _ Tryz.func104 rfl Tryz.ntmps104 (by kernel_rfl) rfl ?_
 by_cases h0 : l < 0
 ·repeat' (first
   | (apply WL.box; (iterate 3 exact rfl); intro gb w' hb hge hc hx; have hcc := hc; ((obtain ⟨h1, h2, h3, _⟩ := hc)))
   | (apply WL.gT; exact rfl; exact rfl; (focus (exact dec_true (by omega))))
   | (show WL _ _ _ _ _ _ _; first | apply WL.nil | (refine WL.au (k := ?_)) | (apply WL.guardF; exact rfl; exact rfl))
   | (show Z _ _ _ _ _; first | apply Z.then_normal | apply Z.then_ret)
   | (show W _ _ _ _ _ _; first | apply W.seq | apply W.region | apply W.ret | (apply W.condT; exact rfl))
   | fail)
  exact Z.body1 Tryz.results104 rfl fun m => ⟨rfl, Ext.at (by assumption) m⟩
 ·repeat' (first
   | (apply WL.box; (iterate 3 exact rfl); intro gb w' hb hge hc hx; have hcc := hc; ((obtain ⟨h1, h2, h3, _⟩ := hc)))
   | (apply WL.gF; exact rfl; exact rfl; (focus (exact dec_false (by omega); done)))
   | (apply W.condKT; exact rfl; (focus (exact dec_true (by omega))))
   | (show WL _ _ _ _ _ _ _; first | apply WL.nil | (refine WL.au (k := ?_)))
   | (show Z _ _ _ _ _; first | apply Z.then_normal | apply Z.then_ret)
   | (show W _ _ _ _ _ _; first | apply W.seq | apply W.region | apply W.ret)
   | fail)
  exact Z.body1 Tryz.results104 rfl fun m => ⟨rfl, Ext.at (by assumption) m⟩
theorem un_Lit (hg : GoodC' m.d.t) (h : UAt w0 w m u x rest) (k l : Int) (hl9 : l ≤ 9223372036854775807) : Pure Tryz.prog 60 [.pointer (some ⟨m.gf, 0, none⟩), .int .i64 k, .int .i64 l] w (.int .i64 (u.lit m.d.t k l)) := by
 refine Spec.of _ Tryz.func60 rfl Tryz.ntmps60 (by kernel_rfl) rfl ?_
 by_cases hk : 0 ≤ k ∧ k < (u.own.length : Int)
 ·obtain ⟨f, hf, he, _, R, _⟩ := h.frame (show k.toNat < u.own.length by omega)
  have hst := un_frame h hk.1 hf
  have hpk := fun (w9 : World) (h9 : Ext w w9) => un_lit m.d.t hg f.1.1 f.1.2.1 (rowVal f.2) rfl _ l w9 (R.ext h9) hl9
  rw [show (signsL m.d.t (u.own.getD k.toNat [])).length = f.1.2.2.length by rw [he]] at hpk
  have e : u.lit m.d.t k l = uLit m.d.t (u.own.getD k.toNat []) l := by unfold UnV.lit; rw [if_pos hk]
  rw [e]
  repeat' (first
   | (((show WL _ _ _ (⟨_, .call ⟨.value (.func 120), _, _⟩, _, _, _, _⟩ :: _) _ _ _); apply WL.callP; (iterate 4 exact rfl); exact hst; intro w' hx))
   | (((show WL _ _ _ (⟨_, .call ⟨.value (.func 104), _, _⟩, _, _, _, _⟩ :: _) _ _ _); apply WL.callP; (iterate 4 exact rfl); exact hpk _ hx; intro w2 hx2))
   | (show WL _ _ _ _ _ _ _; first | apply WL.nil | (refine WL.au (k := ?_)))
   | (show Z _ _ _ _ _; apply Z.then_normal)
   | (show W _ _ _ _ _ _; first | apply W.seq | apply W.region | apply W.ret)
   | fail)
  exact Z.body1 Tryz.results60 rfl fun m => ⟨rfl, Ext.at extA m⟩
 ·have hst := un_frameN h hk
  have hpk := fun (w9 : World) => un_litN l w9 hl9
  have e : u.lit m.d.t k l = -1 := by unfold UnV.lit; rw [if_neg hk]
  rw [e]
  repeat' (first
   | (((show WL _ _ _ (⟨_, .call ⟨.value (.func 120), _, _⟩, _, _, _, _⟩ :: _) _ _ _); apply WL.callP; (iterate 4 exact rfl); exact hst; intro w' hx))
   | (((show WL _ _ _ (⟨_, .call ⟨.value (.func 104), _, _⟩, _, _, _, _⟩ :: _) _ _ _); apply WL.callP; (iterate 4 exact rfl); exact hpk _; intro w2 hx2))
   | (show WL _ _ _ _ _ _ _; first | apply WL.nil | (refine WL.au (k := ?_)))
   | (show Z _ _ _ _ _; apply Z.then_normal)
   | (show W _ _ _ _ _ _; first | apply W.seq | apply W.region | apply W.ret)
   | fail)
  exact Z.body1 Tryz.results60 rfl fun m => ⟨rfl, Ext.at extA m⟩
theorem un_Bad (hg : GoodC' m.d.t) (h : UAt w0 w m u x rest) (k p : Int) : Pure Tryz.prog 62 [.pointer (some ⟨m.gf, 0, none⟩), .int .i64 k, .int .i64 p] w (.int .i64 (u.bad m.d.t k p)) := by
 obtain ⟨c1, c2, c4, c5, c6, c9, c10, c11, c12, c13⟩ := UC.of h.cells
 have RB := h.rows.c.bads.row
 have hpb : pickL m.d.bads.2.2 p ≤ 9223372036854775807 := by
  unfold pickL
  split
  ·obtain ⟨y, hy⟩ := getI m.d.bads.2.2 (show p.toNat < _ by omega)
   rw [getD_of hy]
   have h1 := hg.used y (used_bad (List.mem_of_getElem? hy))
   have h2 := hg.max
   omega
  ·omega
 refine Spec.of _ Tryz.func62 rfl Tryz.ntmps62 (by kernel_rfl) rfl ?_
 repeat' (first
  | (apply WL.nilc; (iterate 3 exact rfl))
  | (apply WL.eqNilS tOk; (iterate 6 exact rfl))
  | ((show WL _ _ _ (⟨_, .call ⟨.value (.func 106), _, _⟩, _, _, _, _⟩ :: _) _ _ _); apply WL.callS; (iterate 4 exact rfl); exact un_pick _ _ m.d.bads.2.2 p _ RB)
  | (((show WL _ _ _ (⟨_, .call ⟨.value (.func 60), _, _⟩, _, _, _, _⟩ :: _) _ _ _); apply WL.callP; (iterate 4 exact rfl); exact un_Lit hg h k (pickL m.d.bads.2.2 p) hpb; intro w' hx))
  | (show WL _ _ _ _ _ _ _; first | apply WL.nil | (refine WL.au (k := ?_)))
  | (show Z _ _ _ _ _; apply Z.then_normal)
  | (show W _ _ _ _ _ _; first | apply W.seq | apply W.region | apply W.skip | apply W.ret | (apply W.condF; exact rfl))
  | fail)
 exact Z.body1 Tryz.results62 rfl fun m => ⟨rfl, hx.at m⟩
set_option maxHeartbeats 4000000 in
theorem un_Cons (hg : GoodC' m.d.t) (hz : SzC m.d.t 100000) (h : UAt w0 w m u x rest) (k : Int) : Lt.Spec Tryz.prog 64 [.pointer (some ⟨m.gf, 0, none⟩), .int .i64 k] w (IsFresh 1 encI 3 w (u.cons m.d.t k)) := by
 obtain ⟨c1, c2, c4, c5, c6, c9, c10, c11, c12, c13⟩ := UC.of h.cells
 have RB := h.rows.c.cons.row
 have z5 : m.d.cons.2.2.length ≤ 100000 := hz.2.2.2.2.1
 refine Spec.of _ Tryz.func64 rfl Tryz.ntmps64 (by kernel_rfl) rfl ?_
 by_cases hk : 0 ≤ k ∧ k < (u.own.length : Int)
 ·have e : u.cons m.d.t k = m.d.cons.2.2.map (fun y => u.lit m.d.t k y) := by unfold UnV.cons; rw [if_pos hk]
  rw [e]
  repeat' (first
   | (apply WL.nilc; (iterate 3 exact rfl))
   | ((show WL _ _ _ (⟨_, .call ⟨.value (.func 21), _, _⟩, _, _, _, _⟩ :: _) _ _ _); apply WL.callS; (iterate 4 exact rfl); exact un_Len h)
   | (apply WL.gF; exact rfl; exact rfl; (focus (exact dec_false (by omega); done)))
   | (apply W.condKF; exact rfl; (focus (exact dec_false (by omega); done)))
   | (show WL _ _ _ _ _ _ _; first | apply WL.nil | (refine WL.au (k := ?_)))
   | (show Z _ _ _ _ _; apply Z.then_normal)
   | (show W _ _ _ _ _ _; first | apply W.seq | apply W.region | apply W.block | apply W.skip)
   | fail)
  refine W.loopO m.d.cons.2.2.length (fun j b cp w' => j ≤ m.d.cons.2.2.length ∧ Ext w w' ∧ Own 1 encI 3 w.heap.size w' b cp ((m.d.cons.2.2.take j).map (fun y => u.lit m.d.t k y)))
   (fun j b cp => [(0, .pointer (some ⟨m.gf, 0, none⟩)), (1, .int .i64 k), (5, .slice b ((m.d.cons.2.2.take j).map (fun y => u.lit m.d.t k y)).length cp), (20, rowVal m.d.cons), (21, .int .i64 m.d.cons.2.2.length), (22, .int .i64 j)]) none 0 ⟨Nat.zero_le _, Ext.refl w, Own.nil⟩ (fun k a cp w' h => h.1) (by repeat' first | exact trivial | (refine And.intro ?_ ?_) | exact rfl) ?_
  rintro j bb cp w1 ⟨hj, hX1, hO1⟩
  have htl : ((m.d.cons.2.2.take j).map (fun y => u.lit m.d.t k y)).length = min j m.d.cons.2.2.length := by rw [List.length_map, List.length_take]
  by_cases hlt : j < m.d.cons.2.2.length
  ·obtain ⟨y, hy⟩ := getI m.d.cons.2.2 hlt
   have e1 : (m.d.cons.2.2.take (j + 1)).map (fun y => u.lit m.d.t k y) = (m.d.cons.2.2.take j).map (fun y => u.lit m.d.t k y) ++ [u.lit m.d.t k y] := by rw [take_succ' hy, List.map_append]; rfl
   have RB1 := RB.ext hX1
   have hy9 : y ≤ 9223372036854775807 := by
    have h1 := hg.used y (used_con (List.mem_of_getElem? hy))
    have h2 := hg.max
    omega
   repeat' (first
    | (apply W.condKT; exact rfl; (focus (exact dec_true (by omega); done)))
    | ((show WL _ _ _ (⟨_, .call ⟨.value (.func 60), _, _⟩, _, _, _, _⟩ :: _) _ _ _); apply WL.callP; (iterate 4 exact rfl); exact un_Lit hg (h.up hX1) k y hy9; intro w' hx; (obtain ⟨w2, rfl⟩ : ∃ x, x = w' := ⟨_, rfl⟩; obtain ⟨hx2, rfl⟩ : ∃ x, x = hx := ⟨_, rfl⟩; replace hO1 := hO1.ext hx2))
    | (apply WL.lit tOk; (iterate 6 exact rfl); (kernel_rfl); exact rfl; intro gb w' hb hge hc hx; (obtain ⟨wL, rfl⟩ : ∃ x, x = w' := ⟨_, rfl⟩; obtain ⟨hxL, rfl⟩ : ∃ x, x = hx := ⟨_, rfl⟩))
    | (apply WL.append1 (z := (u.lit m.d.t k y)) tOk encI_ok; (iterate 10 exact rfl); assumption; (exact extA); (exact rfl); (assumption); exact rfl; exact rfl; (exact extA); (omega); intro a' cap' w' hO hX' hU hF)
    | (show WL _ _ _ _ _ _ _; first | apply WL.nil | (refine WL.au (k := ?_)) | (apply WL.index tOk; (iterate 8 exact rfl); assumption; (exact extA); exact rfl; omega; assumption; intro b off h; have hcc := h; first | (obtain ⟨h1, h2, h3, h4, h5, h6, _⟩ := h) | (obtain ⟨h1, h2, h3, _⟩ := h) | (obtain ⟨h1, h2, _⟩ := h) | (obtain ⟨h1, _⟩ := h)))
    | (show Z _ _ _ _ _; first | apply Z.then_normal | apply Z.block_normal)
    | (show W _ _ _ _ _ _; first | apply W.seq | apply W.region | apply W.block | apply W.skip)
    | fail)
   exact Z.againO a' cap' ⟨by omega, hX', by rw [e1]; exact hO⟩ (by repeat' first | exact trivial | (refine And.intro ?_ ?_) | exact rfl | (rw [e1]; exact rfl))
  ·obtain rfl : j = m.d.cons.2.2.length := by omega
   rw [List.take_length] at hO1
   repeat' (first
    | (apply W.condKF; exact rfl; (focus (exact dec_false (by omega); done)))
    | (show WL _ _ _ _ _ _ _; first | apply WL.nil | (refine WL.au (k := ?_)))
    | (show Z _ _ _ _ _; first | apply Z.then_normal | apply Z.then_exit | apply Z.block_exit)
    | (show W _ _ _ _ _ _; first | apply W.seq | apply W.region | apply W.ret | apply W.exit)
    | fail)
   exact Z.body1 Tryz.results64 rfl fun m => ⟨hX1.at m, bb, cp, by rw [List.take_length], hO1.ext ((Ext.refl _).at m)⟩
 ·have e : u.cons m.d.t k = [] := by unfold UnV.cons; rw [if_neg hk]
  rw [e]
  by_cases h0 : k < 0
  ·repeat' (first
    | (apply WL.gT; exact rfl; exact rfl; (focus (exact dec_true (by omega))))
    | (show WL _ _ _ _ _ _ _; first | apply WL.nil | (refine WL.au (k := ?_)) | (apply WL.guardF; exact rfl; exact rfl))
    | (show Z _ _ _ _ _; first | apply Z.then_normal | apply Z.then_ret)
    | (show W _ _ _ _ _ _; first | apply W.seq | apply W.region | apply W.ret | (apply W.condT; exact rfl))
    | fail)
   exact Z.body1 Tryz.results64 rfl fun m => ⟨(Ext.refl _).at m, none, 0, rfl, Own.nil⟩
  ·repeat' (first
    | ((show WL _ _ _ (⟨_, .call ⟨.value (.func 21), _, _⟩, _, _, _, _⟩ :: _) _ _ _); apply WL.callS; (iterate 4 exact rfl); exact un_Len h)
    | (apply WL.gF; exact rfl; exact rfl; (focus (exact dec_false (by omega); done)))
    | (apply W.condKT; exact rfl; (focus (exact dec_true (by omega))))
    | (show WL _ _ _ _ _ _ _; first | apply WL.nil | (refine WL.au (k := ?_)))
    | (show Z _ _ _ _ _; first | apply Z.then_normal | apply Z.then_ret)
    | (show W _ _ _ _ _ _; first | apply W.seq | apply W.region | apply W.ret)
    | fail)
   exact Z.body1 Tryz.results64 rfl fun m => ⟨(Ext.refl _).at m, none, 0, rfl, Own.nil⟩
theorem un_Net (h : UAt w0 w m u x rest) (hN : u.N.length ≤ 1048576) : Lt.Spec Tryz.prog 23 [.pointer (some ⟨m.gf, 0, none⟩)] w (IsFresh 2 encN 84 w u.N) := by
 obtain ⟨c1, c2, c4, c5, c6, c9, c10, c11, c12, c13⟩ := UC.of h.cells
 have hS : Lt.Sep w0.heap.size w (stN w0.heap.size m.gs x.a x.cap m.r u.N ++ _) := h.sep
 refine Spec.of _ Tryz.func23 rfl Tryz.ntmps23 (by kernel_rfl) rfl ?_
 repeat' (first
  | (apply WL.nilc; (iterate 3 exact rfl))
  | (apply WL.eqNilS tOk; (iterate 6 exact rfl))
  | ((show WL _ _ _ (⟨_, .call ⟨.value (.func 68), _, _⟩, _, _, _, _⟩ :: _) _ _ _); apply WL.call; (iterate 4 exact rfl); exact aig_NetV m.gs m.r x.cap x.a u.N _ _ w0 hS hN; rintro v' w' ⟨hx, a', cap', rfl, hO⟩)
  | (show WL _ _ _ _ _ _ _; first | apply WL.nil | (refine WL.au (k := ?_)))
  | (show Z _ _ _ _ _; apply Z.then_normal)
  | (show W _ _ _ _ _ _; first | apply W.seq | apply W.region | apply W.skip | apply W.ret | (apply W.condF; exact rfl))
  | fail)
 exact Z.body1 Tryz.results23 rfl fun m => ⟨hx.at m, a', cap', rfl, hO⟩
end
end Go.Proofs.YteidpnpbfagaeaaGreat
namespace Go.Proofs.YteidpnpbfagaeaaGreat
open Go Go.Lt Go.RowKit
set_option linter.unusedVariables false
set_option linter.unusedSimpArgs false
set_option maxRecDepth 20000

theorem hasL_le {N : List (Int × Int)} {x : Int} (h : hasL N x) (hN : N.length ≤ 1048576) : 0 ≤ x ∧ x ≤ 9223372036854775806 := by unfold hasL at h; omega
set_option maxHeartbeats 16000000 in
theorem un_Unlike {w0 w : World} {m : UM} {u : UnV} {x : UX} {rest : List Piece} (h : UAt w0 w m u x rest) (hz : SzC m.d.t 100000) (hU : UOk m.d.t u) (hN : u.N.length ≤ 600000) (i k : Int) :
  Lt.Spec Tryz.prog 66 [.pointer (some ⟨m.gf, 0, none⟩), .int .i64 i, .int .i64 k] w (fun v w' => v = .int .i64 (unlikeU u i k).1 ∧ ∃ x', UAt w0 w' m (unlikeU u i k).2 x' rest) := by
 have z2 : m.d.lat.2.2.length ≤ 100000 := hz.2.1
 refine Spec.of _ Tryz.func66 rfl Tryz.ntmps66 (by kernel_rfl) rfl ?_
 by_cases hi : 0 ≤ i ∧ i < (u.st.length : Int)
 rotate_left
 ·have e : unlikeU u i k = (-1, u) := by unfold unlikeU; rw [if_neg (fun hh => hi hh.1)]
  rw [e]
  have hst := un_stateN h hi
  by_cases hk : 0 ≤ k ∧ k < (u.st.length : Int)
  ·obtain ⟨s, hs, _, _⟩ := h.state (show k.toNat < u.st.length by omega)
   have hst2 := un_state h hk.1 hs
   repeat' (first
    | (((show WL _ _ _ (⟨_, .call ⟨.value (.func 105), _, _⟩, _, _, _, _⟩ :: _) _ _ _); apply WL.callS; (iterate 4 exact rfl); first | exact hst | exact hst2))
    | (apply WL.gT; exact rfl; exact rfl; (focus (with_reducible exact Bool.not_false; done)))
    | (show WL _ _ _ _ _ _ _; first | apply WL.nil | (refine WL.au (k := ?_)) | (apply WL.guardF; exact rfl; exact rfl))
    | (show Z _ _ _ _ _; first | apply Z.then_normal | apply Z.then_ret)
    | (show W _ _ _ _ _ _; first | apply W.seq | apply W.region | apply W.ret | (apply W.condT; exact rfl))
    | fail)
   exact Z.body1 Tryz.results66 rfl fun q => ⟨rfl, x, h.up ((Ext.refl _).at q)⟩
  ·have hst2 := un_stateN h hk
   repeat' (first
    | (((show WL _ _ _ (⟨_, .call ⟨.value (.func 105), _, _⟩, _, _, _, _⟩ :: _) _ _ _); apply WL.callS; (iterate 4 exact rfl); first | exact hst | exact hst2))
    | (apply WL.gT; exact rfl; exact rfl; (focus (with_reducible exact Bool.not_false; done)))
    | (show WL _ _ _ _ _ _ _; first | apply WL.nil | (refine WL.au (k := ?_)) | (apply WL.guardF; exact rfl; exact rfl))
    | (show Z _ _ _ _ _; first | apply Z.then_normal | apply Z.then_ret)
    | (show W _ _ _ _ _ _; first | apply W.seq | apply W.region | apply W.ret | (apply W.condT; exact rfl))
    | fail)
   exact Z.body1 Tryz.results66 rfl fun q => ⟨rfl, x, h.up ((Ext.refl _).at q)⟩
 obtain ⟨s, hs, hse, _⟩ := h.state (show i.toNat < u.st.length by omega)
 have hst := un_state h hi.1 hs
 by_cases hk : 0 ≤ k ∧ k < (u.st.length : Int)
 rotate_left
 ·have e : unlikeU u i k = (-1, u) := by unfold unlikeU; rw [if_neg (fun hh => hk hh.2)]
  rw [e]
  have hst2 := un_stateN h hk
  repeat' (first
   | (((show WL _ _ _ (⟨_, .call ⟨.value (.func 105), _, _⟩, _, _, _, _⟩ :: _) _ _ _); apply WL.callS; (iterate 4 exact rfl); first | exact hst | exact hst2))
   | (apply WL.gF; exact rfl; exact rfl; (focus (with_reducible exact Bool.not_true)))
   | (apply W.condKT; exact rfl; (focus (with_reducible exact Bool.not_false; done)))
   | (show WL _ _ _ _ _ _ _; first | apply WL.nil | (refine WL.au (k := ?_)))
   | (show Z _ _ _ _ _; first | apply Z.then_normal | apply Z.then_ret)
   | (show W _ _ _ _ _ _; first | apply W.seq | apply W.region | apply W.ret)
   | fail)
  exact Z.body1 Tryz.results66 rfl fun q => ⟨rfl, x, h.up ((Ext.refl _).at q)⟩
 obtain ⟨s2, hs2, hse2, _⟩ := h.state (show k.toNat < u.st.length by omega)
 have hst2 := un_state h hk.1 hs2
 have eiN : ((i.toNat : Nat) : Int) = i := by omega
 have ekN : ((k.toNat : Nat) : Int) = k := by omega
 rw [eiN] at hse
 rw [ekN] at hse2
 obtain ⟨ha1, ha2⟩ := hU.st _ (rowU_mem hi).2
 obtain ⟨hb1, hb2⟩ := hU.st _ (rowU_mem hk).2
 rw [← hse] at ha1 ha2
 rw [← hse2] at hb1 hb2
 have e : unlikeU u i k = ((ulTo s.2.2 s2.2.2 u.N s.2.2.length).1, { u with N := (ulTo s.2.2 s2.2.2 u.N s.2.2.length).2 }) := by unfold unlikeU; rw [if_pos ⟨hi, hk⟩, hse, hse2]
 rw [e]
 have hla : s.2.2.length = m.d.lat.2.2.length := ha1
 have hlb : s2.2.2.length = m.d.lat.2.2.length := hb1
 have ms := List.mem_of_getElem? hs
 have ms2 := List.mem_of_getElem? hs2
 repeat' (first
  | (((show WL _ _ _ (⟨_, .call ⟨.value (.func 105), _, _⟩, _, _, _, _⟩ :: _) _ _ _); apply WL.callS; (iterate 4 exact rfl); first | exact hst | exact hst2))
  | (apply WL.gF; exact rfl; exact rfl; (focus (with_reducible exact Bool.not_true)))
  | (apply W.condKF; exact rfl; (focus (with_reducible exact Bool.not_true)))
  | (show WL _ _ _ _ _ _ _; first | apply WL.nil | (refine WL.au (k := ?_)))
  | (show Z _ _ _ _ _; apply Z.then_normal)
  | (show W _ _ _ _ _ _; first | apply W.seq | apply W.region | apply W.block | apply W.skip)
  | fail)
 have hS0 := h.sep
 refine W.loopO s.2.2.length (fun j b cp w' => j ≤ s.2.2.length ∧ Ext w0 w' ∧ Lt.Sep w0.heap.size w' (unP w0.heap.size m (ulTo s.2.2 s2.2.2 u.N j).2 b cp x.af x.cf x.fr x.as' x.cs x.st x.R ++ rest))
  (fun j b cp => [(0, .pointer (some ⟨m.gf, 0, none⟩)), (7, rowVal s), (9, rowVal s2), (11, .int .i64 (ulTo s.2.2 s2.2.2 u.N j).1), (33, .int .i64 s.2.2.length), (34, .int .i64 j)]) x.a x.cap ⟨Nat.zero_le _, h.ext, hS0⟩ (fun k a cp w' h => h.1) (by repeat' first | exact trivial | (refine And.intro ?_ ?_) | exact rfl) ?_
 rintro j bb cp w9 ⟨hj, hX9, hS9⟩
 have hR9 : URows m x.fr x.st w9 := h.kn.rows.sep hX9 hS9 fun p hp => List.mem_append_left _ (List.mem_append_right _ (List.mem_cons_of_mem _ (List.mem_cons_of_mem _ (List.mem_cons_of_mem _ hp))))
 obtain ⟨c1, c2, c4, c5, c6, c9, c10, c11, c12, c13⟩ := UC.of (m := m) (af := x.af) (nf := x.fr.length) (cf := x.cf) (as' := x.as') (ns := x.st.length) (cs := x.cs) (cells_heap (hS9.cell (i := 3) rfl))
 have Rs := hR9.st s ms
 have Rs2 := hR9.st s2 ms2
 obtain ⟨i1, i2, i3, i4⟩ := ulTo_inv ha2 hb2 (by rw [hla, hlb]) j hj
 by_cases hlt : j < s.2.2.length
 ·obtain ⟨y, hy⟩ := getI s.2.2 hlt
  obtain ⟨y2, hy2⟩ := getI s2.2.2 (show j < s2.2.2.length by omega)
  have hyh := hasL_mono (ha2 y (List.mem_of_getElem? hy)) i2
  have hyh2 := hasL_mono (hb2 y2 (List.mem_of_getElem? hy2)) i2
  have eS := ulTo_succ s.2.2 s2.2.2 u.N j
  obtain ⟨H, hH⟩ : ∃ H, H = ulTo s.2.2 s2.2.2 u.N j := ⟨_, rfl⟩
  rw [← hH] at hS9 i1 i2 i3 i4 eS hyh hyh2 ⊢
  have e1 : ulTo s.2.2 s2.2.2 u.N (j + 1) = orV (xorV H.2 y y2).2 H.1 (xorV H.2 y y2).1 := by rw [eS]; unfold ulStep; rw [getD_of hy, getD_of hy2]
  have l1 : H.2.length ≤ (xorV H.2 y y2).2.length ∧ (xorV H.2 y y2).2.length ≤ H.2.length + 3 := muxV_len _ _ _ _
  have h1 : hasL (xorV H.2 y y2).2 (xorV H.2 y y2).1 := muxV_has hyh (notL_has hyh2) hyh2
  have l2 := orV_len (xorV H.2 y y2).2 H.1 (xorV H.2 y y2).1
  have h2 : hasL (orV (xorV H.2 y y2).2 H.1 (xorV H.2 y y2).1).2 (orV (xorV H.2 y y2).2 H.1 (xorV H.2 y y2).1).1 := orV_has (hasL_mono i1 l1.1) h1
  have b1 := hasL_le hyh (by omega)
  have b2 := hasL_le hyh2 (by omega)
  have b3 := hasL_le i1 (by omega)
  have b4 := hasL_le h1 (by omega)
  have b5 := hasL_le h2 (by omega)
  repeat' (first
   | (apply W.regionQS 12 tMix; kernel_rfl; exact rfl; kernel_rfl; kernel_rfl)
   | (apply WL.nilc; (iterate 3 exact rfl))
   | (apply QL.nilc; (iterate 3 exact rfl))
   | (apply W.condKT; exact rfl; (focus (exact dec_true (by omega))))
   | (apply W.condKF; exact rfl; (focus (exact dec_false (by omega); done)))
   | (((show WL _ _ _ (⟨_, .call ⟨.value (.func 123), _, _⟩, _, _, _, _⟩ :: _) _ _ _); apply WL.call; (iterate 4 exact rfl); exact aig_XorV m.gs m.r _ _ H.2 y y2 _ _ w0 hX9 hS9 (by omega) (by omega) (by omega); rintro v' w8 ⟨hX8, a8, cap8, rfl, hS8⟩; have d11 := (UC.of (m := m) (af := x.af) (nf := x.fr.length) (cf := x.cf) (as' := x.as') (ns := x.st.length) (cs := x.cs) (cells_heap (hS8.cell (i := 3) rfl))).store))
   | (((show WL _ _ _ (⟨_, .call ⟨.value (.func 124), _, _⟩, _, _, _, _⟩ :: _) _ _ _); apply WL.call; (iterate 4 exact rfl); exact aig_OrV m.gs m.r _ _ (xorV H.2 y y2).2 H.1 (xorV H.2 y y2).1 _ _ w0 hX8 hS8 (by omega) (by omega) (by omega); rintro v' w7 ⟨hX7, a7, cap7, rfl, hS7⟩))
   | (show WL _ _ _ _ _ _ _; first | apply WL.nil | (refine WL.au (k := ?_)))
   | (show QL _ _ _ _ _ _ _; first | apply QL.nil | (refine QL.au (k := ?_)) | (apply QL.index tOk; (iterate 8 exact rfl); assumption; (exact extA); exact rfl; omega; assumption; intro b off h; have hcc := h; first | (obtain ⟨h1, h2, h3, h4, h5, h6, _⟩ := h) | (obtain ⟨h1, h2, h3, _⟩ := h) | (obtain ⟨h1, h2, _⟩ := h) | (obtain ⟨h1, _⟩ := h)))
   | (show Z _ _ _ _ _; first | apply Z.tail | apply Z.then_normal | apply Z.block_normal)
   | (show W _ _ _ _ _ _; first | apply W.seq | apply W.region | apply W.block | apply W.skip)
   | fail)
  exact Z.againO a7 cap7 ⟨by omega, hX7, by rw [e1]; exact hS7⟩ (by repeat' first | exact trivial | (refine And.intro ?_ ?_) | exact rfl | (rw [e1]; exact rfl))
 ·obtain rfl : j = s.2.2.length := by omega
  repeat' (first
   | (apply W.condKF; exact rfl; (focus (exact dec_false (by omega); done)))
   | (show WL _ _ _ _ _ _ _; first | apply WL.nil | (refine WL.au (k := ?_)))
   | (show Z _ _ _ _ _; first | apply Z.then_normal | apply Z.then_exit | apply Z.block_exit)
   | (show W _ _ _ _ _ _; first | apply W.seq | apply W.region | apply W.ret | apply W.exit)
   | fail)
  exact Z.body1 Tryz.results66 rfl fun q => ⟨rfl, ⟨bb, cp, x.af, x.cf, x.fr, x.as', x.cs, x.st, x.R⟩, hX9.at q, hS9.ext ((Ext.refl _).at q), ⟨h.kn.hv, h.kn.hi, h.kn.hs, h.kn.sn, h.kn.rows⟩⟩
end Go.Proofs.YteidpnpbfagaeaaGreat
namespace Go.Proofs.YteidpnpbfagaeaaGreat
open Go Go.Lt Go.RowKit
set_option linter.unusedVariables false
set_option linter.unusedSimpArgs false
set_option maxRecDepth 20000

section
variable {w0 w : World} {m : RM} {u : UnV} {x : RX} {rest : List Piece}
set_option maxHeartbeats 4000000 in
theorem r19_Lit (hg : GoodC' m.d.t) (hz' : SzC m.d.t 100000) (hO : ∀ o ∈ u.own, o.length = (cNet m.d.t).1.length + 1 ∧ ∀ z ∈ o, hasL u.N z) (h : RAtU w0 w m u x rest) (hN : u.N.length ≤ 1000000) (k l : Int) (hl9 : l ≤ 9223372036854775807) : Still Tryz.prog 61 [.pointer (some ⟨m.gF, 0, none⟩), .int .i64 k, .int .i64 l] w (.int .i64 (u.lit m.d.t k l)) := by
 obtain ⟨c0, c1, c2, c4, c5, c9, c10, c11, c12, c13, c14⟩ := RC'.of h.cells
 obtain ⟨l1, l2, l3⟩ := h.lens
 have RV := Own.row encRow_ok h.vrow
 have RA := h.rows.a
 have ha := at_len hg
 have hnl := net_len hg hz'
 have hm : 0 ≤ m.d.max ∧ m.d.max ≤ 16777216 := hg.max
 have hmt : m.d.t.max = m.d.max := rfl
 rw [hmt] at ha
 refine Spec.of _ Tryz.func61 rfl Tryz.ntmps61 (by kernel_rfl) rfl ?_
 by_cases hk0 : k < 0
 ·have e : u.lit m.d.t k l = -1 := by unfold UnV.lit; rw [if_neg (by omega)]
  rw [e]
  repeat' (first
   | (apply WL.gT; exact rfl; exact rfl; (focus (exact dec_true (by omega))))
   | (show WL _ _ _ _ _ _ _; first | apply WL.nil | (refine WL.au (k := ?_)) | (apply WL.guardF; exact rfl; exact rfl))
   | (show Z _ _ _ _ _; first | apply Z.then_normal | apply Z.then_ret)
   | (show W _ _ _ _ _ _; first | apply W.seq | apply W.region | apply W.ret | (apply W.condT; exact rfl))
   | fail)
  exact Z.body1 Tryz.results61 rfl fun m => ⟨rfl, m, rfl⟩
 by_cases hk1 : k < (u.own.length : Int)
 rotate_left
 ·have e : u.lit m.d.t k l = -1 := by unfold UnV.lit; rw [if_neg (by omega)]
  rw [e]
  repeat' (first
   | (apply WL.nilc; (iterate 3 exact rfl))
   | (apply WL.gT; exact rfl; exact rfl; (focus (exact dec_true (by omega))))
   | (apply WL.gF; exact rfl; exact rfl; (focus (exact dec_false (by omega); done)))
   | (show WL _ _ _ _ _ _ _; first | apply WL.nil | (refine WL.au (k := ?_)) | (apply WL.guardF; exact rfl; exact rfl))
   | (show Z _ _ _ _ _; first | apply Z.then_normal | apply Z.then_ret)
   | (show W _ _ _ _ _ _; first | apply W.seq | apply W.region | apply W.ret | (apply W.condT; exact rfl))
   | fail)
  exact Z.body1 Tryz.results61 rfl fun m => ⟨rfl, m, rfl⟩
 have hk : 0 ≤ k ∧ k < (u.own.length : Int) := by omega
 have e0 : u.lit m.d.t k l = uLit m.d.t (u.own.getD k.toNat []) l := by unfold UnV.lit; rw [if_pos hk]
 by_cases hl0 : l < 0
 ·have e : u.lit m.d.t k l = -1 := by rw [e0]; unfold uLit; rw [if_neg (by omega)]
  rw [e]
  repeat' (first
   | (apply WL.nilc; (iterate 3 exact rfl))
   | (apply WL.gT; exact rfl; exact rfl; (focus (exact dec_true (by omega))))
   | (apply WL.gF; exact rfl; exact rfl; (focus (exact dec_false (by omega); done)))
   | (show WL _ _ _ _ _ _ _; first | apply WL.nil | (refine WL.au (k := ?_)) | (apply WL.guardF; exact rfl; exact rfl))
   | (show Z _ _ _ _ _; first | apply Z.then_normal | apply Z.then_ret)
   | (show W _ _ _ _ _ _; first | apply W.seq | apply W.region | apply W.ret | (apply W.condT; exact rfl))
   | fail)
  exact Z.body1 Tryz.results61 rfl fun m => ⟨rfl, m, rfl⟩
 by_cases hl1 : l ≤ 2 * m.d.max + 1
 rotate_left
 ·have e : u.lit m.d.t k l = -1 := by rw [e0]; unfold uLit; rw [if_neg (fun hh => hl1 hh.2)]
  rw [e]
  repeat' (first
   | (apply WL.nilc; (iterate 3 exact rfl))
   | (apply WL.gT; exact rfl; exact rfl; (focus (exact dec_true (by omega))))
   | (apply WL.gF; exact rfl; exact rfl; (focus (exact dec_false (by omega); done)))
   | (show WL _ _ _ _ _ _ _; first | apply WL.nil | (refine WL.au (k := ?_)) | (apply WL.guardF; exact rfl; exact rfl))
   | (show Z _ _ _ _ _; first | apply Z.then_normal | apply Z.then_ret)
   | (show W _ _ _ _ _ _; first | apply W.seq | apply W.region | apply W.ret | (apply W.condT; exact rfl))
   | fail)
  exact Z.body1 Tryz.results61 rfl fun m => ⟨rfl, m, rfl⟩
 obtain ⟨s, hs, he⟩ := row_in h.kn.hv hk
 obtain ⟨o, ho⟩ := getI u.own (show k.toNat < u.own.length by omega)
 have hso : s.2.2 = o := by
  have h1 := map_get' h.kn.hv hs
  rw [ho] at h1; exact (Option.some.inj h1).symm
 have hoo := hO o (List.mem_of_getElem? ho)
 have Rs := h.rows.rv s (List.mem_of_getElem? hs)
 rw [getD_of ho] at e0
 obtain ⟨a, hat⟩ := getI (cNet m.d.t).2 (show (l / 2).toNat < (cNet m.d.t).2.length by omega)
 have e1 : uLit m.d.t o l = pickS (signs o a) l := by unfold uLit; rw [if_pos ⟨by omega, hl1⟩, getD_of hat]
 rcases at_is hg hat with q0 | ⟨q0, q6, q7⟩
 ·have e : u.lit m.d.t k l = -1 := by rw [e0, e1, show signs o a = (-1, -1) from by unfold signs; rw [if_neg (by omega)]]; unfold pickS; split <;> rfl
  rw [e]
  repeat' (first
   | (apply WL.nilc; (iterate 3 exact rfl))
   | (apply WL.gF; exact rfl; exact rfl; (focus (exact dec_false (by omega); done)))
   | (apply W.condKT; exact rfl; (focus (exact dec_true (by omega))))
   | (show WL _ _ _ _ _ _ _; first | apply WL.nil | (refine WL.au (k := ?_)) | (apply WL.index tOk; (iterate 8 exact rfl); assumption; (exact extA); exact rfl; omega; assumption; intro b off h; have hcc := h; first | (obtain ⟨h1, h2, h3, h4, h5, h6, _⟩ := h) | (obtain ⟨h1, h2, h3, _⟩ := h) | (obtain ⟨h1, h2, _⟩ := h) | (obtain ⟨h1, _⟩ := h)))
   | (show Z _ _ _ _ _; first | apply Z.then_normal | apply Z.then_ret)
   | (show W _ _ _ _ _ _; first | apply W.seq | apply W.region | apply W.ret)
   | fail)
  exact Z.body1 Tryz.results61 rfl fun m => ⟨rfl, m, rfl⟩
 obtain ⟨z, hz⟩ := getI o (show (a / 2).toNat < o.length by omega)
 have hzz : s.2.2[(a / 2).toNat]? = some z := by rw [hso]; exact hz
 have hzh := hoo.2 z (List.mem_of_getElem? hz)
 have hz9 := hasL_le hzh (by omega)
 have htr : Still Tryz.prog 122 [.int .i64 z, .bool (dec (l % 2 = 1))] w (.int .i64 (u.lit m.d.t k l)) := by
  have h1 := ref19_turned z (dec (l % 2 = 1)) w (by omega)
  have e : (if dec (l % 2 = 1) = true then notL z else z) = u.lit m.d.t k l := by
   rw [e0, e1]
   unfold signs pickS
   rw [if_pos q0, getD_of hz]
   by_cases hp : l % 2 = 1
   ·rw [dec_true hp, if_pos rfl, if_pos hp, notL_xor1 hz9.1]
   ·rw [dec_false hp, if_neg hp, if_neg (by decide)]
  rw [e] at h1; exact h1
 repeat' (first
  | (apply WL.nilc; (iterate 3 exact rfl))
  | (apply QL.nilc; (iterate 3 exact rfl))
  | (apply WL.gF; exact rfl; exact rfl; (focus (exact dec_false (by omega); done)))
  | (apply W.condKF; exact rfl; (focus (exact dec_false (by omega); done)))
  | ((show QL _ _ _ _ (⟨_, .call ⟨.value (.func 122), _, _⟩, _, _, _, _⟩ :: _) _ _; apply QL.callS; (iterate 4 exact rfl); exact htr))
  | (show WL _ _ _ _ _ _ _; first | apply WL.nil | (refine WL.au (k := ?_)) | (apply WL.index tOk; (iterate 8 exact rfl); assumption; (exact extA); exact rfl; omega; assumption; intro b off h; have hcc := h; first | (obtain ⟨h1, h2, h3, h4, h5, h6, _⟩ := h) | (obtain ⟨h1, h2, h3, _⟩ := h) | (obtain ⟨h1, h2, _⟩ := h) | (obtain ⟨h1, _⟩ := h)))
  | (show QL _ _ _ _ _ _ _; first | apply QL.nil | (refine QL.au (k := ?_)) | (apply QL.index tOk; (iterate 8 exact rfl); assumption; (exact extA); exact rfl; omega; assumption; intro b off h; have hcc := h; first | (obtain ⟨h1, h2, h3, h4, h5, h6, _⟩ := h) | (obtain ⟨h1, h2, h3, _⟩ := h) | (obtain ⟨h1, h2, _⟩ := h) | (obtain ⟨h1, _⟩ := h)))
  | (show Z _ _ _ _ _; apply Z.then_normal)
  | (show W _ _ _ _ _ _; first | apply W.seq | apply W.region | apply W.skip | apply W.ret | (apply W.regionD tMix; kernel_rfl))
  | fail)
 exact Z.body1 Tryz.results61 rfl fun m => ⟨rfl, m, rfl⟩
theorem r19_Bad (hg : GoodC' m.d.t) (hz' : SzC m.d.t 100000) (hU : UOk m.d.t u) (h : RAtU w0 w m u x rest) (hN : u.N.length ≤ 1000000) (k p : Int) : Still Tryz.prog 63 [.pointer (some ⟨m.gF, 0, none⟩), .int .i64 k, .int .i64 p] w (.int .i64 (u.bad m.d.t k p)) := by
 obtain ⟨c0, c1, c2, c4, c5, c9, c10, c11, c12, c13, c14⟩ := RC'.of h.cells
 have RB := h.rows.c.bads.row
 have hpb : pickL m.d.bads.2.2 p ≤ 9223372036854775807 := by
  unfold pickL
  split
  ·obtain ⟨y, hy⟩ := getI m.d.bads.2.2 (show p.toNat < _ by omega)
   rw [getD_of hy]
   have h1 := hg.used y (used_bad (List.mem_of_getElem? hy))
   have h2 := hg.max
   omega
  ·omega
 refine Spec.of _ Tryz.func63 rfl Tryz.ntmps63 (by kernel_rfl) rfl ?_
 repeat' (first
  | (apply WL.nilc; (iterate 3 exact rfl))
  | ((show WL _ _ _ (⟨_, .call ⟨.value (.func 121), _, _⟩, _, _, _, _⟩ :: _) _ _ _); apply WL.callS; (iterate 4 exact rfl); exact ref19_of _ _ m.d.bads.2.2 p _ RB)
  | (((show WL _ _ _ (⟨_, .call ⟨.value (.func 61), _, _⟩, _, _, _, _⟩ :: _) _ _ _); apply WL.callS; (iterate 4 exact rfl); exact r19_Lit hg hz' hU.own h hN k (pickL m.d.bads.2.2 p) hpb))
  | (show WL _ _ _ _ _ _ _; first | apply WL.nil | (refine WL.au (k := ?_)))
  | (show Z _ _ _ _ _; apply Z.then_normal)
  | (show W _ _ _ _ _ _; first | apply W.seq | apply W.region | apply W.ret)
  | fail)
 exact Z.body1 Tryz.results63 rfl fun m => ⟨rfl, m, rfl⟩
set_option maxHeartbeats 4000000 in
theorem r19_Cons (hg : GoodC' m.d.t) (hz' : SzC m.d.t 100000) (hU : UOk m.d.t u) (h : RAtU w0 w m u x rest) (hN : u.N.length ≤ 1000000) (k : Int) : Lt.Spec Tryz.prog 65 [.pointer (some ⟨m.gF, 0, none⟩), .int .i64 k] w (IsFresh 1 encI 3 w (u.cons m.d.t k)) := by
 have z5 : m.d.cons.2.2.length ≤ 100000 := hz'.2.2.2.2.1
 obtain ⟨l1, l2, l3⟩ := h.lens
 have RB := h.rows.c.cons.row
 obtain ⟨c0, c1, c2, c4, c5, c9, c10, c11, c12, c13, c14⟩ := RC'.of h.cells
 refine Spec.of _ Tryz.func65 rfl Tryz.ntmps65 (by kernel_rfl) rfl ?_
 repeat' (first
  | (apply WL.lit (len := 0) tOk; (iterate 6 exact rfl); (kernel_rfl); exact rfl; intro gb w' hb hge hc hx; have hO0 := Own.of_block0 (enc := encI) (s := 1) hb hge)
  | (show WL _ _ _ _ _ _ _; first | apply WL.nil | (refine WL.au (k := ?_)))
  | (show Z _ _ _ _ _; apply Z.then_normal)
  | (show W _ _ _ _ _ _; first | apply W.seq | apply W.region | apply W.block)
  | fail)
 obtain ⟨w1, rfl⟩ : ∃ x, x = w' := ⟨_, rfl⟩; obtain ⟨hx1, rfl⟩ : ∃ x, x = hx := ⟨_, rfl⟩
 by_cases hk : 0 ≤ k ∧ k < (u.own.length : Int)
 ·have e : u.cons m.d.t k = m.d.cons.2.2.map (fun y => u.lit m.d.t k y) := by unfold UnV.cons; rw [if_pos hk]
  rw [e]
  refine W.loopO m.d.cons.2.2.length (fun j b cp w' => j ≤ m.d.cons.2.2.length ∧ Ext w w' ∧ Own 1 encI 3 w.heap.size w' b cp ((m.d.cons.2.2.take j).map (fun y => u.lit m.d.t k y)))
   (fun j b cp => [(0, .pointer (some ⟨m.gF, 0, none⟩)), (1, .int .i64 k), (5, .slice b ((m.d.cons.2.2.take j).map (fun y => u.lit m.d.t k y)).length cp), (6, .int .i64 j)]) (some ⟨gb, 0, none⟩) 0 ⟨Nat.zero_le _, hx1, hO0⟩ (fun k a cp w' h => h.1) (by repeat' first | exact trivial | (refine And.intro ?_ ?_) | exact rfl) ?_
  rintro j bb cp w2 ⟨hj, hX1, hO1⟩
  have htl : ((m.d.cons.2.2.take j).map (fun y => u.lit m.d.t k y)).length = min j m.d.cons.2.2.length := by rw [List.length_map, List.length_take]
  have RB1 := RB.ext hX1
  by_cases hlt : j < m.d.cons.2.2.length
  ·obtain ⟨y, hy⟩ := getI m.d.cons.2.2 hlt
   have e1 : (m.d.cons.2.2.take (j + 1)).map (fun y => u.lit m.d.t k y) = (m.d.cons.2.2.take j).map (fun y => u.lit m.d.t k y) ++ [u.lit m.d.t k y] := by rw [take_succ' hy, List.map_append]; rfl
   have hy9 : y ≤ 9223372036854775807 := by
    have h1 := hg.used y (used_con (List.mem_of_getElem? hy))
    have h2 := hg.max
    omega
   have hlit := r19_Lit hg hz' hU.own (h.up hX1) hN k y hy9
   repeat' (first
    | (apply WL.nilc; (iterate 3 exact rfl))
    | (apply WL.gT; exact rfl; exact rfl; (focus (exact dec_true (by omega); done)))
    | (apply W.condKT; exact rfl; (focus (exact dec_true (by omega); done)))
    | (((show WL _ _ _ (⟨_, .call ⟨.value (.func 61), _, _⟩, _, _, _, _⟩ :: _) _ _ _); apply WL.callS; (iterate 4 exact rfl); exact hlit))
    | (apply WL.lit tOk; (iterate 6 exact rfl); (kernel_rfl); exact rfl; intro gb w' hb hge hc hx; (obtain ⟨wL, rfl⟩ : ∃ x, x = w' := ⟨_, rfl⟩; obtain ⟨hxL, rfl⟩ : ∃ x, x = hx := ⟨_, rfl⟩))
    | (apply WL.append1 (z := (u.lit m.d.t k y)) tOk encI_ok; (iterate 10 exact rfl); assumption; (exact extA); (exact rfl); (assumption); exact rfl; exact rfl; (exact extA); (omega); intro a' cap' w' hO hX' hU hF)
    | (show WL _ _ _ _ _ _ _; first | apply WL.nil | (refine WL.au (k := ?_)) | (apply WL.index tOk; (iterate 8 exact rfl); assumption; (exact extA); exact rfl; omega; assumption; intro b off h; have hcc := h; first | (obtain ⟨h1, h2, h3, h4, h5, h6, _⟩ := h) | (obtain ⟨h1, h2, h3, _⟩ := h) | (obtain ⟨h1, h2, _⟩ := h) | (obtain ⟨h1, _⟩ := h)))
    | (show Z _ _ _ _ _; first | apply Z.then_normal | apply Z.block_normal)
    | (show W _ _ _ _ _ _; first | apply W.seq | apply W.region | apply W.block | apply W.skip)
    | fail)
   exact Z.againO a' cap' ⟨by omega, hX', by rw [e1]; exact hO⟩ (by repeat' first | exact trivial | (refine And.intro ?_ ?_) | exact rfl | (rw [e1]; exact rfl))
  ·obtain rfl : j = m.d.cons.2.2.length := by omega
   rw [List.take_length] at hO1
   repeat' (first
    | (apply WL.nilc; (iterate 3 exact rfl))
    | (apply WL.gF; exact rfl; exact rfl; (focus (exact dec_false (by omega); done)))
    | (show WL _ _ _ _ _ _ _; first | apply WL.nil | (refine WL.au (k := ?_)) | (apply WL.guardF; exact rfl; exact rfl))
    | (show Z _ _ _ _ _; first | apply Z.then_normal | apply Z.then_exit | apply Z.block_exit)
    | (show W _ _ _ _ _ _; first | apply W.seq | apply W.region | apply W.ret | apply W.exit | (apply W.condF; exact rfl))
    | fail)
   exact Z.body1 Tryz.results65 rfl fun m => ⟨hX1.at m, bb, cp, by rw [List.take_length], hO1.ext ((Ext.refl _).at m)⟩
 ·have e : u.cons m.d.t k = [] := by unfold UnV.cons; rw [if_neg hk]
  rw [e]
  refine W.loopW 0 (fun j w' => j ≤ 0 ∧ w' = w1) (fun j => [(0, .pointer (some ⟨m.gF, 0, none⟩)), (1, .int .i64 k), (5, .slice (some ⟨gb, 0, none⟩) 0 0), (6, .int .i64 0)]) ⟨Nat.le_refl _, rfl⟩ (fun k w' h => h.1) (by repeat' first | exact trivial | (refine And.intro ?_ ?_) | exact rfl) ?_
  rintro j w2 ⟨hj, rfl⟩
  have RB1 := RB.ext hx1
  by_cases h0 : 0 < m.d.cons.2.2.length
  ·by_cases hk0 : k < 0
   ·repeat' (first
     | (apply WL.nilc; (iterate 3 exact rfl))
     | (apply WL.gT; exact rfl; exact rfl; (focus (exact dec_true (by omega))))
     | (apply WL.gF; exact rfl; exact rfl; (focus (exact dec_false (by omega); done)))
     | (show WL _ _ _ _ _ _ _; first | apply WL.nil | (refine WL.au (k := ?_)) | (apply WL.guardF; exact rfl; exact rfl))
     | (show Z _ _ _ _ _; first | apply Z.then_normal | apply Z.then_exit | apply Z.block_exit)
     | (show W _ _ _ _ _ _; first | apply W.seq | apply W.region | apply W.ret | apply W.exit | (apply W.condF; exact rfl))
     | fail)
    exact Z.body1 Tryz.results65 rfl fun m => ⟨hx1.at m, some ⟨gb, 0, none⟩, 0, rfl, hO0.ext ((Ext.refl _).at m)⟩
   ·repeat' (first
     | (apply WL.nilc; (iterate 3 exact rfl))
     | (apply WL.gT; exact rfl; exact rfl; (focus (exact dec_true (by omega))))
     | (apply W.condKF; exact rfl; (focus (exact dec_false (by omega); done)))
     | (show WL _ _ _ _ _ _ _; first | apply WL.nil | (refine WL.au (k := ?_)))
     | (show Z _ _ _ _ _; first | apply Z.then_normal | apply Z.then_exit | apply Z.block_exit)
     | (show W _ _ _ _ _ _; first | apply W.seq | apply W.region | apply W.ret | apply W.exit)
     | fail)
    exact Z.body1 Tryz.results65 rfl fun m => ⟨hx1.at m, some ⟨gb, 0, none⟩, 0, rfl, hO0.ext ((Ext.refl _).at m)⟩
  ·repeat' (first
    | (apply WL.nilc; (iterate 3 exact rfl))
    | (apply WL.gF; exact rfl; exact rfl; (focus (exact dec_false (by omega); done)))
    | (show WL _ _ _ _ _ _ _; first | apply WL.nil | (refine WL.au (k := ?_)) | (apply WL.guardF; exact rfl; exact rfl))
    | (show Z _ _ _ _ _; first | apply Z.then_normal | apply Z.then_exit | apply Z.block_exit)
    | (show W _ _ _ _ _ _; first | apply W.seq | apply W.region | apply W.ret | apply W.exit | (apply W.condF; exact rfl))
    | fail)
   exact Z.body1 Tryz.results65 rfl fun m => ⟨hx1.at m, some ⟨gb, 0, none⟩, 0, rfl, hO0.ext ((Ext.refl _).at m)⟩
end
end Go.Proofs.YteidpnpbfagaeaaGreat
namespace Go.Lt
open Go.RowKit
set_option linter.unusedVariables false

theorem Row.keep {α : Type} {s : Nat} {enc : α → List Value} {w w' : World} {a : Option Addr} {l : List α} (h : Row s enc w a l) (hb : ∀ k, blk a = some k → w'.heap[k]? = w.heap[k]?) : Row s enc w' a l := by
 refine ⟨h.len, fun i x hx => ?_⟩
 obtain ⟨b, off, h1, h2⟩ := h.elem i x hx
 refine ⟨b, off, h1, ?_⟩
 have e := hb b (by rw [h1]; rfl)
 have key : ∀ (L : List Value) (o : Nat), Cells w b o L → Cells w' b o L := by
  intro L
  induction L with
  | nil => intro o _; trivial
  | cons u r ih =>
   intro o hc
   refine ⟨?_, ih _ hc.2⟩
   have h3 := hc.1
   simp only [World.cell?] at h3 ⊢
   rw [e]; exact h3
 exact key _ _ h2
def pfro (k : Nat) (v : Option Obj) : Piece := ⟨some k, fun w => w.heap[k]? = v, fun h hb => by rw [hb k rfl]; exact h⟩
def frz (b : Nat) (w : World) : List Piece := (List.range (w.heap.size - b)).map fun i => pfro (b + i) (w.heap[b + i]?)
theorem frz_get {b : Nat} {w : World} {i : Nat} {p : Piece} (h : (frz b w)[i]? = some p) : b + i < w.heap.size ∧ p = pfro (b + i) (w.heap[b + i]?) := by
 unfold frz at h
 rw [List.getElem?_map] at h
 obtain ⟨j, hj, rfl⟩ := Option.map_eq_some_iff.1 h
 obtain ⟨h1, h2⟩ := List.getElem?_eq_some_iff.1 hj
 simp at h1 h2
 subst h2
 exact ⟨by omega, rfl⟩
theorem get_app {α : Type} {l r : List α} {i : Nat} {x : α} (h : (l ++ r)[i]? = some x) : l[i]? = some x ∨ (l.length ≤ i ∧ r[i - l.length]? = some x) := by
 by_cases hi : i < l.length
 ·rw [List.getElem?_append_left hi] at h; exact .inl h
 ·rw [List.getElem?_append_right (by omega)] at h; exact .inr ⟨by omega, h⟩
theorem Sep.freeze {B : Nat} {w1 w2 : World} {ps : List Piece} (hS : Sep B w1 ps) (hx : Ext w1 w2) (hB : B ≤ w1.heap.size) : Sep B w2 (ps ++ frz w1.heap.size w2) := by
 have hS' := hS.ext hx
 refine ⟨fun i p h => ?_, fun i j p q h1 h2 hne => ?_⟩
 ·rcases get_app h with h | ⟨_, h⟩
  ·exact hS'.holds i p h
  ·obtain ⟨h1, rfl⟩ := frz_get h
   exact ⟨rfl, fun k hk => by cases hk; exact ⟨by omega, h1⟩⟩
 ·have old : ∀ (i : Nat) (p : Piece) (k : Nat), ps[i]? = some p → p.b = some k → k < w1.heap.size := fun i p k h hk => ((hS.holds i p h).2 k hk).2
  rcases get_app h1 with h1 | ⟨l1, h1⟩
  ·rcases get_app h2 with h2 | ⟨l2, h2⟩
   ·exact hS.apart i j p q h1 h2 hne
   ·obtain ⟨_, rfl⟩ := frz_get h2
    cases hb : p.b with
    | none => exact .inl rfl
    | some k => exact .inr fun he => by have e2 := Option.some.inj he; have := old i p k h1 hb; omega
  ·obtain ⟨_, rfl⟩ := frz_get h1
   rcases get_app h2 with h2 | ⟨l2, h2⟩
   ·exact .inr fun he => by have := old j q _ h2 he.symm; omega
   ·obtain ⟨_, rfl⟩ := frz_get h2
    exact .inr fun he => by have e2 := Option.some.inj he; omega
theorem OwnRR.keep {α : Type} {s : Nat} {enc : α → List Value} {el elO B : Nat} {w w' : World} {a : Option Addr} {cap : Nat} {rs : List (RowV α)} (h : OwnRR s enc el elO B w a cap rs) (hb : ∀ k, B ≤ k → k < w.heap.size → w'.heap[k]? = w.heap[k]?) : OwnRR s enc el elO B w' a cap rs :=
 ⟨h.outer.keep fun k hk => hb k (h.outer.blk_lt k hk).1 (h.outer.blk_lt k hk).2, fun i r hr => (h.inner i r hr).keep fun k hk => hb k ((h.inner i r hr).blk_lt k hk).1 ((h.inner i r hr).blk_lt k hk).2, h.apartO, h.apart⟩
end Go.Lt
namespace Go.Proofs.YteidpnpbfagaeaaGreat
open Go Go.Lt Go.RowKit
set_option linter.unusedVariables false
set_option linter.unusedSimpArgs false
set_option maxRecDepth 20000

theorem Row.blk_lt {α : Type} {s : Nat} {enc : α → List Value} {w : World} {a : Option Addr} {l : List α} (hE : Enc s enc) (h : Row s enc w a l) (hl : l ≠ []) : ∃ k, blk a = some k ∧ k < w.heap.size := by
 cases l with
 | nil => exact absurd rfl hl
 | cons x r =>
  obtain ⟨b, off, h1, h2⟩ := h.elem 0 x rfl
  refine ⟨b, by rw [h1]; rfl, ?_⟩
  have hp := hE.pos
  have hxl := hE.len x
  cases hx : enc x with
  | nil => rw [hx] at hxl; simp at hxl; omega
  | cons u q => rw [hx] at h2; exact World.block_lt_of_cell? _ _ h2.1
theorem Row.but {α : Type} {s : Nat} {enc : α → List Value} {w w' : World} {a : Option Addr} {l : List α} {b : Option Nat} (hE : Enc s enc) (h : Row s enc w a l) (hb : But w b w') (hne : l ≠ [] → ∀ k, blk a = some k → b ≠ some k) : Row s enc w' a l := by
 by_cases hl : l = []
 ·subst hl; exact Row.nil s enc w' a
 ·obtain ⟨k, hk, hlt⟩ := Row.blk_lt hE h hl
  exact h.keep fun q hq => by rw [hk] at hq; cases hq; exact hb.block k hlt (fun h => hne hl k hk h.symm)
structure AllI (B bk : Nat) (w : World) (a : Option Addr) (cp : Nat) (rs : List (RowV Int)) : Prop where
 own : Own 1 encRow 22 B w a cp rs
 rows : ∀ r ∈ rs, Row 1 encI w r.1 r.2.2
 ne : ∀ r ∈ rs, r.2.2 ≠ [] → ∀ k, blk r.1 = some k → blk a ≠ some k ∧ k ≠ bk
theorem AllI.but {B bk cp : Nat} {w w' : World} {a : Option Addr} {rs : List (RowV Int)} (h : AllI B bk w a cp rs) (hb : But w (some bk) w') (hB : bk < B) : AllI B bk w' a cp rs :=
 ⟨h.own.keep fun k hk => hb.block k (h.own.blk_lt k hk).2 (fun he => by have h1 := (h.own.blk_lt k hk).1; have h2 := Option.some.inj he; omega), fun r hr => Row.but encI_ok (h.rows r hr) hb fun hl k hk he => (h.ne r hr hl k hk).2 (by cases he; rfl), h.ne⟩
theorem AllI.push {B bk cp cp' gb : Nat} {w w1 w2 : World} {a a' : Option Addr} {rs : List (RowV Int)} {xs : List Int} (h : AllI B bk w a cp rs) (hx : Ext w w1) (hc : Row 1 encI w1 (some ⟨gb, 0, none⟩) xs) (hge : w.heap.size ≤ gb) (hgl : gb < w1.heap.size) (hB : bk < w.heap.size)
  (hO : Own 1 encRow 22 B w2 a' cp' (rs ++ [(some ⟨gb, 0, none⟩, xs.length, xs)])) (hU : Upd B a w1 w2) (hF : blk a' = blk a ∨ ∃ k, blk a' = some k ∧ w1.heap.size ≤ k) : AllI B bk w2 a' cp' (rs ++ [(some ⟨gb, 0, none⟩, xs.length, xs)]) := by
 have hgna : blk a ≠ some gb := fun he => by have := (h.own.blk_lt gb he).2; omega
 have hnew : ∀ k, k < w1.heap.size → blk a ≠ some k → blk a' ≠ some k := fun k hk hne => by
  rcases hF with hF | ⟨q, hq, hql⟩
  ·rw [hF]; exact hne
  ·rw [hq]; intro he; cases he; omega
 refine ⟨hO, fun r hr => ?_, fun r hr hl k hk => ?_⟩
 ·rcases List.mem_append.1 hr with hr | hr
  ·exact Row.but encI_ok ((h.rows r hr).ext hx) hU.grown fun hl k hk he => (h.ne r hr hl k hk).1 he
  ·obtain rfl := List.mem_singleton.1 hr
   exact Row.but encI_ok hc hU.grown fun hl k hk he => by cases hk; exact hgna he
 ·rcases List.mem_append.1 hr with hr | hr
  ·obtain ⟨q, hq, hlt⟩ := Row.blk_lt encI_ok (h.rows r hr) hl
   rw [hq] at hk
   have hqk := Option.some.inj hk
   subst hqk
   have := h.ne r hr hl q hq
   exact ⟨hnew q (Nat.lt_of_lt_of_le hlt hx.size) this.1, this.2⟩
  ·obtain rfl := List.mem_singleton.1 hr
   have hk' : gb = k := Option.some.inj hk
   subst hk'
   exact ⟨hnew gb hgl hgna, by omega⟩
theorem flat_snoc (rs : List (RowV Int)) (r : RowV Int) : (rs ++ [r]).flatMap (·.2.2) = rs.flatMap (·.2.2) ++ r.2.2 := by simp
theorem all_app (l m : List Int) (p : Int → Bool) : (l ++ m).all p = (l.all p && m.all p) := List.all_append

set_option maxHeartbeats 16000000 in
theorem circ_uses (c : Circ) (w0 w : World) (f bk : Nat) (us : List Value) (p : Int → Bool) (b0 : Bool) (hC : CAt w0 c) (hz : SzC c.t 100000) (hX : Ext w0 w) (hbk : w0.heap.size ≤ bk) (hcell : w.heap[bk]? = some (.cells #[.bool b0] 4 (0, 0)))
  (hcl : ∀ x ∈ c.t.used, ∀ (w1 : World) (b : Bool), But w (some bk) w1 → w1.heap[bk]? = some (.cells #[.bool b] 4 (0, 0)) →
   Lt.Spec Tryz.prog f ([.int .i64 x] ++ us) w1 (fun v w2 => v = .bool (b && p x) ∧ But w1 (some bk) w2 ∧ w2.heap[bk]? = some (.cells #[.bool (b && p x)] 4 (0, 0)))) :
  Lt.Spec Tryz.prog 108 [c.val, .func (.func f) #[] us.toArray] w (fun v w' => v = .tuple #[] ∧ But w (some bk) w' ∧ w'.heap[bk]? = some (.cells #[.bool (b0 && c.t.used.all p)] 4 (0, 0))) := by
 have z2 : c.lat.2.2.length ≤ 100000 := hz.2.1
 have z6 : c.gates.2.2.length ≤ 100000 := hz.2.2.2.2.2
 have hbl := heap_lt hcell
 refine Spec.of _ Tryz.func108 rfl Tryz.ntmps108 (by kernel_rfl) rfl ?_
 repeat' (first
  | (apply WL.box; (iterate 3 exact rfl); intro gb w' hb hge hc hx; have hcc := hc; ((obtain ⟨h1, h2, h3, _⟩ := hc)); (have hcells := hcc; obtain ⟨y0, y1, y2, y3, y4, y5, y6, y7, y8, _⟩ := hcc; obtain ⟨gc, rfl⟩ : ∃ x, x = gb := ⟨_, rfl⟩; obtain ⟨wc, rfl⟩ : ∃ x, x = w' := ⟨_, rfl⟩; obtain ⟨hxc, rfl⟩ : ∃ x, x = hx := ⟨_, rfl⟩))
  | (apply WL.lit tOk; (iterate 6 exact rfl); (kernel_rfl); exact rfl; intro gb w' hb hge hc hx; have hO := Own.of_block ([((c.outs.1, c.outs.2.1, c.outs.2.2) : RowV Int), (c.bads.1, c.bads.2.1, c.bads.2.2), (c.cons.1, c.cons.2.1, c.cons.2.2)]) encRow_ok hb hge rfl; (obtain ⟨g1, rfl⟩ : ∃ x, x = gb := ⟨_, rfl⟩; obtain ⟨w1, rfl⟩ : ∃ x, x = w' := ⟨_, rfl⟩; obtain ⟨hx1, rfl⟩ : ∃ x, x = hx := ⟨_, rfl⟩; obtain ⟨hO1, rfl⟩ : ∃ x, x = hO := ⟨_, rfl⟩))
  | (show WL _ _ _ _ _ _ _; first | apply WL.nil | (refine WL.au (k := ?_)))
  | (show Z _ _ _ _ _; apply Z.then_normal)
  | (show W _ _ _ _ _ _; first | apply W.seq | apply W.region | apply W.block)
  | fail)
 have hwc := Below.size hxc
 have hA1 : AllI wc.heap.size bk w1 (some ⟨g1, 0, none⟩) 3 [((c.outs.1, c.outs.2.1, c.outs.2.2) : RowV Int), (c.bads.1, c.bads.2.1, c.bads.2.2), (c.cons.1, c.cons.2.1, c.cons.2.2)] := by
  have hX1 : Ext w0 w1 := extA
  refine ⟨hO1, fun r hr => ?_, fun r hr hl k hk => ?_⟩
  ·simp only [List.mem_cons, List.not_mem_nil, or_false] at hr
   rcases hr with rfl | rfl | rfl
   ·exact hC.outs.row.ext hX1
   ·exact hC.bads.row.ext hX1
   ·exact hC.cons.row.ext hX1
  ·have hlt : k < w0.heap.size := by
    simp only [List.mem_cons, List.not_mem_nil, or_false] at hr
    rcases hr with rfl | rfl | rfl
    ·obtain ⟨q, hq, hlt⟩ := Row.blk_lt encI_ok hC.outs.row hl; rw [hq] at hk; have := Option.some.inj hk; omega
    ·obtain ⟨q, hq, hlt⟩ := Row.blk_lt encI_ok hC.bads.row hl; rw [hq] at hk; have := Option.some.inj hk; omega
    ·obtain ⟨q, hq, hlt⟩ := Row.blk_lt encI_ok hC.cons.row hl; rw [hq] at hk; have := Option.some.inj hk; omega
   refine ⟨fun he => ?_, by omega⟩
   have := Option.some.inj he
   simp only at this
   omega
 have Rl := hC.lat.row
 have Rg := hC.gates.row
 refine W.loopO c.lat.2.2.length (fun k a cp w' => k ≤ c.lat.2.2.length ∧ Ext wc w' ∧ ∃ rs : List (RowV Int), AllI wc.heap.size bk w' a cp rs ∧ rs.flatMap (·.2.2) = c.outs.2.2 ++ c.bads.2.2 ++ c.cons.2.2 ++ (c.lat.2.2.take k).map (·.2.1) ∧ rs.length = 3 + k) (fun k a cp => [(1, .func (.func f) #[] us.toArray), (2, .pointer (some ⟨gc, 0, none⟩)), (4, .slice a (3 + k) cp), (21, rowVal c.lat), (22, .int .i64 (c.lat.2.2.length : Nat)), (23, .int .i64 k)]) (some ⟨g1, 0, none⟩) 3 ⟨Nat.zero_le _, hx1, _, hA1, by simp, rfl⟩ (fun k a cp w' h => h.1) ⟨rfl, rfl, rfl, rfl, rfl, rfl, trivial⟩ ?_
 rintro k a cp w3 ⟨hk, hX3, rs, hA3, hfl, hlen⟩
 have hOO := hA3.own
 by_cases hlt : k < c.lat.2.2.length
 ·obtain ⟨x, hgx⟩ := getI c.lat.2.2 hlt
  have e1 := map_take_succ (·.2.1) hgx
  have Rl2 : Row 3 enc3 wc c.lat.1 c.lat.2.2 := Rl.ext extA
  repeat' (first
   | (show WL _ _ _ _ _ _ _; first | apply WL.nil | (refine WL.au (k := ?_)))
   | (show Z _ _ _ _ _; apply Z.then_normal)
   | (show W _ _ _ _ _ _; first | apply W.seq | apply W.region)
   | fail)
  refine W.condKT rfl (dec_true (by omega)) ?_
  repeat' (first
   | (apply WL.alloc tOk; (iterate 3 exact rfl); intro gb w' hb hge hx)
   | (apply WL.storeB (w0 := w3) tOk; (iterate 4 exact rfl); assumption; (exact extA); (iterate 3 exact rfl); (exact extA); (assumption); intro w' hb hc hX' hU; have hcc := hc; obtain ⟨h1, h2, _⟩ := hc; (obtain ⟨w4, rfl⟩ : ∃ x, x = w' := ⟨_, rfl⟩; obtain ⟨hX4, rfl⟩ : ∃ x, x = hX' := ⟨_, rfl⟩; have hC4 := cells_heap hb; obtain ⟨i0, i1, i2, _⟩ := hC4))
   | (apply WL.lit tOk; (iterate 6 exact rfl); (kernel_rfl); exact rfl; intro gb w' hb hge hc hx; have hO := Own.of_block ([x.2.1]) encI_ok hb hge rfl; (obtain ⟨g2, rfl⟩ : ∃ x, x = gb := ⟨_, rfl⟩; obtain ⟨w5, rfl⟩ : ∃ x, x = w' := ⟨_, rfl⟩; obtain ⟨hx5, rfl⟩ : ∃ x, x = hx := ⟨_, rfl⟩; obtain ⟨hO5, rfl⟩ : ∃ x, x = hO := ⟨_, rfl⟩; obtain ⟨hb5, rfl⟩ : ∃ x, x = hb := ⟨_, rfl⟩; obtain ⟨hge5, rfl⟩ : ∃ x, x = hge := ⟨_, rfl⟩))
   | (apply WL.lit tOk; (iterate 6 exact rfl); (kernel_rfl); exact rfl; intro gb w' hb hge hc hx; (obtain ⟨g6, rfl⟩ : ∃ x, x = gb := ⟨_, rfl⟩; obtain ⟨w6, rfl⟩ : ∃ x, x = w' := ⟨_, rfl⟩; obtain ⟨hx6, rfl⟩ : ∃ x, x = hx := ⟨_, rfl⟩))
   | (apply WL.append1 (z := (((some ⟨g2, 0, none⟩, 1, [x.2.1]) : RowV Int))) tOk encRow_ok; (iterate 10 exact rfl); assumption; (exact extA); ((focus (simp [*]; done))); (assumption); exact rfl; exact rfl; (exact extA); (omega); intro a' cap' w' hO hX' hU hF)
   | (show WL _ _ _ _ _ _ _; first | apply WL.nil | (refine WL.au (k := ?_)) | (apply WL.index tOk; (iterate 8 exact rfl); assumption; (exact extA); exact rfl; omega; assumption; intro b off h; have hcc := h; first | (obtain ⟨h1, h2, h3, h4, h5, h6, _⟩ := h) | (obtain ⟨h1, h2, h3, _⟩ := h) | (obtain ⟨h1, h2, _⟩ := h) | (obtain ⟨h1, _⟩ := h)))
   | (show Z _ _ _ _ _; first | apply Z.then_normal | apply Z.block_normal)
   | (show W _ _ _ _ _ _; first | apply W.seq | apply W.region | apply W.block | apply W.skip)
   | fail)
  have hlg : rs.length + 1 ≤ 137438953472 := by omega
  have le1 : (rs ++ [((some ⟨g2, 0, none⟩, 1, [x.2.1]) : RowV Int)]).length = 3 + (k + 1) := by rw [List.length_append, hlen]; rfl
  have hA6 := hA3.push (show Ext w3 w6 from extA) (Row.ext (hO5.row encI_ok) extA) (Nat.le_trans (Below.size hX4) hge5) (Nat.lt_of_lt_of_le (heap_lt hb5) (Below.size hx6)) (Nat.lt_of_lt_of_le hbl (Nat.le_trans hwc (Below.size hX3))) hO hU hF
  exact Z.againO a' cap' ⟨by omega, extA, _, hA6, by rw [e1]; simp [hfl], le1⟩ ⟨rfl, rfl, by rw [← le1]; exact rfl, rfl, rfl, rfl, trivial⟩
 obtain rfl : k = c.lat.2.2.length := by omega
 rw [List.take_length] at hfl
 repeat' (first
  | (show WL _ _ _ _ _ _ _; first | apply WL.nil | (refine WL.au (k := ?_)))
  | (show Z _ _ _ _ _; apply Z.then_normal)
  | (show W _ _ _ _ _ _; first | apply W.seq | apply W.region)
  | fail)
 refine W.condKF rfl (dec_false (by omega)) ?_
 repeat' (first
  | (show WL _ _ _ _ _ _ _; first | apply WL.nil | (refine WL.au (k := ?_)))
  | (show Z _ _ _ _ _; first | apply Z.then_normal | apply Z.then_exit | apply Z.block_exit)
  | (show W _ _ _ _ _ _; first | apply W.seq | apply W.region | apply W.block | apply W.exit)
  | fail)
 refine W.loopO c.gates.2.2.length (fun k a cp w' => k ≤ c.gates.2.2.length ∧ Ext wc w' ∧ ∃ rs : List (RowV Int), AllI wc.heap.size bk w' a cp rs ∧ rs.flatMap (·.2.2) = c.outs.2.2 ++ c.bads.2.2 ++ c.cons.2.2 ++ c.lat.2.2.map (·.2.1) ++ (c.gates.2.2.take k).flatMap (fun g => [g.2.1, g.2.2]) ∧ rs.length = 3 + c.lat.2.2.length + k) (fun k a cp => [(1, .func (.func f) #[] us.toArray), (2, .pointer (some ⟨gc, 0, none⟩)), (4, .slice a (3 + c.lat.2.2.length + k) cp), (35, rowVal c.gates), (36, .int .i64 (c.gates.2.2.length : Nat)), (37, .int .i64 k)]) a cp ⟨Nat.zero_le _, hX3, _, hA3, by simp [hfl], hlen⟩ (fun k a cp w' h => h.1) ⟨rfl, rfl, rfl, rfl, rfl, rfl, trivial⟩ ?_
 clear hA3 hX3 hOO hfl hlen
 rintro k a cp w3 ⟨hk, hX3, rs, hA3, hfl, hlen⟩
 have hOO := hA3.own
 by_cases hlt : k < c.gates.2.2.length
 ·obtain ⟨x, hgx⟩ := getI c.gates.2.2 hlt
  have e1 : (c.gates.2.2.take (k + 1)).flatMap (fun g => [g.2.1, g.2.2]) = (c.gates.2.2.take k).flatMap (fun g => [g.2.1, g.2.2]) ++ [x.2.1, x.2.2] := by rw [take_succ' hgx]; simp
  have Rg2 : Row 3 enc3 wc c.gates.1 c.gates.2.2 := Rg.ext extA
  repeat' (first
   | (show WL _ _ _ _ _ _ _; first | apply WL.nil | (refine WL.au (k := ?_)))
   | (show Z _ _ _ _ _; apply Z.then_normal)
   | (show W _ _ _ _ _ _; first | apply W.seq | apply W.region)
   | fail)
  refine W.condKT rfl (dec_true (by omega)) ?_
  repeat' (first
   | (apply WL.alloc tOk; (iterate 3 exact rfl); intro gb w' hb hge hx)
   | (apply WL.storeB (w0 := w3) tOk; (iterate 4 exact rfl); assumption; (exact extA); (iterate 3 exact rfl); (exact extA); (assumption); intro w' hb hc hX' hU; have hcc := hc; obtain ⟨h1, h2, _⟩ := hc; (obtain ⟨w4, rfl⟩ : ∃ x, x = w' := ⟨_, rfl⟩; obtain ⟨hX4, rfl⟩ : ∃ x, x = hX' := ⟨_, rfl⟩; have hC4 := cells_heap hb; obtain ⟨i0, i1, i2, _⟩ := hC4))
   | (apply WL.lit tOk; (iterate 6 exact rfl); (kernel_rfl); exact rfl; intro gb w' hb hge hc hx; have hO := Own.of_block ([x.2.1, x.2.2]) encI_ok hb hge rfl; (obtain ⟨g2, rfl⟩ : ∃ x, x = gb := ⟨_, rfl⟩; obtain ⟨w5, rfl⟩ : ∃ x, x = w' := ⟨_, rfl⟩; obtain ⟨hx5, rfl⟩ : ∃ x, x = hx := ⟨_, rfl⟩; obtain ⟨hO5, rfl⟩ : ∃ x, x = hO := ⟨_, rfl⟩; obtain ⟨hb5, rfl⟩ : ∃ x, x = hb := ⟨_, rfl⟩; obtain ⟨hge5, rfl⟩ : ∃ x, x = hge := ⟨_, rfl⟩))
   | (apply WL.lit tOk; (iterate 6 exact rfl); (kernel_rfl); exact rfl; intro gb w' hb hge hc hx; (obtain ⟨g6, rfl⟩ : ∃ x, x = gb := ⟨_, rfl⟩; obtain ⟨w6, rfl⟩ : ∃ x, x = w' := ⟨_, rfl⟩; obtain ⟨hx6, rfl⟩ : ∃ x, x = hx := ⟨_, rfl⟩))
   | (apply WL.append1 (z := (((some ⟨g2, 0, none⟩, 2, [x.2.1, x.2.2]) : RowV Int))) tOk encRow_ok; (iterate 10 exact rfl); assumption; (exact extA); ((focus (simp [*]; done))); (assumption); exact rfl; exact rfl; (exact extA); (omega); intro a' cap' w' hO hX' hU hF)
   | (show WL _ _ _ _ _ _ _; first | apply WL.nil | (refine WL.au (k := ?_)) | (apply WL.index tOk; (iterate 8 exact rfl); assumption; (exact extA); exact rfl; omega; assumption; intro b off h; have hcc := h; first | (obtain ⟨h1, h2, h3, h4, h5, h6, _⟩ := h) | (obtain ⟨h1, h2, h3, _⟩ := h) | (obtain ⟨h1, h2, _⟩ := h) | (obtain ⟨h1, _⟩ := h)))
   | (show Z _ _ _ _ _; first | apply Z.then_normal | apply Z.block_normal)
   | (show W _ _ _ _ _ _; first | apply W.seq | apply W.region | apply W.block | apply W.skip)
   | fail)
  have hlg : rs.length + 1 ≤ 137438953472 := by omega
  have le1 : (rs ++ [((some ⟨g2, 0, none⟩, 2, [x.2.1, x.2.2]) : RowV Int)]).length = 3 + c.lat.2.2.length + (k + 1) := by rw [List.length_append, hlen]; rfl
  have hA6 := hA3.push (show Ext w3 w6 from extA) (Row.ext (hO5.row encI_ok) extA) (Nat.le_trans (Below.size hX4) hge5) (Nat.lt_of_lt_of_le (heap_lt hb5) (Below.size hx6)) (Nat.lt_of_lt_of_le hbl (Nat.le_trans hwc (Below.size hX3))) hO hU hF
  exact Z.againO a' cap' ⟨by omega, extA, _, hA6, by rw [e1]; simp [hfl], le1⟩ ⟨rfl, rfl, by rw [← le1]; exact rfl, rfl, rfl, rfl, trivial⟩
 obtain rfl : k = c.gates.2.2.length := by omega
 rw [List.take_length] at hfl
 repeat' (first
  | (show WL _ _ _ _ _ _ _; first | apply WL.nil | (refine WL.au (k := ?_)))
  | (show Z _ _ _ _ _; apply Z.then_normal)
  | (show W _ _ _ _ _ _; first | apply W.seq | apply W.region)
  | fail)
 refine W.condKF rfl (dec_false (by omega)) ?_
 repeat' (first
  | (show WL _ _ _ _ _ _ _; first | apply WL.nil | (refine WL.au (k := ?_)))
  | (show Z _ _ _ _ _; first | apply Z.then_normal | apply Z.then_exit | apply Z.block_exit)
  | (show W _ _ _ _ _ _; first | apply W.seq | apply W.region | apply W.block | apply W.exit)
  | fail)
 have hfu : rs.flatMap (·.2.2) = c.t.used := hfl
 have hX4 : Ext w w3 := extA
 have hc3 : w3.heap[bk]? = some (.cells #[.bool b0] 4 (0, 0)) := by rw [hX4.block bk hbl]; exact hcell
 rw [← hlen]
 refine W.loopW rs.length (fun k w' => k ≤ rs.length ∧ But w3 (some bk) w' ∧ w'.heap[bk]? = some (.cells #[.bool (b0 && ((rs.take k).flatMap (·.2.2)).all p)] 4 (0, 0))) (fun k => [(1, .func (.func f) #[] us.toArray), (50, .slice a rs.length cp), (51, .int .i64 (rs.length : Nat)), (52, .int .i64 k)]) ⟨Nat.zero_le _, But.ext (Ext.refl _), by rw [List.take_zero]; simpa using hc3⟩ (fun k w' h => h.1) ⟨rfl, rfl, rfl, rfl, trivial⟩ ?_
 have hbB : bk < wc.heap.size := Nat.lt_of_lt_of_le hbl hwc
 rintro k w4 ⟨hk, hB4, hc4⟩
 by_cases hlt : k < rs.length
 ·obtain ⟨r, hr⟩ := getI rs (show k < rs.length by omega)
  have hrm := List.mem_of_getElem? hr
  have hA4 := hA3.but hB4 hbB
  have RO := hA4.own.row encRow_ok
  repeat' (first
   | (show WL _ _ _ _ _ _ _; first | apply WL.nil | (refine WL.au (k := ?_)))
   | (show Z _ _ _ _ _; apply Z.then_normal)
   | (show W _ _ _ _ _ _; first | apply W.seq | apply W.region)
   | fail)
  refine W.condKT rfl (dec_true (by omega)) ?_
  repeat' (first
   | (show WL _ _ _ _ _ _ _; first | apply WL.nil | (refine WL.au (k := ?_)) | (apply WL.index tOk; (iterate 8 exact rfl); assumption; (exact extA); exact rfl; omega; assumption; intro b off h; have hcc := h; first | (obtain ⟨h1, h2, h3, h4, h5, h6, _⟩ := h) | (obtain ⟨h1, h2, h3, _⟩ := h) | (obtain ⟨h1, h2, _⟩ := h) | (obtain ⟨h1, _⟩ := h)))
   | (show Z _ _ _ _ _; apply Z.then_normal)
   | (show W _ _ _ _ _ _; first | apply W.seq | apply W.region | apply W.block | apply W.skip)
   | fail)
  refine W.loopW r.2.2.length (fun j w' => j ≤ r.2.2.length ∧ But w3 (some bk) w' ∧ w'.heap[bk]? = some (.cells #[.bool (b0 && ((rs.take k).flatMap (·.2.2) ++ r.2.2.take j).all p)] 4 (0, 0))) (fun j => [(1, .func (.func f) #[] us.toArray), (50, .slice a rs.length cp), (51, .int .i64 (rs.length : Nat)), (52, .int .i64 k), (56, .slice r.1 r.2.2.length r.2.1), (57, .int .i64 (r.2.2.length : Nat)), (58, .int .i64 j)]) ⟨Nat.zero_le _, hB4, by rw [List.take_zero, List.append_nil]; exact hc4⟩ (fun k w' h => h.1) ⟨rfl, rfl, rfl, rfl, rfl, rfl, rfl, trivial⟩ ?_
  rintro j w5 ⟨hj, hB5, hc5⟩
  have Rr := (hA3.but hB5 hbB).rows r hrm
  have hrl := Rr.len
  by_cases hjl : j < r.2.2.length
  ·obtain ⟨x, hgx⟩ := getI r.2.2 hjl
   have hxu : x ∈ c.t.used := by rw [← hfu]; exact List.mem_flatMap.2 ⟨r, hrm, List.mem_of_getElem? hgx⟩
   have hcall := hcl x hxu w5 _ ((But.ext hX4).trans hB5) hc5
   have e1 : (rs.take k).flatMap (·.2.2) ++ r.2.2.take (j + 1) = ((rs.take k).flatMap (·.2.2) ++ r.2.2.take j) ++ [x] := by rw [take_succ' hgx, List.append_assoc]
   have e2 : (b0 && ((rs.take k).flatMap (·.2.2) ++ r.2.2.take (j + 1)).all p) = (b0 && ((rs.take k).flatMap (·.2.2) ++ r.2.2.take j).all p && p x) := by rw [e1, all_app]; simp [Bool.and_assoc]
   refine W.seq ?_
   repeat' (first
    | (show WL _ _ _ _ _ _ _; first | apply WL.nil | (refine WL.au (k := ?_)))
    | (show Z _ _ _ _ _; apply Z.then_normal)
    | (show W _ _ _ _ _ _; first | apply W.seq | apply W.region)
    | fail)
   refine W.condKT rfl (dec_true (by omega)) ?_
   repeat' (first
    | ((show WL _ _ _ (⟨_, .call ⟨.value (.tmp _), _, _⟩, _, _, _, _⟩ :: _) _ _ _; apply WL.call; (iterate 4 exact rfl); exact hcall; rintro v' w' ⟨rfl, hb6, hc6⟩))
    | (show WL _ _ _ _ _ _ _; first | apply WL.nil | (refine WL.au (k := ?_)) | (apply WL.index tOk; (iterate 8 exact rfl); assumption; (exact extA); exact rfl; omega; assumption; intro b off h; have hcc := h; first | (obtain ⟨h1, h2, h3, h4, h5, h6, _⟩ := h) | (obtain ⟨h1, h2, h3, _⟩ := h) | (obtain ⟨h1, h2, _⟩ := h) | (obtain ⟨h1, _⟩ := h)))
    | (show Z _ _ _ _ _; apply Z.then_normal)
    | (show W _ _ _ _ _ _; first | apply W.seq | apply W.region | apply W.block | apply W.skip)
    | fail)
   have hB6 := hB5.trans hb6
   refine W.condB rfl (fun hv => ?_) (fun hv => ?_)
   ·repeat' (first
     | (show Z _ _ _ _ _; first | apply Z.then_ret | apply Z.block_ret)
     | (show W _ _ _ _ _ _; apply W.ret)
     | fail)
    refine Z.body0 Tryz.results108 fun m => ⟨rfl, (((But.ext hX4).trans hB6).of_at m), ?_⟩
    have hv' : (b0 && ((rs.take k).flatMap (·.2.2) ++ r.2.2.take j).all p && p x) = false := by
     cases hq : (b0 && ((rs.take k).flatMap (·.2.2) ++ r.2.2.take j).all p && p x) with
     | true => rw [hq] at hv; cases hv
     | false => rfl
    have e3 : (b0 && c.t.used.all p) = false := by
     rw [← hfu]
     have e4 : rs.flatMap (·.2.2) = ((rs.take k).flatMap (·.2.2) ++ r.2.2.take (j + 1)) ++ (r.2.2.drop (j + 1) ++ (rs.drop (k + 1)).flatMap (·.2.2)) := by
      rw [List.append_assoc, ← List.append_assoc (r.2.2.take (j + 1)), List.take_append_drop]
      conv => lhs; rw [← List.take_append_drop (k + 1) rs, take_succ' hr]
      simp [List.flatMap_append]
     rw [e4, all_app, ← Bool.and_assoc, e2, hv']; rfl
    rw [e3, ← hv']; exact hc6
   ·repeat' (first
     | (show WL _ _ _ _ _ _ _; first | apply WL.nil | (refine WL.au (k := ?_)))
     | (show Z _ _ _ _ _; first | apply Z.then_normal | apply Z.block_normal)
     | (show W _ _ _ _ _ _; first | apply W.region | apply W.skip)
     | fail)
    exact Z.againW ⟨by omega, hB6, by rw [e2]; exact hc6⟩ ⟨rfl, rfl, rfl, rfl, rfl, rfl, rfl, trivial⟩
  obtain rfl : j = r.2.2.length := by omega
  refine W.seq ?_
  repeat' (first
   | (show WL _ _ _ _ _ _ _; first | apply WL.nil | (refine WL.au (k := ?_)))
   | (show Z _ _ _ _ _; apply Z.then_normal)
   | (show W _ _ _ _ _ _; first | apply W.seq | apply W.region)
   | fail)
  refine W.condKF rfl (dec_false (by omega)) ?_
  repeat' (first
   | (show WL _ _ _ _ _ _ _; first | apply WL.nil | (refine WL.au (k := ?_)))
   | (show Z _ _ _ _ _; first | apply Z.then_normal | apply Z.block_normal | apply Z.then_exit | apply Z.block_exit)
   | (show W _ _ _ _ _ _; first | apply W.region | apply W.exit)
   | fail)
  exact Z.againW ⟨by omega, hB5, by rw [take_succ' hr, flat_snoc]; rw [List.take_length] at hc5; exact hc5⟩ ⟨rfl, rfl, rfl, rfl, trivial⟩
 obtain rfl : k = rs.length := by omega
 repeat' (first
  | (show WL _ _ _ _ _ _ _; first | apply WL.nil | (refine WL.au (k := ?_)))
  | (show Z _ _ _ _ _; apply Z.then_normal)
  | (show W _ _ _ _ _ _; first | apply W.seq | apply W.region)
  | fail)
 refine W.condKF rfl (dec_false (by omega)) ?_
 repeat' (first
  | (show Z _ _ _ _ _; first | apply Z.then_exit | apply Z.block_exit)
  | (show W _ _ _ _ _ _; apply W.exit)
  | fail)
 refine Z.body0n Tryz.results108 fun m => ⟨rfl, ((But.ext hX4).trans hB4).of_at m, ?_⟩
 rw [List.take_length, hfu] at hc4
 exact hc4
end Go.Proofs.YteidpnpbfagaeaaGreat
namespace Go.Lt
open Go.RowKit
set_option linter.unusedVariables false
set_option linter.unusedSimpArgs false

structure KeyF {κ : Type} (P : Program) (kt : TypeId) (kv : κ → Value) : Prop where
 find : ∀ {ν : Type} (vv : ν → Value) (a : κ) (w : World) (es : List MapEntry) (L : List (κ × ν)), es.map (fun e => (e.key, e.val)) = L.map (fun x => (kv x.1, vv x.2)) → (Instr.findKey kt (kv a) es).run P w = .ok (mfind vv a L 0) w
 chk : ∀ empty a w, (Instr.checkKey empty 10000 kt (kv a)).run P w = .ok () w
 same : ∀ a, Instr.sameBits 10000 (kv a) (kv a) = true
theorem findNow_of {κ ν : Type} {d : TypeDesc} {kv : κ → Value} {vv : ν → Value} (h : ∀ a b, Instr.sameNow d (kv a) (kv b) = some (dec (a = b))) (a : κ) : ∀ (es : List MapEntry) (L : List (κ × ν)) (i : Nat), es.map (fun e => (e.key, e.val)) = L.map (fun x => (kv x.1, vv x.2)) → Instr.findNow d (kv a) es i = some (mfind vv a L i)
 | [], [], i, _ => rfl
 | [], x :: r, i, h' => by simp at h'
 | e :: es, [], i, h' => by simp at h'
 | e :: es, x :: r, i, h' => by
  simp only [List.map_cons, List.cons.injEq, Prod.mk.injEq] at h'
  obtain ⟨⟨h1, h2⟩, h3⟩ := h'
  have ih := findNow_of (vv := vv) h a es r (i + 1) h3
  unfold Instr.findNow mfind
  rw [h1, h a x.1]
  cases dec (a = x.1)
  ·exact ih
  ·simp only [cond_true, h2]
theorem keyF_of {κ : Type} {P : Program} {kt : TypeId} {d : TypeDesc} {kv : κ → Value} (hu : P.underlying kt = some d) (h : ∀ a b, Instr.sameNow d (kv a) (kv b) = some (dec (a = b))) (hc : ∀ empty a w, (Instr.checkKey empty 10000 kt (kv a)).run P w = .ok () w) (hs : ∀ a, Instr.sameBits 10000 (kv a) (kv a) = true) : KeyF P kt kv :=
 ⟨fun vv a w es L he => by
  have hu' : (underlying kt).run P w = .ok d w := by simp [underlying, program, Sem.run, hu]
  simp only [Instr.findKey, Sem.run_bind, hu', Result.andThen_ok, findNow_of h a es L 0 he]
  rfl, hc, hs⟩
theorem keyF_int {P : Program} {kt : TypeId} {k : IntKind} (hu : P.underlying kt = some (.int k)) : KeyF P kt (fun n : Int => .int k n) := by
 refine keyF_of hu (fun a b => ?_) (fun em a w => ?_) (fun a => ?_)
 ·simp only [Instr.sameNow, if_true]
  rw [dec_decide]; rfl
 ·have hu' : (underlying kt).run P w = .ok (.int k) w := by simp [underlying, program, Sem.run, hu]
  rw [show (10000 : Nat) = 9999 + 1 from rfl, Instr.checkKey]
  simp only [Sem.run_bind, hu', Result.andThen_ok]
  rfl
 ·simp [Instr.sameBits]
noncomputable def mset {κ ν : Type} (a : κ) (v : ν) : List (κ × ν) → List (κ × ν)
 | [] => []
 | x :: r => bif dec (a = x.1) then (x.1, v) :: r else x :: mset a v r

section rules
variable {P : Program} {N : Nat} {e : Env} {w : World} {Q : Exit → Act → World → Prop} {ops : List Oper} {l : List Oper} {T : Tab} {C : World → Prop}
 {d : Nat} {tt t : TypeId} {ps : String} {af : Array Edge} {g : Option (Nat × Bool)} {x y z : Operand} {ti ei : TI} {κ ν : Type} {kt et : TypeId} {kv : κ → Value} {vv : ν → Value} {L : List (κ × ν)} {a : κ} {v : ν} {r : Nat}
theorem run_lookupF (hT : OkTab P T) (hk : KeyF P kt kv) (ht : tget T t = some ti) (htd : ti.desc = .map kt et) (he : tget T et = some ei) (hM : MapIs kv vv w r L) (b : Bool) :
  (Instr.lookup t (.map (some r)) (kv a) b).run P w = .ok (bif b then .tuple #[((mget a L).map vv).getD ei.zero, .bool (mget a L).isSome] else ((mget a L).map vv).getD ei.zero) w := by
 obtain ⟨es, clock, h1, h2⟩ := hM
 have hu := run_underlying' (hT.at ht) w; rw [htd] at hu
 have hz := run_zeroValue' (hT.at he) w
 have hf := hk.find vv a w es.toList L h2
 have hg : (getObj r).run P w = .ok (.map es clock) w := by simp [getObj, Sem.run, h1]
 have hmg := mfind_get vv a L 0
 simp only [Instr.lookup, Sem.run_bind, hu, Result.andThen_ok, hg, Sem.run_pure, hk.chk, hf]
 cases hm : mfind vv a L 0 with
 | none =>
  rw [hm] at hmg
  cases hg2 : mget a L with
  | none => cases b <;> simp [hz]
  | some q => rw [hg2] at hmg; simp at hmg
 | some q =>
  rw [hm] at hmg
  cases hg2 : mget a L with
  | none => rw [hg2] at hmg; simp at hmg
  | some u =>
   rw [hg2] at hmg
   simp only [Option.map_some, Option.some.injEq] at hmg
   obtain ⟨qi, qv⟩ := q
   simp only at hmg
   subst hmg
   cases b <;> simp
theorem ylookupF [Cls C w] (hT : OkTab P T) (hk : KeyF P kt kv) (hx : ev e x = some (.map (some r))) (hy : ev e y = some (kv a)) (ht : tget T t = some ti) (htd : ti.desc = .map kt et) (he : tget T et = some ei) (hM : MapIs kv vv w r L) (b : Bool) {dd : Option Tmp} :
  YieldsIn P e C ⟨dd, .lookup t x y b, tt, ps, af, g⟩ (bif b then .tuple #[((mget a L).map vv).getD ei.zero, .bool (mget a L).isSome] else ((mget a L).map vv).getD ei.zero) := by
 intro ρ hρ w' hw'
 have hr := run_lookupF (P := P) (a := a) hT hk ht htd he (hM.ext (Cls.keeps (C := C) w' hw')) b
 simp [execOp, hρ _ _ hx, hρ _ _ hy, hr]
theorem WL.lookSomeF {v : ν} (hT : OkTab P T) (hk : KeyF P kt kv) (hg : gate ops e g = some true) (hd : Nat.blt d N = true) (hx : ev e x = some (.map (some r))) (hy : ev e y = some (kv a)) (ht : tget T t = some ti) (htd : ti.desc = .map kt et) (he : tget T et = some ei) (hM : MapIs kv vv w r L) (hm : mget a L = some v)
  (k : WL P N ops.toArray l ((d, .tuple #[vv v, .bool true]) :: e) w Q) : WL P N ops.toArray (⟨some d, .lookup t x y true, tt, ps, af, g⟩ :: l) e w Q :=
 WL.step hg hd (ylookupF (C := Same w) hT hk hx hy ht htd he hM true) (by rw [hm]; exact k)
theorem WL.lookNoneF (hT : OkTab P T) (hk : KeyF P kt kv) (hg : gate ops e g = some true) (hd : Nat.blt d N = true) (hx : ev e x = some (.map (some r))) (hy : ev e y = some (kv a)) (ht : tget T t = some ti) (htd : ti.desc = .map kt et) (he : tget T et = some ei) (hM : MapIs kv vv w r L) (hm : mget a L = none)
  (k : WL P N ops.toArray l ((d, .tuple #[ei.zero, .bool false]) :: e) w Q) : WL P N ops.toArray (⟨some d, .lookup t x y true, tt, ps, af, g⟩ :: l) e w Q :=
 WL.step hg hd (ylookupF (C := Same w) hT hk hx hy ht htd he hM true) (by rw [hm]; exact k)
theorem WL.look1F (hT : OkTab P T) (hk : KeyF P kt kv) (hg : gate ops e g = some true) (hd : Nat.blt d N = true) (hx : ev e x = some (.map (some r))) (hy : ev e y = some (kv a)) (ht : tget T t = some ti) (htd : ti.desc = .map kt et) (he : tget T et = some ei) (hM : MapIs kv vv w r L)
  (k : WL P N ops.toArray l ((d, ((mget a L).map vv).getD ei.zero) :: e) w Q) : WL P N ops.toArray (⟨some d, .lookup t x y false, tt, ps, af, g⟩ :: l) e w Q :=
 WL.step hg hd (ylookupF (C := Same w) hT hk hx hy ht htd he hM false) k
theorem QL.look1F [Cls C w] (hT : OkTab P T) (hk : KeyF P kt kv) (hg : gate ops e g = some true) (hd : Nat.blt d N = true) (hx : ev e x = some (.map (some r))) (hy : ev e y = some (kv a)) (ht : tget T t = some ti) (htd : ti.desc = .map kt et) (he : tget T et = some ei) (hM : MapIs kv vv w r L)
  (k : QL P N C ops.toArray l ((d, ((mget a L).map vv).getD ei.zero) :: e) Q) : QL P N C ops.toArray (⟨some d, .lookup t x y false, tt, ps, af, g⟩ :: l) e Q :=
 QL.step hg hd (ylookupF hT hk hx hy ht htd he hM false) k
theorem mfind_mset {κ ν : Type} {kv : κ → Value} {vv : ν → Value} (a : κ) (v : ν) : ∀ (L : List (κ × ν)) (i j : Nat) (q : Value), mfind vv a L i = some (j, q) → i ≤ j ∧ j - i < L.length ∧ (L.map (fun x => (kv x.1, vv x.2))).modify (j - i) (fun p => (kv a, vv v)) = (mset a v L).map (fun x => (kv x.1, vv x.2)) ∧ (L.map (fun x => kv x.1))[j - i]? = some (kv a)
 | [], i, j, q, h => by cases h
 | x :: r, i, j, q, h => by
  unfold mfind at h
  by_cases hax : a = x.1
  ·rw [dec_true hax] at h
   simp only [cond_true, Option.some.injEq, Prod.mk.injEq] at h
   obtain ⟨rfl, _⟩ := h
   refine ⟨Nat.le_refl _, by simp, ?_, by simp [hax]⟩
   rw [Nat.sub_self]
   unfold mset
   rw [dec_true hax]
   simp [hax]
  ·rw [dec_false hax] at h
   simp only [cond_false] at h
   obtain ⟨h1, h2, h3, h4⟩ := mfind_mset (kv := kv) a v r (i + 1) j q h
   have e : j - i = (j - (i + 1)) + 1 := by omega
   refine ⟨by omega, by simp only [List.length_cons]; omega, ?_, ?_⟩
   ·rw [e]
    unfold mset
    rw [dec_false hax]
    simp only [cond_false, List.map_cons, List.modify_succ_cons]
    rw [h3]
   ·rw [e]; simpa using h4
theorem WL.mapPutF {B : Nat} {w0 : World} (hT : OkTab P T) (hk : KeyF P kt kv) (hg : gate ops e g = some true) (hx : ev e x = some (.map (some r))) (hy : ev e y = some (kv a)) (hz : ev e z = some (vv v)) (ht : tget T t = some ti) (htd : ti.desc = .map kt et) (hM : MapIs kv vv w r L) (hX : Ext w0 w) (hB : w0.heap.size ≤ r)
  (k : ∀ w', MapIs kv vv w' r (match mget a L with | none => L ++ [(a, v)] | some _ => mset a v L) → Ext w0 w' → Upd r (some ⟨r, 0, none⟩) w w' → WL P N ops.toArray l e w' Q) :
  WL P N ops.toArray (⟨none, .mapUpdate t x y z, tt, ps, af, g⟩ :: l) e w Q := by
 obtain ⟨es, clock, h1, h2⟩ := hM
 have hlt := heap_lt h1
 have hmg := mfind_get vv a L 0
 cases hm : mfind vv a L 0 with
 | none =>
  have hnew : mget a L = none := by
   cases hg2 : mget a L with
   | none => rfl
   | some u => rw [hm, hg2] at hmg; simp at hmg
  rw [hnew] at k
  refine WL.effN (w' := fun m => { at' w m with heap := w.heap.setIfInBounds r (.map (es.push { key := kv a, val := vv v, born := clock }) (clock + 1)) }) hg ?_ (fun m => ?_)
  ·intro ρ hρ m
   have hu := run_underlying' (hT.at ht) (at' w m); rw [htd] at hu
   have hf := hk.find vv a (at' w m) es.toList L h2
   have hg : (getObj r).run P (at' w m) = .ok (.map es clock) (at' w m) := by simp [getObj, Sem.run, h1]
   rw [hm] at hf
   have hset : (setObj r (.map (es.push { key := kv a, val := vv v, born := clock }) (clock + 1))).run P (at' w m) = .ok () { at' w m with heap := w.heap.setIfInBounds r (.map (es.push { key := kv a, val := vv v, born := clock }) (clock + 1)) } := by simp [setObj, Sem.run, h1]
   have hrun : (Instr.mapUpdate t (.map (some r)) (kv a) (vv v)).run P (at' w m) = .ok () { at' w m with heap := w.heap.setIfInBounds r (.map (es.push { key := kv a, val := vv v, born := clock }) (clock + 1)) } := by
    simp only [Instr.mapUpdate, Sem.run_bind, hu, Result.andThen_ok, hg, hk.chk, hf, hset]
   simp [execOp, hρ _ _ hx, hρ _ _ hy, hρ _ _ hz, hrun]
  ·have hU : Upd r (some ⟨r, 0, none⟩) w { at' w m with heap := w.heap.setIfInBounds r (.map (es.push { key := kv a, val := vv v, born := clock }) (clock + 1)) } :=
    ⟨⟨rfl, rfl, rfl, by simp, fun q hq hne => by
     simp only [blk, Option.map_some, ne_eq, Option.some.injEq] at hne
     simp only [Array.getElem?_setIfInBounds]
     rw [if_neg (fun h => hne h.symm)]⟩, fun q hq => by simp only [blk, Option.map_some, Option.some.injEq] at hq; omega⟩
   refine k _ ⟨_, _, by simp [Array.getElem?_setIfInBounds, hlt]; exact ⟨rfl, rfl⟩, ?_⟩ (hU.ext hX hB) hU
   simp [h2]
 | some q =>
  obtain ⟨j, qv⟩ := q
  obtain ⟨u, hu2⟩ : ∃ u, mget a L = some u := by
   cases hg2 : mget a L with
   | none => rw [hm, hg2] at hmg; simp at hmg
   | some u => exact ⟨u, rfl⟩
  rw [hu2] at k
  obtain ⟨m1, m2, m3, m4⟩ := mfind_mset (kv := kv) a v L 0 j qv hm
  rw [Nat.sub_zero] at m2 m3 m4
  have hlen : es.toList.length = L.length := by have := congrArg List.length h2; simpa using this
  have hkey : (((es[j]?).map (·.key)).getD (kv a)) = kv a := by
   have h3 := congrArg (fun l => (l.map Prod.fst)[j]?) h2
   simp only [List.map_map] at h3
   have e1 : (L.map (Prod.fst ∘ fun x => (kv x.1, vv x.2)))[j]? = some (kv a) := m4
   rw [e1] at h3
   rw [List.getElem?_map] at h3
   obtain ⟨en, hen, hek⟩ := Option.map_eq_some_iff.1 h3
   have : es[j]? = some en := by simpa using hen
   rw [this]; exact hek
  refine WL.effN (w' := fun m => { at' w m with heap := w.heap.setIfInBounds r (.map (es.modify j fun e => { e with key := kv a, val := vv v }) clock) }) hg ?_ (fun m => ?_)
  ·intro ρ hρ m
   have hu := run_underlying' (hT.at ht) (at' w m); rw [htd] at hu
   have hf := hk.find vv a (at' w m) es.toList L h2
   have hg : (getObj r).run P (at' w m) = .ok (.map es clock) (at' w m) := by simp [getObj, Sem.run, h1]
   rw [hm] at hf
   have hset : (setObj r (.map (es.modify j fun e => { e with key := kv a, val := vv v }) clock)).run P (at' w m) = .ok () { at' w m with heap := w.heap.setIfInBounds r (.map (es.modify j fun e => { e with key := kv a, val := vv v }) clock) } := by simp [setObj, Sem.run, h1]
   have hstay : (Instr.keyThatStays (kv a) (kv a)).run P (at' w m) = .ok (kv a) (at' w m) := by unfold Instr.keyThatStays; rw [hk.same a]; rfl
   have hrun : (Instr.mapUpdate t (.map (some r)) (kv a) (vv v)).run P (at' w m) = .ok () { at' w m with heap := w.heap.setIfInBounds r (.map (es.modify j fun e => { e with key := kv a, val := vv v }) clock) } := by
    simp only [Instr.mapUpdate, Sem.run_bind, hu, Result.andThen_ok, hg, hk.chk, hf, hkey, hstay, hset]
   simp [execOp, hρ _ _ hx, hρ _ _ hy, hρ _ _ hz, hrun]
  ·have hU : Upd r (some ⟨r, 0, none⟩) w { at' w m with heap := w.heap.setIfInBounds r (.map (es.modify j fun e => { e with key := kv a, val := vv v }) clock) } :=
    ⟨⟨rfl, rfl, rfl, by simp, fun q hq hne => by
     simp only [blk, Option.map_some, ne_eq, Option.some.injEq] at hne
     simp only [Array.getElem?_setIfInBounds]
     rw [if_neg (fun h => hne h.symm)]⟩, fun q hq => by simp only [blk, Option.map_some, Option.some.injEq] at hq; omega⟩
   refine k _ ⟨_, _, by simp [Array.getElem?_setIfInBounds, hlt]; exact ⟨rfl, rfl⟩, ?_⟩ (hU.ext hX hB) hU
   rw [← m3, ← h2]
   apply List.ext_getElem?
   intro i
   simp only [Array.toList_modify, List.getElem?_map, List.getElem?_modify, Option.map_map]
   by_cases hij : j = i
   ·subst hij; simp [Function.comp_def]
   ·simp [hij, Function.comp_def]
end rules
end Go.Lt
namespace Go.Lt
open Go.RowKit
set_option linter.unusedVariables false
set_option linter.unusedSimpArgs false

section rules
variable {P : Program} {N : Nat} {e : Env} {w : World} {Q : Exit → Act → World → Prop} {ops : List Oper} {l : List Oper} {T : Tab} {C : World → Prop}
 {d : Nat} {tt t : TypeId} {ps : String} {af : Array Edge} {g : Option (Nat × Bool)} {x y z : Operand} {ti ei : TI} {κ ν : Type} {kt et : TypeId} {kv : κ → Value} {vv : ν → Value} {L : List (κ × ν)} {a : κ} {v : ν} {r : Nat}
theorem WL.insertF {B : Nat} {w0 : World} (hT : OkTab P T) (hk : KeyF P kt kv) (hg : gate ops e g = some true) (hx : ev e x = some (.map (some r))) (hy : ev e y = some (kv a)) (hz : ev e z = some (vv v)) (ht : tget T t = some ti) (htd : ti.desc = .map kt et) (hM : MapIs kv vv w r L) (hX : Ext w0 w) (hB : w0.heap.size ≤ r)
  (k : ∀ w', MapIs kv vv w' r (match mget a L with | none => L ++ [(a, v)] | some _ => mset a v L) → Ext w0 w' → Upd r (some ⟨r, 0, none⟩) w w' → WL P N ops.toArray l e w' Q) :
  WL P N ops.toArray (⟨none, .insert t x y z, tt, ps, af, g⟩ :: l) e w Q := by
 obtain ⟨es, clock, h1, h2⟩ := hM
 have hlt := heap_lt h1
 have hmg := mfind_get vv a L 0
 cases hm : mfind vv a L 0 with
 | none =>
  have hnew : mget a L = none := by
   cases hg2 : mget a L with
   | none => rfl
   | some u => rw [hm, hg2] at hmg; simp at hmg
  rw [hnew] at k
  refine WL.effN (w' := fun m => { at' w m with heap := w.heap.setIfInBounds r (.map (es.push { key := kv a, val := vv v, born := clock }) (clock + 1)) }) hg ?_ (fun m => ?_)
  ·intro ρ hρ m
   have hu := run_underlying' (hT.at ht) (at' w m); rw [htd] at hu
   have hf := hk.find vv a (at' w m) es.toList L h2
   have hg : (getObj r).run P (at' w m) = .ok (.map es clock) (at' w m) := by simp [getObj, Sem.run, h1]
   rw [hm] at hf
   have hset : (setObj r (.map (es.push { key := kv a, val := vv v, born := clock }) (clock + 1))).run P (at' w m) = .ok () { at' w m with heap := w.heap.setIfInBounds r (.map (es.push { key := kv a, val := vv v, born := clock }) (clock + 1)) } := by simp [setObj, Sem.run, h1]
   have hrun : (Instr.mapUpdate t (.map (some r)) (kv a) (vv v)).run P (at' w m) = .ok () { at' w m with heap := w.heap.setIfInBounds r (.map (es.push { key := kv a, val := vv v, born := clock }) (clock + 1)) } := by
    simp only [Instr.mapUpdate, Sem.run_bind, hu, Result.andThen_ok, hg, hk.chk, hf, hset]
   simp [execOp, hρ _ _ hx, hρ _ _ hy, hρ _ _ hz, hrun]
  ·have hU : Upd r (some ⟨r, 0, none⟩) w { at' w m with heap := w.heap.setIfInBounds r (.map (es.push { key := kv a, val := vv v, born := clock }) (clock + 1)) } :=
    ⟨⟨rfl, rfl, rfl, by simp, fun q hq hne => by
     simp only [blk, Option.map_some, ne_eq, Option.some.injEq] at hne
     simp only [Array.getElem?_setIfInBounds]
     rw [if_neg (fun h => hne h.symm)]⟩, fun q hq => by simp only [blk, Option.map_some, Option.some.injEq] at hq; omega⟩
   refine k _ ⟨_, _, by simp [Array.getElem?_setIfInBounds, hlt]; exact ⟨rfl, rfl⟩, ?_⟩ (hU.ext hX hB) hU
   simp [h2]
 | some q =>
  obtain ⟨j, qv⟩ := q
  obtain ⟨u, hu2⟩ : ∃ u, mget a L = some u := by
   cases hg2 : mget a L with
   | none => rw [hm, hg2] at hmg; simp at hmg
   | some u => exact ⟨u, rfl⟩
  rw [hu2] at k
  obtain ⟨m1, m2, m3, m4⟩ := mfind_mset (kv := kv) a v L 0 j qv hm
  rw [Nat.sub_zero] at m2 m3 m4
  have hlen : es.toList.length = L.length := by have := congrArg List.length h2; simpa using this
  have hkey : (((es[j]?).map (·.key)).getD (kv a)) = kv a := by
   have h3 := congrArg (fun l => (l.map Prod.fst)[j]?) h2
   simp only [List.map_map] at h3
   have e1 : (L.map (Prod.fst ∘ fun x => (kv x.1, vv x.2)))[j]? = some (kv a) := m4
   rw [e1] at h3
   rw [List.getElem?_map] at h3
   obtain ⟨en, hen, hek⟩ := Option.map_eq_some_iff.1 h3
   have : es[j]? = some en := by simpa using hen
   rw [this]; exact hek
  refine WL.effN (w' := fun m => { at' w m with heap := w.heap.setIfInBounds r (.map (es.modify j fun e => { e with key := kv a, val := vv v }) clock) }) hg ?_ (fun m => ?_)
  ·intro ρ hρ m
   have hu := run_underlying' (hT.at ht) (at' w m); rw [htd] at hu
   have hf := hk.find vv a (at' w m) es.toList L h2
   have hg : (getObj r).run P (at' w m) = .ok (.map es clock) (at' w m) := by simp [getObj, Sem.run, h1]
   rw [hm] at hf
   have hset : (setObj r (.map (es.modify j fun e => { e with key := kv a, val := vv v }) clock)).run P (at' w m) = .ok () { at' w m with heap := w.heap.setIfInBounds r (.map (es.modify j fun e => { e with key := kv a, val := vv v }) clock) } := by simp [setObj, Sem.run, h1]
   have hstay : (Instr.keyThatStays (kv a) (kv a)).run P (at' w m) = .ok (kv a) (at' w m) := by unfold Instr.keyThatStays; rw [hk.same a]; rfl
   have hrun : (Instr.mapUpdate t (.map (some r)) (kv a) (vv v)).run P (at' w m) = .ok () { at' w m with heap := w.heap.setIfInBounds r (.map (es.modify j fun e => { e with key := kv a, val := vv v }) clock) } := by
    simp only [Instr.mapUpdate, Sem.run_bind, hu, Result.andThen_ok, hg, hk.chk, hf, hkey, hstay, hset]
   simp [execOp, hρ _ _ hx, hρ _ _ hy, hρ _ _ hz, hrun]
  ·have hU : Upd r (some ⟨r, 0, none⟩) w { at' w m with heap := w.heap.setIfInBounds r (.map (es.modify j fun e => { e with key := kv a, val := vv v }) clock) } :=
    ⟨⟨rfl, rfl, rfl, by simp, fun q hq hne => by
     simp only [blk, Option.map_some, ne_eq, Option.some.injEq] at hne
     simp only [Array.getElem?_setIfInBounds]
     rw [if_neg (fun h => hne h.symm)]⟩, fun q hq => by simp only [blk, Option.map_some, Option.some.injEq] at hq; omega⟩
   refine k _ ⟨_, _, by simp [Array.getElem?_setIfInBounds, hlt]; exact ⟨rfl, rfl⟩, ?_⟩ (hU.ext hX hB) hU
   rw [← m3, ← h2]
   apply List.ext_getElem?
   intro i
   simp only [Array.toList_modify, List.getElem?_map, List.getElem?_modify, Option.map_map]
   by_cases hij : j = i
   ·subst hij; simp [Function.comp_def]
   ·simp [hij, Function.comp_def]

abbrev keysL {κ ν : Type} (c : ν) (ks : List κ) : List (κ × ν) := ks.map fun k => (k, c)
theorem mget_keys {c : ν} : ∀ (ks : List κ) (a : κ), mget a (keysL c ks) = bif dec (a ∈ ks) then some c else none
 | [], a => by rw [dec_false (by simp)]; rfl
 | x :: r, a => by
  show mget a ((x, c) :: keysL c r) = _
  unfold mget
  by_cases hax : a = x
  ·rw [dec_true (show a = (x, c).1 from hax), dec_true (by rw [hax]; simp)]; rfl
  ·rw [dec_false (show ¬ a = (x, c).1 from hax), mget_keys r a]
   simp only [cond_false]
   rw [dec_congr (show a ∈ r ↔ a ∈ x :: r by simp [hax])]
theorem keysL_snoc {c : ν} (ks : List κ) (a : κ) : keysL c (ks ++ [a]) = keysL c ks ++ [(a, c)] := by simp
theorem WL.lookKeys {ks : List κ} (hT : OkTab P T) (hk : KeyF P kt kv) (hg : gate ops e g = some true) (hd : Nat.blt d N = true) (hx : ev e x = some (.map (some r))) (hy : ev e y = some (kv a)) (ht : tget T t = some ti) (htd : ti.desc = .map kt et) (he : tget T et = some ei) (hez : ei.zero = .bool false) (hM : MapIs kv (fun b : Bool => .bool b) w r (keysL true ks))
  (k : WL P N ops.toArray l ((d, .bool (dec (a ∈ ks))) :: e) w Q) : WL P N ops.toArray (⟨some d, .lookup t x y false, tt, ps, af, g⟩ :: l) e w Q := by
 refine WL.look1F hT hk hg hd hx hy ht htd he hM ?_
 rw [mget_keys, hez]
 by_cases h : a ∈ ks
 ·rw [dec_true h] at k ⊢; exact k
 ·rw [dec_false h] at k ⊢; exact k
theorem QL.lookKeys [Cls C w] {ks : List κ} (hT : OkTab P T) (hk : KeyF P kt kv) (hg : gate ops e g = some true) (hd : Nat.blt d N = true) (hx : ev e x = some (.map (some r))) (hy : ev e y = some (kv a)) (ht : tget T t = some ti) (htd : ti.desc = .map kt et) (he : tget T et = some ei) (hez : ei.zero = .bool false) (hM : MapIs kv (fun b : Bool => .bool b) w r (keysL true ks))
  (k : QL P N C ops.toArray l ((d, .bool (dec (a ∈ ks))) :: e) Q) : QL P N C ops.toArray (⟨some d, .lookup t x y false, tt, ps, af, g⟩ :: l) e Q := by
 refine QL.look1F hT hk hg hd hx hy ht htd he hM ?_
 rw [mget_keys, hez]
 by_cases h : a ∈ ks
 ·rw [dec_true h] at k ⊢; exact k
 ·rw [dec_false h] at k ⊢; exact k
end rules
abbrev emp (w : World) : World := { w with heap := #[] }
theorem emp_ext (w : World) : Ext (emp w) w := ⟨rfl, rfl, rfl, Nat.zero_le _, fun k hk => absurd hk (Nat.not_lt_zero k)⟩
theorem emp_size (w : World) (n : Nat) : (emp w).heap.size ≤ n := Nat.zero_le n
end Go.Lt
namespace Go.Proofs.YteidpnpbfagaeaaGreat
open Go Go.Lt Go.RowKit
set_option linter.unusedVariables false
set_option linter.unusedSimpArgs false
set_option maxRecDepth 20000

theorem keyI : KeyF Tryz.prog 3 (fun n : Int => .int .i64 n) := keyF_int (k := .i64) (tOk.at (t := 3) rfl).1
abbrev encK : Int → Value := fun n => .int .i64 n
abbrev okV (b : Bool) : Array Value := #[.bool b]
abbrev isB : Bool → Value := fun b => .bool b
noncomputable abbrev inR (m x : Int) : Bool := dec (0 ≤ x) && dec (x ≤ 2 * m + 1)
set_option maxHeartbeats 4000000 in
theorem circ_Check1 (w : World) (bk gc : Nat) (m x : Int) (b : Bool) (hcell : w.heap[bk]? = some (.cells (okV b) 4 (0, 0))) (hm : w.cell? ⟨gc, 0, none⟩ = some (.int .i64 m)) (hm0 : 0 ≤ m ∧ m ≤ 16777216) :
  Lt.Spec Tryz.prog 109 [.int .i64 x, .pointer (some ⟨bk, 0, none⟩), .pointer (some ⟨gc, 0, none⟩)] w (fun v w' => v = .bool (b && inR m x) ∧ But w (some bk) w' ∧ w'.heap[bk]? = some (.cells (okV (b && inR m x)) 4 (0, 0))) := by
 have hXe := emp_ext w
 have hem := emp_size w bk
 have hcb := (cells_heap hcell).1
 cases b with
 | false =>
  refine Spec.of _ Tryz.func109 rfl Tryz.ntmps109 (by kernel_rfl) rfl ?_
  repeat' (first
   | (apply WL.storeB (w0 := emp w) tOk; (iterate 4 exact rfl); assumption; (exact extA); (iterate 3 exact rfl); (exact extA); (assumption); intro w' hb hc hX' hU; have hcc := hc; obtain ⟨h1, h2, _⟩ := hc)
   | (show WL _ _ _ _ _ _ _; first | apply WL.nil | (refine WL.au (k := ?_)) | (apply WL.guardF; exact rfl; exact rfl))
   | (show Z _ _ _ _ _; apply Z.then_normal)
   | (show W _ _ _ _ _ _; first | apply W.seq | apply W.region | apply W.ret)
   | fail)
  exact Z.body1 Tryz.results109 rfl fun q => ⟨rfl, (But.upd hU).of_at q, hb⟩
 | true =>
  by_cases h0 : 0 ≤ x
  rotate_left
  ·have e : (true && inR m x) = false := by unfold inR; rw [dec_false h0]; rfl
   rw [e]
   refine Spec.of _ Tryz.func109 rfl Tryz.ntmps109 (by kernel_rfl) rfl ?_
   repeat' (first
    | (apply WL.gF; exact rfl; exact rfl; (focus (exact dec_false h0; done)))
    | (apply WL.storeB (w0 := emp w) tOk; (iterate 4 exact rfl); assumption; (exact extA); (iterate 3 exact rfl); (exact extA); (assumption); intro w' hb hc hX' hU; have hcc := hc; obtain ⟨h1, h2, _⟩ := hc)
    | (show WL _ _ _ _ _ _ _; first | apply WL.nil | (refine WL.au (k := ?_)) | (apply WL.guardF; exact rfl; exact rfl))
    | (show Z _ _ _ _ _; apply Z.then_normal)
    | (show W _ _ _ _ _ _; first | apply W.seq | apply W.region | apply W.ret)
    | fail)
   exact Z.body1 Tryz.results109 rfl fun q => ⟨rfl, (But.upd hU).of_at q, hb⟩
  by_cases h9 : x ≤ 2 * m + 1
  ·have e : (true && inR m x) = true := by unfold inR; rw [dec_true h0, dec_true h9]; rfl
   rw [e]
   refine Spec.of _ Tryz.func109 rfl Tryz.ntmps109 (by kernel_rfl) rfl ?_
   repeat' (first
    | (apply WL.gT; exact rfl; exact rfl; (focus (exact dec_true h0; done)))
    | (apply WL.storeB (w0 := emp w) tOk; (iterate 4 exact rfl); assumption; (exact extA); (iterate 3 exact rfl); (exact extA); (assumption); intro w' hb hc hX' hU; have hcc := hc; obtain ⟨h1, h2, _⟩ := hc)
    | (show WL _ _ _ _ _ _ _; first | apply WL.nil | (refine WL.au (k := ?_)))
    | (show Z _ _ _ _ _; apply Z.then_normal)
    | (show W _ _ _ _ _ _; first | apply W.seq | apply W.region | apply W.ret)
    | fail)
   rw [dec_true h9] at hb h1
   exact Z.body1 Tryz.results109 rfl fun q => ⟨congrArg Value.bool (dec_true h9), (But.upd hU).of_at q, hb⟩
  ·have e : (true && inR m x) = false := by unfold inR; rw [dec_true h0, dec_false h9]; rfl
   rw [e]
   refine Spec.of _ Tryz.func109 rfl Tryz.ntmps109 (by kernel_rfl) rfl ?_
   repeat' (first
    | (apply WL.gT; exact rfl; exact rfl; (focus (exact dec_true h0; done)))
    | (apply WL.storeB (w0 := emp w) tOk; (iterate 4 exact rfl); assumption; (exact extA); (iterate 3 exact rfl); (exact extA); (assumption); intro w' hb hc hX' hU; have hcc := hc; obtain ⟨h1, h2, _⟩ := hc)
    | (show WL _ _ _ _ _ _ _; first | apply WL.nil | (refine WL.au (k := ?_)))
    | (show Z _ _ _ _ _; apply Z.then_normal)
    | (show W _ _ _ _ _ _; first | apply W.seq | apply W.region | apply W.ret)
    | fail)
   rw [dec_false h9] at hb h1
   exact Z.body1 Tryz.results109 rfl fun q => ⟨congrArg Value.bool (dec_false h9), (But.upd hU).of_at q, hb⟩
noncomputable abbrev inK (ks : List Int) (x : Int) : Bool := dec (x / 2 ∈ ks)
set_option maxHeartbeats 4000000 in
theorem circ_Check2 (w : World) (bk gm r : Nat) (ks : List Int) (x : Int) (b : Bool) (hcell : w.heap[bk]? = some (.cells (okV b) 4 (0, 0))) (hm : w.cell? ⟨gm, 0, none⟩ = some (.map (some r))) (hM : MapIs encK isB w r (keysL true ks)) (hx : 0 ≤ x ∧ x ≤ 100000000) :
  Lt.Spec Tryz.prog 110 [.int .i64 x, .pointer (some ⟨bk, 0, none⟩), .pointer (some ⟨gm, 0, none⟩)] w (fun v w' => v = .bool (b && inK ks x) ∧ But w (some bk) w' ∧ w'.heap[bk]? = some (.cells (okV (b && inK ks x)) 4 (0, 0))) := by
 have hXe := emp_ext w
 have hem := emp_size w bk
 have hcb := (cells_heap hcell).1
 cases b with
 | false =>
  refine Spec.of _ Tryz.func110 rfl Tryz.ntmps110 (by kernel_rfl) rfl ?_
  repeat' (first
   | (apply WL.storeB (w0 := emp w) tOk; (iterate 4 exact rfl); assumption; (exact extA); (iterate 3 exact rfl); (exact extA); (assumption); intro w' hb hc hX' hU; have hcc := hc; obtain ⟨h1, h2, _⟩ := hc)
   | (show WL _ _ _ _ _ _ _; first | apply WL.nil | (refine WL.au (k := ?_)) | (apply WL.guardF; exact rfl; exact rfl))
   | (show Z _ _ _ _ _; apply Z.then_normal)
   | (show W _ _ _ _ _ _; first | apply W.seq | apply W.region | apply W.ret)
   | fail)
  exact Z.body1 Tryz.results110 rfl fun q => ⟨rfl, (But.upd hU).of_at q, hb⟩
 | true =>
  refine Spec.of _ Tryz.func110 rfl Tryz.ntmps110 (by kernel_rfl) rfl ?_
  repeat' (first
   | (apply WL.storeB (w0 := emp w) tOk; (iterate 4 exact rfl); assumption; (exact extA); (iterate 3 exact rfl); (exact extA); (assumption); intro w' hb hc hX' hU; have hcc := hc; obtain ⟨h1, h2, _⟩ := hc)
   | ((apply WL.lookKeys tOk keyI; (iterate 8 exact rfl); (assumption)))
   | (show WL _ _ _ _ _ _ _; first | apply WL.nil | (refine WL.au (k := ?_)))
   | (show Z _ _ _ _ _; apply Z.then_normal)
   | (show W _ _ _ _ _ _; first | apply W.seq | apply W.region | apply W.ret)
   | fail)
  refine Z.body1 Tryz.results110 rfl fun q => ⟨rfl, (But.upd hU).of_at q, hb⟩
end Go.Proofs.YteidpnpbfagaeaaGreat
namespace Go.Proofs.YteidpnpbfagaeaaGreat
open Go Go.Lt Go.RowKit
set_option linter.unusedVariables false
set_option linter.unusedSimpArgs false
set_option maxRecDepth 20000

abbrev Once (gs : List G3) : Prop := ∀ (i j : Nat) (x y : G3), gs[i]? = some x → gs[j]? = some y → x.1 / 2 = y.1 / 2 → i = j
def Bl (gs : List G3) (T : List Nat) (l : Int) : Prop := ∃ (j : Nat) (x : G3), gs[j]? = some x ∧ j ∉ T ∧ x.1 / 2 = l / 2
noncomputable def one (p : Prop) : Nat := bif dec p then 1 else 0
theorem one_yes {p : Prop} (h : p) : one p = 1 := by unfold one; rw [dec_true h]; rfl
theorem one_no {p : Prop} (h : ¬ p) : one p = 0 := by unfold one; rw [dec_false h]; rfl
theorem one_zero {p : Prop} : one p = 0 ↔ ¬ p := by
 by_cases h : p
 ·rw [one_yes h]; simp [h]
 ·rw [one_no h]; simp [h]
theorem one_le (p : Prop) : one p ≤ 1 := by
 by_cases h : p
 ·rw [one_yes h]; exact Nat.le_refl _
 ·rw [one_no h]; omega
noncomputable def lackG (gs : List G3) (T : List Nat) (g : G3) : Nat := one (Bl gs T g.2.1) + one (Bl gs T g.2.2)
theorem rdy_lack {gs : List G3} {T : List Nat} {i : Nat} {g : G3} (hg : gs[i]? = some g) : Rdy gs T i ↔ (i ∉ T ∧ lackG gs T g = 0) := by
 have h0 : lackG gs T g = 0 ↔ (¬ Bl gs T g.2.1 ∧ ¬ Bl gs T g.2.2) := by
  unfold lackG
  rw [Nat.add_eq_zero_iff, one_zero, one_zero]
 rw [h0]
 constructor
 ·rintro ⟨g', hg', h1, h2⟩
  rw [hg] at hg'; cases hg'
  exact ⟨h1, fun ⟨j, x, h3, h4, h5⟩ => (h2 j x h3 h4).1 h5, fun ⟨j, x, h3, h4, h5⟩ => (h2 j x h3 h4).2 h5⟩
 ·rintro ⟨h1, h2, h3⟩
  exact ⟨g, hg, h1, fun j x hx hj => ⟨fun he => h2 ⟨j, x, hx, hj, he⟩, fun he => h3 ⟨j, x, hx, hj, he⟩⟩⟩
noncomputable def hangs (g : G3) (y : G3) : Nat := one (y.1 / 2 = g.2.1 / 2) + one (y.1 / 2 = g.2.2 / 2)
theorem bl_push {gs : List G3} (ho : Once gs) {T : List Nat} {i : Nat} {y : G3} (hy : gs[i]? = some y) (hi : i ∉ T) (l : Int) : one (Bl gs T l) = one (Bl gs (T ++ [i]) l) + one (y.1 / 2 = l / 2) := by
 by_cases h : y.1 / 2 = l / 2
 ·rw [one_yes h, one_yes ⟨i, y, hy, hi, h⟩, one_no]
  rintro ⟨j, x, h1, h2, h3⟩
  exact h2 (List.mem_append_right _ (List.mem_singleton.2 (ho j i x y h1 hy (by omega))))
 ·rw [one_no h, Nat.add_zero]
  by_cases hb : Bl gs T l
  ·obtain ⟨j, x, h1, h2, h3⟩ := hb
   rw [one_yes ⟨j, x, h1, h2, h3⟩, one_yes]
   refine ⟨j, x, h1, fun hm => ?_, h3⟩
   rcases List.mem_append.1 hm with hm | hm
   ·exact h2 hm
   ·obtain rfl := List.mem_singleton.1 hm
    rw [hy] at h1; cases h1; exact h h3
  ·rw [one_no hb, one_no]
   rintro ⟨j, x, h1, h2, h3⟩
   exact hb ⟨j, x, h1, fun hm => h2 (List.mem_append_left _ hm), h3⟩
theorem lack_push {gs : List G3} (ho : Once gs) {T : List Nat} {i : Nat} {y : G3} (hy : gs[i]? = some y) (hi : i ∉ T) (g : G3) : lackG gs T g = lackG gs (T ++ [i]) g + hangs g y := by
 unfold lackG hangs
 rw [bl_push ho hy hi g.2.1, bl_push ho hy hi g.2.2]; omega
noncomputable def abv (gs : List G3) (y : G3) : Nat → List Int
 | 0 => []
 | k + 1 => abv gs y k ++ (match gs[k]? with | some g => List.replicate (hangs g y) ((k : Nat) : Int) | none => [])
theorem abv_mem {gs : List G3} {y : G3} : ∀ {k : Nat} {x : Int}, x ∈ abv gs y k → ∃ (j : Nat) (g : G3), x = (j : Int) ∧ j < k ∧ gs[j]? = some g ∧ 0 < hangs g y
 | 0, x, h => by cases h
 | k + 1, x, h => by
  rw [abv] at h
  rcases List.mem_append.1 h with h | h
  ·obtain ⟨j, g, h1, h2, h3⟩ := abv_mem h
   exact ⟨j, g, h1, by omega, h3⟩
  ·cases hg : gs[k]? with
   | none => rw [hg] at h; cases h
   | some g =>
    rw [hg] at h
    obtain ⟨h1, h2⟩ := List.mem_replicate.1 h
    exact ⟨k, g, h2, by omega, hg, by omega⟩
theorem abv_count {gs : List G3} {y : G3} {j : Nat} {g : G3} (hg : gs[j]? = some g) : ∀ k, (abv gs y k).count (j : Int) = if j < k then hangs g y else 0
 | 0 => by simp [abv]
 | k + 1 => by
  rw [abv, List.count_append, abv_count hg k]
  by_cases hjk : j = k
  ·subst hjk
   rw [hg]
   simp
  ·have e0 : ((match gs[k]? with | some g => List.replicate (hangs g y) ((k : Nat) : Int) | none => []) : List Int).count (j : Int) = 0 := by
    cases gs[k]? with
    | none => rfl
    | some g' =>
     refine List.count_eq_zero.2 fun hm => ?_
     have := (List.mem_replicate.1 hm).2
     omega
   rw [e0, Nat.add_zero]
   by_cases h : j < k
   ·rw [if_pos h, if_pos (by omega)]
   ·rw [if_neg h, if_neg (by omega)]
theorem abv_len (gs : List G3) (y : G3) : ∀ k, (abv gs y k).length ≤ 2 * k
 | 0 => Nat.le_refl _
 | k + 1 => by
  have ih := abv_len gs y k
  rw [abv, List.length_append]
  cases gs[k]? with
  | none => simp; omega
  | some g =>
   have h1 := one_le (y.1 / 2 = g.2.1 / 2)
   have h2 := one_le (y.1 / 2 = g.2.2 / 2)
   simp only [List.length_replicate, hangs]; omega
theorem not_told {gs : List G3} {L : List Nat} (hP : PreOrd gs L) {i k : Nat} {y g : G3} (hy : gs[i]? = some y) (hg : gs[k]? = some g) (hh : 0 < hangs g y) (hi : i ∉ L) : k ∉ L := by
 intro hk
 obtain ⟨m, hm⟩ := List.mem_iff_getElem?.1 hk
 obtain ⟨g', hg', _, h2⟩ := (hP m k hm).1
 rw [hg] at hg'; cases hg'
 have h3 := h2 i y hy (fun hh => hi (List.mem_of_mem_take hh))
 unfold hangs at hh
 rw [one_no h3.1, one_no h3.2] at hh
 omega
end Go.Proofs.YteidpnpbfagaeaaGreat
namespace Go.Proofs.YteidpnpbfagaeaaGreat
open Go Go.Lt Go.RowKit
set_option linter.unusedVariables false
set_option linter.unusedSimpArgs false
set_option maxRecDepth 20000

abbrev leT (t : List Int) (p q : Nat) : Prop := ∀ a b, t[p]? = some a → t[q]? = some b → a ≤ b
def HO (t : List Int) : Prop := ∀ j, 0 < j → j < t.length → leT t ((j - 1) / 2) j
def UpI (t : List Int) (i : Nat) : Prop := (∀ j, 0 < j → j < t.length → j ≠ i → leT t ((j - 1) / 2) j) ∧ ∀ j, 0 < j → j < t.length → (j - 1) / 2 = i → 0 < i → leT t ((i - 1) / 2) j
def DownI (t : List Int) (i : Nat) : Prop := (∀ j, 0 < j → j < t.length → (j - 1) / 2 ≠ i → leT t ((j - 1) / 2) j) ∧ ∀ j, 0 < j → j < t.length → (j - 1) / 2 = i → 0 < i → leT t ((i - 1) / 2) j
abbrev swp (t : List Int) (i k : Nat) (a b : Int) : List Int := (t.set i b).set k a
theorem swp_len (t : List Int) (i k : Nat) (a b : Int) : (swp t i k a b).length = t.length := by simp
theorem swp_get {t : List Int} {i k : Nat} {a b : Int} (hi : t[i]? = some a) (hk : t[k]? = some b) (j : Nat) : (swp t i k a b)[j]? = if j = k then some a else if j = i then some b else t[j]? := by
 have h1 := lt_of_get hi
 have h2 := lt_of_get hk
 unfold swp
 by_cases e1 : j = k
 ·subst e1; rw [if_pos rfl, List.getElem?_set_self (by simpa using h2)]
 ·rw [if_neg e1, List.getElem?_set_ne (fun h => e1 h.symm)]
  by_cases e2 : j = i
  ·subst e2; rw [if_pos rfl, List.getElem?_set_self h1]
  ·rw [if_neg e2, List.getElem?_set_ne (fun h => e2 h.symm)]
theorem swp_mem {t : List Int} {i k : Nat} {a b : Int} (hi : t[i]? = some a) (hk : t[k]? = some b) (x : Int) : x ∈ swp t i k a b ↔ x ∈ t := by
 rw [List.mem_iff_getElem?, List.mem_iff_getElem?]
 constructor
 ·rintro ⟨j, hj⟩
  rw [swp_get hi hk] at hj
  split at hj
  ·cases hj; exact ⟨i, hi⟩
  ·split at hj
   ·cases hj; exact ⟨k, hk⟩
   ·exact ⟨j, hj⟩
 ·rintro ⟨j, hj⟩
  by_cases e1 : j = k
  ·subst e1
   rw [hk] at hj; cases hj
   by_cases e2 : i = j
   ·subst e2; rw [hk] at hi; cases hi; exact ⟨i, by rw [swp_get hk hk, if_pos rfl]⟩
   ·exact ⟨i, by rw [swp_get hi hk, if_neg e2, if_pos rfl]⟩
  ·by_cases e2 : j = i
   ·subst e2
    rw [hi] at hj; cases hj
    exact ⟨k, by rw [swp_get hi hk, if_pos rfl]⟩
   ·exact ⟨j, by rw [swp_get hi hk, if_neg e1, if_neg e2]; exact hj⟩
theorem UpI.stop {t : List Int} {i : Nat} (h : UpI t i) (hi : i = 0 ∨ leT t ((i - 1) / 2) i) : HO t := fun j h0 hl => by
 by_cases he : j = i
 ·subst he; rcases hi with hi | hi
  ·omega
  ·exact hi
 ·exact h.1 j h0 hl he
theorem UpI.step {t : List Int} {i : Nat} {a b : Int} (h : UpI t i) (h0 : 0 < i) (hi : t[i]? = some a) (hp : t[(i - 1) / 2]? = some b) (hab : a < b) : UpI (swp t i ((i - 1) / 2) a b) ((i - 1) / 2) := by
 have hli := lt_of_get hi
 refine ⟨fun j j0 jl jne x y hx hy => ?_, fun j j0 jl je p0 x y hx hy => ?_⟩
 ·rw [swp_len] at jl
  rw [swp_get hi hp] at hx hy
  rw [if_neg jne] at hy
  by_cases e1 : j = i
  ·subst e1; rw [if_pos rfl] at hx hy; cases hx; cases hy; omega
  ·rw [if_neg e1] at hy
   by_cases e2 : (j - 1) / 2 = (i - 1) / 2
   ·rw [if_pos e2] at hx; cases hx
    have := h.1 j j0 jl e1 b y (by rw [e2]; exact hp) hy
    omega
   ·rw [if_neg e2] at hx
    by_cases e3 : (j - 1) / 2 = i
    ·rw [if_pos e3] at hx; cases hx
     exact h.2 j j0 jl e3 h0 _ y hp hy
    ·rw [if_neg e3] at hx
     exact h.1 j j0 jl e1 x y hx hy
 ·rw [swp_len] at jl
  rw [swp_get hi hp] at hx hy
  rw [if_neg (by omega), if_neg (by omega)] at hx
  have k1 := h.1 ((i - 1) / 2) p0 (lt_of_get hp) (by omega) x b hx hp
  rw [if_neg (by omega)] at hy
  by_cases e1 : j = i
  ·rw [if_pos e1] at hy; cases hy; exact k1
  ·rw [if_neg e1] at hy
   have := h.1 j j0 jl e1 b y (by rw [je]; exact hp) hy
   omega
theorem DownI.stop {t : List Int} {i : Nat} (h : DownI t i) (hc : ∀ j, 0 < j → j < t.length → (j - 1) / 2 = i → leT t i j) : HO t := fun j h0 hl => by
 by_cases he : (j - 1) / 2 = i
 ·rw [he]; exact hc j h0 hl he
 ·exact h.1 j h0 hl he
theorem DownI.step {t : List Int} {i f : Nat} {a b : Int} (h : DownI t i) (f0 : 0 < f) (hf : (f - 1) / 2 = i) (hi : t[i]? = some a) (hp : t[f]? = some b) (hab : b < a) (hc : ∀ j, 0 < j → j < t.length → (j - 1) / 2 = i → ∀ y, t[j]? = some y → b ≤ y) : DownI (swp t i f a b) f := by
 have hlf := lt_of_get hp
 refine ⟨fun j j0 jl jne x y hx hy => ?_, fun j j0 jl je p0 x y hx hy => ?_⟩
 ·rw [swp_len] at jl
  rw [swp_get hi hp] at hx hy
  rw [if_neg jne] at hx
  by_cases e1 : (j - 1) / 2 = i
  ·rw [if_pos e1] at hx; cases hx
   by_cases e2 : j = f
   ·rw [if_pos e2] at hy; cases hy; omega
   ·rw [if_neg e2, if_neg (by omega)] at hy
    exact hc j j0 jl e1 y hy
  ·rw [if_neg e1] at hx
   rw [if_neg (fun e => e1 (by subst e; exact hf))] at hy
   by_cases e2 : j = i
   ·rw [if_pos e2] at hy; cases hy
    subst e2
    exact h.2 f f0 hlf hf j0 x _ hx hp
   ·rw [if_neg e2] at hy
    exact h.1 j j0 jl e1 x y hx hy
 ·rw [swp_len] at jl
  rw [swp_get hi hp] at hx hy
  rw [hf, if_neg (by omega), if_pos rfl] at hx; cases hx
  rw [if_neg (by omega), if_neg (by omega)] at hy
  exact h.1 j j0 jl (by omega) _ y (by rw [je]; exact hp) hy
theorem HO.min {t : List Int} (h : HO t) {a : Int} (ha : t[0]? = some a) : ∀ (i : Nat) (b : Int), t[i]? = some b → a ≤ b := by
 intro i
 induction i using Nat.strongRecOn with
 | ind i ih =>
  intro b hb
  by_cases h0 : i = 0
  ·subst h0; rw [ha] at hb; cases hb; exact Int.le_refl _
  ·obtain ⟨c, hc⟩ := getI t (show (i - 1) / 2 < t.length by have := lt_of_get hb; omega)
   have h1 := ih ((i - 1) / 2) (by omega) c hc
   have h2 := h i (by omega) (lt_of_get hb) c b hc hb
   omega
structure AtOk (n : Nat) (t at_ : List Int) : Prop where
 len : at_.length = n
 pos : ∀ (i : Nat) (x : Int), t[i]? = some x → 0 ≤ x ∧ at_[x.toNat]? = some (i : Int)
 out : ∀ v : Nat, v < n → (v : Int) ∉ t → at_[v]? = some (-1)
theorem AtOk.inj {n : Nat} {t at_ : List Int} (h : AtOk n t at_) {i j : Nat} {x : Int} (hi : t[i]? = some x) (hj : t[j]? = some x) : i = j := by
 have h1 := (h.pos i x hi).2
 have h2 := (h.pos j x hj).2
 rw [h1] at h2
 have := Option.some.inj h2
 omega
theorem AtOk.lt {n : Nat} {t at_ : List Int} (h : AtOk n t at_) {i : Nat} {x : Int} (hi : t[i]? = some x) : 0 ≤ x ∧ x.toNat < n := by
 have h1 := h.pos i x hi
 exact ⟨h1.1, by rw [← h.len]; exact lt_of_get h1.2⟩
theorem AtOk.swap {n : Nat} {t at_ : List Int} (h : AtOk n t at_) {i k : Nat} {a b : Int} (hi : t[i]? = some a) (hk : t[k]? = some b) : AtOk n (swp t i k a b) ((at_.set b.toNat (i : Int)).set a.toNat (k : Int)) := by
 have la := h.lt hi
 have lb := h.lt hk
 have hl := h.len
 refine ⟨by simp [hl], fun j x hx => ?_, fun v hv hn => ?_⟩
 ·rw [swp_get hi hk] at hx
  split at hx
  ·rename_i e; cases hx; subst e
   exact ⟨la.1, List.getElem?_set_self (by simp; omega)⟩
  ·rename_i e1
   split at hx
   ·rename_i e2; obtain rfl := Option.some.inj hx; subst e2
    refine ⟨lb.1, ?_⟩
    by_cases e3 : a.toNat = b.toNat
    ·have : a = b := by omega
     subst this
     exact absurd (h.inj hi hk) e1
    ·rw [List.getElem?_set_ne e3, List.getElem?_set_self (by omega)]
   ·rename_i e2
    have hp := h.pos j x hx
    refine ⟨hp.1, ?_⟩
    have n1 : a.toNat ≠ x.toNat := fun e => by
     have : a = x := by omega
     subst this; exact e2 (h.inj hx hi)
    have n2 : b.toNat ≠ x.toNat := fun e => by
     have : b = x := by omega
     subst this; exact e1 (h.inj hx hk)
    rw [List.getElem?_set_ne n1, List.getElem?_set_ne n2]
    exact hp.2
 ·have hn' : (v : Int) ∉ t := fun hm => hn ((swp_mem hi hk _).2 hm)
  have n1 : a.toNat ≠ v := fun e => hn' (by rw [show (v : Int) = a by omega]; exact List.mem_of_getElem? hi)
  have n2 : b.toNat ≠ v := fun e => hn' (by rw [show (v : Int) = b by omega]; exact List.mem_of_getElem? hk)
  rw [List.getElem?_set_ne n1, List.getElem?_set_ne n2]
  exact h.out v hv hn'
theorem AtOk.push {n : Nat} {t at_ : List Int} (h : AtOk n t at_) {v : Nat} (hv : v < n) (hn : (v : Int) ∉ t) : AtOk n (t ++ [(v : Int)]) (at_.set v (t.length : Int)) := by
 have hl := h.len
 refine ⟨by simp [hl], fun j x hx => ?_, fun u hu hm => ?_⟩
 ·by_cases hj : j < t.length
  ·rw [List.getElem?_append_left hj] at hx
   have hp := h.pos j x hx
   refine ⟨hp.1, ?_⟩
   rw [List.getElem?_set_ne (fun e => hn (by rw [show (v : Int) = x by omega]; exact List.mem_of_getElem? hx))]
   exact hp.2
  ·rw [List.getElem?_append_right (by omega)] at hx
   have h0 : j - t.length = 0 := by have := lt_of_get hx; simpa using this
   obtain rfl : j = t.length := by omega
   simp at hx; subst hx
   exact ⟨by omega, by rw [Int.toNat_natCast, List.getElem?_set_self (by omega)]⟩
 ·rw [List.getElem?_set_ne (fun e => hm (by subst e; simp))]
  exact h.out u hu fun hh => hm (by simp [hh])
theorem HO.push {t : List Int} (h : HO t) (x : Int) : UpI (t ++ [x]) t.length := by
 refine ⟨fun j j0 jl jne => ?_, fun j j0 jl je _ => ?_⟩
 ·simp at jl
  intro a b ha hb
  rw [List.getElem?_append_left (by omega)] at ha hb
  exact h j j0 (by omega) a b ha hb
 ·simp at jl; omega
theorem pop_len {t : List Int} {l : Nat} {a b : Int} (hl : t.length = l + 1) : ((swp t 0 l a b).take l).length = l := by simp [hl]
theorem pop_get {t : List Int} {l : Nat} {a b : Int} (hl : t.length = l + 1) (h0 : t[0]? = some a) (hb : t[l]? = some b) (j : Nat) : ((swp t 0 l a b).take l)[j]? = if j < l then (if j = 0 then some b else t[j]?) else none := by
 rw [List.getElem?_take]
 by_cases hj : j < l
 ·rw [if_pos hj, if_pos hj, swp_get h0 hb, if_neg (by omega)]
 ·rw [if_neg hj, if_neg hj]
theorem pop_down {t : List Int} {l : Nat} {a b : Int} (h : HO t) (hl : t.length = l + 1) (h0 : t[0]? = some a) (hb : t[l]? = some b) : DownI ((swp t 0 l a b).take l) 0 := by
 refine ⟨fun j j0 jl jne x y hx hy => ?_, fun j _ _ _ h => absurd h (by omega)⟩
 rw [pop_len hl] at jl
 rw [pop_get hl h0 hb, if_pos (by omega), if_neg (by omega)] at hx hy
 exact h j j0 (by omega) x y hx hy
theorem pop_at {n : Nat} {t at_ : List Int} {l : Nat} {a b : Int} (h : AtOk n t at_) (hl : t.length = l + 1) (h0 : t[0]? = some a) (hb : t[l]? = some b) : AtOk n ((swp t 0 l a b).take l) (((at_.set b.toNat (0 : Int)).set a.toNat (l : Int)).set a.toNat (-1)) := by
 have hs := h.swap h0 hb
 have la := h.lt h0
 refine ⟨by rw [List.length_set]; exact hs.len, fun j x hx => ?_, fun v hv hn => ?_⟩
 ·have hj : j < l := by have := lt_of_get hx; rwa [pop_len hl] at this
  rw [List.getElem?_take, if_pos hj] at hx
  have hp := hs.pos j x hx
  refine ⟨hp.1, ?_⟩
  rw [List.getElem?_set_ne (fun e => ?_)]
  ·exact hp.2
  ·have : a = x := by omega
   subst this
   have := hs.inj hx (show (swp t 0 l a b)[l]? = some a by rw [swp_get h0 hb, if_pos rfl])
   omega
 ·by_cases he : a.toNat = v
  ·subst he; exact List.getElem?_set_self (by have := hs.len; simp only [List.length_set] at this ⊢; omega)
  ·rw [List.getElem?_set_ne he]
   refine hs.out v hv fun hm => hn ?_
   obtain ⟨j, hj⟩ := List.mem_iff_getElem?.1 hm
   have hjl := lt_of_get hj
   rw [swp_len, hl] at hjl
   by_cases e : j = l
   ·subst e
    rw [swp_get h0 hb, if_pos rfl] at hj
    cases hj
    exact absurd (by omega) he
   ·exact List.mem_iff_getElem?.2 ⟨j, by rw [List.getElem?_take, if_pos (by omega)]; exact hj⟩
theorem pop_mem {n : Nat} {t at_ : List Int} {l : Nat} {a b : Int} (h : AtOk n t at_) (hl : t.length = l + 1) (h0 : t[0]? = some a) (hb : t[l]? = some b) (x : Int) : x ∈ (swp t 0 l a b).take l ↔ (x ∈ t ∧ x ≠ a) := by
 rw [← swp_mem h0 hb]
 have hs := h.swap h0 hb
 have hla : (swp t 0 l a b)[l]? = some a := by rw [swp_get h0 hb, if_pos rfl]
 constructor
 ·intro hx
  refine ⟨List.mem_of_mem_take hx, fun he => ?_⟩
  subst he
  obtain ⟨j, hj⟩ := List.mem_iff_getElem?.1 hx
  have hjl : j < l := by have := lt_of_get hj; rwa [pop_len hl] at this
  rw [List.getElem?_take, if_pos hjl] at hj
  have := hs.inj hj hla
  omega
 ·rintro ⟨hx, hne⟩
  obtain ⟨j, hj⟩ := List.mem_iff_getElem?.1 hx
  have hjl := lt_of_get hj
  rw [swp_len, hl] at hjl
  by_cases e : j = l
  ·subst e; rw [hla] at hj; cases hj; exact absurd rfl hne
  ·exact List.mem_iff_getElem?.2 ⟨j, by rw [List.getElem?_take, if_pos (by omega)]; exact hj⟩
end Go.Proofs.YteidpnpbfagaeaaGreat
namespace Go.Lt
open Go.RowKit
set_option linter.unusedVariables false
set_option linter.unusedSimpArgs false
section
variable {P : Program} {N : Nat} {e : Env} {w : World} {Q : Exit → Act → World → Prop} {ops : List Oper} {l : List Oper}
 {d : Nat} {tt t ty : TypeId} {ps : String} {af : Array Edge} {g : Option (Nat × Bool)} {x y : Operand}
theorem order00 : FloatKind.f64.format.order 0 0 = some .eq := by decide +kernel
theorem run_f00 (op : BinOp) (b : Bool) (h : (op = .neq ∧ b = false) ∨ (op = .eql ∧ b = true) ∨ (op = .lss ∧ b = false)) (w : World) : (binOp op t (.float .f64 0) (.float .f64 0)).run P w = .ok (.bool b) w := by
 rcases h with ⟨rfl, rfl⟩ | ⟨rfl, rfl⟩ | ⟨rfl, rfl⟩ <;> simp [binOp, Op.floatCmp, order00]
theorem yf00 {op : BinOp} {b : Bool} {dd : Option Tmp} (hx : ev e x = some (.float .f64 0)) (hy : ev e y = some (.float .f64 0)) (h : (op = .neq ∧ b = false) ∨ (op = .eql ∧ b = true) ∨ (op = .lss ∧ b = false)) : Yields P e ⟨dd, .binOp op t x y ty, tt, ps, af, g⟩ (.bool b) := by
 intro ρ hρ w
 have h1 := run_f00 (P := P) (t := t) op b h w
 simp [execOp, hρ _ _ hx, hρ _ _ hy, h1, eqGuard]
theorem WL.f00 {op : BinOp} {b : Bool} (hg : gate ops e g = some true) (hd : Nat.blt d N = true) (hx : ev e x = some (.float .f64 0)) (hy : ev e y = some (.float .f64 0)) (h : (op = .neq ∧ b = false) ∨ (op = .eql ∧ b = true) ∨ (op = .lss ∧ b = false))
  (k : WL P N ops.toArray l ((d, .bool b) :: e) w Q) : WL P N ops.toArray (⟨some d, .binOp op t x y ty, tt, ps, af, g⟩ :: l) e w Q := WL.step hg hd (yf00 hx hy h).in k
end
end Go.Lt
namespace Go.Proofs.YteidpnpbfagaeaaGreat
open Go Go.Lt Go.RowKit
set_option linter.unusedVariables false
set_option linter.unusedSimpArgs false
set_option maxRecDepth 20000

def Th : Tab := [(166, ⟨.slice 171, 1, 24, .slice none 0 0⟩), (171, ⟨.float .f64, 1, 8, .float .f64 0⟩)]
theorem thOk : OkTab Tryz.prog Th := ⟨⟨by kernel_rfl, by kernel_rfl⟩, ⟨by kernel_rfl, by kernel_rfl⟩, trivial⟩
abbrev encF : Nat → List Value := fun b => [.float .f64 b]
theorem encF_ok : Enc 1 encF := ⟨fun _ => rfl, fun x u hu => by simp at hu; subst hu; rfl, by decide⟩
abbrev hpP (B gh : Nat) (as_ : Option Addr) (cs : Nat) (F : List Nat) (tr : Option Addr) (ct nt : Nat) (t : List Int) (ap : Option Addr) (cp : Nat) (A : List Int) : List Piece :=
 [pcell gh #[.slice as_ F.length cs, .slice tr nt ct, .slice ap A.length cp] 168, prow 1 encF 171 B as_ cs F, prow 1 encI 3 B tr ct t, prow 1 encI 3 B ap cp A]
theorem score_Less (w : World) : Still Tryz.prog 174 [.float .f64 0, .float .f64 0] w (.bool false) := by
 refine Spec.of _ Tryz.func174 rfl Tryz.ntmps174 (by kernel_rfl) rfl ?_
 repeat' (first
  | ((apply WL.f00; (iterate 4 exact rfl); first | exact .inl ⟨rfl, rfl⟩ | exact .inr (.inl ⟨rfl, rfl⟩) | exact .inr (.inr ⟨rfl, rfl⟩)))
  | (show WL _ _ _ _ _ _ _; first | apply WL.nil | (refine WL.au (k := ?_)))
  | (show Z _ _ _ _ _; apply Z.then_normal)
  | (show W _ _ _ _ _ _; first | apply W.seq | apply W.region | apply W.skip | apply W.ret | (apply W.condF; exact rfl))
  | fail)
 exact Z.body1 Tryz.results174 rfl fun m => ⟨rfl, m, rfl⟩
section
variable {B gh cs ct cp nt : Nat} {w w0 : World} {as_ tr ap : Option Addr} {F : List Nat} {t A : List Int} {rest : List Piece}
theorem heap_ahead (hS : Lt.Sep B w (hpP B gh as_ cs F tr ct nt t ap cp A ++ rest)) (hF : ∀ x ∈ F, x = 0) (xa xb : Int) (ha : 0 ≤ xa ∧ xa.toNat < F.length) (hbb : 0 ≤ xb ∧ xb.toNat < F.length) :
  Still Tryz.prog 173 [.pointer (some ⟨gh, 0, none⟩), .int .i64 xa, .int .i64 xb] w (.bool (dec (xa < xb))) := by
 have h := cells_heap (hS.cell (i := 0) rfl)
 have c0 := h.1
 have RF := Own.row encF_ok (hS.row (i := 1) rfl)
 obtain ⟨z1, hz1⟩ := getI F ha.2
 obtain ⟨z2, hz2⟩ := getI F hbb.2
 obtain rfl := hF z1 (List.mem_of_getElem? hz1)
 obtain rfl := hF z2 (List.mem_of_getElem? hz2)
 clear h
 refine Spec.of _ Tryz.func173 rfl Tryz.ntmps173 (by kernel_rfl) rfl ?_
 repeat' (first
  | (apply QL.nilc; (iterate 3 exact rfl))
  | ((apply QL.index thOk; (iterate 8 exact rfl); assumption; exact extA; exact rfl; omega; assumption; intro b off h; have hcc := h; obtain ⟨h1, _⟩ := h))
  | ((apply QL.load thOk; (iterate 5 exact rfl); assumption))
  | ((show WL _ _ _ (⟨_, .call ⟨.value (.func 174), _, _⟩, _, _, _, _⟩ :: _) _ _ _); apply WL.callS; (iterate 4 exact rfl); exact score_Less _)
  | (show WL _ _ _ _ _ _ _; first | apply WL.nil | (refine WL.au (k := ?_)))
  | (show QL _ _ _ _ _ _ _; first | apply QL.nil | (refine QL.au (k := ?_)))
  | (show Z _ _ _ _ _; apply Z.then_normal)
  | (show W _ _ _ _ _ _; first | apply W.seq | apply W.region | apply W.ret | (apply W.regionD tMix; kernel_rfl))
  | fail)
 exact Z.body1 Tryz.results173 rfl fun m => ⟨rfl, m, rfl⟩
set_option maxHeartbeats 8000000 in
theorem heap_swap (hX : Ext w0 w) (hS : Lt.Sep w0.heap.size w (hpP w0.heap.size gh as_ cs F tr ct t.length t ap cp A ++ rest)) (hA : AtOk F.length t A) (i k : Nat) (ya yb : Int) (hi : t[i]? = some ya) (hk : t[k]? = some yb) (hlen : t.length ≤ 1048576) :
  Lt.Spec Tryz.prog 171 [.pointer (some ⟨gh, 0, none⟩), .int .i64 i, .int .i64 k] w (fun v w' => v = .tuple #[] ∧ Ext w0 w' ∧ Lt.Sep w0.heap.size w' (hpP w0.heap.size gh as_ cs F tr ct t.length (swp t i k ya yb) ap cp ((A.set yb.toNat (i : Int)).set ya.toNat (k : Int)) ++ rest)) := by
 have hgt := (hS.lt (i := 0) rfl rfl).1
 have h := cells_heap (hS.cell (i := 0) rfl)
 have c0 := h.1
 have c1 := h.2.1
 have c2 := h.2.2.1
 clear h
 have hR2 := hS.row (i := 2) rfl
 have hR3 := hS.row (i := 3) rfl
 have li := lt_of_get hi
 have lk := lt_of_get hk
 have la := hA.lt hi
 have lb := hA.lt hk
 have hAl := hA.len
 have hi' : t[((i : Nat) : Int).toNat]? = some ya := hi
 have hk' : t[((k : Nat) : Int).toNat]? = some yb := hk
 have hk2 : (t.set ((i : Nat) : Int).toNat yb)[((k : Nat) : Int).toNat]? = some yb := by
  show (t.set i yb)[k]? = some yb
  by_cases e : i = k
  ·subst e; exact List.getElem?_set_self li
  ·rw [List.getElem?_set_ne e]; exact hk
 have hs3 : ((t.set ((i : Nat) : Int).toNat yb).set ((k : Nat) : Int).toNat ya)[((i : Nat) : Int).toNat]? = some yb := by
  show (swp t i k ya yb)[i]? = _
  rw [swp_get hi hk]
  split
  ·rename_i e; subst e; rw [hi] at hk; exact hk
  ·rw [if_pos rfl]
 have hs4 : ((t.set ((i : Nat) : Int).toNat yb).set ((k : Nat) : Int).toNat ya)[((k : Nat) : Int).toNat]? = some ya := by
  show (swp t i k ya yb)[k]? = _
  rw [swp_get hi hk, if_pos rfl]
 obtain ⟨z1, hz1⟩ := getI A (show yb.toNat < A.length by omega)
 obtain ⟨z2, hz2⟩ := getI (A.set yb.toNat (i : Int)) (show ya.toNat < (A.set yb.toNat (i : Int)).length by rw [List.length_set]; omega)
 have hlk : ∀ z, (t.set ((i : Nat) : Int).toNat z).length = t.length := fun z => List.length_set
 refine Spec.of _ Tryz.func171 rfl Tryz.ntmps171 (by kernel_rfl) rfl ?_
 repeat' (first
  | (apply FL.nilc; (iterate 3 exact rfl))
  | (show W _ _ (.region 0 _ _) _ _ _; apply W.regionGB (.fl true 0 (.fl true 1 (.fl true 2 (.fl true 4 (.fl true 5 (.fl true 6 (.fl true 7 (.fl true 9 (.fl true 10 (.fl true 11 (.fl true 12 (.fl true 14 (.fl true 17 (.fl true 18 (.fl true 19 (.fl true 21 (.fl false 3 (.fl false 8 (.fl false 13 (.fl true 15 (.fl false 16 (.fl false 20 (.fl true 22 (.fl false 23 (.fl true 24 (.br 25 (.fl true 26 (.br 27 .done .stop)) .stop)))))))))))))))))))))))))) [8, 13, 15, 16, 20, 22, 23] (none) tMix; kernel_rfl)
  | (show W _ _ (.region 1 _ _) _ _ _; apply W.regionGB (.fl true 0 (.fl true 1 (.fl true 2 (.fl true 4 (.fl true 5 (.fl true 6 (.fl true 8 (.fl true 11 (.fl true 12 (.fl true 13 (.fl true 15 (.fl true 16 (.fl true 17 (.fl true 19 (.fl true 22 (.fl true 23 (.fl false 3 (.fl false 7 (.fl true 9 (.fl false 10 (.fl false 14 (.fl false 18 (.fl true 20 (.fl false 21 (.fl true 24 (.br 25 (.fl true 26 (.br 27 .done .stop)) .stop)))))))))))))))))))))))))) [7, 9, 10, 14, 18, 20, 21] (none) tMix; kernel_rfl)
  | (apply WL.storeO tOk; (iterate 4 exact rfl); assumption; (exact extA); (iterate 3 exact rfl); exact encI_ok; assumption; exact rfl; (exact extA); intro w' hO hX' hU; (first | replace hS := Sep.updRow (i := 2) rfl hU hO (.inl rfl) hS extA (by (exact Below.size extA)) | replace hS := Sep.updRow (i := 3) rfl hU hO (.inl rfl) hS extA (by (exact Below.size extA))); (try simp only [List.set_cons_zero, List.set_cons_succ] at hS); (try have hR1 := hS.row (i := 1) rfl); (try have hR2 := hS.row (i := 2) rfl); (try have hR3 := hS.row (i := 3) rfl); (try have hC0 := hS.cell (i := 0) rfl); (try have hD0 := (cells_heap hC0).1); (try have hE0 := (cells_heap hC0).2.1); (try have hF0 := (cells_heap hC0).2.2.1))
  | (apply FL.indexO tOk; (iterate 8 exact rfl); assumption; (exact extA); exact encI_ok; (first | exact rfl | (focus (simp only [List.length_set]; done))); omega; assumption; intro gb ha hc; cases ha; have hcc := hc; first | (obtain ⟨h1, h2, h3, _⟩ := hc) | (obtain ⟨h1, h2, _⟩ := hc) | (obtain ⟨h1, _⟩ := hc))
  | (show WL _ _ _ _ _ _ _; apply WL.nil)
  | (show SG _ _ _ _ _ _ _ _ _; first | apply SG.done | (apply SG.fl0; exact rfl) | (apply SG.fl1; exact rfl; (focus ((intro m; first | assumption | (apply Ext.at; (exact extA)) | apply But.of_at; first | exact But.upd (by assumption) | exact But.ext extA | (refine But.trans ?_ (But.upd (by assumption)); exact But.ext extA) | exact But.at _ _ _); done))) | (apply SG.br1; exact rfl))
  | (show FL _ _ _ _ _ _ _ _; first | apply FL.nilS | (refine FL.au (k := ?_)) | (apply FL.loadG tOk; (iterate 5 exact rfl); (assumption); ((focus (intro h; cases h; done)))))
  | (show Z _ _ _ _ _; (apply Z.sgL; exact rfl))
  | (show Z _ _ _ _ _; apply Z.then_normal)
  | (show W _ _ _ _ _ _; apply W.seq)
  | fail)
 exact Z.body0n Tryz.results171 fun m => ⟨rfl, hX'.at m, by simpa using hS.ext ((Ext.refl _).at m)⟩
end
end Go.Proofs.YteidpnpbfagaeaaGreat
namespace Go.Proofs.YteidpnpbfagaeaaGreat
open Go Go.Lt Go.RowKit
set_option linter.unusedVariables false
set_option linter.unusedSimpArgs false
set_option maxRecDepth 20000

structure HpS (B : Nat) (w : World) (gh : Nat) (F : List Nat) (t A : List Int) (rest : List Piece) : Prop where
 at_ : AtOk F.length t A
 zero : ∀ x ∈ F, x = 0
 mem : ∃ as_ cs tr ct ap cp, Lt.Sep B w (hpP B gh as_ cs F tr ct t.length t ap cp A ++ rest)
theorem HpS.ext {B : Nat} {w w' : World} {gh : Nat} {F : List Nat} {t A : List Int} {rest : List Piece} (h : HpS B w gh F t A rest) (hx : Ext w w') : HpS B w' gh F t A rest :=
 ⟨h.at_, h.zero, let ⟨a, b, c, d, e, f, hS⟩ := h.mem; ⟨a, b, c, d, e, f, hS.ext hx⟩⟩
theorem AtOk.len_le {n : Nat} {t A : List Int} (h : AtOk n t A) : t.length ≤ n := by
 have key : ∀ (m : Nat) (l : List Nat), l.Nodup → (∀ i ∈ l, i < m) → l.length ≤ m := by
  intro m
  induction m with
  | zero => intro l _ hl; cases l with
   | nil => exact Nat.le_refl _
   | cons x r => exact absurd (hl x (by simp)) (Nat.not_lt_zero _)
  | succ m ih =>
   intro l hd hl
   have h1 := ih (l.erase m) (hd.erase m) fun i hi => by
    have h2 := hl i (List.mem_of_mem_erase hi)
    have h3 : i ≠ m := fun he => by subst he; exact (List.Nodup.not_mem_erase hd) hi
    omega
   rw [List.length_erase] at h1
   split at h1 <;> omega
 have h1 := key n (t.map Int.toNat) ?_ ?_
 ·rwa [List.length_map] at h1
 ·rw [List.nodup_iff_pairwise_ne, List.pairwise_map, List.pairwise_iff_getElem]
  intro i j hi hj hij he
  have p1 := h.pos i t[i] (List.getElem?_eq_getElem hi)
  have p2 := h.pos j t[j] (List.getElem?_eq_getElem hj)
  have : t[i] = t[j] := by omega
  have := h.inj (List.getElem?_eq_getElem hi) (by rw [List.getElem?_eq_getElem hj, this])
  omega
 ·intro i hi
  obtain ⟨x, hx, rfl⟩ := List.mem_map.1 hi
  obtain ⟨j, hj⟩ := List.mem_iff_getElem?.1 hx
  exact (h.lt hj).2
structure HpR (w0 w : World) (gh : Nat) (F : List Nat) (t0 : List Int) (rest : List Piece) (t A : List Int) : Prop where
 ext : Ext w0 w
 hp : HpS w0.heap.size w gh F t A rest
 mem : ∀ x, x ∈ t ↔ x ∈ t0
theorem swp_memc {t : List Int} {i k : Nat} {a b : Int} (hi : t[i]? = some a) (hk : t[k]? = some b) {t0 : List Int} (h : ∀ x, x ∈ t ↔ x ∈ t0) : ∀ x, x ∈ swp t i k a b ↔ x ∈ t0 := fun x => (swp_mem hi hk x).trans (h x)
theorem up_above (i : Nat) (h : 0 < i) : ((i : Int) - 1) / 2 = (((i - 1) / 2 : Nat) : Int) := by omega
set_option maxHeartbeats 8000000 in
theorem heap_up (w w0 : World) (gh : Nat) (F : List Nat) (t A : List Int) (rest : List Piece) (hX : Ext w0 w) (hH : HpS w0.heap.size w gh F t A rest) (hn : F.length ≤ 1048576) (i : Nat) (hi : i < t.length) (hU : UpI t i) :
  Lt.Spec Tryz.prog 169 [.pointer (some ⟨gh, 0, none⟩), .int .i64 i] w (fun v w' => v = .tuple #[] ∧ ∃ t' A', HpR w0 w' gh F t rest t' A' ∧ HO t') := by
 have htl := hH.at_.len_le
 have key : ∀ (e : Env) (Q : Exit → Act → World → Prop) (c : Code), True := fun _ _ _ => trivial
 clear key
 by_cases h0 : i = 0
 ·subst h0
  refine Spec.of _ Tryz.func169 rfl Tryz.ntmps169 (by kernel_rfl) rfl ?_
  repeat' (first
   | ((apply WL.quow; (iterate 4 exact rfl); exact ⟨⟨by decide, by decide⟩, by decide⟩))
   | (show WL _ _ _ _ _ _ _; first | apply WL.nil | (refine WL.au (k := ?_)))
   | (show Z _ _ _ _ _; apply Z.then_normal)
   | (show W _ _ _ _ _ _; first | apply W.seq | apply W.region | apply W.block)
   | fail)
  refine W.loop (fun _ : Unit => True) (fun _ => [(0, .pointer (some ⟨gh, 0, none⟩)), (1, .int .i64 0), (4, .int .i64 0)]) (fun _ => w) (fun _ => 0) () trivial ⟨rfl, rfl, rfl, trivial⟩ rfl ?_
  rintro ⟨⟩ _
  repeat' (first
   | (apply QL.gF; exact rfl; exact rfl; (focus (exact dec_false (by decide); done)))
   | (show QL _ _ _ _ _ _ _; first | apply QL.nil | (refine QL.au (k := ?_)) | (apply QL.guardF; exact rfl; exact rfl))
   | (show Z _ _ _ _ _; first | apply Z.then_normal | apply Z.then_exit | apply Z.block_exit)
   | (show W _ _ _ _ _ _; first | apply W.seq | apply W.exit | (apply W.condF; exact rfl) | (apply W.regionD tMix; kernel_rfl))
   | fail)
  exact Z.body0n Tryz.results169 fun m => ⟨rfl, t, A, ⟨hX.at m, hH.ext ((Ext.refl _).at m), fun x => Iff.rfl⟩, hU.stop (.inl rfl)⟩
 ·refine Spec.of _ Tryz.func169 rfl Tryz.ntmps169 (by kernel_rfl) rfl ?_
  repeat' (first
   | (show WL _ _ _ _ _ _ _; first | apply WL.nil | (refine WL.au (k := ?_)))
   | (show Z _ _ _ _ _; apply Z.then_normal)
   | (show W _ _ _ _ _ _; first | apply W.seq | apply W.region | apply W.block)
   | fail)
  refine W.loop (fun s : Nat × List Int × List Int × World => s.1 < s.2.1.length ∧ UpI s.2.1 s.1 ∧ HpR w0 s.2.2.2 gh F t rest s.2.1 s.2.2.1) (fun s => [(0, .pointer (some ⟨gh, 0, none⟩)), (1, .int .i64 s.1), (4, .int .i64 ((s.1 - 1) / 2 : Nat))]) (fun s => s.2.2.2) (fun s => s.1) (i, t, A, w) ⟨hi, hU, hX, hH, fun x => Iff.rfl⟩ ⟨rfl, rfl, by rw [← up_above i (by omega)]; exact rfl, trivial⟩ rfl ?_
  rintro ⟨j, t1, A1, w1⟩ ⟨hj, hU1, hX1, hH1, hM1⟩
  dsimp only at hj hU1 hX1 hH1 hM1
  obtain ⟨as_, cs, tr, ct, ap, cp, hS⟩ := hH1.mem
  have htl1 := hH1.at_.len_le
  have h := cells_heap (hS.cell (i := 0) rfl)
  have c1 := h.2.1
  clear h
  have Rt := Own.row encI_ok (hS.row (i := 2) rfl)
  obtain ⟨ya, hya⟩ := getI t1 hj
  obtain ⟨yb, hyb⟩ := getI t1 (show (j - 1) / 2 < t1.length by omega)
  have la := hH1.at_.lt hya
  have lb := hH1.at_.lt hyb
  have hya' : t1[((j : Nat) : Int).toNat]? = some ya := hya
  have hyb' : t1[(((j - 1) / 2 : Nat) : Int).toNat]? = some yb := hyb
  by_cases hj0 : j = 0
  ·subst hj0
   repeat' (first
    | (apply QL.gF; exact rfl; exact rfl; (focus (exact dec_false (by show ¬ (0 : Int) < ((0 : Nat) : Int); omega); done)))
    | (show QL _ _ _ _ _ _ _; first | apply QL.nil | (refine QL.au (k := ?_)) | (apply QL.guardF; exact rfl; exact rfl))
    | (show Z _ _ _ _ _; first | apply Z.then_normal | apply Z.then_exit | apply Z.block_exit)
    | (show W _ _ _ _ _ _; first | apply W.seq | apply W.exit | (apply W.condF; exact rfl) | (apply W.regionD tMix; kernel_rfl))
    | fail)
   exact Z.body0n Tryz.results169 fun m => ⟨rfl, t1, A1, ⟨hX1.at m, hH1.ext ((Ext.refl _).at m), hM1⟩, hU1.stop (.inl rfl)⟩
  by_cases hlt : ya < yb
  ·have hsw := heap_swap hX1 hS hH1.at_ j ((j - 1) / 2) ya yb hya hyb (by omega)
   have hU2 := hU1.step (by omega) hya hyb hlt
   have hA2 := hH1.at_.swap hya hyb
   have hM2 := swp_memc hya hyb hM1
   by_cases hj1 : (j - 1) / 2 = 0
   ·repeat' (first
     | (apply QL.nilc; (iterate 3 exact rfl))
     | (apply QL.gT; exact rfl; exact rfl; (focus (exact dec_true (by omega))))
     | (apply W.condKT; exact rfl; (focus (exact dec_true (by omega))))
     | ((show QL _ _ _ _ (⟨_, .call ⟨.value (.func 173), _, _⟩, _, _, _, _⟩ :: _) _ _); apply QL.callS; (iterate 4 exact rfl); exact heap_ahead hS hH1.zero ya yb ⟨la.1, la.2⟩ ⟨lb.1, lb.2⟩)
     | ((apply WL.quow; (iterate 4 exact rfl); exact ⟨⟨by omega, by omega⟩, by decide⟩))
     | (((show WL _ _ _ (⟨_, .call ⟨.value (.func 171), _, _⟩, _, _, _, _⟩ :: _) _ _ _); apply WL.call; (iterate 4 exact rfl); exact hsw; rintro v' w2 ⟨rfl, hX2, hS2⟩))
     | (show WL _ _ _ _ _ _ _; first | apply WL.nil | (refine WL.au (k := ?_)))
     | (show QL _ _ _ _ _ _ _; first | apply QL.nil | (refine QL.au (k := ?_)) | (apply QL.index tOk; (iterate 8 exact rfl); assumption; (exact extA); exact rfl; omega; assumption; intro b off h; have hcc := h; first | (obtain ⟨h1, h2, h3, h4, h5, h6, _⟩ := h) | (obtain ⟨h1, h2, h3, _⟩ := h) | (obtain ⟨h1, h2, _⟩ := h) | (obtain ⟨h1, _⟩ := h)))
     | (show Z _ _ _ _ _; first | apply Z.then_normal | apply Z.block_normal)
     | (show W _ _ _ _ _ _; first | apply W.seq | apply W.region | apply W.block | apply W.skip | (apply W.regionD tMix; kernel_rfl))
     | fail)
    refine Z.again ((j - 1) / 2, swp t1 j ((j - 1) / 2) ya yb, _, w2) ⟨by show (j - 1) / 2 < (swp t1 j ((j - 1) / 2) ya yb).length; rw [swp_len]; omega, hU2, hX2, ⟨hA2, hH1.zero, as_, cs, tr, ct, ap, cp, by rw [swp_len]; exact hS2⟩, hM2⟩ (by show (j - 1) / 2 < j; omega) ⟨rfl, rfl, ?_, trivial⟩ rfl
    show some (Value.int _ _) = some (Value.int _ _)
    rw [hj1]
    exact congrArg (fun z => some (Value.int IntKind.i64 z)) (show (((0 : Nat) : Int) - 1).tdiv 2 = (((0 - 1) / 2 : Nat) : Int) by decide)
   ·repeat' (first
     | (apply QL.nilc; (iterate 3 exact rfl))
     | (apply QL.gT; exact rfl; exact rfl; (focus (exact dec_true (by omega))))
     | (apply W.condKT; exact rfl; (focus (exact dec_true (by omega))))
     | ((show QL _ _ _ _ (⟨_, .call ⟨.value (.func 173), _, _⟩, _, _, _, _⟩ :: _) _ _); apply QL.callS; (iterate 4 exact rfl); exact heap_ahead hS hH1.zero ya yb ⟨la.1, la.2⟩ ⟨lb.1, lb.2⟩)
     | (((show WL _ _ _ (⟨_, .call ⟨.value (.func 171), _, _⟩, _, _, _, _⟩ :: _) _ _ _); apply WL.call; (iterate 4 exact rfl); exact hsw; rintro v' w2 ⟨rfl, hX2, hS2⟩))
     | (show WL _ _ _ _ _ _ _; first | apply WL.nil | (refine WL.au (k := ?_)))
     | (show QL _ _ _ _ _ _ _; first | apply QL.nil | (refine QL.au (k := ?_)) | (apply QL.index tOk; (iterate 8 exact rfl); assumption; (exact extA); exact rfl; omega; assumption; intro b off h; have hcc := h; first | (obtain ⟨h1, h2, h3, h4, h5, h6, _⟩ := h) | (obtain ⟨h1, h2, h3, _⟩ := h) | (obtain ⟨h1, h2, _⟩ := h) | (obtain ⟨h1, _⟩ := h)))
     | (show Z _ _ _ _ _; first | apply Z.then_normal | apply Z.block_normal)
     | (show W _ _ _ _ _ _; first | apply W.seq | apply W.region | apply W.block | apply W.skip | (apply W.regionD tMix; kernel_rfl))
     | fail)
    refine Z.again ((j - 1) / 2, swp t1 j ((j - 1) / 2) ya yb, _, w2) ⟨by show (j - 1) / 2 < (swp t1 j ((j - 1) / 2) ya yb).length; rw [swp_len]; omega, hU2, hX2, ⟨hA2, hH1.zero, as_, cs, tr, ct, ap, cp, by rw [swp_len]; exact hS2⟩, hM2⟩ (by show (j - 1) / 2 < j; omega) ⟨rfl, rfl, ?_, trivial⟩ rfl
    rw [← up_above ((j - 1) / 2) (by omega)]; exact rfl
  ·repeat' (first
    | (apply QL.nilc; (iterate 3 exact rfl))
    | (apply QL.gT; exact rfl; exact rfl; (focus (exact dec_true (by omega))))
    | (apply W.condKF; exact rfl; (focus (exact dec_false hlt; done)))
    | ((show QL _ _ _ _ (⟨_, .call ⟨.value (.func 173), _, _⟩, _, _, _, _⟩ :: _) _ _); apply QL.callS; (iterate 4 exact rfl); exact heap_ahead hS hH1.zero ya yb ⟨la.1, la.2⟩ ⟨lb.1, lb.2⟩)
    | (show QL _ _ _ _ _ _ _; first | apply QL.nil | (refine QL.au (k := ?_)) | (apply QL.index tOk; (iterate 8 exact rfl); assumption; (exact extA); exact rfl; omega; assumption; intro b off h; have hcc := h; first | (obtain ⟨h1, h2, h3, h4, h5, h6, _⟩ := h) | (obtain ⟨h1, h2, h3, _⟩ := h) | (obtain ⟨h1, h2, _⟩ := h) | (obtain ⟨h1, _⟩ := h)))
    | (show Z _ _ _ _ _; first | apply Z.then_normal | apply Z.then_exit | apply Z.block_exit)
    | (show W _ _ _ _ _ _; first | apply W.seq | apply W.exit | (apply W.regionD tMix; kernel_rfl))
    | fail)
   refine Z.body0n Tryz.results169 fun m => ⟨rfl, t1, A1, ⟨hX1.at m, hH1.ext ((Ext.refl _).at m), hM1⟩, hU1.stop (.inr fun a b ha hb => ?_)⟩
   rw [hya] at hb; rw [hyb] at ha; cases ha; cases hb; omega
set_option maxHeartbeats 16000000 in
theorem heap_down (w w0 : World) (gh : Nat) (F : List Nat) (t A : List Int) (rest : List Piece) (hX : Ext w0 w) (hH : HpS w0.heap.size w gh F t A rest) (hn : F.length ≤ 1048576) (i : Nat) (hi : i < t.length ∨ t = []) (hD : DownI t i) (hi0 : i ≤ 1048576) :
  Lt.Spec Tryz.prog 172 [.pointer (some ⟨gh, 0, none⟩), .int .i64 i] w (fun v w' => v = .tuple #[] ∧ ∃ t' A', HpR w0 w' gh F t rest t' A' ∧ HO t') := by
 refine Spec.of _ Tryz.func172 rfl Tryz.ntmps172 (by kernel_rfl) rfl ?_
 repeat' (first
  | (show W _ _ _ _ _ _; apply W.block)
  | fail)
 refine W.loop (fun s : Nat × List Int × List Int × World => (s.1 < s.2.1.length ∨ s.2.1 = []) ∧ s.1 ≤ 1048576 ∧ DownI s.2.1 s.1 ∧ HpR w0 s.2.2.2 gh F t rest s.2.1 s.2.2.1) (fun s => [(0, .pointer (some ⟨gh, 0, none⟩)), (1, .int .i64 s.1)]) (fun s => s.2.2.2) (fun s => 1048577 - s.1) (i, t, A, w) ⟨hi, hi0, hD, hX, hH, fun x => Iff.rfl⟩ ⟨rfl, rfl, trivial⟩ rfl ?_
 rintro ⟨j, t1, A1, w1⟩ ⟨hj, hj0, hD1, hX1, hH1, hM1⟩
 dsimp only at hj hj0 hD1 hX1 hH1 hM1
 obtain ⟨as_, cs, tr, ct, ap, cp, hS⟩ := hH1.mem
 have htl1 := hH1.at_.len_le
 have h := cells_heap (hS.cell (i := 0) rfl)
 have c1 := h.2.1
 clear h
 have Rt := Own.row encI_ok (hS.row (i := 2) rfl)
 repeat' (first
  | (show WL _ _ _ _ _ _ _; first | apply WL.nil | (refine WL.au (k := ?_)))
  | (show Z _ _ _ _ _; apply Z.then_normal)
  | (show W _ _ _ _ _ _; first | apply W.seq | apply W.region | apply W.block)
  | fail)
 refine W.loop (fun s : Nat × Nat => 2 * j + 1 ≤ s.1 ∧ s.1 ≤ 2 * j + 3 ∧ (s.2 = j ∨ (2 * j + 1 ≤ s.2 ∧ s.2 < s.1 ∧ s.2 < t1.length)) ∧ (∀ q, (q = j ∨ (2 * j + 1 ≤ q ∧ q < s.1)) → q < t1.length → leT t1 s.2 q) ∧ (s.2 ≠ j → ∀ a b, t1[s.2]? = some a → t1[j]? = some b → a < b)) (fun s => [(0, .pointer (some ⟨gh, 0, none⟩)), (1, .int .i64 j), (4, .int .i64 s.2), (5, .int .i64 s.1)]) (fun _ => w1) (fun s => 2 * j + 4 - s.1) (2 * j + 1, j) ⟨Nat.le_refl _, by omega, .inl rfl, fun q hq _ a b ha hb => by
  rcases hq with rfl | ⟨h1, h2⟩
  ·rw [ha] at hb; cases hb; exact Int.le_refl _
  ·omega, fun h => absurd rfl h⟩ ⟨rfl, rfl, rfl, by show some (Value.int _ _) = some (Value.int _ _); rw [show ((2 * j + 1 : Nat) : Int) = 2 * (j : Int) + 1 by omega], trivial⟩ rfl ?_
 rintro ⟨k, f⟩ ⟨hk1, hk2, hf, hmin, hless⟩
 dsimp only at hk1 hk2 hf hmin hless
 have efin : ∀ q : Nat, q = j ∨ (2 * j + 1 ≤ q ∧ q < 2 * j + 3) ↔ q = j ∨ (0 < q ∧ (q - 1) / 2 = j) := fun q => by omega
 by_cases hlt : k ≤ 2 * j + 2 ∧ k < t1.length
 ·have hjl : j < t1.length := by omega
  have hfl : f < t1.length := by rcases hf with rfl | ⟨_, _, h⟩; exact hjl; exact h
  obtain ⟨yk, hyk⟩ := getI t1 hlt.2
  obtain ⟨yf, hyf⟩ := getI t1 hfl
  have lk := hH1.at_.lt hyk
  have lf := hH1.at_.lt hyf
  have hyk' : t1[((k : Nat) : Int).toNat]? = some yk := hyk
  have hyf' : t1[((f : Nat) : Int).toNat]? = some yf := hyf
  by_cases hah : yk < yf
  ·repeat' (first
    | (apply WL.nilc; (iterate 3 exact rfl))
    | (apply QL.nilc; (iterate 3 exact rfl))
    | (apply WL.gT; exact rfl; exact rfl; (focus (exact dec_true (by omega))))
    | (apply W.condKT; exact rfl; (focus (exact dec_true (by omega))))
    | ((show QL _ _ _ _ (⟨_, .call ⟨.value (.func 173), _, _⟩, _, _, _, _⟩ :: _) _ _); apply QL.callS; (iterate 4 exact rfl); exact heap_ahead hS hH1.zero yk yf ⟨lk.1, lk.2⟩ ⟨lf.1, lf.2⟩)
    | (show WL _ _ _ _ _ _ _; first | apply WL.nil | (refine WL.au (k := ?_)))
    | (show QL _ _ _ _ _ _ _; first | apply QL.nil | (refine QL.au (k := ?_)) | (apply QL.index tOk; (iterate 8 exact rfl); assumption; (exact extA); exact rfl; omega; assumption; intro b off h; have hcc := h; first | (obtain ⟨h1, h2, h3, h4, h5, h6, _⟩ := h) | (obtain ⟨h1, h2, h3, _⟩ := h) | (obtain ⟨h1, h2, _⟩ := h) | (obtain ⟨h1, _⟩ := h)))
    | (show Z _ _ _ _ _; first | apply Z.then_normal | apply Z.block_normal)
    | (show W _ _ _ _ _ _; first | apply W.seq | apply W.region | apply W.block | apply W.skip | (apply W.regionD tMix; kernel_rfl))
    | fail)
   refine Z.again (k + 1, k) ⟨by show 2 * j + 1 ≤ k + 1; omega, by show k + 1 ≤ _; omega, .inr ⟨by show 2 * j + 1 ≤ k; omega, by show k < k + 1; omega, hlt.2⟩, fun q hq hql a b ha hb => ?_, fun hne a b ha hb => ?_⟩ (by show 2 * j + 4 - (k + 1) < 2 * j + 4 - k; omega) ⟨rfl, rfl, rfl, rfl, trivial⟩ rfl
   ·have ha' : t1[k]? = some a := ha
    rw [hyk] at ha'; cases ha'
    by_cases he : q = k
    ·subst he; rw [hyk] at hb; cases hb; exact Int.le_refl _
    ·have := hmin q (by rcases hq with h | h; exact .inl h; exact .inr ⟨h.1, by have : q < k + 1 := h.2; omega⟩) hql yf b hyf hb
     omega
   ·have ha' : t1[k]? = some a := ha
    rw [hyk] at ha'; cases ha'
    have := hmin j (.inl rfl) hjl yf b hyf hb
    omega
  ·repeat' (first
    | (apply WL.nilc; (iterate 3 exact rfl))
    | (apply QL.nilc; (iterate 3 exact rfl))
    | (apply WL.gT; exact rfl; exact rfl; (focus (exact dec_true (by omega))))
    | (apply W.condKT; exact rfl; (focus (exact dec_true (by omega))))
    | (apply W.condKF; exact rfl; (focus (exact dec_false hah; done)))
    | ((show QL _ _ _ _ (⟨_, .call ⟨.value (.func 173), _, _⟩, _, _, _, _⟩ :: _) _ _); apply QL.callS; (iterate 4 exact rfl); exact heap_ahead hS hH1.zero yk yf ⟨lk.1, lk.2⟩ ⟨lf.1, lf.2⟩)
    | (show WL _ _ _ _ _ _ _; first | apply WL.nil | (refine WL.au (k := ?_)))
    | (show QL _ _ _ _ _ _ _; first | apply QL.nil | (refine QL.au (k := ?_)) | (apply QL.index tOk; (iterate 8 exact rfl); assumption; (exact extA); exact rfl; omega; assumption; intro b off h; have hcc := h; first | (obtain ⟨h1, h2, h3, h4, h5, h6, _⟩ := h) | (obtain ⟨h1, h2, h3, _⟩ := h) | (obtain ⟨h1, h2, _⟩ := h) | (obtain ⟨h1, _⟩ := h)))
    | (show Z _ _ _ _ _; first | apply Z.then_normal | apply Z.block_normal)
    | (show W _ _ _ _ _ _; first | apply W.seq | apply W.region | apply W.block | apply W.skip | (apply W.regionD tMix; kernel_rfl))
    | fail)
   refine Z.again (k + 1, f) ⟨by show 2 * j + 1 ≤ k + 1; omega, by show k + 1 ≤ _; omega, hf.imp id fun h => ⟨h.1, by show f < k + 1; omega, h.2.2⟩, fun q hq hql a b ha hb => ?_, hless⟩ (by show 2 * j + 4 - (k + 1) < 2 * j + 4 - k; omega) ⟨rfl, rfl, rfl, rfl, trivial⟩ rfl
   have ha' : t1[f]? = some a := ha
   rw [hyf] at ha'; cases ha'
   by_cases he : q = k
   ·subst he; rw [hyk] at hb; cases hb; omega
   ·exact hmin q (by rcases hq with h | h; exact .inl h; exact .inr ⟨h.1, by have : q < k + 1 := h.2; omega⟩) hql yf b hyf hb
 ·have hall : ∀ q, 0 < q → q < t1.length → (q - 1) / 2 = j → leT t1 f q := fun q q0 ql qj => hmin q (.inr (by omega)) ql
  by_cases hfj : f = j
  ·subst hfj
   repeat' (first
    | (apply WL.nilc; (iterate 3 exact rfl))
    | (apply W.condKT; exact rfl; (focus (exact dec_true rfl)))
    | (apply W.condKF; exact rfl; (focus (exact dec_false (by omega))))
    | (show WL _ _ _ _ _ _ _; first | apply WL.nil | (refine WL.au (k := ?_)) | (apply WL.guardF; exact rfl; exact rfl) | (apply WL.gD; exact rfl; exact rfl; all_goals intro _))
    | (show Z _ _ _ _ _; first | apply Z.then_normal | apply Z.then_exit | apply Z.block_exit | apply Z.then_ret | apply Z.block_ret)
    | (show W _ _ _ _ _ _; first | apply W.seq | apply W.region | apply W.ret | apply W.exit | (apply W.condF; exact rfl))
    | fail)
   all_goals exact Z.body0 Tryz.results172 fun m => ⟨rfl, t1, A1, ⟨hX1.at m, hH1.ext ((Ext.refl _).at m), hM1⟩, hD1.stop hall⟩
  ·have hf' := hf.resolve_left hfj
   have hjl : j < t1.length := by omega
   obtain ⟨yf, hyf⟩ := getI t1 hf'.2.2
   obtain ⟨yj, hyj⟩ := getI t1 hjl
   have hlf := hless hfj yf yj hyf hyj
   have hfp : (f - 1) / 2 = j := by omega
   have hsw := heap_swap hX1 hS hH1.at_ j f yj yf hyj hyf (by omega)
   have hD2 := hD1.step (f := f) (by omega) hfp hyj hyf hlf (fun q q0 ql qj y hy => hall q q0 ql qj yf y hyf hy)
   have hA2 := hH1.at_.swap hyj hyf
   have hM2 := swp_memc hyj hyf hM1
   repeat' (first
    | (apply WL.nilc; (iterate 3 exact rfl))
    | (apply W.condKF; exact rfl; (focus (exact dec_false (by omega))))
    | (((show WL _ _ _ (⟨_, .call ⟨.value (.func 171), _, _⟩, _, _, _, _⟩ :: _) _ _ _); apply WL.call; (iterate 4 exact rfl); exact hsw; rintro v' w2 ⟨rfl, hX2, hS2⟩))
    | (show WL _ _ _ _ _ _ _; first | apply WL.nil | (refine WL.au (k := ?_)) | (apply WL.guardF; exact rfl; exact rfl) | (apply WL.gD; exact rfl; exact rfl; all_goals intro _))
    | (show Z _ _ _ _ _; first | apply Z.then_normal | apply Z.block_normal | apply Z.then_exit | apply Z.block_exit)
    | (show W _ _ _ _ _ _; first | apply W.seq | apply W.region | apply W.skip | apply W.exit | (apply W.condF; exact rfl))
    | fail)
   all_goals exact Z.again (f, swp t1 j f yj yf, _, w2) ⟨.inl (by show f < (swp t1 j f yj yf).length; rw [swp_len]; exact hf'.2.2), by show f ≤ _; omega, hD2, hX2, ⟨hA2, hH1.zero, as_, cs, tr, ct, ap, cp, by rw [swp_len]; exact hS2⟩, hM2⟩ (by show 1048577 - f < 1048577 - j; omega) ⟨rfl, rfl, trivial⟩ rfl
end Go.Proofs.YteidpnpbfagaeaaGreat
namespace Go.Proofs.YteidpnpbfagaeaaGreat
open Go Go.Lt Go.RowKit
set_option linter.unusedVariables false
set_option linter.unusedSimpArgs false
set_option maxRecDepth 20000

abbrev hpPn (B gh : Nat) (as_ : Option Addr) (cs : Nat) (F : List Nat) (tr : Option Addr) (ct nt : Nat) (t : List Int) (ap : Option Addr) (cp na : Nat) (A : List Int) : List Piece :=
 [pcell gh #[.slice as_ F.length cs, .slice tr nt ct, .slice ap na cp] 168, prow 1 encF 171 B as_ cs F, prow 1 encI 3 B tr ct t, prow 1 encI 3 B ap cp A]
theorem HpS.mk' {B : Nat} {w : World} {gh nt na : Nat} {F : List Nat} {t A : List Int} {rest : List Piece} {as_ tr ap : Option Addr} {cs ct cp : Nat} (hA : AtOk F.length t A) (hF : ∀ x ∈ F, x = 0) (hnt : nt = t.length) (hna : na = A.length) (hS : Lt.Sep B w (hpPn B gh as_ cs F tr ct nt t ap cp na A ++ rest)) : HpS B w gh F t A rest := by
 subst hnt; subst hna; exact ⟨hA, hF, as_, cs, tr, ct, ap, cp, hS⟩
theorem heap_Len {B : Nat} {w : World} {gh : Nat} {F : List Nat} {t A : List Int} {rest : List Piece} (hH : HpS B w gh F t A rest) : Still Tryz.prog 170 [.pointer (some ⟨gh, 0, none⟩)] w (.int .i64 t.length) := by
 obtain ⟨as_, cs, tr, ct, ap, cp, hS⟩ := hH.mem
 have h := cells_heap (hS.cell (i := 0) rfl)
 have c1 := h.2.1
 clear h
 refine Spec.of _ Tryz.func170 rfl Tryz.ntmps170 (by kernel_rfl) rfl ?_
 repeat' (first
  | (apply WL.nilc; (iterate 3 exact rfl))
  | (apply WL.eqNilS tOk; (iterate 6 exact rfl))
  | (show WL _ _ _ _ _ _ _; first | apply WL.nil | (refine WL.au (k := ?_)))
  | (show Z _ _ _ _ _; apply Z.then_normal)
  | (show W _ _ _ _ _ _; first | apply W.seq | apply W.region | apply W.skip | apply W.ret | (apply W.condF; exact rfl))
  | fail)
 exact Z.body1 Tryz.results170 rfl fun m => ⟨rfl, m, rfl⟩
theorem heap_known {B : Nat} {w : World} {gh : Nat} {F : List Nat} {t A : List Int} {rest : List Piece} (hH : HpS B w gh F t A rest) (v : Nat) (hv : v < F.length) : Still Tryz.prog 168 [.pointer (some ⟨gh, 0, none⟩), .int .i64 v] w (.bool true) := by
 obtain ⟨as_, cs, tr, ct, ap, cp, hS⟩ := hH.mem
 have h := cells_heap (hS.cell (i := 0) rfl)
 have c2 := h.2.2.1
 clear h
 have hl := hH.at_.len
 refine Spec.of _ Tryz.func168 rfl Tryz.ntmps168 (by kernel_rfl) rfl ?_
 repeat' (first
  | (apply WL.nilc; (iterate 3 exact rfl))
  | (apply WL.neNilS tOk; (iterate 6 exact rfl))
  | (apply WL.gT; exact rfl; exact rfl; (focus (exact dec_true (by omega); done)))
  | (show WL _ _ _ _ _ _ _; first | apply WL.nil | (refine WL.au (k := ?_)))
  | (show Z _ _ _ _ _; apply Z.then_normal)
  | (show W _ _ _ _ _ _; first | apply W.seq | apply W.region | apply W.ret)
  | fail)
 exact Z.body1 Tryz.results168 rfl fun m => ⟨congrArg Value.bool (dec_true (by omega)), m, rfl⟩
structure HpB (w0 w : World) (gh : Nat) (F : List Nat) (rest : List Piece) (t A : List Int) (p : Int → Prop) : Prop where
 ext : Ext w0 w
 hp : HpS w0.heap.size w gh F t A rest
 ho : HO t
 mem : ∀ x, x ∈ t ↔ p x
set_option maxHeartbeats 8000000 in
theorem heap_Push (w w0 : World) (gh : Nat) (F : List Nat) (t A : List Int) (rest : List Piece) (p : Int → Prop) (hB : HpB w0 w gh F rest t A p) (hn : F.length ≤ 1048576) (v : Nat) (hv : v < F.length) (hp : ¬ p v) :
  Lt.Spec Tryz.prog 154 [.pointer (some ⟨gh, 0, none⟩), .int .i64 v] w (fun r w' => r = .int .i64 0 ∧ ∃ t' A', HpB w0 w' gh F rest t' A' (fun x => p x ∨ x = v)) := by
 obtain ⟨hX, hH, hO, hm⟩ := hB
 have hnt : (v : Int) ∉ t := fun h => hp ((hm _).1 h)
 have htl := hH.at_.len_le
 have hAl := hH.at_.len
 have hAv := hH.at_.out v hv hnt
 have hA2 := hH.at_.push hv hnt
 have hU2 := hO.push (v : Int)
 have hAv' : A[((v : Nat) : Int).toNat]? = some (-1) := hAv
 have hkn := heap_known hH v hv
 have hZ := hH.zero
 obtain ⟨as_, cs, tr, ct, ap, cp, hS⟩ := hH.mem
 have hgt := (hS.lt (i := 0) rfl rfl).1
 have hne : blk tr ≠ some gh := fun h => by
  rcases hS.apart 2 0 _ _ rfl rfl (by decide) with h1 | h1
  ·rw [show (prow 1 encI 3 w0.heap.size tr ct t).b = blk tr from rfl] at h1; rw [h1] at h; cases h
  ·exact h1 h
 have h := cells_heap (hS.cell (i := 0) rfl)
 have c1 := h.2.1
 have c2 := h.2.2.1
 clear h
 have hR2 := hS.row (i := 2) rfl
 have hR3 := hS.row (i := 3) rfl
 have hset : (A.set ((v : Nat) : Int).toNat (t.length : Int))[((v : Nat) : Int).toNat]? = some (t.length : Int) := List.getElem?_set_self (by show v < A.length; omega)
 refine Spec.of _ Tryz.func154 rfl Tryz.ntmps154 (by kernel_rfl) rfl ?_
 repeat' (first
  | (apply WL.nilc; (iterate 3 exact rfl))
  | (apply FL.nilc; (iterate 3 exact rfl))
  | (apply WL.callS; (iterate 4 exact rfl); exact hkn)
  | (apply W.condKF; exact rfl; (focus (exact dec_false (by decide))))
  | (show W _ _ (.region 5 _ _) _ _ _; apply W.regionGB (.fl true 0 (.fl true 1 (.fl true 2 (.fl true 4 (.fl true 5 (.fl true 6 (.fl true 7 (.fl false 3 (.fl false 8 (.fl true 9 (.fl true 10 (.br 11 .done .stop)))))))))))) [8, 9] (none) tMix; kernel_rfl)
  | (apply WL.storeO tOk; (iterate 4 exact rfl); assumption; (exact extA); (iterate 3 exact rfl); exact encI_ok; assumption; exact rfl; (exact extA); intro w' hO hX' hU; (replace hS := Sep.updRow (i := 3) rfl hU hO (.inl rfl) hS extA (by (exact Below.size extA))); (try simp only [List.set_cons_zero, List.set_cons_succ] at hS); (try have hR1 := hS.row (i := 1) rfl); (try have hR2 := hS.row (i := 2) rfl); (try have hR3 := hS.row (i := 3) rfl); (try have hC0 := hS.cell (i := 0) rfl); (try have hD0 := (cells_heap hC0).1); (try have hE0 := (cells_heap hC0).2.1); (try have hF0 := (cells_heap hC0).2.2.1))
  | (apply WL.indexO tOk; (iterate 8 exact rfl); assumption; (exact extA); exact encI_ok; (first | exact rfl | (focus (simp only [List.length_set]; done))); omega; assumption; intro gb ha hc; cases ha; have hcc := hc; first | (obtain ⟨h1, h2, h3, _⟩ := hc) | (obtain ⟨h1, h2, _⟩ := hc) | (obtain ⟨h1, _⟩ := hc))
  | (apply FL.indexO tOk; (iterate 8 exact rfl); assumption; (exact extA); exact encI_ok; (exact rfl); omega; assumption; intro gb ha hc; cases ha; have hcc := hc; first | (obtain ⟨h1, h2, h3, _⟩ := hc) | (obtain ⟨h1, h2, _⟩ := hc) | (obtain ⟨h1, _⟩ := hc))
  | (apply WL.lit tOk; (iterate 6 exact rfl); (kernel_rfl); exact rfl; intro gb w' hb hge hc hx)
  | (apply WL.append1 (z := ((v : Int))) tOk encI_ok; (iterate 10 exact rfl); assumption; (exact extA); (exact rfl); (assumption); exact rfl; exact rfl; (exact extA); (omega); intro a' cap' w' hO hX' hU hF; (replace hS := Sep.updRow (i := 2) rfl hU hO hF hS extA (by (exact Below.size extA))); (try simp only [List.set_cons_zero, List.set_cons_succ] at hS); (try have hR1 := hS.row (i := 1) rfl); (try have hR2 := hS.row (i := 2) rfl); (try have hR3 := hS.row (i := 3) rfl); (try have hC0 := hS.cell (i := 0) rfl); (try have hD0 := (cells_heap hC0).1); (try have hE0 := (cells_heap hC0).2.1); (try have hF0 := (cells_heap hC0).2.2.1))
  | (apply WL.storeF (w0 := w0) tOk; (iterate 4 exact rfl); assumption; (exact extA); (iterate 4 exact rfl); (exact extA); (assumption); intro w' hb hX' hU; replace hS := Sep.updCell (i := 0) rfl hU hb hS extA (by (exact Below.size extA)); (try simp only [List.set_cons_zero, List.set_cons_succ] at hS); (try have hR1 := hS.row (i := 1) rfl); (try have hR2 := hS.row (i := 2) rfl); (try have hR3 := hS.row (i := 3) rfl); (try have hC0 := hS.cell (i := 0) rfl); (try have hD0 := (cells_heap hC0).1); (try have hE0 := (cells_heap hC0).2.1); (try have hF0 := (cells_heap hC0).2.2.1))
  | (show WL _ _ _ _ _ _ _; first | apply WL.nil | (refine WL.au (k := ?_)))
  | (show SG _ _ _ _ _ _ _ _ _; first | apply SG.done | (apply SG.fl0; exact rfl) | (apply SG.fl1; exact rfl; (focus ((intro m; first | assumption | (apply Ext.at; (exact extA)) | apply But.of_at; first | exact But.upd (by assumption) | exact But.ext extA | (refine But.trans ?_ (But.upd (by assumption)); exact But.ext extA) | exact But.at _ _ _); done))) | (apply SG.br1; exact rfl))
  | (show FL _ _ _ _ _ _ _ _; first | apply FL.nilS | (refine FL.au (k := ?_)) | (apply FL.loadG tOk; (iterate 5 exact rfl); (assumption); ((focus (intro h; cases h; done)))))
  | (show Z _ _ _ _ _; (apply Z.sgL; exact rfl))
  | (show Z _ _ _ _ _; first | apply Z.then_normal | apply Z.block_normal)
  | (show W _ _ _ _ _ _; first | apply W.seq | apply W.region | apply W.block | apply W.skip | (apply W.condF; exact rfl))
  | fail)
 have hH2 : HpS w0.heap.size w' gh F (t ++ [(v : Int)]) (A.set v (t.length : Int)) rest := HpS.mk' hA2 hZ rfl (by rw [List.length_set]) hS
 have hup := heap_up w' w0 gh F (t ++ [(v : Int)]) (A.set v (t.length : Int)) rest hX' hH2 hn t.length (by simp) hU2
 repeat' (first
  | (((show WL _ _ _ (⟨_, .call ⟨.value (.func 169), _, _⟩, _, _, _, _⟩ :: _) _ _ _); apply WL.call; (iterate 4 exact rfl); exact hup; rintro v' w2 ⟨rfl, t2, A2, hR2, hO2⟩))
  | (show WL _ _ _ _ _ _ _; first | apply WL.nil | (refine WL.au (k := ?_)))
  | (show Z _ _ _ _ _; apply Z.then_normal)
  | (show W _ _ _ _ _ _; first | apply W.seq | apply W.region | apply W.ret)
  | fail)
 refine Z.body1 Tryz.results154 rfl fun m => ⟨rfl, t2, A2, hR2.ext.at m, hR2.hp.ext ((Ext.refl _).at m), hO2, fun x => ?_⟩
 rw [hR2.mem x, List.mem_append, hm x, List.mem_singleton]
theorem heap_Pop0 {w w0 : World} {gh : Nat} {F : List Nat} {A : List Int} {rest : List Piece} {p : Int → Prop} (hB : HpB w0 w gh F rest [] A p) : Still Tryz.prog 155 [.pointer (some ⟨gh, 0, none⟩)] w (.tuple #[.int .i64 0, .bool false]) := by
 have hl := heap_Len hB.hp
 refine Spec.of _ Tryz.func155 rfl Tryz.ntmps155 (by kernel_rfl) rfl ?_
 repeat' (first
  | (apply WL.callS; (iterate 4 exact rfl); exact hl)
  | (apply W.condKT; exact rfl; (focus (exact dec_true rfl; done)))
  | (show WL _ _ _ _ _ _ _; first | apply WL.nil | (refine WL.au (k := ?_)))
  | (show Z _ _ _ _ _; first | apply Z.then_normal | apply Z.then_ret)
  | (show W _ _ _ _ _ _; first | apply W.seq | apply W.region | apply W.ret)
  | fail)
 exact Z.body2 Tryz.results155 rfl rfl fun m => ⟨rfl, m, rfl⟩
set_option maxHeartbeats 8000000 in
theorem heap_Pop (w w0 : World) (gh : Nat) (F : List Nat) (t A : List Int) (rest : List Piece) (p : Int → Prop) (hB : HpB w0 w gh F rest t A p) (hn : F.length ≤ 1048576) (ya : Int) (h0 : t[0]? = some ya) :
  Lt.Spec Tryz.prog 155 [.pointer (some ⟨gh, 0, none⟩)] w (fun r w' => r = .tuple #[.int .i64 ya, .bool true] ∧ ∃ t' A', HpB w0 w' gh F rest t' A' (fun x => p x ∧ x ≠ ya)) := by
 obtain ⟨hX, hH, hO, hm⟩ := hB
 have htl := hH.at_.len_le
 have hAl := hH.at_.len
 have hlen0 := lt_of_get h0
 obtain ⟨l, hl⟩ : ∃ l, t.length = l + 1 := ⟨t.length - 1, by omega⟩
 obtain ⟨yb, hyb⟩ := getI t (show l < t.length by omega)
 have la := hH.at_.lt h0
 have hD2 := pop_down hO hl h0 hyb
 have hA2 := pop_at hH.at_ hl h0 hyb
 have hM2 := pop_mem hH.at_ hl h0 hyb
 have hL2 := pop_len (a := ya) (b := yb) hl
 have hlenc := heap_Len hH
 have hZ := hH.zero
 obtain ⟨as_, cs, tr, ct, ap, cp, hS⟩ := hH.mem
 have hsw := heap_swap hX hS hH.at_ 0 l ya yb h0 hyb (by omega)
 have h := cells_heap (hS.cell (i := 0) rfl)
 have c1 := h.2.1
 clear h
 have Rt := Own.row encI_ok (hS.row (i := 2) rfl)
 have h0' : t[(0 : Int).toNat]? = some ya := h0
 have el : ((t.length : Nat) : Int) - 1 = (l : Int) := by omega
 have hsl := swp_len t 0 l ya yb
 obtain ⟨z1, hz1⟩ := getI ((A.set yb.toNat ((0 : Nat) : Int)).set ya.toNat (l : Int)) (show ya.toNat < _ by rw [List.length_set, List.length_set]; omega)
 refine Spec.of _ Tryz.func155 rfl Tryz.ntmps155 (by kernel_rfl) rfl ?_
 repeat' (first
  | (apply QL.nilc; (iterate 3 exact rfl))
  | (apply WL.callS; (iterate 4 exact rfl); exact hlenc)
  | (apply W.condKF; exact rfl; (focus (exact dec_false (by omega); done)))
  | (show WL _ _ _ _ _ _ _; first | apply WL.nil | (refine WL.au (k := ?_)))
  | (show QL _ _ _ _ _ _ _; first | apply QL.nil | (refine QL.au (k := ?_)) | (apply QL.index tOk; (iterate 8 exact rfl); assumption; (exact extA); exact rfl; omega; assumption; intro b off h; have hcc := h; first | (obtain ⟨h1, h2, h3, h4, h5, h6, _⟩ := h) | (obtain ⟨h1, h2, h3, _⟩ := h) | (obtain ⟨h1, h2, _⟩ := h) | (obtain ⟨h1, _⟩ := h)))
  | (show Z _ _ _ _ _; apply Z.then_normal)
  | (show W _ _ _ _ _ _; first | apply W.seq | apply W.region | apply W.skip | (apply W.regionD tMix; kernel_rfl))
  | fail)
 rw [el]
 repeat' (first
  | (((show WL _ _ _ (⟨_, .call ⟨.value (.func 171), _, _⟩, _, _, _, _⟩ :: _) _ _ _); apply WL.call; (iterate 4 exact rfl); exact hsw; rintro v' w2 ⟨rfl, hX2, hS⟩))
  | (show WL _ _ _ _ _ _ _; apply WL.nil)
  | (show Z _ _ _ _ _; apply Z.then_normal)
  | (show W _ _ _ _ _ _; apply W.seq)
  | fail)
 have hgt := (hS.lt (i := 0) rfl rfl).1
 have h := cells_heap (hS.cell (i := 0) rfl)
 have c1 := h.2.1
 have c2 := h.2.2.1
 clear h
 have hR2 := hS.row (i := 2) rfl
 have hR3 := hS.row (i := 3) rfl
 have hcap := hR2.capLe
 (try simp only [List.set_cons_zero, List.set_cons_succ] at hS); (try have hR1 := hS.row (i := 1) rfl); (try have hR2 := hS.row (i := 2) rfl); (try have hR3 := hS.row (i := 3) rfl); (try have hC0 := hS.cell (i := 0) rfl); (try have hD0 := (cells_heap hC0).1); (try have hE0 := (cells_heap hC0).2.1); (try have hF0 := (cells_heap hC0).2.2.1)
 repeat' (first
  | (apply FL.nilc; (iterate 3 exact rfl))
  | (show W _ _ (.region 5 _ _) _ _ _; apply W.regionGB (.fl true 0 (.fl true 1 (.fl true 2 (.fl true 3 (.fl true 5 (.fl true 6 (.fl true 7 (.fl true 8 (.fl true 10 (.fl false 4 (.fl false 9 (.fl true 11 (.fl true 12 (.fl true 13 (.br 14 (.fl true 15 (.br 16 .done .stop)) .stop))))))))))))))) [9, 11] (none) tMix; kernel_rfl)
  | (apply FL.sliceH0 tOk; (iterate 7 exact rfl); omega)
  | (apply WL.storeO tOk; (iterate 4 exact rfl); assumption; (exact extA); (iterate 3 exact rfl); exact encI_ok; assumption; exact rfl; (exact extA); intro w' hO hX' hU; (replace hS := Sep.updRow (i := 3) rfl hU hO (.inl rfl) hS extA (by (exact Below.size extA))); (try simp only [List.set_cons_zero, List.set_cons_succ] at hS); (try have hR1 := hS.row (i := 1) rfl); (try have hR2 := hS.row (i := 2) rfl); (try have hR3 := hS.row (i := 3) rfl); (try have hC0 := hS.cell (i := 0) rfl); (try have hD0 := (cells_heap hC0).1); (try have hE0 := (cells_heap hC0).2.1); (try have hF0 := (cells_heap hC0).2.2.1))
  | (apply FL.indexO tOk; (iterate 8 exact rfl); assumption; (exact extA); exact encI_ok; (exact rfl); omega; assumption; intro gb ha hc; cases ha; have hcc := hc; first | (obtain ⟨h1, h2, h3, _⟩ := hc) | (obtain ⟨h1, h2, _⟩ := hc) | (obtain ⟨h1, _⟩ := hc))
  | (apply WL.storeF (w0 := w0) tOk; (iterate 4 exact rfl); assumption; (exact extA); (iterate 4 exact rfl); (exact extA); (assumption); intro w' hb hX' hU; replace hS := Sep.updCell (i := 0) rfl hU hb hS extA (by (exact Below.size extA)); (try simp only [List.set_cons_zero, List.set_cons_succ] at hS); (try have hR1 := hS.row (i := 1) rfl); (try have hR2 := hS.row (i := 2) rfl); (try have hR3 := hS.row (i := 3) rfl); (try have hC0 := hS.cell (i := 0) rfl); (try have hD0 := (cells_heap hC0).1); (try have hE0 := (cells_heap hC0).2.1); (try have hF0 := (cells_heap hC0).2.2.1))
  | (show WL _ _ _ _ _ _ _; first | apply WL.nil | (refine WL.au (k := ?_)))
  | (show SG _ _ _ _ _ _ _ _ _; first | apply SG.done | (apply SG.fl0; exact rfl) | (apply SG.fl1; exact rfl; (focus ((intro m; first | assumption | (apply Ext.at; (exact extA)) | apply But.of_at; first | exact But.upd (by assumption) | exact But.ext extA | (refine But.trans ?_ (But.upd (by assumption)); exact But.ext extA) | exact But.at _ _ _); done))) | (apply SG.br1; exact rfl))
  | (show FL _ _ _ _ _ _ _ _; first | apply FL.nilS | (refine FL.au (k := ?_)) | (apply FL.loadG tOk; (iterate 5 exact rfl); (assumption); ((focus (intro h; cases h; done)))))
  | (show Z _ _ _ _ _; (apply Z.sgL; exact rfl))
  | (show Z _ _ _ _ _; apply Z.then_normal)
  | (show W _ _ _ _ _ _; first | apply W.seq | apply W.region)
  | fail)
 have h2 := Own.take encI_ok (hS.row (i := 2) rfl) l
 have hS2 := Sep.re (i := 2) (p' := prow 1 encI 3 w0.heap.size tr ct ((swp t 0 l ya yb).take l)) hS rfl rfl h2
 have hH2 : HpS w0.heap.size w' gh F ((swp t 0 l ya yb).take l) (((A.set yb.toNat (0 : Int)).set ya.toNat (l : Int)).set ya.toNat (-1)) rest := HpS.mk' hA2 hZ (by rw [hL2]; rfl) (by simp) hS2
 have hdn := heap_down w' w0 gh F _ _ rest hX' hH2 hn 0 (by
  by_cases hl0 : l = 0
  ·right; subst hl0; rfl
  ·left; rw [hL2]; omega) hD2 (by omega)
 repeat' (first
  | (((show WL _ _ _ (⟨_, .call ⟨.value (.func 172), _, _⟩, _, _, _, _⟩ :: _) _ _ _); apply WL.call; (iterate 4 exact rfl); exact hdn; rintro v' w3 ⟨rfl, t3, A3, hR3, hO3⟩))
  | (show WL _ _ _ _ _ _ _; first | apply WL.nil | (refine WL.au (k := ?_)))
  | (show Z _ _ _ _ _; apply Z.then_normal)
  | (show W _ _ _ _ _ _; first | apply W.seq | apply W.region | apply W.ret)
  | fail)
 exact Z.body2 Tryz.results155 rfl rfl fun m => ⟨rfl, t3, A3, hR3.ext.at m, hR3.hp.ext ((Ext.refl _).at m), hO3, fun x => by rw [hR3.mem x, hM2 x, hm x]⟩
theorem Sep.swap23 {B : Nat} {w : World} {p q r s : Piece} {ps : List Piece} (hS : Lt.Sep B w (p :: q :: r :: s :: ps)) : Lt.Sep B w (p :: q :: s :: r :: ps) := by
 refine hS.pick (fun i => if i = 2 then 3 else if i = 3 then 2 else i) (fun i x hx => ?_) (fun i j _ _ hij => ?_)
 ·match i, hx with
  | 0, hx => exact hx
  | 1, hx => exact hx
  | 2, hx => exact hx
  | 3, hx => exact hx
  | i + 4, hx => rw [if_neg (by omega), if_neg (by omega)]; exact hx
 ·show (if i = 2 then 3 else if i = 3 then 2 else i) ≠ (if j = 2 then 3 else if j = 3 then 2 else j)
  split <;> split <;> (try split) <;> (try split) <;> omega
set_option maxHeartbeats 8000000 in
theorem heap_New (n : Nat) (hn : n ≤ 1048576) (w w0 : World) (rest : List Piece) (hX : Ext w0 w) (hS : Lt.Sep w0.heap.size w rest) :
  Lt.Spec Tryz.prog 153 [.int .i64 n] w (fun r w' => ∃ gh F A, r = .pointer (some ⟨gh, 0, none⟩) ∧ F.length = n ∧ HpB w0 w' gh F rest [] A (fun _ => False)) := by
 have hB := hX.size
 have hn1 : ((n : Nat) : Int).toNat = n := by omega
 refine Spec.of _ Tryz.func153 rfl Tryz.ntmps153 (by kernel_rfl) rfl ?_
 repeat' (first
  | (apply WL.gF; exact rfl; exact rfl; (focus (exact dec_false (by omega); done)))
  | (apply W.condKF; exact rfl; (focus (exact dec_false (by omega); done)))
  | (show WL _ _ _ _ _ _ _; first | apply WL.nil | (refine WL.au (k := ?_)))
  | (show Z _ _ _ _ _; apply Z.then_normal)
  | (show W _ _ _ _ _ _; first | apply W.seq | apply W.region | apply W.skip)
  | fail)
 refine W.cutT (σ := Nat × Nat × Nat × World) (fun s => Lt.Sep w0.heap.size s.2.2.2 ([pcell s.1 #[.slice (some ⟨s.2.1, 0, none⟩) n n, .slice none 0 0, .slice (some ⟨s.2.2.1, 0, none⟩) n n] 168, prow 1 encF 171 w0.heap.size (some ⟨s.2.1, 0, none⟩) n (List.replicate n 0), prow 1 encI 3 w0.heap.size none 0 [], prow 1 encI 3 w0.heap.size (some ⟨s.2.2.1, 0, none⟩) n (List.replicate n 0)] ++ rest) ∧ Ext w0 s.2.2.2)
  (fun s => [(0, .int .i64 n), (3, .pointer (some ⟨s.1, 0, none⟩))]) (fun s => s.2.2.2) ?_ ?_
 ·replace hS : Lt.Sep w0.heap.size w (prow 1 encI 3 w0.heap.size none 0 [] :: rest) := Sep.newRow hS (Ext.refl _) Own.nil (fun k hk => by cases hk) hB
  repeat' (first
   | (show W _ _ (.region 3 _ _) _ _ _; apply W.regionGB (.fl true 0 (.fl true 2 (.br 1 (.br 3 (.fl true 4 (.br 5 (.fl true 6 .done) .stop)) .stop) (.br 3 (.br 1 (.fl true 4 (.br 5 (.fl true 6 .done) .stop)) .stop) .stop)))) [] (none) tMix; kernel_rfl)
   | ((apply WL.make (w0 := w0) (z := (0 : Nat)) thOk; (iterate 9 exact rfl); exact encF_ok; exact rfl; exact rfl; exact extA; (omega); intro gb w' hO hge hx; replace hS := Sep.newRow (Sep.ext hS extA) hx hO (fun k hk => by cases hk; exact hge) (by exact Below.size extA)))
   | (apply WL.make (w0 := w0) (z := (0:Int)) tOk; (iterate 9 exact rfl); exact encI_ok; exact rfl; exact rfl; (exact extA); (omega); intro gb w' hO hge hx; replace hS := Sep.newRow (Sep.ext hS extA) hx hO (fun k hk => by cases hk; exact hge) (by (exact Below.size extA)); (try simp only [List.set_cons_zero, List.set_cons_succ] at hS); (try have hR0 := hS.row (i := 0) rfl); (try have hR1 := hS.row (i := 1) rfl); (try have hR2 := hS.row (i := 2) rfl))
   | (apply FL.build tOk; (iterate 7 exact rfl); kernel_rfl)
   | (apply WL.box; (iterate 3 exact rfl); intro gb w' hb hge hc hx; have hcc := hc; ((obtain ⟨h1, h2, h3, _⟩ := hc)); replace hS := Sep.newCell (Sep.ext hS extA) hx hb hge (by (exact Below.size extA)); (try simp only [List.set_cons_zero, List.set_cons_succ] at hS); (try have hR1 := hS.row (i := 1) rfl); (try have hR2 := hS.row (i := 2) rfl); (try have hR3 := hS.row (i := 3) rfl); (try have hC0 := hS.cell (i := 0) rfl); (try have hD0 := (cells_heap hC0).1); (try have hE0 := (cells_heap hC0).2.1); (try have hF0 := (cells_heap hC0).2.2.1))
   | (show WL _ _ _ _ _ _ _; apply WL.nil)
   | (show SG _ _ _ _ _ _ _ _ _; first | apply SG.done | (apply SG.fl0; exact rfl) | (apply SG.br1; exact rfl) | (apply SG.br; exact rfl))
   | (show FL _ _ _ _ _ _ _ _; first | apply FL.nilS | (refine FL.au (k := ?_)))
   | (show Z _ _ _ _ _; (apply Z.sgL; exact rfl))
   | fail)
  all_goals (rw [hn1] at hS; simp only [List.length_replicate] at hS)
  ·exact Z.cut (_, _, _, _) ⟨Sep.swap23 (Sep.swap12 hS), extA⟩ ⟨rfl, rfl, trivial⟩ rfl
  ·exact Z.cut (_, _, _, _) ⟨Sep.swap23 hS, extA⟩ ⟨rfl, rfl, trivial⟩ rfl
 ·rintro ⟨gh, gf, ga, w1⟩ ⟨hS, hx1⟩
  simp only at hx1 hS ⊢
  (try simp only [List.set_cons_zero, List.set_cons_succ] at hS); (try have hR1 := hS.row (i := 1) rfl); (try have hR2 := hS.row (i := 2) rfl); (try have hR3 := hS.row (i := 3) rfl); (try have hC0 := hS.cell (i := 0) rfl); (try have hD0 := (cells_heap hC0).1); (try have hE0 := (cells_heap hC0).2.1); (try have hF0 := (cells_heap hC0).2.2.1)
  repeat' (first
   | (apply WL.nilc; (iterate 3 exact rfl))
   | (show WL _ _ _ _ _ _ _; first | apply WL.nil | (refine WL.au (k := ?_)))
   | (show Z _ _ _ _ _; apply Z.then_normal)
   | (show W _ _ _ _ _ _; first | apply W.seq | apply W.region | apply W.block)
   | fail)
  refine W.loopW n (fun k w' => k ≤ n ∧ Ext w0 w' ∧ ∃ A : List Int, A.length = n ∧ (∀ u : Nat, u < k → A[u]? = some (-1)) ∧ Lt.Sep w0.heap.size w' ([pcell gh #[.slice (some ⟨gf, 0, none⟩) n n, .slice none 0 0, .slice (some ⟨ga, 0, none⟩) n n] 168, prow 1 encF 171 w0.heap.size (some ⟨gf, 0, none⟩) n (List.replicate n 0), prow 1 encI 3 w0.heap.size none 0 [], prow 1 encI 3 w0.heap.size (some ⟨ga, 0, none⟩) n A] ++ rest))
   (fun k => [(0, .int .i64 n), (3, .pointer (some ⟨gh, 0, none⟩)), (21, .int .i64 n), (22, .int .i64 k)]) ⟨Nat.zero_le _, hx1, List.replicate n 0, by simp, fun u hu => absurd hu (Nat.not_lt_zero _), hS⟩ (fun k w' h => h.1) ⟨rfl, rfl, rfl, rfl, trivial⟩ ?_
  clear hS
  rintro k w' ⟨hk, hx', A, hAl, hAk, hS⟩
  (try simp only [List.set_cons_zero, List.set_cons_succ] at hS); (try have hR1 := hS.row (i := 1) rfl); (try have hR2 := hS.row (i := 2) rfl); (try have hR3 := hS.row (i := 3) rfl); (try have hC0 := hS.cell (i := 0) rfl); (try have hD0 := (cells_heap hC0).1); (try have hE0 := (cells_heap hC0).2.1); (try have hF0 := (cells_heap hC0).2.2.1)
  by_cases hlt : k < n
  ·obtain ⟨z, hz⟩ := getI A (show ((k : Nat) : Int).toNat < A.length by omega)
   repeat' (first
    | (apply W.condKT; exact rfl; (focus (exact dec_true (by omega); done)))
    | (apply WL.nilc; (iterate 3 exact rfl))
    | (apply WL.storeO tOk; (iterate 4 exact rfl); assumption; (exact extA); (iterate 3 exact rfl); exact encI_ok; assumption; exact rfl; (exact extA); intro w' hO hX' hU; (replace hS := Sep.updRow (i := 3) rfl hU hO (.inl rfl) hS extA (by (exact Below.size extA))); (try simp only [List.set_cons_zero, List.set_cons_succ] at hS); (try have hR1 := hS.row (i := 1) rfl); (try have hR2 := hS.row (i := 2) rfl); (try have hR3 := hS.row (i := 3) rfl); (try have hC0 := hS.cell (i := 0) rfl); (try have hD0 := (cells_heap hC0).1); (try have hE0 := (cells_heap hC0).2.1); (try have hF0 := (cells_heap hC0).2.2.1))
    | (apply WL.indexO tOk; (iterate 8 exact rfl); assumption; (exact extA); exact encI_ok; ((focus (simp [*]; done))); omega; assumption; intro gb ha hc; cases ha; have hcc := hc; first | (obtain ⟨h1, h2, h3, _⟩ := hc) | (obtain ⟨h1, h2, _⟩ := hc) | (obtain ⟨h1, _⟩ := hc))
    | (show WL _ _ _ _ _ _ _; first | apply WL.nil | (refine WL.au (k := ?_)))
    | (show Z _ _ _ _ _; first | apply Z.then_normal | apply Z.block_normal)
    | (show W _ _ _ _ _ _; first | apply W.seq | apply W.region | apply W.block | apply W.skip)
    | fail)
   refine Z.againW ⟨by omega, hX', _, by rw [List.length_set]; exact hAl, fun u hu => ?_, hS⟩ ⟨rfl, rfl, rfl, rfl, trivial⟩
   rw [List.getElem?_set]
   split
   ·rw [if_pos (by omega)]
   ·exact hAk u (by omega)
  ·obtain rfl : k = n := by omega
   repeat' (first
    | (apply W.condKF; exact rfl; (focus (exact dec_false (by omega); done)))
    | (show WL _ _ _ _ _ _ _; first | apply WL.nil | (refine WL.au (k := ?_)))
    | (show Z _ _ _ _ _; first | apply Z.then_normal | apply Z.then_exit | apply Z.block_exit)
    | (show W _ _ _ _ _ _; first | apply W.seq | apply W.region | apply W.ret | apply W.exit)
    | fail)
   refine Z.body1 Tryz.results153 rfl fun m => ⟨gh, List.replicate k 0, A, rfl, by simp, hx'.at m, ?_, fun j j0 jl => absurd jl (by simp), fun x => by simp⟩
   refine HpS.ext (w := w') ?_ ((Ext.refl _).at m)
   have hS2 : Lt.Sep w0.heap.size w' (hpPn w0.heap.size gh (some ⟨gf, 0, none⟩) k (List.replicate k 0) none 0 0 [] (some ⟨ga, 0, none⟩) k k A ++ rest) := by
    unfold hpPn
    rw [show (List.replicate k 0).length = k by simp]
    exact hS
   exact HpS.mk' ⟨by simp [hAl], fun i x hx => by simp at hx, fun v hv _ => hAk v (by simpa using hv)⟩ (fun x hx => (List.mem_replicate.1 hx).2) rfl hAl.symm hS2
end Go.Proofs.YteidpnpbfagaeaaGreat
namespace Go.Proofs.YteidpnpbfagaeaaGreat
open Go Go.Lt Go.RowKit
set_option linter.unusedVariables false
set_option linter.unusedSimpArgs false
set_option maxRecDepth 20000

theorem mget_mem {κ ν : Type} {a : κ} {v : ν} : ∀ {L : List (κ × ν)}, mget a L = some v → (a, v) ∈ L
 | [], h => by cases h
 | x :: r, h => by
  unfold mget at h
  by_cases hax : a = x.1
  ·rw [dec_true hax] at h
   have h' : some x.2 = some v := h
   have := Option.some.inj h'
   subst this; subst hax; simp
  ·rw [dec_false hax] at h
   exact List.mem_cons_of_mem _ (mget_mem h)
theorem mget_no {κ ν : Type} {a : κ} : ∀ {L : List (κ × ν)}, mget a L = none → ∀ v, (a, v) ∉ L
 | [], _, v => by simp
 | x :: r, h, v => by
  unfold mget at h
  by_cases hax : a = x.1
  ·rw [dec_true hax] at h; cases h
  ·rw [dec_false hax] at h
   intro hm
   rcases List.mem_cons.1 hm with he | hm
   ·exact hax (by rw [← he])
   ·exact mget_no h v hm
def plcM (gs : List G3) : Nat → List (Int × Int)
 | 0 => []
 | k + 1 => plcM gs k ++ (match gs[k]? with | some g => [(g.1 / 2, (k : Int))] | none => [])
theorem plcM_s {gs : List G3} {k : Nat} {g : G3} (h : gs[k]? = some g) : plcM gs (k + 1) = plcM gs k ++ [(g.1 / 2, (k : Int))] := by rw [plcM, h]
theorem mem_plcM {gs : List G3} {a v : Int} : ∀ {k : Nat}, (a, v) ∈ plcM gs k ↔ ∃ (j : Nat) (g : G3), j < k ∧ gs[j]? = some g ∧ a = g.1 / 2 ∧ v = (j : Int)
 | 0 => by simp [plcM]
 | k + 1 => by
  rw [plcM, List.mem_append, mem_plcM (k := k)]
  constructor
  ·rintro (⟨j, g, h1, h2⟩ | h)
   ·exact ⟨j, g, by omega, h2⟩
   ·cases hg : gs[k]? with
    | none => rw [hg] at h; cases h
    | some g =>
     rw [hg] at h
     simp only [List.mem_singleton, Prod.mk.injEq] at h
     exact ⟨k, g, by omega, hg, h.1, h.2⟩
  ·rintro ⟨j, g, h1, h2, h3⟩
   by_cases hj : j = k
   ·subst hj; rw [h2]; right; simp only [List.mem_singleton, Prod.mk.injEq]; exact h3
   ·exact .inl ⟨j, g, by omega, h2, h3⟩
theorem plcM_new {gs : List G3} (ho : Once gs) {k : Nat} {g : G3} (h : gs[k]? = some g) : mget (g.1 / 2) (plcM gs k) = none := by
 cases hm : mget (g.1 / 2) (plcM gs k) with
 | none => rfl
 | some v =>
  obtain ⟨j, x, h1, h2, h3, _⟩ := mem_plcM.1 (mget_mem hm)
  have := ho j k x g h2 h (by omega)
  omega
theorem plcM_some {gs : List G3} {l v : Int} (h : mget l (plcM gs gs.length) = some v) : ∃ (j : Nat) (g : G3), gs[j]? = some g ∧ g.1 / 2 = l ∧ v = (j : Int) := by
 obtain ⟨j, x, h1, h2, h3, h4⟩ := mem_plcM.1 (mget_mem h)
 exact ⟨j, x, h2, h3.symm, h4⟩
theorem plcM_none {gs : List G3} {l : Int} (h : mget l (plcM gs gs.length) = none) : ∀ (j : Nat) (g : G3), gs[j]? = some g → g.1 / 2 ≠ l := fun j g hg he =>
 mget_no h (j : Int) (mem_plcM.2 ⟨j, g, lt_of_get hg, hg, he.symm, rfl⟩)

abbrev nilR : RowV Int := (none, 0, [])
abbrev pI (B : Nat) (r : RowV Int) : Piece := prow 1 encI 3 B r.1 r.2.1 r.2.2
abbrev rst (B : Nat) (al : Option Addr) (cl : Nat) (lk : List Int) (ao : Option Addr) (co : Nat) (rs : List (RowV Int)) (rm : Nat) (M : List (Int × Int)) (ou : Option Addr) (cu : Nat) (out : List Int) (lit : RowV Int) (inn : List (RowV Int)) : List Piece :=
 [prow 1 encI 3 B al cl lk, prow 1 encRow 22 B ao co rs, pmap encK encK rm M, prow 1 encI 3 B ou cu out, pI B lit] ++ inn.map (pI B)
section
variable {B : Nat} {al : Option Addr} {cl : Nat} {lk : List Int} {ao : Option Addr} {co : Nat} {rs : List (RowV Int)} {rm : Nat} {M : List (Int × Int)} {ou : Option Addr} {cu : Nat} {out : List Int} {lit : RowV Int} {inn : List (RowV Int)} {k : Nat} {r : RowV Int}
theorem rst_in (h : inn[k]? = some r) (q : List Piece) (hq : q.length = 4) : (q ++ rst B al cl lk ao co rs rm M ou cu out lit inn)[9 + k]? = some (pI B r) := by
 rw [List.getElem?_append_right (by omega), show 9 + k - q.length = 5 + k by omega]
 show (_ :: _ :: _ :: _ :: _ :: inn.map (pI B))[5 + k]? = _
 rw [show 5 + k = k + 1 + 1 + 1 + 1 + 1 by omega]
 simp only [List.getElem?_cons_succ, List.getElem?_map, h, Option.map_some]
theorem rst_set (q : List Piece) (hq : q.length = 4) : (q ++ rst B al cl lk ao co rs rm M ou cu out lit inn).set (9 + k) (pI B r) = q ++ rst B al cl lk ao co rs rm M ou cu out lit (inn.set k r) := by
 rw [List.set_append_right _ _ (by omega), show 9 + k - q.length = k + 1 + 1 + 1 + 1 + 1 by omega]
 congr 1
 show (_ :: _ :: _ :: _ :: _ :: inn.map (pI B)).set _ _ = _
 simp only [List.set_cons_succ, ← List.map_set]
 rfl
end
theorem Sep.addNils {B : Nat} {w : World} {ps : List Piece} (hS : Lt.Sep B w ps) (n : Nat) : Lt.Sep B w (ps ++ (List.replicate n ((none, 0, []) : RowV Int)).map (pI B)) := by
 have key : ∀ (i : Nat) (p : Piece), (ps ++ (List.replicate n ((none, 0, []) : RowV Int)).map (pI B))[i]? = some p → ps[i]? = some p ∨ p = pI B (none, 0, []) := fun i p h => by
  rcases get_app h with h | ⟨_, h⟩
  ·exact .inl h
  ·rw [List.getElem?_map, List.getElem?_replicate] at h
   split at h
   ·simp at h; exact .inr h.symm
   ·cases h
 refine ⟨fun i p h => ?_, fun i j p q h1 h2 hne => ?_⟩
 ·rcases key i p h with h | rfl
  ·exact hS.holds i p h
  ·exact ⟨Own.nil, fun k hk => by cases hk⟩
 ·rcases key i p h1 with k1 | rfl
  ·rcases key j q h2 with k2 | rfl
   ·exact hS.apart i j p q k1 k2 hne
   ·cases hb : p.b with
    | none => exact .inl rfl
    | some k => exact .inr (by simp [prow, blk])
  ·exact .inl rfl
theorem HpB.mono {w0 w : World} {gh : Nat} {F : List Nat} {rest : List Piece} {t A : List Int} {p q : Int → Prop} (h : HpB w0 w gh F rest t A p) (k : ∀ x, p x ↔ q x) : HpB w0 w gh F rest t A q := ⟨h.ext, h.hp, h.ho, fun x => (h.mem x).trans (k x)⟩
theorem HpB.up {w0 w w' : World} {gh : Nat} {F : List Nat} {rest : List Piece} {t A : List Int} {p : Int → Prop} (h : HpB w0 w gh F rest t A p) (hx : Ext w w') : HpB w0 w' gh F rest t A p := ⟨h.ext.trans hx, h.hp.ext hx, h.ho, h.mem⟩

theorem HpB.setLit {w0 w w' : World} {gh : Nat} {F : List Nat} {t A : List Int} {p : Int → Prop} {al : Option Addr} {cl : Nat} {lk : List Int} {ao : Option Addr} {co : Nat} {rs : List (RowV Int)} {rm : Nat} {M : List (Int × Int)} {ou : Option Addr} {cu : Nat} {out : List Int} {lit : RowV Int} {inn : List (RowV Int)} {gt cap : Nat} {l : List Int}
  (h : HpB w0 w gh F (rst w0.heap.size al cl lk ao co rs rm M ou cu out lit inn) t A p) (hx : Ext w w') (hO : Own 1 encI 3 w0.heap.size w' (some ⟨gt, 0, none⟩) cap l) (hge : w.heap.size ≤ gt) : HpB w0 w' gh F (rst w0.heap.size al cl lk ao co rs rm M ou cu out (some ⟨gt, 0, none⟩, cap, l) inn) t A p := by
 obtain ⟨hX, ⟨hat, hze, as_, cs, tr, ct, ap, cp, hS⟩, hO9, hm⟩ := h
 exact ⟨hX.trans hx, ⟨hat, hze, as_, cs, tr, ct, ap, cp, hS.upd (i := 8) (p' := pI w0.heap.size (some ⟨gt, 0, none⟩, cap, l)) rfl (But.ext hx) hO (.inr ⟨gt, rfl, hge, (hO.blk_lt gt rfl).2⟩) hX.size⟩, hO9, hm⟩

theorem heap_PopO (w w0 : World) (gh : Nat) (F : List Nat) (t A : List Int) (rest : List Piece) (p : Int → Prop) (hB : HpB w0 w gh F rest t A p) (hn : F.length ≤ 1048576) :
  Lt.Spec Tryz.prog 155 [.pointer (some ⟨gh, 0, none⟩)] w (fun r w' => ∃ nx : Option Int, r = .tuple #[.int .i64 (nx.getD 0), .bool nx.isSome] ∧ (∀ y, nx = some y → p y ∧ ∀ x, p x → y ≤ x) ∧ (nx = none → ∀ x, ¬ p x) ∧ ∃ t' A', HpB w0 w' gh F rest t' A' (fun x => p x ∧ ∀ y, nx = some y → x ≠ y)) := by
 cases ht : t with
 | nil =>
  subst ht
  have hno : ∀ x, ¬ p x := fun x hx => by have := (hB.mem x).2 hx; cases this
  refine Spec.mono (heap_Pop0 hB) ?_
  rintro r w' ⟨rfl, m, rfl⟩
  exact ⟨none, rfl, (fun y h => by cases h), (fun _ => hno), _, _, (hB.up ((Ext.refl _).at m)).mono fun x => ⟨fun h => absurd h (hno x), fun h => h.1⟩⟩
 | cons ya tl =>
  have h0 : t[0]? = some ya := by rw [ht]; rfl
  refine Spec.mono (heap_Pop w w0 gh F t A rest p hB hn ya h0) ?_
  rintro r w' ⟨rfl, t', A', h⟩
  refine ⟨some ya, rfl, (fun y hy => ?_), (fun h => by cases h), t', A', h.mono fun x => ⟨fun hx => ⟨hx.1, fun y hy => by cases hy; exact hx.2⟩, fun hx => ⟨hx.1, hx.2 ya rfl⟩⟩⟩
  have hy' := Option.some.inj hy
  subst hy'
  refine ⟨(hB.mem ya).1 (by rw [ht]; simp), fun x hx => ?_⟩
  obtain ⟨i, hi⟩ := List.mem_iff_getElem?.1 ((hB.mem x).2 hx)
  exact hB.ho.min h0 i x hi

def litJ (g : G3) : Nat → Int
 | 0 => g.2.1
 | _ => g.2.2
noncomputable def lackJ (gs : List G3) (g : G3) : Nat → Nat
 | 0 => 0
 | j + 1 => lackJ gs g j + one (Bl gs [] (litJ g j))
theorem lackJ_s (gs : List G3) (g : G3) (j : Nat) : lackJ gs g (j + 1) = lackJ gs g j + one (Bl gs [] (litJ g j)) := rfl
noncomputable def hangsJ (g y : G3) : Nat → Nat
 | 0 => 0
 | j + 1 => hangsJ g y j + one (y.1 / 2 = litJ g j / 2)
theorem lackJ2 (gs : List G3) (g : G3) : lackJ gs g 2 = lackG gs [] g := by
 show 0 + one (Bl gs [] g.2.1) + one (Bl gs [] g.2.2) = _
 rw [Nat.zero_add]; rfl
theorem hangsJ2 (g y : G3) : hangsJ g y 2 = hangs g y := by
 show 0 + one (y.1 / 2 = g.2.1 / 2) + one (y.1 / 2 = g.2.2 / 2) = _
 rw [Nat.zero_add]; rfl
theorem lackJ_le (gs : List G3) (g : G3) : ∀ j, lackJ gs g j ≤ j
 | 0 => Nat.le_refl _
 | j + 1 => by have := lackJ_le gs g j; have := one_le (Bl gs [] (litJ g j)); unfold lackJ; omega
theorem hangsJ_le (g y : G3) : ∀ j, hangsJ g y j ≤ j
 | 0 => Nat.le_refl _
 | j + 1 => by have := hangsJ_le g y j; have := one_le (y.1 / 2 = litJ g j / 2); unfold hangsJ; omega
structure StA (gs : List G3) (i : Nat) (g : G3) (j : Nat) (lk : List Int) (rs : List (RowV Int)) : Prop where
 llen : lk.length = gs.length
 old : ∀ (q : Nat) (x : G3), gs[q]? = some x → q < i → lk[q]? = some (lackG gs [] x : Int)
 now : lk[i]? = some (lackJ gs g j : Int)
 new : ∀ q : Nat, i < q → q < gs.length → lk[q]? = some 0
 rlen : rs.length = gs.length
 row : ∀ (q : Nat) (y : G3), gs[q]? = some y → ∃ r, rs[q]? = some r ∧ r.2.2 = abv gs y i ++ List.replicate (hangsJ g y j) ((i : Nat) : Int)
structure StI (gs : List G3) (i : Nat) (lk : List Int) (rs : List (RowV Int)) : Prop where
 llen : lk.length = gs.length
 old : ∀ (q : Nat) (x : G3), gs[q]? = some x → q < i → lk[q]? = some (lackG gs [] x : Int)
 new : ∀ q : Nat, i ≤ q → q < gs.length → lk[q]? = some 0
 rlen : rs.length = gs.length
 row : ∀ (q : Nat) (y : G3), gs[q]? = some y → ∃ r, rs[q]? = some r ∧ r.2.2 = abv gs y i
theorem StI.first (gs : List G3) : StI gs 0 (List.replicate gs.length 0) (List.replicate gs.length (none, 0, [])) :=
 ⟨by simp, fun q x _ h => absurd h (Nat.not_lt_zero _), fun q _ h => by rw [List.getElem?_replicate, if_pos h], by simp, fun q y hy => ⟨(none, 0, []), by rw [List.getElem?_replicate, if_pos (lt_of_get hy)], rfl⟩⟩
theorem StI.enter {gs : List G3} {i : Nat} {g : G3} {lk : List Int} {rs : List (RowV Int)} (h : StI gs i lk rs) (hg : gs[i]? = some g) : StA gs i g 0 lk rs :=
 ⟨h.llen, h.old, h.new i (Nat.le_refl _) (lt_of_get hg), fun q h1 h2 => h.new q (by omega) h2, h.rlen, fun q y hy => by obtain ⟨r, h1, h2⟩ := h.row q y hy; exact ⟨r, h1, by rw [h2]; simp [hangsJ]⟩⟩
theorem StA.leave {gs : List G3} {i : Nat} {g : G3} {lk : List Int} {rs : List (RowV Int)} (h : StA gs i g 2 lk rs) (hg : gs[i]? = some g) : StI gs (i + 1) lk rs :=
 ⟨h.llen, fun q x hx hq => by
  by_cases hqi : q = i
  ·subst hqi; rw [hg] at hx; cases hx; rw [h.now, lackJ2]
  ·exact h.old q x hx (by omega), fun q h1 h2 => h.new q (by omega) h2, h.rlen, fun q y hy => by obtain ⟨r, h1, h2⟩ := h.row q y hy; exact ⟨r, h1, by rw [h2, hangsJ2, abv, hg]⟩⟩
theorem StA.skip {gs : List G3} {i j : Nat} {g : G3} {lk : List Int} {rs : List (RowV Int)} (h : StA gs i g j lk rs) (hn : ∀ (q : Nat) (y : G3), gs[q]? = some y → y.1 / 2 ≠ litJ g j / 2) : StA gs i g (j + 1) lk rs := by
  have e1 : one (Bl gs [] (litJ g j)) = 0 := one_no fun ⟨q, y, h1, _, h2⟩ => hn q y h1 h2
  refine ⟨h.llen, h.old, by rw [h.now, lackJ_s, e1]; rfl, h.new, h.rlen, fun q y hy => ?_⟩
  obtain ⟨r, h1, h2⟩ := h.row q y hy
  exact ⟨r, h1, by rw [h2]; conv => rhs; rw [hangsJ]
                   rw [one_no (hn q y hy)]; rfl⟩
theorem StA.take {gs : List G3} (ho : Once gs) {i j k : Nat} {g y : G3} {lk : List Int} {rs : List (RowV Int)} {r : RowV Int} {a' : Option Addr} {cap' : Nat} (h : StA gs i g j lk rs) (hy : gs[k]? = some y) (he : y.1 / 2 = litJ g j / 2) (hr : rs[k]? = some r) :
  StA gs i g (j + 1) (lk.set i ((lackJ gs g j : Int) + 1)) (rs.set k (a', cap', r.2.2 ++ [((i : Nat) : Int)])) := by
 have e1 : one (Bl gs [] (litJ g j)) = 1 := one_yes ⟨k, y, hy, by simp, he⟩
 have hil := lt_of_get h.now
 refine ⟨by simp [h.llen], fun q x hx hq => by rw [List.getElem?_set_ne (by omega)]; exact h.old q x hx hq, ?_, fun q h1 h2 => by rw [List.getElem?_set_ne (by omega)]; exact h.new q h1 h2, by simp [h.rlen], fun q z hz => ?_⟩
 ·rw [List.getElem?_set_self hil, lackJ_s, e1]; rfl
 ·obtain ⟨r', h1, h2⟩ := h.row q z hz
  by_cases hq : k = q
  ·subst hq
   rw [hr] at h1; cases h1
   rw [hy] at hz; cases hz
   refine ⟨_, List.getElem?_set_self (lt_of_get hr), ?_⟩
   show r.2.2 ++ _ = _
   rw [h2, hangsJ, one_yes he, List.append_assoc, List.replicate_succ']
  ·refine ⟨r', by rw [List.getElem?_set_ne hq]; exact h1, ?_⟩
   rw [h2, hangsJ, one_no fun hh => hq (ho k q y z hy hz (by omega))]; rfl
def pA (i : Nat) (lk : List Int) (x : Int) : Prop := ∃ j : Nat, x = (j : Int) ∧ j < i ∧ lk[j]? = some 0
def pH (T : List Nat) (lk : List Int) (x : Int) : Prop := ∃ j : Nat, x = (j : Int) ∧ j ∉ T ∧ lk[j]? = some 0
theorem pA_set {i : Nat} {lk : List Int} {v : Int} (x : Int) : pA i (lk.set i v) x ↔ pA i lk x := by
 constructor
 ·rintro ⟨j, h1, h2, h3⟩; exact ⟨j, h1, h2, by rwa [List.getElem?_set_ne (by omega)] at h3⟩
 ·rintro ⟨j, h1, h2, h3⟩; exact ⟨j, h1, h2, by rwa [List.getElem?_set_ne (by omega)]⟩
theorem pA_push {i : Nat} {lk : List Int} (h : lk[i]? = some 0) (x : Int) : (pA i lk x ∨ x = (i : Int)) ↔ pA (i + 1) lk x := by
 constructor
 ·rintro (⟨j, h1, h2, h3⟩ | h1)
  ·exact ⟨j, h1, by omega, h3⟩
  ·exact ⟨i, h1, by omega, h⟩
 ·rintro ⟨j, h1, h2, h3⟩
  by_cases hj : j = i
  ·subst hj; exact .inr h1
  ·exact .inl ⟨j, h1, by omega, h3⟩
theorem pA_next {i : Nat} {lk : List Int} {v : Int} (h : lk[i]? = some v) (hv : v ≠ 0) (x : Int) : pA i lk x ↔ pA (i + 1) lk x := by
 constructor
 ·rintro ⟨j, h1, h2, h3⟩; exact ⟨j, h1, by omega, h3⟩
 ·rintro ⟨j, h1, h2, h3⟩
  by_cases hj : j = i
  ·subst hj; rw [h] at h3; cases h3; exact absurd rfl hv
  ·exact ⟨j, h1, by omega, h3⟩
theorem pA_all {n : Nat} {lk : List Int} (h : lk.length = n) (x : Int) : pA n lk x ↔ pH [] lk x := by
 constructor
 ·rintro ⟨j, h1, h2, h3⟩; exact ⟨j, h1, by simp, h3⟩
 ·rintro ⟨j, h1, h2, h3⟩; exact ⟨j, h1, by have := lt_of_get h3; omega, h3⟩
structure StB (gs : List G3) (L : List Nat) (Y : List Int) (lk : List Int) : Prop where
 llen : lk.length = gs.length
 val : ∀ (q : Nat) (x : G3), gs[q]? = some x → lk[q]? = some ((lackG gs L x : Int) - (Y.count (q : Int) : Int))
theorem StB.rdy {gs : List G3} {L : List Nat} {lk : List Int} (h : StB gs L [] lk) (x : Int) : pH L lk x ↔ ∃ j : Nat, x = (j : Int) ∧ Rdy gs L j := by
 constructor
 ·rintro ⟨j, h1, h2, h3⟩
  obtain ⟨g, hg⟩ := getI gs (show j < gs.length by have := lt_of_get h3; have := h.llen; omega)
  have := h.val j g hg
  rw [h3] at this
  have h4 := Option.some.inj this
  simp at h4
  exact ⟨j, h1, (rdy_lack hg).2 ⟨h2, by omega⟩⟩
 ·rintro ⟨j, h1, h2⟩
  have h2' := h2
  obtain ⟨g, hg, _⟩ := h2'
  have h3 := (rdy_lack hg).1 h2
  exact ⟨j, h1, h3.1, by rw [h.val j g hg, h3.2]; simp⟩
theorem StB.next {gs : List G3} (ho : Once gs) {L : List Nat} {i : Nat} {y : G3} {lk : List Int} (hy : gs[i]? = some y) (hi : i ∉ L) (h : StB gs L (abv gs y gs.length) lk) : StB gs (L ++ [i]) [] lk := by
 refine ⟨h.llen, fun q x hx => ?_⟩
 rw [h.val q x hx, abv_count hx, if_pos (lt_of_get hx), lack_push ho hy hi x]
 simp <;> omega
theorem StB.step {gs : List G3} (ho : Once gs) {L : List Nat} {i k m : Nat} {y g : G3} {lk : List Int} (hy : gs[i]? = some y) (hi : i ∉ L) (hg : gs[k]? = some g) (h : StB gs L ((abv gs y gs.length).take m) lk) (hk : (abv gs y gs.length)[m]? = some (k : Int)) :
  ∃ v, lk[k]? = some v ∧ 1 ≤ v ∧ v ≤ 2 ∧ StB gs L ((abv gs y gs.length).take (m + 1)) (lk.set k (v - 1)) := by
 have h1 := h.val k g hg
 have hc := abv_count (y := y) hg gs.length
 rw [if_pos (lt_of_get hg)] at hc
 have hl := lack_push ho hy hi g
 have hle : ((abv gs y gs.length).take (m + 1)).count (k : Int) ≤ hangs g y := by
  rw [← hc]; exact (List.take_sublist _ _).count_le _
 have hs : ((abv gs y gs.length).take (m + 1)).count (k : Int) = ((abv gs y gs.length).take m).count (k : Int) + 1 := by
  rw [take_succ' hk, List.count_append]; simp
 have b1 := one_le (Bl gs L g.2.1)
 have b2 := one_le (Bl gs L g.2.2)
 have b3 : lackG gs L g = one (Bl gs L g.2.1) + one (Bl gs L g.2.2) := rfl
 refine ⟨_, h1, by omega, by omega, ⟨by simp [h.llen], fun q x hx => ?_⟩⟩
 by_cases hq : k = q
 ·subst hq
  rw [hg] at hx; cases hx
  rw [List.getElem?_set_self (lt_of_get h1), hs]
  congr 1; omega
 ·rw [List.getElem?_set_ne hq, h.val q x hx, take_succ' hk, List.count_append]
  have : [(k : Int)].count (q : Int) = 0 := List.count_eq_zero.2 (fun hm => hq (by have := List.mem_singleton.1 hm; omega))
  rw [this]; rfl
theorem pH_dec {T : List Nat} {lk : List Int} {k : Nat} {v : Int} (h : lk[k]? = some v) (h1 : 1 ≤ v) (hv : v - 1 ≠ 0) (x : Int) : pH T lk x ↔ pH T (lk.set k (v - 1)) x := by
 constructor
 ·rintro ⟨j, a1, a2, a3⟩
  by_cases hj : k = j
  ·subst hj; rw [h] at a3; cases a3; omega
  ·exact ⟨j, a1, a2, by rw [List.getElem?_set_ne hj]; exact a3⟩
 ·rintro ⟨j, a1, a2, a3⟩
  by_cases hj : k = j
  ·subst hj; rw [List.getElem?_set_self (lt_of_get h)] at a3; have := Option.some.inj a3; omega
  ·exact ⟨j, a1, a2, by rwa [List.getElem?_set_ne hj] at a3⟩
theorem pH_zero {T : List Nat} {lk : List Int} {k : Nat} {v : Int} (h : lk[k]? = some v) (h1 : 1 ≤ v) (hv : v - 1 = 0) (hk : k ∉ T) (x : Int) : (pH T lk x ∨ x = (k : Int)) ↔ pH T (lk.set k (v - 1)) x := by
 constructor
 ·rintro (⟨j, a1, a2, a3⟩ | a1)
  ·by_cases hj : k = j
   ·subst hj; rw [h] at a3; cases a3; omega
   ·exact ⟨j, a1, a2, by rw [List.getElem?_set_ne hj]; exact a3⟩
  ·exact ⟨k, a1, hk, by rw [List.getElem?_set_self (lt_of_get h), hv]⟩
 ·rintro ⟨j, a1, a2, a3⟩
  by_cases hj : k = j
  ·subst hj; exact .inr a1
  ·exact .inl ⟨j, a1, a2, by rwa [List.getElem?_set_ne hj] at a3⟩
theorem pH_no {T : List Nat} {lk : List Int} {k : Nat} {v : Int} (h : lk[k]? = some v) (h1 : 1 ≤ v) : ¬ pH T lk (k : Int) := by
 rintro ⟨j, a1, a2, a3⟩
 have : j = k := by omega
 subst this
 rw [h] at a3; cases a3; omega
theorem pH_out {L : List Nat} {i : Nat} {lk : List Int} (x : Int) : (pH L lk x ∧ x ≠ (i : Int)) ↔ pH (L ++ [i]) lk x := by
 constructor
 ·rintro ⟨⟨j, a1, a2, a3⟩, hne⟩
  refine ⟨j, a1, fun hm => ?_, a3⟩
  rcases List.mem_append.1 hm with hm | hm
  ·exact a2 hm
  ·have := List.mem_singleton.1 hm; omega
 ·rintro ⟨j, a1, a2, a3⟩
  refine ⟨⟨j, a1, fun hm => a2 (by simp [hm]), a3⟩, fun he => a2 ?_⟩
  have : j = i := by omega
  simp [this]
theorem rdy_self {gs : List G3} {L : List Nat} {i : Nat} {y : G3} (hr : Rdy gs L i) (hy : gs[i]? = some y) : hangs y y = 0 := by
 obtain ⟨g, hg, h1, h2⟩ := hr
 rw [hy] at hg; cases hg
 have := h2 i y hy h1
 unfold hangs
 rw [one_no this.1, one_no this.2]
end Go.Proofs.YteidpnpbfagaeaaGreat
namespace Go.Proofs.YteidpnpbfagaeaaGreat
open Go Go.Lt Go.RowKit
set_option linter.unusedVariables false
set_option linter.unusedSimpArgs false
set_option maxRecDepth 20000

set_option maxHeartbeats 32000000 in
theorem circ_Order (c : Circ) (w : World) (hG : Row 3 enc3 w c.gates.1 c.gates.2.2) (hok : gsOk c.gates.2.2) (hn : c.gates.2.2.length ≤ 1048576) (ho : Once c.gates.2.2) :
  Lt.Spec Tryz.prog 111 [c.val] w (IsFresh 1 encI 3 w (natI (ordL c.gates.2.2))) := by
 refine Spec.of _ Tryz.func111 rfl Tryz.ntmps111 (by kernel_rfl) rfl ?_
 repeat' (first
  | (apply WL.box; (iterate 3 exact rfl); intro gb w' hb hge hc hx; have hcc := hc; ((obtain ⟨h1, h2, h3, _⟩ := hc)); (have hcells := hcc; obtain ⟨y0, y1, y2, y3, y4, y5, y6, _⟩ := hcc; obtain ⟨gc, rfl⟩ : ∃ x, x = gb := ⟨_, rfl⟩; obtain ⟨wc, rfl⟩ : ∃ x, x = w' := ⟨_, rfl⟩; obtain ⟨hxc, rfl⟩ : ∃ x, x = hx := ⟨_, rfl⟩))
  | ((apply WL.makeMap (kv := encK) (vv := encK); exact rfl; exact rfl; intro rm w1 hM1 hge1 hx1))
  | (show WL _ _ _ _ _ _ _; first | apply WL.nil | (refine WL.au (k := ?_)))
  | (show Z _ _ _ _ _; apply Z.then_normal)
  | (show W _ _ _ _ _ _; first | apply W.seq | apply W.region | apply W.block)
  | fail)
 have Rg := hG.ext hxc
 have hwc := Below.size hxc
 have hS : Lt.Sep wc.heap.size w1 [pmap encK encK rm (plcM c.gates.2.2 0)] := Sep.newMap Sep.none' hx1 hM1 hge1 (Nat.le_refl _)
 refine W.loopW c.gates.2.2.length (fun k w' => k ≤ c.gates.2.2.length ∧ Ext wc w' ∧ Lt.Sep wc.heap.size w' [pmap encK encK rm (plcM c.gates.2.2 k)]) (fun k => [(1, .pointer (some ⟨gc, 0, none⟩)), (3, .map (some rm)), (22, rowVal c.gates), (23, .int .i64 (c.gates.2.2.length : Nat)), (24, .int .i64 k)]) ⟨Nat.zero_le _, hx1, hS⟩ (fun k w' h => h.1) ⟨rfl, rfl, rfl, rfl, rfl, trivial⟩ ?_
 clear hS
 rintro k w3 ⟨hk, hX3, hS⟩
 have hM3 := hS.map (i := 0) rfl
 have hrm := (hS.lt (i := 0) rfl rfl).1
 by_cases hlt : k < c.gates.2.2.length
 ·obtain ⟨g, hgg⟩ := getI c.gates.2.2 hlt
  have hgo := hok g (List.mem_of_getElem? hgg)
  have hnew := plcM_new ho hgg
  repeat' (first
   | (show WL _ _ _ _ _ _ _; first | apply WL.nil | (refine WL.au (k := ?_)))
   | (show Z _ _ _ _ _; apply Z.then_normal)
   | (show W _ _ _ _ _ _; first | apply W.seq | apply W.region)
   | fail)
  refine W.condKT rfl (dec_true (by omega)) ?_
  repeat' (first
   | (apply WL.alloc tOk; (iterate 3 exact rfl); intro gb w' hb hge hx)
   | (apply WL.storeB (w0 := w3) tOk; (iterate 4 exact rfl); assumption; (exact extA); (iterate 3 exact rfl); (exact extA); (assumption); intro w' hb hc hX' hU; have hcc := hc; obtain ⟨h1, h2, _⟩ := hc; (obtain ⟨w4, rfl⟩ : ∃ x, x = w' := ⟨_, rfl⟩; obtain ⟨hX4, rfl⟩ : ∃ x, x = hX' := ⟨_, rfl⟩; have hC4 := cells_heap hb; obtain ⟨i0, i1, i2, _⟩ := hC4))
   | ((apply WL.mapPutF (B := 0) (w0 := wc) (vv := encK) tOk keyI; (iterate 6 exact rfl); exact hM3.ext extA; exact extA; assumption; intro w' hM' hX' hU))
   | (show WL _ _ _ _ _ _ _; first | apply WL.nil | (refine WL.au (k := ?_)) | (apply WL.index tOk; (iterate 8 exact rfl); assumption; (exact extA); exact rfl; omega; assumption; intro b off h; have hcc := h; first | (obtain ⟨h1, h2, h3, h4, h5, h6, _⟩ := h) | (obtain ⟨h1, h2, h3, _⟩ := h) | (obtain ⟨h1, h2, _⟩ := h) | (obtain ⟨h1, _⟩ := h)))
   | (show Z _ _ _ _ _; first | apply Z.then_normal | apply Z.block_normal)
   | (show W _ _ _ _ _ _; first | apply W.seq | apply W.region | apply W.block | apply W.skip)
   | fail)
  rw [hnew] at hM'
  have hS4 := Sep.updMap (i := 0) rfl hU hM' hS extA (Below.size extA)
  exact Z.againW ⟨by omega, extA, by rw [plcM_s hgg]; exact hS4⟩ ⟨rfl, rfl, rfl, rfl, rfl, trivial⟩
 obtain rfl : k = c.gates.2.2.length := by omega
 repeat' (first
  | (show WL _ _ _ _ _ _ _; first | apply WL.nil | (refine WL.au (k := ?_)))
  | (show Z _ _ _ _ _; apply Z.then_normal)
  | (show W _ _ _ _ _ _; first | apply W.seq | apply W.region)
  | fail)
 refine W.condKF rfl (dec_false (by omega)) ?_
 repeat' (first
  | (show Z _ _ _ _ _; first | apply Z.then_normal | apply Z.then_exit | apply Z.block_exit)
  | (show W _ _ _ _ _ _; first | apply W.seq | apply W.exit)
  | fail)
 have y6w : w3.cell? ⟨gc, 0 + 1 + 1 + 1 + 1 + 1 + 1, none⟩ = some (rowVal c.gates) := (hcells.ext hX3).2.2.2.2.2.2.1
 have ei : ((c.gates.2.2.length : Nat) : Int).toNat = c.gates.2.2.length := by omega
 refine W.cutT (σ := Nat × Nat × World) (fun s => Ext wc s.2.2 ∧ Lt.Sep wc.heap.size s.2.2 [prow 1 encI 3 wc.heap.size (some ⟨s.1, 0, none⟩) c.gates.2.2.length (List.replicate c.gates.2.2.length 0), prow 1 encRow 22 wc.heap.size (some ⟨s.2.1, 0, none⟩) c.gates.2.2.length (List.replicate c.gates.2.2.length ((none, 0, []) : RowV Int)), pmap encK encK rm (plcM c.gates.2.2 c.gates.2.2.length)]) (fun s => [(1, .pointer (some ⟨gc, 0, none⟩)), (3, .map (some rm)), (6, .slice (some ⟨s.1, 0, none⟩) c.gates.2.2.length c.gates.2.2.length), (7, .slice (some ⟨s.2.1, 0, none⟩) c.gates.2.2.length c.gates.2.2.length)]) (fun s => s.2.2) ?_ ?_
 ·repeat' (first
   | (show W _ _ (.region 7 _ _) _ _ _; apply W.regionGX (.fl true 0 (.fl true 4 (.fl false 1 (.fl true 2 (.fl false 5 (.fl true 6 (.br 3 (.fl true 8 (.br 7 (.fl true 9 .done) .stop)) (.br 7 (.br 3 (.fl true 8 (.fl true 9 .done)) .stop) .stop)))))))) [3, 5, 6, 7, 8] tMix; kernel_rfl)
   | (apply WL.make (w0 := wc) (z := (0:Int)) tOk; (iterate 9 exact rfl); exact encI_ok; exact rfl; exact rfl; (exact extA); (omega); intro gb w' hO hge hx; replace hS := Sep.newRow (Sep.ext hS extA) hx hO (fun k hk => by cases hk; exact hge) (by (exact Below.size extA)); (try simp only [List.set_cons_zero, List.set_cons_succ] at hS); (try have hR0 := hS.row (i := 0) rfl); (try have hR1 := hS.row (i := 1) rfl); (try have hM1 := hS.map (i := 1) rfl); (try have hM2 := hS.map (i := 2) rfl))
   | (apply WL.make (w0 := wc) (z := nilR) tOk; (iterate 9 exact rfl); exact encRow_ok; exact rfl; exact rfl; (exact extA); (omega); intro gb w' hO hge hx; replace hS := Sep.newRow (Sep.ext hS extA) hx hO (fun k hk => by cases hk; exact hge) (by (exact Below.size extA)); (try simp only [List.set_cons_zero, List.set_cons_succ] at hS); (try have hR0 := hS.row (i := 0) rfl); (try have hR1 := hS.row (i := 1) rfl); (try have hM1 := hS.map (i := 1) rfl); (try have hM2 := hS.map (i := 2) rfl))
   | (show SX _ _ _ _ _ _ _ _ _; first | (apply SX.done; intro w' hx) | (apply SX.fl0; exact rfl) | (apply SX.fl1; exact rfl; (exact extA)) | (apply SX.br1; exact rfl; intro w' hx) | (apply SX.br; exact rfl; (intro w' hx)))
   | (show FL _ _ _ _ _ _ _ _; first | apply FL.nilX | (apply FL.loadE tOk; (iterate 5 exact rfl); (assumption)))
   | (show FL _ _ _ _ _ _ _ _; (refine FL.au (k := ?_)))
   | (show Z _ _ _ _ _; (apply Z.sxE; (exact extA)))
   | (show WL _ _ _ _ _ _ _; apply WL.nil)
   | fail)
  all_goals (rw [ei] at hS; rw [ei]; rw [List.length_replicate, List.length_replicate])
  ·exact Z.cut (_, _, w') ⟨extA, (Sep.swap01 hS).ext extA⟩ ⟨rfl, rfl, rfl, rfl, trivial⟩ rfl
  ·exact Z.cut (_, _, w') ⟨extA, hS.ext extA⟩ ⟨rfl, rfl, rfl, rfl, trivial⟩ rfl
 clear hS hX3 hM3 y6w
 rintro ⟨gl, go, w4⟩ ⟨hX4, hS⟩
 dsimp only at hX4 hS
 obtain ⟨n, hnn⟩ : ∃ n, c.gates.2.2.length = n := ⟨_, rfl⟩
 have hS4 : Lt.Sep wc.heap.size w4 (rst wc.heap.size (some ⟨gl, 0, none⟩) n (List.replicate n 0) (some ⟨go, 0, none⟩) n (List.replicate n nilR) rm (plcM c.gates.2.2 n) none 0 [] nilR (List.replicate n nilR)) := by
  have := Sep.addNils hS (n + 2)
  rw [hnn] at this
  exact this
 repeat' (first
  | (((show WL _ _ _ (⟨_, .call ⟨.value (.func 153), _, _⟩, _, _, _, _⟩ :: _) _ _ _); apply WL.call; (iterate 4 exact rfl); exact heap_New c.gates.2.2.length hn _ wc _ extA (hS4.ext extA); rintro v' w5 ⟨gh, F, A, rfl, hFl, hB5⟩; have hX5 := HpB.ext hB5))
  | (show WL _ _ _ _ _ _ _; first | apply WL.nil | (refine WL.au (k := ?_)))
  | (show Z _ _ _ _ _; apply Z.then_normal)
  | (show W _ _ _ _ _ _; first | apply W.seq | apply W.region | apply W.block)
  | fail)
 have hFn : F.length = n := by omega
 refine W.loopW n (fun k w' => k ≤ n ∧ ∃ lk rs lit t A, HpB wc w' gh F (rst wc.heap.size (some ⟨gl, 0, none⟩) n lk (some ⟨go, 0, none⟩) n rs rm (plcM c.gates.2.2 n) none 0 [] lit rs) t A (pA k lk) ∧ StI c.gates.2.2 k lk rs) (fun k => [(1, .pointer (some ⟨gc, 0, none⟩)), (3, .map (some rm)), (6, .slice (some ⟨gl, 0, none⟩) n n), (7, .slice (some ⟨go, 0, none⟩) n n), (8, .pointer (some ⟨gh, 0, none⟩)), (48, rowVal c.gates), (49, .int .i64 (n : Nat)), (50, .int .i64 k)]) ⟨Nat.zero_le _, _, _, _, _, _, hB5.mono (fun x => ⟨fun h => h.elim, fun ⟨j, _, h, _⟩ => absurd h (Nat.not_lt_zero _)⟩), by rw [← hnn]; exact StI.first _⟩ (fun k w' h => h.1) (by rw [← hnn]; exact ⟨rfl, rfl, rfl, rfl, rfl, rfl, rfl, rfl, trivial⟩) ?_
 clear hS hS4 hB5 hX5 hX4
 rintro k w6 ⟨hk, lk, rs, lit, t, A, hB6, hI6⟩
 have hX6 := hB6.ext
 by_cases hlt : k < n
 ·obtain ⟨g, hgg⟩ := getI c.gates.2.2 (show k < c.gates.2.2.length by omega)
  have hgo := hok g (List.mem_of_getElem? hgg)
  repeat' (first
   | (show WL _ _ _ _ _ _ _; first | apply WL.nil | (refine WL.au (k := ?_)))
   | (show Z _ _ _ _ _; apply Z.then_normal)
   | (show W _ _ _ _ _ _; first | apply W.seq | apply W.region)
   | fail)
  refine W.condKT rfl (dec_true (by omega)) ?_
  repeat' (first
   | (apply WL.alloc tOk; (iterate 3 exact rfl); intro gb w' hb hge hx)
   | (apply WL.storeB (w0 := w6) tOk; (iterate 4 exact rfl); assumption; (exact extA); (iterate 3 exact rfl); (exact extA); (assumption); intro w' hb hc hX' hU; have hcc := hc; obtain ⟨h1, h2, _⟩ := hc; (obtain ⟨w7, rfl⟩ : ∃ x, x = w' := ⟨_, rfl⟩; obtain ⟨hX7, rfl⟩ : ∃ x, x = hX' := ⟨_, rfl⟩; have hC7 := cells_heap hb; obtain ⟨i0, i1, i2, _⟩ := hC7))
   | (apply WL.lit tOk; (iterate 6 exact rfl); (kernel_rfl); exact rfl; intro gb w' hb hge hc hx; have hO := Own.of_block ([g.2.1, g.2.2]) encI_ok hb hge rfl; (obtain ⟨gt, rfl⟩ : ∃ x, x = gb := ⟨_, rfl⟩; obtain ⟨w8, rfl⟩ : ∃ x, x = w' := ⟨_, rfl⟩; obtain ⟨hx8, rfl⟩ : ∃ x, x = hx := ⟨_, rfl⟩; obtain ⟨hO8, rfl⟩ : ∃ x, x = hO := ⟨_, rfl⟩; obtain ⟨hge8, rfl⟩ : ∃ x, x = hge := ⟨_, rfl⟩))
   | (show WL _ _ _ _ _ _ _; first | apply WL.nil | (refine WL.au (k := ?_)) | (apply WL.index tOk; (iterate 8 exact rfl); assumption; (exact extA); exact rfl; omega; assumption; intro b off h; have hcc := h; first | (obtain ⟨h1, h2, h3, h4, h5, h6, _⟩ := h) | (obtain ⟨h1, h2, h3, _⟩ := h) | (obtain ⟨h1, h2, _⟩ := h) | (obtain ⟨h1, _⟩ := h)))
   | (show Z _ _ _ _ _; apply Z.then_normal)
   | (show W _ _ _ _ _ _; first | apply W.seq | apply W.region | apply W.block | apply W.skip)
   | fail)
  have hB8 := hB6.setLit (show Ext w6 w8 from extA) (hO8.base (Nat.le_trans (Below.size hX6) (Below.size hX7))) (Nat.le_trans (Below.size hX7) hge8)
  have hA8 := hI6.enter hgg
  refine W.loopW 2 (fun j w' => j ≤ 2 ∧ ∃ lk rs t A, HpB wc w' gh F (rst wc.heap.size (some ⟨gl, 0, none⟩) n lk (some ⟨go, 0, none⟩) n rs rm (plcM c.gates.2.2 n) none 0 [] (some ⟨gt, 0, none⟩, 2, [g.2.1, g.2.2]) rs) t A (pA k lk) ∧ StA c.gates.2.2 k g j lk rs) (fun j => [(1, .pointer (some ⟨gc, 0, none⟩)), (3, .map (some rm)), (6, .slice (some ⟨gl, 0, none⟩) n n), (7, .slice (some ⟨go, 0, none⟩) n n), (8, .pointer (some ⟨gh, 0, none⟩)), (9, .int .i64 k), (48, rowVal c.gates), (49, .int .i64 (n : Nat)), (50, .int .i64 k), (59, .slice (some ⟨gt, 0, none⟩) 2 2), (60, .int .i64 2), (61, .int .i64 j)]) ⟨Nat.zero_le _, _, _, _, _, hB8, hA8⟩ (fun k w' h => h.1) ⟨rfl, rfl, rfl, rfl, rfl, rfl, rfl, rfl, rfl, rfl, rfl, rfl, trivial⟩ ?_
  clear hB8 hA8 hB6 hI6 hX6
  rintro j w9 ⟨hj, lk, rs, t, A, hB9, hA9⟩
  have hX9 := hB9.ext
  by_cases hjl : j < 2
  ·obtain ⟨l, hl⟩ : ∃ l, litJ g j = l := ⟨_, rfl⟩
   have hll : ([g.2.1, g.2.2] : List Int)[((j : Nat) : Int).toNat]? = some l := by
    rw [Int.toNat_natCast, ← hl]
    match j, hjl with
    | 0, _ => rfl
    | 1, _ => rfl
   have hl0 : 0 ≤ l ∧ l ≤ 33554433 := by
    rw [← hl]
    match j, hjl with
    | 0, _ => exact hgo.2.1
    | 1, _ => exact hgo.2.2
   obtain ⟨hX9, ⟨hat, hze, as_, cs, tr, ct, ap, cp, hS⟩, hO9, hm9⟩ := hB9
   have hMp := hS.map (i := 6) rfl
   have hLo := hS.row (i := 4) rfl
   have RL := (hS.row (i := 8) rfl).row encI_ok
   have hll3 := hA9.llen
   have hrl3 := hA9.rlen
   have hLn : lk.length = n := by omega
   have hRn : rs.length = n := by omega
   cases hmg : mget (l / 2) (plcM c.gates.2.2 n) with
   | none =>
    repeat' (first
     | (show WL _ _ _ _ _ _ _; first | apply WL.nil | (refine WL.au (k := ?_)))
     | (show Z _ _ _ _ _; apply Z.then_normal)
     | (show W _ _ _ _ _ _; first | apply W.seq | apply W.region)
     | fail)
    refine W.condKT rfl (dec_true (by omega)) ?_
    repeat' (first
     | ((apply WL.lookNoneF tOk keyI; (iterate 7 exact rfl); exact hMp; exact hmg))
     | (show WL _ _ _ _ _ _ _; first | apply WL.nil | (refine WL.au (k := ?_)) | (apply WL.index tOk; (iterate 8 exact rfl); assumption; (exact extA); exact rfl; omega; assumption; intro b off h; have hcc := h; first | (obtain ⟨h1, h2, h3, h4, h5, h6, _⟩ := h) | (obtain ⟨h1, h2, h3, _⟩ := h) | (obtain ⟨h1, h2, _⟩ := h) | (obtain ⟨h1, _⟩ := h)))
     | (show Z _ _ _ _ _; apply Z.then_normal)
     | (show W _ _ _ _ _ _; first | apply W.seq | apply W.region | apply W.block | apply W.skip)
     | fail)
    refine W.condKF rfl rfl ?_
    repeat' (first
     | (show WL _ _ _ _ _ _ _; first | apply WL.nil | (refine WL.au (k := ?_)))
     | (show Z _ _ _ _ _; first | apply Z.then_normal | apply Z.block_normal)
     | (show W _ _ _ _ _ _; first | apply W.region | apply W.skip)
     | fail)
    refine Z.againW ⟨by omega, lk, rs, t, A, ⟨extA, ⟨hat, hze, as_, cs, tr, ct, ap, cp, hS⟩, hO9, hm9⟩, hA9.skip fun q y hy he => ?_⟩ ⟨rfl, rfl, rfl, rfl, rfl, rfl, rfl, rfl, rfl, rfl, rfl, rfl, trivial⟩
    rw [← hnn] at hmg
    exact plcM_none hmg q y hy (by rw [← hl, he])
   | some v =>
    have hmg' := hmg
    rw [← hnn] at hmg'
    obtain ⟨kk, y, hy, hyl, rfl⟩ := plcM_some hmg'
    have hkk := lt_of_get hy
    obtain ⟨r, hr, hrv⟩ := hA9.row kk y hy
    have hnow := hA9.now
    have hLk : lk[((k : Nat) : Int).toNat]? = some (lackJ c.gates.2.2 g j : Int) := by rw [Int.toNat_natCast]; exact hnow
    have hRk : rs[((kk : Nat) : Int).toNat]? = some r := by rw [Int.toNat_natCast]; exact hr
    have hlj := lackJ_le c.gates.2.2 g j
    repeat' (first
     | (show WL _ _ _ _ _ _ _; first | apply WL.nil | (refine WL.au (k := ?_)))
     | (show Z _ _ _ _ _; apply Z.then_normal)
     | (show W _ _ _ _ _ _; first | apply W.seq | apply W.region)
     | fail)
    refine W.condKT rfl (dec_true (by omega)) ?_
    repeat' (first
     | ((apply WL.lookSomeF tOk keyI; (iterate 7 exact rfl); exact hMp; exact hmg))
     | (show WL _ _ _ _ _ _ _; first | apply WL.nil | (refine WL.au (k := ?_)) | (apply WL.index tOk; (iterate 8 exact rfl); assumption; (exact extA); exact rfl; omega; assumption; intro b off h; have hcc := h; first | (obtain ⟨h1, h2, h3, h4, h5, h6, _⟩ := h) | (obtain ⟨h1, h2, h3, _⟩ := h) | (obtain ⟨h1, h2, _⟩ := h) | (obtain ⟨h1, _⟩ := h)))
     | (show Z _ _ _ _ _; apply Z.then_normal)
     | (show W _ _ _ _ _ _; first | apply W.seq | apply W.region | apply W.block | apply W.skip)
     | fail)
    refine W.condKT rfl rfl ?_
    repeat' (first
     | (apply WL.indexO tOk; (iterate 8 exact rfl); assumption; (exact extA); exact encI_ok; ((focus (simp [*]; done))); omega; assumption; intro gb ha hc; cases ha; have hcc := hc; first | (obtain ⟨h1, h2, h3, _⟩ := hc) | (obtain ⟨h1, h2, _⟩ := hc) | (obtain ⟨h1, _⟩ := hc))
     | (apply WL.storeO (z' := (((lackJ c.gates.2.2 g j : Nat) : Int) + 1)) tOk; (iterate 4 exact rfl); assumption; (exact extA); (iterate 3 exact rfl); exact encI_ok; assumption; exact rfl; (exact extA); intro w' hO hX' hU)
     | (show WL _ _ _ _ _ _ _; first | apply WL.nil | (refine WL.au (k := ?_)))
     | (show Z _ _ _ _ _; apply Z.then_normal)
     | (show W _ _ _ _ _ _; first | apply W.seq | apply W.region)
     | fail)
    obtain ⟨w10, rfl⟩ : ∃ x, x = w' := ⟨_, rfl⟩
    have hS1 : Lt.Sep wc.heap.size w10 (hpP wc.heap.size gh as_ cs F tr ct t.length t ap cp A ++ rst wc.heap.size (some ⟨gl, 0, none⟩) n (lk.set ((k : Nat) : Int).toNat (((lackJ c.gates.2.2 g j : Nat) : Int) + 1)) (some ⟨go, 0, none⟩) n rs rm (plcM c.gates.2.2 n) none 0 [] (some ⟨gt, 0, none⟩, 2, [g.2.1, g.2.2]) rs) := Sep.updRow (i := 4) rfl hU hO (.inl rfl) hS (Ext.refl _) (Below.size hX9)
    have hOu := hS1.row (i := 5) rfl
    have hIn := hS1.row (rst_in hr _ rfl)
    have hX10 : Ext wc w10 := extA
    have hrl : r.2.2.length ≤ 2 * n + 2 := by
     have q1 := abv_len c.gates.2.2 y k
     have q2 := hangsJ_le g y j
     rw [hrv, List.length_append, List.length_replicate]; omega
    repeat' (first
     | (apply WL.indexO tOk; (iterate 8 exact rfl); assumption; (exact extA); exact encRow_ok; ((focus (simp [*]; done))); omega; assumption; intro gb ha hc; cases ha; have hcc := hc; first | (obtain ⟨h1, h2, h3, _⟩ := hc) | (obtain ⟨h1, h2, _⟩ := hc) | (obtain ⟨h1, _⟩ := hc))
     | (apply WL.lit tOk; (iterate 6 exact rfl); (kernel_rfl); exact rfl; intro gb w' hb hge hc hx)
     | (apply WL.append1 (z := (((k : Nat) : Int))) tOk encI_ok; (iterate 10 exact rfl); assumption; (exact extA); (exact rfl); (assumption); exact rfl; exact rfl; (exact extA); (omega); intro a' cap' w' hO hX' hU hF)
     | (show WL _ _ _ _ _ _ _; (refine WL.au (k := ?_)))
     | fail)
    obtain ⟨w12, rfl⟩ : ∃ x, x = w' := ⟨_, rfl⟩; obtain ⟨a2, rfl⟩ : ∃ x, x = a' := ⟨_, rfl⟩; obtain ⟨cp2, rfl⟩ : ∃ x, x = cap' := ⟨_, rfl⟩
    have hS2 := Sep.updRow (rst_in hr _ rfl) hU hO hF hS1 extA (Below.size extA)
    rw [show prow 1 encI 3 wc.heap.size a2 cp2 (r.2.2 ++ [((k : Nat) : Int)]) = pI wc.heap.size (a2, cp2, r.2.2 ++ [((k : Nat) : Int)]) from rfl, rst_set _ rfl] at hS2
    have hOu2 := hS2.row (i := 5) rfl
    have hX12 : Ext wc w12 := extA
    repeat' (first
     | (apply WL.indexO tOk; (iterate 8 exact rfl); assumption; (exact extA); exact encRow_ok; ((focus (simp [*]; done))); omega; assumption; intro gb ha hc; cases ha; have hcc := hc; first | (obtain ⟨h1, h2, h3, _⟩ := hc) | (obtain ⟨h1, h2, _⟩ := hc) | (obtain ⟨h1, _⟩ := hc))
     | (apply WL.storeO (z' := (((a2, cp2, r.2.2 ++ [((k : Nat) : Int)]) : RowV Int))) tOk; (iterate 4 exact rfl); assumption; (exact extA); (iterate 3 exact rfl); exact encRow_ok; assumption; exact rfl; (exact extA); intro w' hO hX' hU)
     | (show WL _ _ _ _ _ _ _; first | apply WL.nil | (refine WL.au (k := ?_)))
     | (show Z _ _ _ _ _; first | apply Z.then_normal | apply Z.block_normal)
     | (show W _ _ _ _ _ _; apply W.region)
     | fail)
    have hS3 : Lt.Sep wc.heap.size w' (hpP wc.heap.size gh as_ cs F tr ct t.length t ap cp A ++ rst wc.heap.size (some ⟨gl, 0, none⟩) n (lk.set ((k : Nat) : Int).toNat (((lackJ c.gates.2.2 g j : Nat) : Int) + 1)) (some ⟨go, 0, none⟩) n (rs.set ((kk : Nat) : Int).toNat (a2, cp2, r.2.2 ++ [((k : Nat) : Int)])) rm (plcM c.gates.2.2 n) none 0 [] (some ⟨gt, 0, none⟩, 2, [g.2.1, g.2.2]) (rs.set kk (a2, cp2, r.2.2 ++ [((k : Nat) : Int)]))) := Sep.updRow (i := 5) rfl hU hO (.inl rfl) hS2 (Ext.refl _) (Below.size hX12)
    rw [Int.toNat_natCast, Int.toNat_natCast] at hS3
    exact Z.againW ⟨by omega, _, _, t, A, ⟨extA, ⟨hat, hze, as_, cs, tr, ct, ap, cp, hS3⟩, hO9, fun x => (hm9 x).trans (pA_set x).symm⟩, hA9.take ho hy (by rw [hyl, hl]) hr⟩ ⟨rfl, rfl, rfl, rfl, rfl, rfl, rfl, rfl, rfl, rfl, rfl, rfl, trivial⟩
  obtain rfl : j = 2 := by omega
  have hI9 := hA9.leave hgg
  have hnow : lk[k]? = some (lackG c.gates.2.2 [] g : Int) := by rw [hA9.now, lackJ2]
  have hll3 := hA9.llen
  have hB9' := hB9
  obtain ⟨hX9, ⟨hat, hze, as_, cs, tr, ct, ap, cp, hS⟩, hO9, hm9⟩ := hB9'
  have hLo := hS.row (i := 4) rfl
  have hLn : lk.length = n := by omega
  have hLk : lk[((k : Nat) : Int).toNat]? = some (lackG c.gates.2.2 [] g : Int) := by rw [Int.toNat_natCast]; exact hnow
  repeat' (first
   | (show WL _ _ _ _ _ _ _; first | apply WL.nil | (refine WL.au (k := ?_)))
   | (show Z _ _ _ _ _; apply Z.then_normal)
   | (show W _ _ _ _ _ _; first | apply W.seq | apply W.region)
   | fail)
  refine W.condKF rfl (dec_false (by omega)) ?_
  repeat' (first
   | (apply WL.indexO tOk; (iterate 8 exact rfl); assumption; (exact extA); exact encI_ok; ((focus (simp [*]; done))); omega; assumption; intro gb ha hc; cases ha; have hcc := hc; first | (obtain ⟨h1, h2, h3, _⟩ := hc) | (obtain ⟨h1, h2, _⟩ := hc) | (obtain ⟨h1, _⟩ := hc))
   | (show WL _ _ _ _ _ _ _; first | apply WL.nil | (refine WL.au (k := ?_)))
   | (show Z _ _ _ _ _; first | apply Z.then_normal | apply Z.then_exit | apply Z.block_exit)
   | (show W _ _ _ _ _ _; first | apply W.seq | apply W.region | apply W.exit)
   | fail)
  by_cases h0 : lackG c.gates.2.2 [] g = 0
  ·refine W.condKT rfl (dec_true (by omega)) ?_
   have hnp : ¬ pA k lk (k : Int) := fun ⟨q, q1, q2, q3⟩ => by omega
   repeat' (first
    | (((show WL _ _ _ (⟨_, .call ⟨.value (.func 154), _, _⟩, _, _, _, _⟩ :: _) _ _ _); apply WL.call; (iterate 4 exact rfl); exact heap_Push w9 wc gh F t A _ (pA k lk) hB9 (by omega) k (by omega) hnp; rintro v' w10 ⟨rfl, t1, A1, hB10⟩))
    | (show WL _ _ _ _ _ _ _; first | apply WL.nil | (refine WL.au (k := ?_)))
    | (show Z _ _ _ _ _; first | apply Z.then_normal | apply Z.block_normal)
    | (show W _ _ _ _ _ _; apply W.region)
    | fail)
   exact Z.againW ⟨by omega, _, _, _, t1, A1, hB10.mono (fun x => pA_push (by rw [hnow, h0]; rfl) x), hI9⟩ ⟨rfl, rfl, rfl, rfl, rfl, rfl, rfl, rfl, trivial⟩
  ·refine W.condKF rfl (dec_false (by omega)) ?_
   repeat' (first
    | (show WL _ _ _ _ _ _ _; first | apply WL.nil | (refine WL.au (k := ?_)))
    | (show Z _ _ _ _ _; first | apply Z.then_normal | apply Z.block_normal)
    | (show W _ _ _ _ _ _; first | apply W.region | apply W.skip)
    | fail)
   exact Z.againW ⟨by omega, _, _, _, t, A, hB9.mono (fun x => pA_next hnow (by omega) x), hI9⟩ ⟨rfl, rfl, rfl, rfl, rfl, rfl, rfl, rfl, trivial⟩
 obtain rfl : k = n := by omega
 repeat' (first
  | (show WL _ _ _ _ _ _ _; first | apply WL.nil | (refine WL.au (k := ?_)))
  | (show Z _ _ _ _ _; apply Z.then_normal)
  | (show W _ _ _ _ _ _; first | apply W.seq | apply W.region)
  | fail)
 refine W.condKF rfl (dec_false (by omega)) ?_
 have hll6 := hI6.llen
 have hB7 := hB6.mono (fun x => pA_all (show lk.length = k by omega) x)
 have hSB : StB c.gates.2.2 [] [] lk := ⟨hI6.llen, fun q x hx => by rw [hI6.old q x hx (by have := lt_of_get hx; omega)]; simp⟩
 have hrows : ∀ (q : Nat) (y : G3), c.gates.2.2[q]? = some y → ∃ r, rs[q]? = some r ∧ r.2.2 = abv c.gates.2.2 y c.gates.2.2.length := by
  rw [hnn]; exact hI6.row
 have hrl6 := hI6.rlen
 have start : ∀ (L : List Nat) (lk : List Int) (ya : Int), StB c.gates.2.2 L [] lk → pH L lk ya → (∀ x, pH L lk x → ya ≤ x) → ∃ i : Nat, ya = (i : Int) ∧ Least c.gates.2.2 L i := fun L lk ya hS hp hm => by
  obtain ⟨i, rfl, hr⟩ := (hS.rdy ya).1 hp
  exact ⟨i, rfl, hr, fun j hj => by have := hm (j : Int) ((hS.rdy _).2 ⟨j, rfl, hj⟩); omega⟩
 repeat' (first
  | (((show WL _ _ _ (⟨_, .call ⟨.value (.func 155), _, _⟩, _, _, _, _⟩ :: _) _ _ _); apply WL.call; (iterate 4 exact rfl); exact heap_PopO w6 wc gh F t A _ (pH [] lk) hB7 (by omega); rintro v' w7 ⟨nx, rfl, hnx1, hnx2, t1, A1, hB8⟩))
  | (show WL _ _ _ _ _ _ _; first | apply WL.nil | (refine WL.au (k := ?_)))
  | (show Z _ _ _ _ _; first | apply Z.then_normal | apply Z.then_exit | apply Z.block_exit)
  | (show W _ _ _ _ _ _; first | apply W.seq | apply W.region | apply W.block | apply W.exit)
  | fail)
 refine W.loop (σ := List Nat × Option Int × Option Addr × Nat × World) (fun s => PreOrd c.gates.2.2 s.1 ∧ ∃ lk t A, HpB wc s.2.2.2.2 gh F (rst wc.heap.size (some ⟨gl, 0, none⟩) k lk (some ⟨go, 0, none⟩) k rs rm (plcM c.gates.2.2 k) s.2.2.1 s.2.2.2.1 (natI s.1) lit rs) t A (fun x => pH s.1 lk x ∧ ∀ y, s.2.1 = some y → x ≠ y) ∧ StB c.gates.2.2 s.1 [] lk ∧ (∀ y, s.2.1 = some y → pH s.1 lk y ∧ ∀ x, pH s.1 lk x → y ≤ x) ∧ (s.2.1 = none → ∀ x, ¬ pH s.1 lk x)) (fun s => [(6, .slice (some ⟨gl, 0, none⟩) k k), (7, .slice (some ⟨go, 0, none⟩) k k), (8, .pointer (some ⟨gh, 0, none⟩)), (15, .slice s.2.2.1 (natI s.1).length s.2.2.2.1), (16, .int .i64 (s.2.1.getD 0)), (17, .bool s.2.1.isSome)]) (fun s => s.2.2.2.2) (fun s => c.gates.2.2.length + 1 - s.1.length) ([], nx, none, 0, w7) ⟨PreOrd.nil _, lk, t1, A1, hB8, hSB, hnx1, hnx2⟩ ⟨rfl, rfl, rfl, rfl, rfl, rfl, trivial⟩ rfl ?_
 clear hB7 hB8 hSB hnx1 hnx2 hB6 hI6 hX6 hll6
 rintro ⟨L, nx, ou, cu, w8⟩ ⟨hP, lk, t, A, hB8, hSB, hn1, hn2⟩
 dsimp only at hP hB8 hSB hn1 hn2 ⊢
 have hX8 := hB8.ext
 have hLle := hP.le
 cases nx with
 | none =>
  repeat' (first
   | (show WL _ _ _ _ _ _ _; first | apply WL.nil | (refine WL.au (k := ?_)))
   | (show Z _ _ _ _ _; apply Z.then_normal)
   | (show W _ _ _ _ _ _; first | apply W.seq | apply W.region)
   | fail)
  refine W.condKF rfl rfl ?_
  repeat' (first
   | (show WL _ _ _ _ _ _ _; first | apply WL.nil | (refine WL.au (k := ?_)))
   | (show Z _ _ _ _ _; first | apply Z.then_normal | apply Z.then_exit | apply Z.block_exit)
   | (show W _ _ _ _ _ _; first | apply W.seq | apply W.region | apply W.ret | apply W.exit)
   | fail)
  obtain ⟨hX9, ⟨hat, hze, as_, cs, tr, ct, ap, cp, hS⟩, hO9, hm9⟩ := hB8
  have hOut := hS.row (i := 7) rfl
  have hLo : L = ordL c.gates.2.2 := IsOrd.ord ⟨hP, fun q hq => hn2 rfl (q : Int) ((hSB.rdy _).2 ⟨q, rfl, hq⟩)⟩
  exact Z.body1 Tryz.results111 rfl fun m => ⟨hxc.trans (Ext.at hX8 m), ou, cu, by rw [← hLo], by rw [← hLo]; exact (hOut.base hwc).ext ((Ext.refl _).at m)⟩
 | some ya =>
  obtain ⟨i, rfl, hle⟩ := start L lk ya hSB (hn1 ya rfl).1 (hn1 ya rfl).2
  obtain ⟨y, hy, hiL, hself⟩ := hle.1
  have hself := rdy_self hle.1 hy
  have hik := lt_of_get hy
  obtain ⟨r, hr, hrv⟩ := hrows i y hy
  repeat' (first
   | (show WL _ _ _ _ _ _ _; first | apply WL.nil | (refine WL.au (k := ?_)))
   | (show Z _ _ _ _ _; apply Z.then_normal)
   | (show W _ _ _ _ _ _; first | apply W.seq | apply W.region)
   | fail)
  refine W.condKT rfl rfl ?_
  refine W.sub [(6, .slice (some ⟨gl, 0, none⟩) k k), (7, .slice (some ⟨go, 0, none⟩) k k), (8, .pointer (some ⟨gh, 0, none⟩)), (15, .slice ou (natI L).length cu), (16, .int .i64 ((i : Nat) : Int))] ⟨rfl, rfl, rfl, rfl, rfl, trivial⟩ ?_
  obtain ⟨hX9, ⟨hat, hze, as_, cs, tr, ct, ap, cp, hS⟩, hO9, hm9⟩ := hB8
  have hOut := hS.row (i := 7) rfl
  have hnl : (natI L).length = L.length := List.length_map _
  repeat' (first
   | (apply WL.lit tOk; (iterate 6 exact rfl); (kernel_rfl); exact rfl; intro gb w' hb hge hc hx)
   | (apply WL.append1 (z := (((i : Nat) : Int))) tOk encI_ok; (iterate 10 exact rfl); assumption; (exact extA); (exact rfl); (assumption); exact rfl; exact rfl; (exact extA); (omega); intro a' cap' w' hO hX' hU hF)
   | (show WL _ _ _ _ _ _ _; first | apply WL.nil | (refine WL.au (k := ?_)))
   | (show Z _ _ _ _ _; apply Z.then_normal)
   | (show W _ _ _ _ _ _; first | apply W.seq | apply W.region | apply W.block | apply W.skip)
   | fail)
  obtain ⟨w9, rfl⟩ : ∃ x, x = w' := ⟨_, rfl⟩; obtain ⟨ou2, rfl⟩ : ∃ x, x = a' := ⟨_, rfl⟩; obtain ⟨cu2, rfl⟩ : ∃ x, x = cap' := ⟨_, rfl⟩
  have hnat : natI L ++ [((i : Nat) : Int)] = natI (L ++ [i]) := by simp [natI]
  have hS1 : Lt.Sep wc.heap.size w9 (hpP wc.heap.size gh as_ cs F tr ct t.length t ap cp A ++ rst wc.heap.size (some ⟨gl, 0, none⟩) k lk (some ⟨go, 0, none⟩) k rs rm (plcM c.gates.2.2 k) ou2 cu2 (natI (L ++ [i])) lit rs) := by
   rw [← hnat]; exact Sep.updRow (i := 7) rfl hU hO hF hS extA (Below.size extA)
  have hX9' : Ext wc w9 := extA
  have hOu := hS1.row (i := 5) rfl
  have hRk : rs[((i : Nat) : Int).toNat]? = some r := by rw [Int.toNat_natCast]; exact hr
  rw [hnat]
  have hrl6' : rs.length = k := by omega
  repeat' (first
   | (apply WL.indexO tOk; (iterate 8 exact rfl); assumption; (exact extA); exact encRow_ok; ((focus (simp [*]; done))); omega; assumption; intro gb ha hc; cases ha; have hcc := hc; first | (obtain ⟨h1, h2, h3, _⟩ := hc) | (obtain ⟨h1, h2, _⟩ := hc) | (obtain ⟨h1, _⟩ := hc))
   | (show WL _ _ _ _ _ _ _; first | apply WL.nil | (refine WL.au (k := ?_)))
   | (show Z _ _ _ _ _; apply Z.then_normal)
   | (show W _ _ _ _ _ _; apply W.block)
   | fail)
  have hYl : r.2.2.length ≤ 2 * k := by rw [hrv, hnn]; exact abv_len _ _ _
  have hm9' : ∀ x, x ∈ t ↔ pH (L ++ [i]) lk x := fun x => ((hm9 x).trans ⟨fun ⟨h1, h2⟩ => ⟨h1, h2 _ rfl⟩, fun ⟨h1, h2⟩ => ⟨h1, fun y hy => by cases hy; exact h2⟩⟩).trans (pH_out x)
  refine W.loopW r.2.2.length (fun m w' => m ≤ r.2.2.length ∧ ∃ lk t A, HpB wc w' gh F (rst wc.heap.size (some ⟨gl, 0, none⟩) k lk (some ⟨go, 0, none⟩) k rs rm (plcM c.gates.2.2 k) ou2 cu2 (natI (L ++ [i])) lit rs) t A (pH (L ++ [i]) lk) ∧ StB c.gates.2.2 L (r.2.2.take m) lk) (fun m => [(6, .slice (some ⟨gl, 0, none⟩) k k), (7, .slice (some ⟨go, 0, none⟩) k k), (8, .pointer (some ⟨gh, 0, none⟩)), (15, .slice ou2 (natI (L ++ [i])).length cu2), (117, .slice r.1 r.2.2.length r.2.1), (118, .int .i64 (r.2.2.length : Nat)), (119, .int .i64 m)]) ⟨Nat.zero_le _, lk, t, A, ⟨hX9', ⟨hat, hze, as_, cs, tr, ct, ap, cp, hS1⟩, hO9, hm9'⟩, by rw [List.take_zero]; exact hSB⟩ (fun m w' h => h.1) ⟨rfl, rfl, rfl, rfl, rfl, rfl, rfl, trivial⟩ ?_
  have hPi := hP.push hle
  clear hSB hS hS1 hO9 hm9 hm9' hat hze hOut hOu hO hX9 hX9' hn1 hn2
  rintro m w10 ⟨hm, lk, t, A, hB10, hSB⟩
  have hX10 := hB10.ext
  by_cases hml : m < r.2.2.length
  ·obtain ⟨z, hgz⟩ := getI r.2.2 hml
   have hgz' := hgz
   rw [hrv] at hgz'
   obtain ⟨kk, g, rfl, hkk, hg, hh⟩ := abv_mem (List.mem_of_getElem? hgz')
   rw [hrv] at hSB
   obtain ⟨v, hv, hv1, hv2, hSB2⟩ := hSB.step ho hy hiL hg hgz'
   rw [← hrv] at hSB2
   have hkL : kk ∉ L ++ [i] := fun hm2 => by
    rcases List.mem_append.1 hm2 with h | h
    ·exact not_told hP hy hg hh hiL h
    ·obtain rfl := List.mem_singleton.1 h
     rw [hy] at hg; cases hg; omega
   have hB10' := hB10
   obtain ⟨_, ⟨hat, hze, as_, cs, tr, ct, ap, cp, hS⟩, hO9, hm9⟩ := hB10'
   have RL := (hS.row (rst_in hr _ rfl)).row encI_ok
   have hLo := hS.row (i := 4) rfl
   have hlk3 := hSB.llen
   have hLn : lk.length = k := by omega
   have hvk : lk[((kk : Nat) : Int).toNat]? = some v := by rw [Int.toNat_natCast]; exact hv
   have hvs : (lk.set ((kk : Nat) : Int).toNat (v - 1))[((kk : Nat) : Int).toNat]? = some (v - 1) := List.getElem?_set_self (by rw [Int.toNat_natCast]; omega)
   repeat' (first
    | (show WL _ _ _ _ _ _ _; first | apply WL.nil | (refine WL.au (k := ?_)))
    | (show Z _ _ _ _ _; apply Z.then_normal)
    | (show W _ _ _ _ _ _; first | apply W.seq | apply W.region)
    | fail)
   refine W.condKT rfl (dec_true (by omega)) ?_
   repeat' (first
    | (apply WL.indexO tOk; (iterate 8 exact rfl); assumption; (exact extA); exact encI_ok; ((focus (simp [*]; done))); omega; assumption; intro gb ha hc; cases ha; have hcc := hc; first | (obtain ⟨h1, h2, h3, _⟩ := hc) | (obtain ⟨h1, h2, _⟩ := hc) | (obtain ⟨h1, _⟩ := hc))
    | (apply WL.storeO (z' := (v - 1)) tOk; (iterate 4 exact rfl); assumption; (exact extA); (iterate 3 exact rfl); exact encI_ok; assumption; exact rfl; (exact extA); intro w' hO hX' hU)
    | (show WL _ _ _ _ _ _ _; first | apply WL.nil | (refine WL.au (k := ?_)) | (apply WL.index tOk; (iterate 8 exact rfl); assumption; (exact extA); exact rfl; omega; assumption; intro b off h; have hcc := h; first | (obtain ⟨h1, h2, h3, h4, h5, h6, _⟩ := h) | (obtain ⟨h1, h2, h3, _⟩ := h) | (obtain ⟨h1, h2, _⟩ := h) | (obtain ⟨h1, _⟩ := h)))
    | (show Z _ _ _ _ _; apply Z.then_normal)
    | (show W _ _ _ _ _ _; first | apply W.seq | apply W.region | apply W.block | apply W.skip)
    | fail)
   obtain ⟨w11, rfl⟩ : ∃ x, x = w' := ⟨_, rfl⟩
   have hS2 : Lt.Sep wc.heap.size w11 (hpP wc.heap.size gh as_ cs F tr ct t.length t ap cp A ++ rst wc.heap.size (some ⟨gl, 0, none⟩) k (lk.set ((kk : Nat) : Int).toNat (v - 1)) (some ⟨go, 0, none⟩) k rs rm (plcM c.gates.2.2 k) ou2 cu2 (natI (L ++ [i])) lit rs) := Sep.updRow (i := 4) rfl hU hO (.inl rfl) hS (Ext.refl _) (Below.size hX10)
   rw [Int.toNat_natCast] at hS2
   by_cases hv0 : v - 1 = 0
   ·refine W.condKT rfl (dec_true hv0) ?_
    repeat' (first
     | (((show WL _ _ _ (⟨_, .call ⟨.value (.func 154), _, _⟩, _, _, _, _⟩ :: _) _ _ _); apply WL.call; (iterate 4 exact rfl); exact heap_Push w11 wc gh F t A _ (pH (L ++ [i]) lk) ⟨hX', ⟨hat, hze, as_, cs, tr, ct, ap, cp, hS2⟩, hO9, hm9⟩ (by omega) kk (by omega) (pH_no hv hv1); rintro v' w12 ⟨rfl, t2, A2, hB12⟩))
     | (show WL _ _ _ _ _ _ _; first | apply WL.nil | (refine WL.au (k := ?_)))
     | (show Z _ _ _ _ _; first | apply Z.then_normal | apply Z.block_normal)
     | (show W _ _ _ _ _ _; apply W.region)
     | fail)
    exact Z.againW ⟨by omega, _, t2, A2, hB12.mono (fun x => pH_zero hv hv1 hv0 hkL x), hSB2⟩ ⟨rfl, rfl, rfl, rfl, rfl, rfl, rfl, trivial⟩
   ·refine W.condKF rfl (dec_false hv0) ?_
    repeat' (first
     | (show WL _ _ _ _ _ _ _; first | apply WL.nil | (refine WL.au (k := ?_)))
     | (show Z _ _ _ _ _; first | apply Z.then_normal | apply Z.block_normal)
     | (show W _ _ _ _ _ _; first | apply W.region | apply W.skip)
     | fail)
    exact Z.againW ⟨by omega, _, t, A, ⟨hX', ⟨hat, hze, as_, cs, tr, ct, ap, cp, hS2⟩, hO9, fun x => (hm9 x).trans (pH_dec hv hv1 hv0 x)⟩, hSB2⟩ ⟨rfl, rfl, rfl, rfl, rfl, rfl, rfl, trivial⟩
  obtain rfl : m = r.2.2.length := by omega
  rw [List.take_length, hrv] at hSB
  have hSB2 := hSB.next ho hy hiL
  repeat' (first
   | (show WL _ _ _ _ _ _ _; first | apply WL.nil | (refine WL.au (k := ?_)))
   | (show Z _ _ _ _ _; apply Z.then_normal)
   | (show W _ _ _ _ _ _; first | apply W.seq | apply W.region)
   | fail)
  refine W.condKF rfl (dec_false (by omega)) ?_
  repeat' (first
   | (((show WL _ _ _ (⟨_, .call ⟨.value (.func 155), _, _⟩, _, _, _, _⟩ :: _) _ _ _); apply WL.call; (iterate 4 exact rfl); exact heap_PopO w10 wc gh F t A _ (pH (L ++ [i]) lk) hB10 (by omega); rintro v' w11 ⟨nx, rfl, hnx1, hnx2, t1, A1, hB11⟩))
   | (show WL _ _ _ _ _ _ _; first | apply WL.nil | (refine WL.au (k := ?_)))
   | (show Z _ _ _ _ _; first | apply Z.then_normal | apply Z.block_normal | apply Z.then_exit | apply Z.block_exit)
   | (show W _ _ _ _ _ _; first | apply W.region | apply W.exit)
   | fail)
  exact Z.again (L ++ [i], nx, ou2, cu2, w11) ⟨hPi, lk, t1, A1, hB11, hSB2, hnx1, hnx2⟩ (by have := hPi.le; simp only [List.length_append, List.length_singleton] at this ⊢; omega) ⟨rfl, rfl, rfl, rfl, rfl, rfl, trivial⟩ rfl
end Go.Proofs.YteidpnpbfagaeaaGreat
