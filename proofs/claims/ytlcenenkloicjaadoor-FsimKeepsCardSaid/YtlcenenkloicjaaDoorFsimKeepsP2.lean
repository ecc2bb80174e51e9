/- Part 2 of what the claim FsimKeeps needs: lemmas and contracts, printed from longer texts. No conditions. -/
import Derived.Test.YtlcenenkloicjaaDoorRows
import Derived.Lib.SmallJoins
import Derived.KernelRfl
import Derived.Test.YtlcenenkloicjaaDoorTie
import Derived.Test.YtlcenenkloicjaaDoorCards
import Derived.WalkKit
import Derived.ProofKit
import Derived.Deep.Quiet
import Derived.Deep.LoopGhost
import Derived.StillTail
import Derived.Test.YtlcenenkloicjaaDoorProg
import Derived.OpenShut
import Derived.ShutString
import Derived.ChangeOld
import Derived.Deep.Slices
import Derived.SizedLaws
import Derived.Laws.StructEq
import Derived.Laws.Externs
import Derived.MapKept
import Derived.Lib.LaidTab
import Derived.LaidMore
import Derived.LaidOnce
import Derived.SevenTiedAt
import Derived.MakeChecks
import Derived.Test.YtlcenenkloicjaaDoorFsimKeepsP1
namespace Go.Lt
open Go.RowKit
set_option linter.unusedVariables false

theorem Own.keep {α : Type} {s : Nat} {enc : α → List Value} {el B : Nat} {w w' : World} {a : Option Addr} {cap : Nat} {l : List α} (h : Own s enc el B w a cap l) (hb : ∀ k, blk a = some k → w'.heap[k]? = w.heap[k]?) : Own s enc el B w' a cap l := by
  refine ⟨h.1, ?_⟩
  rcases h.2 with ⟨h1, h2⟩ | ⟨g', c', cur, h1, h2, h3, h4, h5, h6, h7⟩
  · exact .inl ⟨h1, h2⟩
  · have ha : blk a = some g' := by
      simp only [Value.slice.injEq] at h1
      rw [h1.1]; rfl
    exact .inr ⟨g', c', cur, h1, h2, by rw [hb g' ha]; exact h3, h4, h5, h6, h7⟩

structure Piece where
  b : Option Nat
  P : World → Prop
  keep : ∀ {w w' : World}, P w → (∀ k, b = some k → w'.heap[k]? = w.heap[k]?) → P w'

def prow {α : Type} (s : Nat) (enc : α → List Value) (el B : Nat) (a : Option Addr) (cap : Nat) (l : List α) : Piece := ⟨blk a, fun w => Own s enc el B w a cap l, fun h hb => h.keep hb⟩
def pcell (gb : Nat) (cs : Array Value) (t : Nat) : Piece := ⟨some gb, fun w => w.heap[gb]? = some (.cells cs t (0, 0)), fun h hb => by rw [hb gb rfl]; exact h⟩

structure Sep (B : Nat) (w : World) (ps : List Piece) : Prop where
  holds : ∀ (i : Nat) (p : Piece), ps[i]? = some p → p.P w ∧ ∀ k, p.b = some k → B ≤ k ∧ k < w.heap.size
  apart : ∀ (i j : Nat) (p q : Piece), ps[i]? = some p → ps[j]? = some q → i ≠ j → p.b = none ∨ p.b ≠ q.b

section
variable {B : Nat} {w w' : World} {ps : List Piece} {α : Type} {s : Nat} {enc : α → List Value} {el cap : Nat} {a : Option Addr} {l : List α}
theorem Sep.none' : Sep B w [] := ⟨fun i p h => by simp at h, fun i j p q h => by simp at h⟩
theorem Sep.row {i : Nat} (hS : Sep B w ps) (h : ps[i]? = some (prow s enc el B a cap l)) : Own s enc el B w a cap l := (hS.holds i _ h).1
theorem Sep.cell {i gb : Nat} {cs : Array Value} {t : Nat} (hS : Sep B w ps) (h : ps[i]? = some (pcell gb cs t)) : w.heap[gb]? = some (.cells cs t (0, 0)) := (hS.holds i _ h).1
theorem Sep.lt {i : Nat} {p : Piece} {k : Nat} (hS : Sep B w ps) (h : ps[i]? = some p) (hk : p.b = some k) : B ≤ k ∧ k < w.heap.size := (hS.holds i _ h).2 k hk
theorem Sep.ext (hS : Sep B w ps) (hx : Ext w w') : Sep B w' ps :=
  ⟨fun i p h => ⟨p.keep (hS.holds i p h).1 (fun k hk => hx.block k ((hS.holds i p h).2 k hk).2), fun k hk => ⟨((hS.holds i p h).2 k hk).1, Nat.lt_of_lt_of_le ((hS.holds i p h).2 k hk).2 hx.size⟩⟩, hS.apart⟩
/-- A new piece. -/
theorem Sep.new {p : Piece} (hS : Sep B w ps) (hx : Ext w w') (hp : p.P w') (hb : ∀ k, p.b = some k → w.heap.size ≤ k ∧ k < w'.heap.size) (hB : B ≤ w.heap.size) : Sep B w' (p :: ps) := by
  have hS' := hS.ext hx
  refine ⟨fun i q h => ?_, fun i j q r h1 h2 hne => ?_⟩
  · cases i with
    | zero => cases h; exact ⟨hp, fun k hk => ⟨Nat.le_trans hB (hb k hk).1, (hb k hk).2⟩⟩
    | succ i => exact hS'.holds i q h
  · cases i with
    | zero =>
      cases h1
      cases j with
      | zero => exact absurd rfl hne
      | succ j =>
        cases hpb : p.b with
        | none => exact .inl rfl
        | some k =>
          refine .inr fun he => ?_
          have h3 := ((hS.holds j r h2).2 k he.symm).2
          have h4 := (hb k hpb).1
          omega
    | succ i =>
      cases j with
      | zero =>
        cases h2
        cases hqb : q.b with
        | none => exact .inl rfl
        | some k =>
          refine .inr fun he => ?_
          have h3 := ((hS.holds i q h1).2 k hqb).2
          have h4 := (hb k he.symm).1
          omega
      | succ j => exact hS.apart i j q r h1 h2 (by omega)
theorem Sep.newRow (hS : Sep B w ps) (hx : Ext w w') (hO : Own s enc el B w' a cap l) (hb : ∀ k, blk a = some k → w.heap.size ≤ k) (hB : B ≤ w.heap.size) : Sep B w' (prow s enc el B a cap l :: ps) :=
  hS.new hx hO (fun k hk => ⟨hb k hk, (hO.blk_lt k hk).2⟩) hB
theorem Sep.newRow' (hS : Sep B w ps) (hx : Ext w w') (hO : Own s enc el w.heap.size w' a cap l) (hB : B ≤ w.heap.size) : Sep B w' (prow s enc el B a cap l :: ps) :=
  hS.newRow hx (hO.base hB) (fun k hk => (hO.blk_lt k hk).1) hB
theorem Sep.newCell {gb : Nat} {cs : Array Value} {t : Nat} (hS : Sep B w ps) (hx : Ext w w') (h : w'.heap[gb]? = some (.cells cs t (0, 0))) (hge : w.heap.size ≤ gb) (hB : B ≤ w.heap.size) : Sep B w' (pcell gb cs t :: ps) :=
  hS.new hx h (fun k hk => by cases hk; exact ⟨hge, heap_lt h⟩) hB
/-- One piece is written anew. -/
theorem Sep.upd {i : Nat} {p p' : Piece} (hS : Sep B w ps) (hi : ps[i]? = some p) (hU : w.grownBy w' p.b) (hp : p'.P w') (hF : p'.b = p.b ∨ ∃ k, p'.b = some k ∧ w.heap.size ≤ k ∧ k < w'.heap.size) (hB : B ≤ w.heap.size) : Sep B w' (ps.set i p') := by
  have hlt := lt_of_get hi
  have hset : ∀ (j : Nat) (q : Piece), (ps.set i p')[j]? = some q → (j = i ∧ q = p') ∨ (j ≠ i ∧ ps[j]? = some q) := fun j q hq => by
    rw [List.getElem?_set] at hq
    by_cases hj : i = j
    · subst hj
      rw [if_pos rfl, if_pos hlt] at hq
      exact .inl ⟨rfl, (Option.some.inj hq).symm⟩
    · rw [if_neg hj] at hq
      exact .inr ⟨fun h => hj h.symm, hq⟩
  have hnew : ∀ (j : Nat) (q : Piece), ps[j]? = some q → j ≠ i → (q.b = none ∨ q.b ≠ p'.b) ∧ (p'.b = none ∨ p'.b ≠ q.b) := fun j q hq hj => by
    rcases hF with hF | ⟨k, hk, hle, _⟩
    · rw [hF]; exact ⟨hS.apart j i q p hq hi hj, hS.apart i j p q hi hq (fun h => hj h.symm)⟩
    · have hne : q.b ≠ p'.b := fun he => by
        rw [hk] at he
        have := ((hS.holds j q hq).2 k he).2
        omega
      exact ⟨.inr hne, .inr (fun h => hne h.symm)⟩
  refine ⟨fun j q hq => ?_, fun j1 j2 q1 q2 h1 h2 hne => ?_⟩
  · rcases hset j q hq with ⟨rfl, rfl⟩ | ⟨hj, hq⟩
    · refine ⟨hp, fun k hk => ?_⟩
      rcases hF with hF | ⟨k', hk', hle, hlt'⟩
      · have := (hS.holds _ p hi).2 k (by rw [← hF]; exact hk)
        exact ⟨this.1, Nat.lt_of_lt_of_le this.2 hU.size⟩
      · rw [hk'] at hk; cases hk; exact ⟨Nat.le_trans hB hle, hlt'⟩
    · refine ⟨q.keep (hS.holds j q hq).1 (fun k hk => hU.block k ((hS.holds j q hq).2 k hk).2 (fun he => ?_)), fun k hk => ⟨((hS.holds j q hq).2 k hk).1, Nat.lt_of_lt_of_le ((hS.holds j q hq).2 k hk).2 hU.size⟩⟩
      rcases hS.apart j i q p hq hi hj with h3 | h3
      · rw [h3] at hk; cases hk
      · exact h3 (by rw [hk]; exact he)
  · rcases hset j1 q1 h1 with ⟨rfl, rfl⟩ | ⟨hj1, hq1⟩
    · rcases hset j2 q2 h2 with ⟨rfl, rfl⟩ | ⟨hj2, hq2⟩
      · exact absurd rfl hne
      · exact (hnew j2 q2 hq2 hj2).2
    · rcases hset j2 q2 h2 with ⟨rfl, rfl⟩ | ⟨hj2, hq2⟩
      · exact (hnew j1 q1 hq1 hj1).1
      · exact hS.apart j1 j2 q1 q2 hq1 hq2 hne
theorem Sep.updRow {i : Nat} {a' : Option Addr} {cap' : Nat} {l' : List α} {w1 : World} (hi : ps[i]? = some (prow s enc el B a cap l)) (hU : Upd B a w w') (hO : Own s enc el B w' a' cap' l') (hF : blk a' = blk a ∨ ∃ k, blk a' = some k ∧ w.heap.size ≤ k) (hS : Sep B w1 ps) (hx : Ext w1 w) (hB : B ≤ w.heap.size) :
    Sep B w' (ps.set i (prow s enc el B a' cap' l')) :=
  (hS.ext hx).upd hi hU.grown hO (hF.imp id fun ⟨k, hk, hle⟩ => ⟨k, hk, hle, (hO.blk_lt k hk).2⟩) hB
theorem Sep.updCell {i gb : Nat} {cs cs' : Array Value} {t t' B' : Nat} {w1 : World} (hi : ps[i]? = some (pcell gb cs t)) (hU : Upd B' (some ⟨gb, 0, none⟩) w w') (h : w'.heap[gb]? = some (.cells cs' t' (0, 0))) (hS : Sep B w1 ps) (hx : Ext w1 w) (hB : B ≤ w.heap.size) :
    Sep B w' (ps.set i (pcell gb cs' t')) :=
  (hS.ext hx).upd hi hU.grown h (.inl rfl) hB
theorem Sep.drop (hS : Sep B w ps) (n : Nat) : Sep B w (ps.drop n) :=
  ⟨fun i p h => hS.holds (n + i) p (by rw [List.getElem?_drop] at h; exact h), fun i j p q h1 h2 hne => hS.apart (n + i) (n + j) p q (by rw [List.getElem?_drop] at h1; exact h1) (by rw [List.getElem?_drop] at h2; exact h2) (by omega)⟩
end
end Go.Lt
namespace Go.Lt
open Go.RowKit
set_option linter.unusedVariables false
set_option linter.unusedSimpArgs false

/-- The map at r holds these, in the order in which they came. -/
def MapIs {κ ν : Type} (kv : κ → Value) (vv : ν → Value) (w : World) (r : Nat) (L : List (κ × ν)) : Prop :=
  ∃ es clock, w.heap[r]? = some (.map es clock) ∧ es.toList.map (fun e => (e.key, e.val)) = L.map (fun x => (kv x.1, vv x.2))
theorem MapIs.keep {κ ν : Type} {kv : κ → Value} {vv : ν → Value} {w w' : World} {r : Nat} {L : List (κ × ν)} (h : MapIs kv vv w r L) (hr : w'.heap[r]? = w.heap[r]?) : MapIs kv vv w' r L := by
  obtain ⟨es, clock, h1, h2⟩ := h
  exact ⟨es, clock, by rw [hr]; exact h1, h2⟩
theorem MapIs.lt {κ ν : Type} {kv : κ → Value} {vv : ν → Value} {w : World} {r : Nat} {L : List (κ × ν)} (h : MapIs kv vv w r L) : r < w.heap.size := by
  obtain ⟨es, clock, h1, _⟩ := h; exact heap_lt h1
theorem MapIs.ext {κ ν : Type} {kv : κ → Value} {vv : ν → Value} {w w' : World} {r : Nat} {L : List (κ × ν)} (h : MapIs kv vv w r L) (hx : Ext w w') : MapIs kv vv w' r L := h.keep (hx.block r h.lt)
def pmap {κ ν : Type} (kv : κ → Value) (vv : ν → Value) (r : Nat) (L : List (κ × ν)) : Piece := ⟨some r, fun w => MapIs kv vv w r L, fun h hb => h.keep (hb r rfl)⟩

section
variable {P : Program} {κ ν : Type} {kt : TypeId} {kv : κ → Value} {vv : ν → Value}
end

section
variable {P : Program} {T : Tab}
end

section rules
variable {P : Program} {N : Nat} {e : Env} {w : World} {Q : Exit → Act → World → Prop} {ops : List Oper} {l : List Oper} {T : Tab} {C : World → Prop} {Kf : Act → Prop}
  {d : Nat} {tt t : TypeId} {ps : String} {af : Array Edge} {g : Option (Nat × Bool)} {x y z : Operand} {ti ei : TI} {κ ν : Type} {kt et : TypeId} {kv : κ → Value} {vv : ν → Value} {L : List (κ × ν)} {a : κ} {v : ν} {r : Nat}

end rules
end Go.Lt
namespace Go.Lt
open Go.RowKit
set_option linter.unusedVariables false
set_option linter.unusedSimpArgs false

section
variable {P : Program} {T : Tab} {e : Env} {dd : Option Tmp} {tt ty t el : TypeId} {x y : Operand} {ps : String} {af : Array Edge} {g : Option (Nat × Bool)} {i : TI} {p : Option Addr} {a : Addr}
end

section rules
variable {P : Program} {N : Nat} {e : Env} {w : World} {Q : Exit → Act → World → Prop} {ops : List Oper} {l : List Oper} {T : Tab} {C : World → Prop} {Kf : Act → Prop}
  {d : Nat} {tt ty t el : TypeId} {ps : String} {af : Array Edge} {g : Option (Nat × Bool)} {x y : Operand} {i : TI} {p : Option Addr} {a : Addr}
/-- A store of a plain value into a field of a variable of one's own. -/
theorem WL.storeF {gb off : Nat} {v : Value} {cur : List Value} {et : TypeId} {w0 wo : World} (hT : OkTab P T) (hg : gate ops e g = some true)
    (hx : ev e x = some (.pointer (some ⟨gb, off, none⟩))) (hy : ev e y = some v) (ht : tget T t = some i)
    (hb : wo.heap[gb]? = some (.cells cur.toArray et (0, 0))) (hwo : Ext wo w) (hs : v.cells = #[v]) (hs1 : i.size = 1) (hoff : Nat.blt off cur.length = true) (h1 : v.oneCell' = true) (hX : Ext w0 w) (hB : w0.heap.size ≤ gb)
    (k : ∀ w', w'.heap[gb]? = some (.cells (cur.set off v).toArray et (0, 0)) → Ext w0 w' → Upd gb (some ⟨gb, 0, none⟩) w w' → WL P N ops.toArray l e w' Q) :
    WL P N ops.toArray (⟨none, .store t x y, tt, ps, af, g⟩ :: l) e w Q := by
  have hof : off < cur.length := by simpa [Nat.blt_eq] using hoff
  have hbw : w.heap[gb]? = some (.cells cur.toArray et (0, 0)) := by rw [hwo.block gb (Array.getElem?_eq_some_iff.1 hb).1]; exact hb
  have hcur : (cur.toArray.toList.take off ++ v.cells.toList ++ cur.toArray.toList.drop (off + v.cells.size)).toArray = (cur.set off v).toArray := by
    rw [hs]
    simp only [List.size_toArray, List.length_cons, List.length_nil]
    rw [List.set_eq_take_append_cons_drop, if_pos hof]
    simp
  refine WL.effN (w' := fun m => (at' w m).setRow gb (cur.set off v).toArray) hg ?_ (fun m => ?_)
  · intro ρ hρ m
    have hr := run_storeVar' (hT.at ht) gb off et cur.toArray (at' w m) v hbw (by rw [hs, hs1]; rfl) (by rw [hs]; simp; omega) (fun u hu => by rw [hs] at hu; simp at hu; subst hu; exact h1)
    rw [hcur] at hr
    simp [execOp, hρ _ _ hx, hρ _ _ hy, Instr.storeAt, Instr.sureAddr, hr]
  · have hU : Upd gb (some ⟨gb, 0, none⟩) w ((at' w m).setRow gb (cur.set off v).toArray) :=
      ⟨⟨rfl, rfl, rfl, by simp [World.setRow], fun k hk hne => setRow_other (at' w m) gb k _ (fun hh => hne (by rw [hh]; rfl))⟩, fun k hk => by simp only [blk, Option.map_some, Option.some.injEq] at hk; omega⟩
    exact k _ (setRow_heap (at' w m) gb cur.toArray _ et _ hbw) (hU.ext hX hB) hU
end rules
theorem Sep.map {B : Nat} {w : World} {ps : List Piece} {i r : Nat} {κ ν : Type} {kv : κ → Value} {vv : ν → Value} {L : List (κ × ν)} (hS : Sep B w ps) (h : ps[i]? = some (pmap kv vv r L)) : MapIs kv vv w r L := (hS.holds i _ h).1
end Go.Lt
namespace Go.Lt
open Go.RowKit
set_option linter.unusedVariables false
set_option linter.unusedSimpArgs false

inductive Strat where
  | done : Strat
  | fl : Bool → Nat → Strat → Strat
  | br : Nat → Strat → Strat → Strat
  | stop : Strat

def heads : Strat → List Nat
  | .br i _ more => i :: heads more
  | _ => []
def slen : Strat → Nat
  | .done => 0
  | .fl _ _ k => slen k + 1
  | .br _ k _ => slen k + 1
  | .stop => 0
def isStop : Strat → Bool
  | .stop => true
  | _ => false

def stratB (ops : Array Oper) (early : Nat → Bool) : Bool → Strat → Array Bool → Bool
  | top, .done, L => top && Region.ready .any ops L == []
  | top, .fl b i k, L => top && (Region.ready .any ops L).contains i && (match ops[i]? with
      | some oi => (List.range ops.size).all (fun j => j == i || L.getD j true || waits ops j i || (match ops[j]? with | some oj => oi.apart ops oj && (b || early j) | none => false))
      | none => false) && stratB ops early true k (L.setIfInBounds i true)
  | top, .br i k more, L => (!top || Region.ready .any ops L == i :: heads more) && (isStop more || Nat.beq (slen more) (slen k + 1)) && stratB ops early true k (L.setIfInBounds i true) && stratB ops early false more L
  | top, .stop, _ => !top

section tree
variable {P : Program} {ops : Array Oper} {C : World → Prop} {early : Nat → Bool} {K : Act → World → Prop}

def wpT (P : Program) (ops : Array Oper) (C : World → Prop) (early : Nat → Bool) (K : Act → World → Prop) : Nat → Array Bool → Act → World → Prop
  | 0, listed, a, w => Region.ready .any ops listed = [] ∧ ∀ m, K a (at' w m)
  | n + 1, listed, a, w => Region.ready .any ops listed ≠ [] ∧ ∀ m, ∀ i ∈ Region.ready .any ops listed,
      wpOp P ops (onlyN K) i (fun a' w' => ((∀ m, C (at' w m)) → early i = true → ∀ m, C (at' w' m)) ∧ wpT P ops C early K n (listed.setIfInBounds i true) a' w') a (at' w m)

theorem wpT_at : ∀ {n : Nat} {listed : Array Bool} {a : Act} {w : World} (m : Nat), wpT P ops C early K n listed a w → wpT P ops C early K n listed a (at' w m)
  | 0, _, _, _, _, h => ⟨h.1, fun m' => h.2 m'⟩
  | _ + 1, _, _, _, _, h => ⟨h.1, fun m' => h.2 m'⟩

theorem wpAny_of_T {Q : Exit → Act → World → Prop} (hQ : ∀ a w, K a w → Q .normal a w) : ∀ (fuel : Nat) (listed : Array Bool) (a : Act) (w : World), wpT P ops C early K fuel listed a w → wpAny P .any ops Q fuel listed a w
  | 0, _, _, w, h => ⟨h.1, hQ _ _ (h.2 w.drawn)⟩
  | fuel + 1, _, _, w, h => ⟨fun h0 => absurd h0 h.1, fun i hi => wpOp_mono' (fun a w hh => wpAny_of_T hQ fuel _ a w hh.2) (h.2 w.drawn i hi)⟩

/-- The step yields v, and leaves the world but for draws. -/
def StillAt (P : Program) (s : Sem Next) (w : World) (v : Value) : Prop :=
  s.run P w = .ok (.value v) w ∨ ∃ f args, s.run P w = .ok (.enter f args) w ∧ Calls P f args w (fun x w' => x = .returned v ∧ ∃ m, w' = at' w m)

def SYields (P : Program) (ops : Array Oper) (C : World → Prop) (o : Oper) (v : Value) (a : Act) : Prop :=
  (Region.wanted o (yielded ops a.tmps) = true ∧ ∀ w, C w → StillAt P (execOp a.eval o) w v) ∨ (Region.wanted o (yielded ops a.tmps) = false ∧ v = undef)

theorem SYields.wpOp {i : Nat} {o : Oper} {v : Value} {a : Act} {w : World} {Q : Exit → Act → World → Prop} {K' : Act → World → Prop} (hi : ops[i]? = some o) (hy : SYields P ops C o v a) (hC : C w) (h : ∀ m, K' (a.put o.dst v) (at' w m)) : wpOp P ops Q i K' a w := by
  unfold Go.wpOp
  simp only [hi]
  rcases hy with ⟨hw, hv⟩ | ⟨hw, rfl⟩
  · simp only [hw, if_true]
    refine .inl ?_
    unfold Oper.wp
    rcases hv w hC with hv | ⟨f, args, hv, hc⟩
    · rw [hv]; exact h w.drawn
    · rw [hv]
      refine Calls.mono hc ?_
      rintro x w' ⟨rfl, m, rfl⟩
      exact h m
  · simp only [hw, Bool.false_eq_true, if_false]; exact h w.drawn

theorem SYields.of_same {o : Oper} {v : Value} {a a' : Act} (hy : SYields P ops C o v a) (he : execOp a'.eval o = execOp a.eval o)
    (hw : Region.wanted o (yielded ops a'.tmps) = Region.wanted o (yielded ops a.tmps)) : SYields P ops C o v a' := by
  unfold SYields at *
  rw [he, hw]
  exact hy

theorem wpOp_putS {j : Nat} {oi oj : Oper} {v : Value} {C : World → Prop} (hj : ops[j]? = some oj) (hap : oi.apart ops oj = true)
    (hsi : ∀ cs b, oi.op ≠ .select cs b) (hsj : ∀ cs b, oj.op ≠ .select cs b) {K0 K1 : Act → World → Prop} {a : Act} {w : World}
    (hy : SYields P ops C oi v a) (h : wpOp P ops (onlyN K0) j K1 (a.put oi.dst v) w) :
    wpOp P ops (onlyN K0) j (fun a' w' => SYields P ops C oi v a' ∧ K1 (a'.put oi.dst v) w') a w := by
  obtain ⟨h1, h2, h3⟩ := Oper.apart_spec hap
  have keep : ∀ u, SYields P ops C oi v (a.put oj.dst u) := fun u => hy.of_same (execOp_put oi hsi a oj.dst u h3) (wanted_put oi a oj.dst u h3)
  have swap : ∀ u, (a.put oi.dst v).put oj.dst u = (a.put oj.dst u).put oi.dst v := fun u => Act.put_comm a v u h2
  have lets : ¬ LetsOut (onlyN K0) := fun ⟨_, _, hq⟩ => hq
  unfold Go.wpOp at *
  simp only [hj] at *
  rw [wanted_put oj a oi.dst v h1] at h
  split
  · rename_i hw
    simp only [hw, if_true] at h
    rcases h with h | ⟨_, hq⟩
    · refine .inl ?_
      unfold Oper.wp at h ⊢
      rw [execOp_put oj hsj a oi.dst v h1] at h
      revert h
      generalize (execOp a.eval oj).run P w = r
      intro h
      unfold Oper.upon at h ⊢
      split at h
      · exact ⟨keep _, by rw [← swap]; exact h⟩
      · exact ⟨keep _, by rw [← swap]; exact h⟩
      · rename_i d w'
        have e1 : ({ a with defers := d :: a.defers }.put oj.dst undef).put oi.dst v = { a.put oi.dst v with defers := d :: (a.put oi.dst v).defers }.put oj.dst undef := by
          rw [Act.put_comm _ undef v (fun q hq hh => h2 q hh hq)]
          cases oi.dst <;> rfl
        have e2 : SYields P ops C oi v ({ a with defers := d :: a.defers }.put oj.dst undef) := by
          refine (keep undef).of_same ?_ ?_
          · cases oj.dst <;> rfl
          · cases oj.dst <;> rfl
        exact ⟨e2, by rw [e1]; exact h⟩
      · refine Calls.mono h fun x w'' hx => ?_
        cases x with
        | returned u => exact ⟨keep _, by rw [← swap]; exact hx⟩
        | panicked c => exact hx.elim
        | outgrown => exact (lets hx).elim
      · exact Rows.mono h fun u w'' hx => ⟨keep _, by rw [← swap]; exact hx⟩
      · exact h.elim
      · exact h
    · exact (lets hq).elim
  · rename_i hw
    simp only [hw] at h
    exact ⟨keep _, by rw [← swap]; exact h⟩

theorem wpT_first {i : Nat} {oi : Oper} {v : Value} {b : Bool} (hi : ops[i]? = some oi) (hsel : ∀ (j : Nat) (o : Oper) cs b, ops[j]? = some o → o.op ≠ .select cs b) :
    ∀ (fuel : Nat) (listed : Array Bool) (a : Act) (w : World), (∀ m, b = true ∨ C (at' w m)) →
      (∀ j oj, ops[j]? = some oj → j ≠ i → listed.getD j true = false → (∀ e ∈ oj.after, Region.binds .any e = true → e.on ≠ i) → oi.apart ops oj = true ∧ (b = true ∨ early j = true)) →
      i ∈ Region.ready .any ops listed → SYields P ops (fun w => b = true ∨ C w) oi v a →
      wpT P ops C early K fuel (listed.setIfInBounds i true) (a.put oi.dst v) w → wpT P ops C early K (fuel + 1) listed a w := by
  intro fuel
  induction fuel with
  | zero =>
    intro listed a w hC _ hr hy H
    refine ⟨fun h => (by rw [h] at hr; cases hr), fun m j hj => ?_⟩
    by_cases hji : j = i
    · subst hji; exact hy.wpOp hi (hC m) fun m' => ⟨fun hc _ m2 => hc m2, wpT_at m' H⟩
    · have := ready_mono hj hji
      rw [H.1] at this
      cases this
  | succ fuel ih =>
    intro listed a w hC hfree hr hy H
    refine ⟨fun h => (by rw [h] at hr; cases hr), fun m j hj => ?_⟩
    by_cases hji : j = i
    · subst hji; exact hy.wpOp hi (hC m) fun m' => ⟨fun hc _ m2 => hc m2, wpT_at m' H⟩
    · have h1 := H.2 m j (ready_mono hj hji)
      obtain ⟨hjun, oj, hoj, hall⟩ := mem_ready.1 hj
      have hnot : ∀ e ∈ oj.after, Region.binds .any e = true → e.on ≠ i := fun e he hb heq => by
        have h1 := hall e he hb
        have h0 := (mem_ready.1 hr).1
        rw [heq] at h1
        rcases Nat.lt_or_ge i listed.size with h' | h'
        · simp [h'] at h0 h1; rw [h0] at h1; cases h1
        · simp [Array.getElem?_eq_none h'] at h1
      obtain ⟨hap, hea⟩ := hfree j oj hoj hji hjun hnot
      have h2 := wpOp_putS hoj hap (fun cs b => hsel i oi cs b hi) (fun cs b => hsel j oj cs b hoj) hy h1
      have hfree' : ∀ k ok, ops[k]? = some ok → k ≠ i → (listed.setIfInBounds j true).getD k true = false →
          (∀ e ∈ ok.after, Region.binds .any e = true → e.on ≠ i) → oi.apart ops ok = true ∧ (b = true ∨ early k = true) := fun k ok hk hki hun hno => by
        refine hfree k ok hk hki ?_ hno
        by_cases hjk : j = k
        · subst hjk; exact hjun
        · rw [getD_set_ne true hjk] at hun; exact hun
      refine wpOp_mono' (fun a' w' h3 => ⟨h3.2.1, ih (listed.setIfInBounds j true) a' w' ?_ hfree' (ready_mono hr (Ne.symm hji)) h3.1 ?_⟩) h2
      · intro m2
        rcases hea with hb | hea
        · exact .inl hb
        · by_cases hb : b = true
          · exact .inl hb
          · exact .inr (h3.2.1 (fun m3 => (hC m3).resolve_left hb) hea m2)
      · rw [Array.setIfInBounds_comm _ _ hji]
        exact h3.2.2

def wpS (P : Program) (ops : Array Oper) (C : World → Prop) (early : Nat → Bool) (K : Act → World → Prop) : Strat → Act → World → Prop
  | .done, a, w => ∀ m, K a (at' w m)
  | .fl b i k, a, w => ∃ o, ops[i]? = some o ∧ ∃ v, SYields P ops (fun w => b = true ∨ C w) o v a ∧ (∀ m, b = true ∨ C (at' w m)) ∧ wpS P ops C early K k (a.put o.dst v) w
  | .br i k more, a, w => (∃ o, ops[i]? = some o ∧ ∀ m, wpList P ops (onlyN fun a' w' => (early i = true → ∀ m, C (at' w' m)) ∧ wpS P ops C early K k a' w') [o] a (at' w m)) ∧ wpS P ops C early K more a w
  | .stop, _, _ => True

theorem wpS_at : ∀ {s : Strat} {a : Act} {w : World} (m : Nat), wpS P ops C early K s a w → wpS P ops C early K s a (at' w m)
  | .done, _, _, _, h => fun m' => h m'
  | .fl b i k, _, _, m, ⟨o, ho, v, h1, h2, h3⟩ => ⟨o, ho, v, h1, fun m' => h2 m', wpS_at m h3⟩
  | .br i k more, _, _, m, ⟨⟨o, ho, h1⟩, h2⟩ => ⟨⟨o, ho, fun m' => h1 m'⟩, wpS_at m h2⟩
  | .stop, _, _, _, _ => trivial

theorem strat_all (hsel : ∀ (j : Nat) (o : Oper) cs b, ops[j]? = some o → o.op ≠ .select cs b) : ∀ (s : Strat),
    (∀ (L : Array Bool) (a : Act) (w : World), stratB ops early true s L = true → wpS P ops C early K s a w → wpT P ops C early K (slen s) L a w) ∧
    (∀ (L : Array Bool) (a : Act) (w : World) (n : Nat), stratB ops early false s L = true → (isStop s = true ∨ slen s = n + 1) → wpS P ops C early K s a w → ∀ i ∈ heads s, ∀ m,
      wpOp P ops (onlyN K) i (fun a' w' => ((∀ m, C (at' w m)) → early i = true → ∀ m, C (at' w' m)) ∧ wpT P ops C early K n (L.setIfInBounds i true) a' w') a (at' w m))
  | .done => ⟨fun L a w hB h => ⟨by simpa [stratB] using hB, h⟩, fun L a w n hB => by simp [stratB] at hB⟩
  | .stop => ⟨fun L a w hB => by simp [stratB] at hB, fun L a w n hB hn h i hi => by simp [heads] at hi⟩
  | .fl b i k => by
    refine ⟨fun L a w hB h => ?_, fun L a w n hB => by simp [stratB] at hB⟩
    obtain ⟨o, ho, v, h1, h2, h3⟩ := h
    simp only [stratB, ho, Bool.true_and, Bool.and_eq_true] at hB
    obtain ⟨⟨hB1, hB2⟩, hB3⟩ := hB
    have hfree : ∀ j oj, ops[j]? = some oj → j ≠ i → L.getD j true = false → (∀ e ∈ oj.after, Region.binds .any e = true → e.on ≠ i) → o.apart ops oj = true ∧ (b = true ∨ early j = true) := by
      intro j oj hj hji hun hno
      have hjlt : j < ops.size := (Array.getElem?_eq_some_iff.1 hj).1
      have := List.all_eq_true.1 hB2 j (List.mem_range.2 hjlt)
      simp only [hj, Bool.or_eq_true, beq_iff_eq, hji, hun, Bool.false_eq_true, false_or, Bool.and_eq_true] at this
      rcases this with hw | hw
      · exfalso
        simp only [waits, hj] at hw
        obtain ⟨e, he, hb⟩ := Array.any_eq_true'.1 hw
        simp only [Bool.and_eq_true, beq_iff_eq] at hb
        exact hno e he hb.1 hb.2
      · exact hw
    exact wpT_first ho hsel (slen k) L a w h2 hfree (by simpa using hB1) h1 ((strat_all hsel k).1 _ _ _ hB3 h3)
  | .br i k more => by
    have key : ∀ (L : Array Bool) (a : Act) (w : World), stratB ops early true k (L.setIfInBounds i true) = true →
        (∃ o, ops[i]? = some o ∧ ∀ m, wpList P ops (onlyN fun a' w' => (early i = true → ∀ m, C (at' w' m)) ∧ wpS P ops C early K k a' w') [o] a (at' w m)) → ∀ m,
        wpOp P ops (onlyN K) i (fun a' w' => ((∀ m, C (at' w m)) → early i = true → ∀ m, C (at' w' m)) ∧ wpT P ops C early K (slen k) (L.setIfInBounds i true) a' w') a (at' w m) := by
      rintro L a w hB ⟨o, ho, h⟩ m
      refine wpOp_of_list ho (h m) _ fun a' w' h' => ?_
      have h'' : (early i = true → ∀ m, C (at' w' m)) ∧ wpS P ops C early K k a' w' := h'
      exact ⟨fun _ he => h''.1 he, (strat_all hsel k).1 _ _ _ hB h''.2⟩
    refine ⟨fun L a w hB h => ?_, fun L a w n hB hn h => ?_⟩
    · simp only [stratB, Bool.not_true, Bool.false_or, Bool.and_eq_true, beq_iff_eq, Bool.or_eq_true] at hB
      obtain ⟨⟨⟨hB1, hB2⟩, hB3⟩, hB4⟩ := hB
      refine ⟨by rw [hB1]; simp, fun m j hj => ?_⟩
      rw [hB1] at hj
      rcases List.mem_cons.1 hj with rfl | hj
      · exact key L a w hB3 h.1 m
      · refine (strat_all hsel more).2 L a w (slen k) hB4 ?_ h.2 j hj m
        rcases hB2 with hB2 | hB2
        · exact .inl hB2
        · exact .inr (Nat.eq_of_beq_eq_true hB2)
    · simp only [stratB, Bool.not_false, Bool.true_or, Bool.true_and, Bool.and_eq_true, Bool.or_eq_true] at hB
      obtain ⟨⟨hB2, hB3⟩, hB4⟩ := hB
      have hk : slen k = n := by
        rcases hn with hn | hn
        · cases hn
        · exact Nat.succ.inj hn
      subst hk
      intro j hj m
      rcases List.mem_cons.1 hj with rfl | hj
      · exact key L a w hB3 h.1 m
      · refine (strat_all hsel more).2 L a w (slen k) hB4 ?_ h.2 j hj m
        rcases hB2 with hB2 | hB2
        · exact .inl hB2
        · exact .inr (Nat.eq_of_beq_eq_true hB2)
end tree

structure SG (P : Program) (N : Nat) (l : List Oper) (C : World → Prop) (early : Nat → Bool) (s : Strat) (e : Env) (w : World) (Q : Exit → Act → World → Prop) : Prop where
  go : ∀ a, Fit N e a → wpS P l.toArray C early (fun a w => Q .normal a w) s a w

def memN : List Nat → Nat → Bool
  | [], _ => false
  | k :: r, j => Nat.beq k j || memN r j
def nthO : List Oper → Nat → Option Oper
  | [], _ => none
  | o :: _, 0 => some o
  | _ :: r, i + 1 => nthO r i
theorem nthO_eq : ∀ {l : List Oper} {i : Nat} {o : Oper}, nthO l i = some o → l.toArray[i]? = some o
  | [], _, _, h => by cases h
  | _ :: _, 0, _, h => by simpa [nthO] using h
  | _ :: r, i + 1, o, h => by have := nthO_eq (l := r) (i := i) h; simpa using this

section rules
variable {P : Program} {N : Nat} {e : Env} {w : World} {Q : Exit → Act → World → Prop} {C : World → Prop} {l : List Oper} {early : Nat → Bool} {s k more : Strat} {o : Oper} {i : Nat}

theorem W.regionG {id : Nat} (s : Strat) (E : List Nat) (C : World → Prop) (hm : P.follows .mixedOrders = true) (hB : (Region.noSelect l.toArray && Nat.beq (slen s) l.toArray.size && stratB l.toArray (memN E) true s (Array.replicate l.toArray.size false)) = true)
    (h : SG P N l C (memN E) s e w Q) : W P N (.region id l.toArray true) e w Q := by
  refine ⟨fun a m hf => wp_region_any hm ?_⟩
  simp only [Bool.and_eq_true] at hB
  obtain ⟨⟨hB1, hB2⟩, hB3⟩ := hB
  have hsel : ∀ (j : Nat) (o : Oper) cs b, l.toArray[j]? = some o → o.op ≠ .select cs b := fun j o cs b ho => Region.noSelect_spec hB1 j o cs b ho
  have hsz := Nat.eq_of_beq_eq_true hB2
  have key := (strat_all (P := P) (C := C) (K := fun a w => Q .normal a w) hsel s).1 _ _ _ hB3 (h.go a hf)
  rw [hsz] at key
  exact wpAny_of_T (K := fun a w => Q .normal a w) (C := C) (early := memN E) (fun _ _ h => h) _ _ _ _ (wpT_at (w := w) (m + 1) key)

theorem SG.done (h : Z N Q .normal e w) : SG P N l C early .done e w Q := ⟨fun a hf m => h.go a m hf⟩
theorem SG.stop : SG P N l C early .stop e w Q := ⟨fun a hf => trivial⟩
theorem SG.fl0 (ho : nthO l i = some o) (h : FL P N l.toArray (fun _ => True) [o] e w (fun a => wpS P l.toArray C early (fun a w => Q .normal a w) k a w)) : SG P N l C early (.fl true i k) e w Q := by
  refine ⟨fun a hf => ⟨o, nthO_eq ho, ?_⟩⟩
  have := h.go a hf
  unfold wpFl at this
  split at this
  · rename_i hw
    obtain ⟨v, h1, h2⟩ := this
    exact ⟨v, .inl ⟨hw, fun w' _ => .inl (h1 w' trivial)⟩, fun m => .inl rfl, h2⟩
  · rename_i hw
    exact ⟨undef, .inr ⟨by simpa using hw, rfl⟩, fun m => .inl rfl, this⟩
theorem SG.fl1 (ho : nthO l i = some o) (hC : ∀ m, C (at' w m)) (h : FL P N l.toArray C [o] e w (fun a => wpS P l.toArray C early (fun a w => Q .normal a w) k a w)) : SG P N l C early (.fl false i k) e w Q := by
  refine ⟨fun a hf => ⟨o, nthO_eq ho, ?_⟩⟩
  have := h.go a hf
  unfold wpFl at this
  split at this
  · rename_i hw
    obtain ⟨v, h1, h2⟩ := this
    exact ⟨v, .inl ⟨hw, fun w' hc => .inl (h1 w' (hc.resolve_left (by simp)))⟩, fun m => .inr (hC m), h2⟩
  · rename_i hw
    exact ⟨undef, .inr ⟨by simpa using hw, rfl⟩, fun m => .inr (hC m), this⟩
theorem FL.nilS {opsA : Array Oper} {C' : World → Prop} (h : SG P N l C early k e w Q) : FL P N opsA C' [] e w (fun a => wpS P l.toArray C early (fun a w => Q .normal a w) k a w) := ⟨fun a hf => h.go a hf⟩
theorem SG.br (ho : nthO l i = some o) (h : WL P N l.toArray [o] e w (onlyN fun a' w' => (early i = true → ∀ m, C (at' w' m)) ∧ wpS P l.toArray C early (fun a w => Q .normal a w) k a' w')) (hm : SG P N l C early more e w Q) : SG P N l C early (.br i k more) e w Q :=
  ⟨fun a hf => ⟨⟨o, nthO_eq ho, fun m => h.go a m hf⟩, hm.go a hf⟩⟩
theorem SG.br1 (ho : nthO l i = some o) (h : WL P N l.toArray [o] e w (onlyN fun a' w' => (early i = true → ∀ m, C (at' w' m)) ∧ wpS P l.toArray C early (fun a w => Q .normal a w) k a' w')) : SG P N l C early (.br i k .stop) e w Q := SG.br ho h SG.stop
theorem Z.sg (hC : early i = true → ∀ m, C (at' w m)) (h : SG P N l C early k e w Q) : Z N (onlyN fun a' w' => (early i = true → ∀ m, C (at' w' m)) ∧ wpS P l.toArray C early (fun a w => Q .normal a w) k a' w') .normal e w :=
  ⟨fun a m hf => ⟨fun he m' => hC he m', wpS_at m (h.go a hf)⟩⟩
theorem Z.sgL (hE : early i = false) (h : SG P N l C early k e w Q) : Z N (onlyN fun a' w' => (early i = true → ∀ m, C (at' w' m)) ∧ wpS P l.toArray C early (fun a w => Q .normal a w) k a' w') .normal e w := Z.sg (fun h => by rw [hE] at h; cases h) h
theorem Z.sgE (hC : ∀ m, C (at' w m)) (h : SG P N l C early k e w Q) : Z N (onlyN fun a' w' => (early i = true → ∀ m, C (at' w' m)) ∧ wpS P l.toArray C early (fun a w => Q .normal a w) k a' w') .normal e w := Z.sg (fun _ => hC) h
end rules

section more
variable {P : Program} {T : Tab} {N : Nat} {e : Env} {w w0 : World} {Q : Exit → Act → World → Prop} {C : World → Prop} {ops l : List Oper} {Kf : Act → Prop} {K : Act → World → Prop}
  {d : Nat} {tt t ty : TypeId} {ps : String} {af : Array Edge} {g : Option (Nat × Bool)} {x y : Operand} {a b : Int}
theorem FL.build (hT : OkTab P T) {ti : TI} {fs : Array Field} {pl : List (Nat × Nat)} {parts : List (Nat × Operand)} {pvs : List (Nat × Value)} {cs : List Value} (hg : gate ops e g = some true) (hd : Nat.blt d N = true) (ht : tget T t = some ti) (htd : ti.desc = .struct fs) (hpl : places T fs.toList = some pl)
    (hp : evp e parts = some pvs) (hcs : fillL pl ti.zero.cells.toList pvs = cs) (hfill : Instr.fill (fun i : Nat => pl[i]?) ti.zero.cells pvs = some (fillL pl ti.zero.cells.toList pvs).toArray)
    (k : FL P N ops.toArray C l ((d, .agg cs.toArray) :: e) w Kf) : FL P N ops.toArray C (⟨some d, .build t ⟨parts⟩, tt, ps, af, g⟩ :: l) e w Kf := by
  refine FL.step hg hd ?_ k
  subst hcs
  exact ybuild (C := C) hT ht htd hpl hp rfl hfill
theorem FL.and1 (hg : gate ops e g = some true) (hd : Nat.blt d N = true) (hx : ev e x = some (.int .i64 a)) (hy : ev e y = some (.int .i64 1)) (h : 0 ≤ a ∧ a ≤ 9223372036854775807) (k : FL P N ops.toArray C l ((d, .int .i64 (a % 2)) :: e) w Kf) : FL P N ops.toArray C (⟨some d, .binOp .and t x y ty, tt, ps, af, g⟩ :: l) e w Kf := FL.step hg hd (yand1 hx hy h).in k
theorem SL.and1 (hg : gate ops e g = some true) (hd : Nat.blt d N = true) (hx : ev e x = some (.int .i64 a)) (hy : ev e y = some (.int .i64 1)) (h : 0 ≤ a ∧ a ≤ 9223372036854775807) (k : SL P N ops.toArray l ((d, .int .i64 (a % 2)) :: e) w K) : SL P N ops.toArray (⟨some d, .binOp .and t x y ty, tt, ps, af, g⟩ :: l) e w K := SL.step hg hd (yand1 hx hy h).in k
theorem xor1_all (a : Int) (h : 0 ≤ a ∧ a ≤ 9223372036854775807) : IntKind.i64.wrap (BitVec.ofInt IntKind.i64.bits a ^^^ BitVec.ofInt IntKind.i64.bits 1).toNat = Lt.xor1 a := by
  by_cases h1 : a = 9223372036854775807
  · subst h1; rfl
  · exact xor1_eq a ⟨h.1, by omega⟩
theorem xor0_all (a : Int) (h : 0 ≤ a ∧ a ≤ 9223372036854775807) : IntKind.i64.wrap (BitVec.ofInt IntKind.i64.bits a ^^^ BitVec.ofInt IntKind.i64.bits 0).toNat = a := by
  show IntKind.i64.wrap (BitVec.ofInt 64 a ^^^ BitVec.ofInt 64 0).toNat = a
  rw [show BitVec.ofInt 64 0 = 0#64 from rfl, BitVec.xor_zero, toNat_ofInt64 a h.1 (by omega), IntWalk.i64_in _ (by omega)]
  omega
/-- The literal a, or its inverse. -/
def xorI (a b : Int) : Int := if b = 1 then Lt.xor1 a else a
theorem yxorI {dd : Option Tmp} (hx : ev e x = some (.int .i64 a)) (hy : ev e y = some (.int .i64 b)) (h : 0 ≤ a ∧ a ≤ 9223372036854775807) (hb : b = 0 ∨ b = 1) : Yields P e ⟨dd, .binOp .xor t x y ty, tt, ps, af, g⟩ (.int .i64 (xorI a b)) := by
  have := Yields.bin (P := P) (d := dd) (op := .xor) (t := t) (ty := ty) (tt := tt) (ps := ps) (af := af) (g := g) hx hy (v := .int .i64 (IntKind.i64.wrap (BitVec.ofInt IntKind.i64.bits a ^^^ BitVec.ofInt IntKind.i64.bits b).toNat)) rfl
  rcases hb with rfl | rfl
  · rwa [xor0_all a h, show a = xorI a 0 by unfold xorI; rw [if_neg (by decide)]] at this
  · rwa [xor1_all a h, show Lt.xor1 a = xorI a 1 by unfold xorI; rw [if_pos rfl]] at this
theorem WL.xorI (hg : gate ops e g = some true) (hd : Nat.blt d N = true) (hx : ev e x = some (.int .i64 a)) (hy : ev e y = some (.int .i64 b)) (h : 0 ≤ a ∧ a ≤ 9223372036854775807) (hb : b = 0 ∨ b = 1) (k : WL P N ops.toArray l ((d, .int .i64 (Lt.xorI a b)) :: e) w Q) : WL P N ops.toArray (⟨some d, .binOp .xor t x y ty, tt, ps, af, g⟩ :: l) e w Q := WL.step hg hd (yxorI hx hy h hb).in k
theorem QL.xorI (hg : gate ops e g = some true) (hd : Nat.blt d N = true) (hx : ev e x = some (.int .i64 a)) (hy : ev e y = some (.int .i64 b)) (h : 0 ≤ a ∧ a ≤ 9223372036854775807) (hb : b = 0 ∨ b = 1) (k : QL P N C ops.toArray l ((d, .int .i64 (Lt.xorI a b)) :: e) Q) : QL P N C ops.toArray (⟨some d, .binOp .xor t x y ty, tt, ps, af, g⟩ :: l) e Q := QL.step hg hd (yxorI hx hy h hb).in k
theorem FL.xorI (hg : gate ops e g = some true) (hd : Nat.blt d N = true) (hx : ev e x = some (.int .i64 a)) (hy : ev e y = some (.int .i64 b)) (h : 0 ≤ a ∧ a ≤ 9223372036854775807) (hb : b = 0 ∨ b = 1) (k : FL P N ops.toArray C l ((d, .int .i64 (Lt.xorI a b)) :: e) w Kf) : FL P N ops.toArray C (⟨some d, .binOp .xor t x y ty, tt, ps, af, g⟩ :: l) e w Kf := FL.step hg hd (yxorI hx hy h hb).in k
end more
end Go.Lt
namespace Go.Lt
open Go.RowKit
set_option linter.unusedVariables false
set_option linter.unusedSimpArgs false
section
variable {P : Program} {T : Tab} {e : Env} {dd : Option Tmp} {tt ty t el : TypeId} {x y : Operand} {ps : String} {af : Array Edge} {g : Option (Nat × Bool)} {i : TI} {a : Option Addr} {n c : Nat}
theorem run_eqSliceNil (hT : OkTab P T) (ht : tget T t = some i) (hd : i.desc = .slice el) (w : World) : (Op.equal t (.slice a n c) (.slice none 0 0)).run P w = .ok (dec (a = none)) w := by
  have hu := run_underlying' (hT.at ht) w; rw [hd] at hu
  unfold Op.equal
  rw [show Op.maxDepth = 9999 + 1 from rfl, Op.equalIn]
  simp only [Sem.run_bind, hu, Result.andThen_ok]
  cases a with
  | none => simp [dec_true]
  | some q => simp [dec_false]
theorem yeqSl (hT : OkTab P T) (hx : ev e x = some (.slice a n c)) (hy : ev e y = some (.slice none 0 0)) (ht : tget T t = some i) (hd : i.desc = .slice el) : Yields P e ⟨dd, .binOp .eql t x y ty, tt, ps, af, g⟩ (.bool (dec (a = none))) := by
  intro ρ hρ w
  have h1 : (eqGuard .eql t x y (.slice a n c) (.slice none 0 0)).run P w = .ok () w := by simp [eqGuard]
  have h2 : (binOp .eql t (.slice a n c) (.slice none 0 0)).run P w = .ok (.bool (dec (a = none))) w := by simp [binOp, run_eqSliceNil hT ht hd]
  simp [execOp, hρ _ _ hx, hρ _ _ hy, h1, h2]
variable {N d : Nat} {w : World} {Q : Exit → Act → World → Prop} {C : World → Prop} {ops l : List Oper} {Kf : Act → Prop}
theorem WL.eqSl (hT : OkTab P T) (hg : gate ops e g = some true) (hd : Nat.blt d N = true) (hx : ev e x = some (.slice a n c)) (hy : ev e y = some (.slice none 0 0)) (ht : tget T t = some i) (htd : i.desc = .slice el) (k : WL P N ops.toArray l ((d, .bool (dec (a = none))) :: e) w Q) : WL P N ops.toArray (⟨some d, .binOp .eql t x y ty, tt, ps, af, g⟩ :: l) e w Q := WL.step hg hd (yeqSl hT hx hy ht htd).in k
theorem QL.eqSl (hT : OkTab P T) (hg : gate ops e g = some true) (hd : Nat.blt d N = true) (hx : ev e x = some (.slice a n c)) (hy : ev e y = some (.slice none 0 0)) (ht : tget T t = some i) (htd : i.desc = .slice el) (k : QL P N C ops.toArray l ((d, .bool (dec (a = none))) :: e) Q) : QL P N C ops.toArray (⟨some d, .binOp .eql t x y ty, tt, ps, af, g⟩ :: l) e Q := QL.step hg hd (yeqSl hT hx hy ht htd).in k
theorem FL.sliceH0 {ti ei : TI} {ao : Option Addr} {nn cap : Nat} {kk : IntKind} {h : Int} (hT : OkTab P T) (hg : gate ops e g = some true) (hd : Nat.blt d N = true)
    (hx : ev e x = some (.slice ao nn cap)) (hy : ev e y = some (.int kk h)) (ht : tget T t = some ti) (htd : ti.desc = .slice el) (he : tget T el = some ei) (h0 : 0 ≤ h ∧ h ≤ cap)
    (k : FL P N ops.toArray C l ((d, .slice ao h.toNat cap) :: e) w Kf) : FL P N ops.toArray C (⟨some d, .slice t x none (some y) none, tt, ps, af, g⟩ :: l) e w Kf := by
  refine FL.step hg hd ?_ k
  intro ρ hρ w' _
  have := run_sliceH (P := P) hT (n := nn) (ao := ao) (k := kk) ht htd he h0 w'
  simp [execOp, hρ _ _ hx, hρ _ _ hy, this]
theorem WL.sliceH0 {ti ei : TI} {ao : Option Addr} {nn cap : Nat} {kk : IntKind} {h : Int} (hT : OkTab P T) (hg : gate ops e g = some true) (hd : Nat.blt d N = true)
    (hx : ev e x = some (.slice ao nn cap)) (hy : ev e y = some (.int kk h)) (ht : tget T t = some ti) (htd : ti.desc = .slice el) (he : tget T el = some ei) (h0 : 0 ≤ h ∧ h ≤ cap)
    (k : WL P N ops.toArray l ((d, .slice ao h.toNat cap) :: e) w Q) : WL P N ops.toArray (⟨some d, .slice t x none (some y) none, tt, ps, af, g⟩ :: l) e w Q := by
  refine WL.step hg hd ?_ k
  intro ρ hρ w' _
  have := run_sliceH (P := P) hT (n := nn) (ao := ao) (k := kk) ht htd he h0 w'
  simp [execOp, hρ _ _ hx, hρ _ _ hy, this]
theorem FL.sliceL0 {ti ei : TI} {ao : Option Addr} {nn cap s : Nat} {kk : IntKind} {h : Int} (hT : OkTab P T) (hg : gate ops e g = some true) (hd : Nat.blt d N = true)
    (hx : ev e x = some (.slice ao nn cap)) (hy : ev e y = some (.int kk h)) (ht : tget T t = some ti) (htd : ti.desc = .slice el) (he : tget T el = some ei) (hs : ei.size = s) (h0 : 0 ≤ h ∧ h ≤ nn)
    (k : FL P N ops.toArray C l ((d, .slice (subA ao cap h.toNat s) (nn - h.toNat) (cap - h.toNat)) :: e) w Kf) : FL P N ops.toArray C (⟨some d, .slice t x (some y) none none, tt, ps, af, g⟩ :: l) e w Kf := by
  refine FL.step hg hd ?_ k
  subst hs
  intro ρ hρ w' _
  have := run_sliceL (P := P) hT (n := nn) (cap := cap) (ao := ao) (k := kk) ht htd he h0 w'
  simp [execOp, hρ _ _ hx, hρ _ _ hy, this, subA]
end
section ext
variable {P : Program} {T : Tab} {N d : Nat} {e : Env} {w w0 : World} {C : World → Prop} {ops l : List Oper} {Kf : Act → Prop} {tt t ty : TypeId} {ps : String} {af : Array Edge} {g : Option (Nat × Bool)} {x y : Operand}
theorem FL.loadE {p : Addr} {v : Value} {i : TI} (hT : OkTab P T) (hg : gate ops e g = some true) (hd : Nat.blt d N = true) (hx : ev e x = some (.pointer (some p))) (ht : tget T t = some i) (ha : isAggD i.desc = false) (hv : w0.cell? p = some v)
    (k : FL P N ops.toArray (Ext w0) l ((d, v) :: e) w Kf) : FL P N ops.toArray (Ext w0) (⟨some d, .load t x, tt, ps, af, g⟩ :: l) e w Kf := by
  refine FL.step hg hd ?_ k
  intro ρ hρ w' hw'
  have h1 := run_isAgg' (hT.at ht); rw [ha] at h1
  have h2 := Ext.cell hw' hv
  simp [execOp, hρ _ _ hx, Instr.loadAt, Instr.sureAddr, loadVar, h1, h2]
theorem FL.loadAE {b off : Nat} {vs : List Value} {i : TI} (hT : OkTab P T) (hg : gate ops e g = some true) (hd : Nat.blt d N = true) (hx : ev e x = some (.pointer (some ⟨b, off, none⟩))) (ht : tget T t = some i) (ha : isAggD i.desc = true) (hv : Cells w0 b off vs) (hs : i.size = vs.length)
    (k : FL P N ops.toArray (Ext w0) l ((d, .agg vs.toArray) :: e) w Kf) : FL P N ops.toArray (Ext w0) (⟨some d, .load t x, tt, ps, af, g⟩ :: l) e w Kf := by
  refine FL.step hg hd ?_ k
  intro ρ hρ w' hw'
  have h1 := run_isAgg' (hT.at ht); rw [ha] at h1
  have h3 := run_sizeOf' (hT.at ht); rw [hs] at h3
  have h2 := run_loadCellsFrom (P := P) (acc := #[]) (off := off) (i := 0) (Cells.ext hw' hv)
  simp [execOp, hρ _ _ hx, Instr.loadAt, Instr.sureAddr, loadVar, h1, h3, loadCells, h2]
theorem FL.indexE {α : Type} {s : Nat} {enc : α → List Value} {a : Option Addr} {xs : List α} {n cap : Nat} {kk : IntKind} {i : Int} {ti ei : TI} {el : TypeId} {z : α}
    (hT : OkTab P T) (hg : gate ops e g = some true) (hd : Nat.blt d N = true) (hx : ev e x = some (.slice a n cap)) (hy : ev e y = some (.int kk i)) (ht : tget T t = some ti) (htd : ti.desc = .slice el) (he : tget T el = some ei) (hs : ei.size = s)
    (R : Row s enc w0 a xs) (hn : xs.length = n) (h0 : 0 ≤ i) (hz : xs[i.toNat]? = some z)
    (k : ∀ b off, Cells w0 b off (enc z) → FL P N ops.toArray C l ((d, .pointer (some ⟨b, off, none⟩)) :: e) w Kf) : FL P N ops.toArray C (⟨some d, .indexAddr t x y, tt, ps, af, g⟩ :: l) e w Kf := by
  obtain ⟨b, off, hc, hy'⟩ := yindex (P := P) (dd := some d) (t := t) (tt := tt) (x := x) (y := y) (ps := ps) (af := af) (g := g) hT hx hy ht htd he hs R (Ext.refl _) hn h0 hz
  exact FL.step hg hd hy'.in (k b off hc)
end ext
section remk
variable {P : Program} {N d : Nat} {e : Env} {w : World} {Q : Exit → Act → World → Prop} {ops l : List Oper} {tt t ty : TypeId} {ps : String} {af : Array Edge} {g : Option (Nat × Bool)} {x y : Operand} {a b : Int} {kk : IntKind}
end remk
section cut
variable {P : Program} {N : Nat} {e : Env} {w : World} {Q : Exit → Act → World → Prop}
end cut
theorem Sep.pick {B : Nat} {w : World} {ps qs : List Piece} (f : Nat → Nat) (hS : Sep B w ps) (hf : ∀ i p, qs[i]? = some p → ps[f i]? = some p) (hi : ∀ i j, i < qs.length → j < qs.length → i ≠ j → f i ≠ f j) : Sep B w qs := by
  refine ⟨fun i p h => hS.holds _ _ (hf i p h), fun i j p q h1 h2 hne => hS.apart _ _ _ _ (hf i p h1) (hf j q h2) (hi i j ?_ ?_ hne)⟩
  · exact (List.getElem?_eq_some_iff.1 h1).1
  · exact (List.getElem?_eq_some_iff.1 h2).1
end Go.Lt
namespace Go.Proofs.YtlcenenkloicjaaDoor
open Go Go.Lt Go.RowKit
set_option linter.unusedVariables false
set_option linter.unusedSimpArgs false
set_option maxRecDepth 20000

theorem slices_CloneI (a : Option Addr) (cap : Nat) (l : List Int) (w : World) (R : Row 1 encI w a l) (hna : a = none → cap = 0) (hl : l.length ≤ 1048576) :
    Lt.Spec Tryd.prog 49 [.slice a l.length cap] w (IsFresh 1 encI 3 w l) := by
  by_cases ha : a = none
  · subst ha
    have hl0 : l = [] := by
      cases l with
      | nil => rfl
      | cons x r => obtain ⟨b, off, h1, _⟩ := R.elem 0 x rfl; cases h1
    subst hl0
    refine Spec.of _ Tryd.func49 rfl Tryd.ntmps49 (by kernel_rfl) rfl ?_
    repeat' (first
      | (apply WL.eqSl tOk; exact rfl; exact rfl; exact rfl; exact rfl; exact rfl; exact rfl)
      | (apply W.condKT; exact rfl; (focus (exact dec_true rfl; done)))
      | (show WL _ _ _ _ _ _ _; first | apply WL.nil | (refine WL.au (k := ?_)))
      | (show Z _ _ _ _ _; first | apply Z.then_normal | apply Z.then_ret)
      | (show W _ _ _ _ _ _; first | apply W.seq | apply W.region | apply W.ret)
      | fail)
    exact Z.body1 Tryd.results49 rfl fun m => ⟨(Ext.refl _).at m, none, 0, rfl, Own.nil⟩
  · refine Spec.of _ Tryd.func49 rfl Tryd.ntmps49 (by kernel_rfl) rfl ?_
    repeat' (first
      | (apply WL.eqSl tOk; exact rfl; exact rfl; exact rfl; exact rfl; exact rfl; exact rfl)
      | (apply W.condKF; exact rfl; (focus (exact dec_false ha; done)))
      | (apply WL.lit (len := 0) tOk; exact rfl; exact rfl; exact rfl; exact rfl; exact rfl; exact rfl; (first | exact rfl | kernel_rfl | (simp [Instr.fill, catCells]; done)); exact rfl; intro gb w' hb hge hc hx; have hO0 := Own.of_block0 (enc := encI) (s := 1) hb hge)
      | (apply WL.appendS tOk encI_ok; exact rfl; exact rfl; exact rfl; exact rfl; exact rfl; exact rfl; exact rfl; exact rfl; exact rfl; exact rfl; assumption; (exact extA); (first | exact rfl | (focus (simp only [List.length_set]; done)) | (focus (simp; done)) | (focus (simp [*]; done)) | omega | (focus (simp only [List.length_set]; omega))); assumption; (exact extA); (first | exact rfl | (focus (simp only [List.length_set]; done)) | (focus (simp; done)) | (focus (simp [*]; done)) | omega | (focus (simp only [List.length_set]; omega))); (first | assumption | (intro h; cases h) | exact Own.noneCap (by assumption)); exact rfl; (exact extA); (first | omega | (simp; omega) | (simp at *; omega)); intro a' cap' w' hO hX' hU hF)
      | (show WL _ _ _ _ _ _ _; first | apply WL.nil | (refine WL.au (k := ?_)))
      | (show Z _ _ _ _ _; apply Z.then_normal)
      | (show W _ _ _ _ _ _; first | apply W.seq | apply W.region | apply W.skip | apply W.ret)
      | fail)
    exact Z.body1 Tryd.results49 rfl fun m => ⟨Ext.at (by (exact extA)) m, a', cap', by rw [List.nil_append], by rw [List.nil_append] at hO; exact hO⟩
theorem slices_CloneN (a : Option Addr) (cap : Nat) (l : List (Int × Int)) (w : World) (R : Row 2 encN w a l) (hna : a = none → cap = 0) (hl : l.length ≤ 1048576) :
    Lt.Spec Tryd.prog 48 [.slice a l.length cap] w (IsFresh 2 encN 52 w l) := by
  by_cases ha : a = none
  · subst ha
    have hl0 : l = [] := by
      cases l with
      | nil => rfl
      | cons x r => obtain ⟨b, off, h1, _⟩ := R.elem 0 x rfl; cases h1
    subst hl0
    refine Spec.of _ Tryd.func48 rfl Tryd.ntmps48 (by kernel_rfl) rfl ?_
    repeat' (first
      | (apply WL.eqSl tOk; exact rfl; exact rfl; exact rfl; exact rfl; exact rfl; exact rfl)
      | (apply W.condKT; exact rfl; (focus (exact dec_true rfl; done)))
      | (show WL _ _ _ _ _ _ _; first | apply WL.nil | (refine WL.au (k := ?_)))
      | (show Z _ _ _ _ _; first | apply Z.then_normal | apply Z.then_ret)
      | (show W _ _ _ _ _ _; first | apply W.seq | apply W.region | apply W.ret)
      | fail)
    exact Z.body1 Tryd.results48 rfl fun m => ⟨(Ext.refl _).at m, none, 0, rfl, Own.nil⟩
  · refine Spec.of _ Tryd.func48 rfl Tryd.ntmps48 (by kernel_rfl) rfl ?_
    repeat' (first
      | (apply WL.eqSl tOk; exact rfl; exact rfl; exact rfl; exact rfl; exact rfl; exact rfl)
      | (apply W.condKF; exact rfl; (focus (exact dec_false ha; done)))
      | (apply WL.lit (len := 0) tOk; exact rfl; exact rfl; exact rfl; exact rfl; exact rfl; exact rfl; (first | exact rfl | kernel_rfl | (simp [Instr.fill, catCells]; done)); exact rfl; intro gb w' hb hge hc hx; have hO0 := Own.of_block0 (enc := encN) (s := 2) hb hge)
      | (apply WL.appendS tOk encN_ok; exact rfl; exact rfl; exact rfl; exact rfl; exact rfl; exact rfl; exact rfl; exact rfl; exact rfl; exact rfl; assumption; (exact extA); (first | exact rfl | (focus (simp only [List.length_set]; done)) | (focus (simp; done)) | (focus (simp [*]; done)) | omega | (focus (simp only [List.length_set]; omega))); assumption; (exact extA); (first | exact rfl | (focus (simp only [List.length_set]; done)) | (focus (simp; done)) | (focus (simp [*]; done)) | omega | (focus (simp only [List.length_set]; omega))); (first | assumption | (intro h; cases h) | exact Own.noneCap (by assumption)); exact rfl; (exact extA); (first | omega | (simp; omega) | (simp at *; omega)); intro a' cap' w' hO hX' hU hF)
      | (show WL _ _ _ _ _ _ _; first | apply WL.nil | (refine WL.au (k := ?_)))
      | (show Z _ _ _ _ _; apply Z.then_normal)
      | (show W _ _ _ _ _ _; first | apply W.seq | apply W.region | apply W.skip | apply W.ret)
      | fail)
    exact Z.body1 Tryd.results48 rfl fun m => ⟨Ext.at (by (exact extA)) m, a', cap', by rw [List.nil_append], by rw [List.nil_append] at hO; exact hO⟩
end Go.Proofs.YtlcenenkloicjaaDoor
namespace Go.Lt
open Go.RowKit
set_option linter.unusedVariables false
set_option linter.unusedSimpArgs false

section tree
variable {P : Program} {ops : Array Oper} {C : World → Prop} {early : Nat → Bool} {K : Act → World → Prop}

def wpX (P : Program) (ops : Array Oper) (C : World → Prop) (early : Nat → Bool) (K : Act → World → Prop) : Nat → Array Bool → Act → World → Prop
  | 0, listed, a, w => Region.ready .any ops listed = [] ∧ ∀ w', Ext w w' → K a w'
  | n + 1, listed, a, w => Region.ready .any ops listed ≠ [] ∧ ∀ w', Ext w w' → ∀ i ∈ Region.ready .any ops listed,
      wpOp P ops (onlyN K) i (fun a' w'' => (C w' → early i = true → C w'') ∧ wpX P ops C early K n (listed.setIfInBounds i true) a' w'') a w'

theorem wpX_ext : ∀ {n : Nat} {listed : Array Bool} {a : Act} {w w2 : World} (_ : Ext w w2), wpX P ops C early K n listed a w → wpX P ops C early K n listed a w2
  | 0, _, _, _, _, hx, h => ⟨h.1, fun w' h' => h.2 w' (hx.trans h')⟩
  | _ + 1, _, _, _, _, hx, h => ⟨h.1, fun w' h' => h.2 w' (hx.trans h')⟩

theorem wpAny_of_X {Q : Exit → Act → World → Prop} (hQ : ∀ a w, K a w → Q .normal a w) : ∀ (fuel : Nat) (listed : Array Bool) (a : Act) (w : World), wpX P ops C early K fuel listed a w → wpAny P .any ops Q fuel listed a w
  | 0, _, _, w, h => ⟨h.1, hQ _ _ (h.2 w (Ext.refl w))⟩
  | fuel + 1, _, _, w, h => ⟨fun h0 => absurd h0 h.1, fun i hi => wpOp_mono' (fun a w hh => wpAny_of_X hQ fuel _ a w hh.2) (h.2 w (Ext.refl w) i hi)⟩

/-- The step yields v, and only makes memory. -/
def PureAt (P : Program) (s : Sem Next) (w : World) (v : Value) : Prop :=
  s.run P w = .ok (.value v) w ∨ ∃ f args, s.run P w = .ok (.enter f args) w ∧ Calls P f args w (fun x w' => x = .returned v ∧ Ext w w')

def PYields (P : Program) (ops : Array Oper) (C : World → Prop) (o : Oper) (v : Value) (a : Act) : Prop :=
  (Region.wanted o (yielded ops a.tmps) = true ∧ ∀ w, C w → PureAt P (execOp a.eval o) w v) ∨ (Region.wanted o (yielded ops a.tmps) = false ∧ v = undef)

theorem PYields.wpOp {i : Nat} {o : Oper} {v : Value} {a : Act} {w : World} {Q : Exit → Act → World → Prop} {K' : Act → World → Prop} (hi : ops[i]? = some o) (hy : PYields P ops C o v a) (hC : C w) (h : ∀ w', Ext w w' → K' (a.put o.dst v) w') : wpOp P ops Q i K' a w := by
  unfold Go.wpOp
  simp only [hi]
  rcases hy with ⟨hw, hv⟩ | ⟨hw, rfl⟩
  · simp only [hw, if_true]
    refine .inl ?_
    unfold Oper.wp
    rcases hv w hC with hv | ⟨f, args, hv, hc⟩
    · rw [hv]; exact h w (Ext.refl w)
    · rw [hv]
      refine Calls.mono hc ?_
      rintro x w' ⟨rfl, hx⟩
      exact h w' hx
  · simp only [hw, Bool.false_eq_true, if_false]; exact h w (Ext.refl w)

theorem PYields.of_same {o : Oper} {v : Value} {a a' : Act} (hy : PYields P ops C o v a) (he : execOp a'.eval o = execOp a.eval o)
    (hw : Region.wanted o (yielded ops a'.tmps) = Region.wanted o (yielded ops a.tmps)) : PYields P ops C o v a' := by
  unfold PYields at *
  rw [he, hw]
  exact hy

theorem wpOp_putX {j : Nat} {oi oj : Oper} {v : Value} {C : World → Prop} (hj : ops[j]? = some oj) (hap : oi.apart ops oj = true)
    (hsi : ∀ cs b, oi.op ≠ .select cs b) (hsj : ∀ cs b, oj.op ≠ .select cs b) {K0 K1 : Act → World → Prop} {a : Act} {w : World}
    (hy : PYields P ops C oi v a) (h : wpOp P ops (onlyN K0) j K1 (a.put oi.dst v) w) :
    wpOp P ops (onlyN K0) j (fun a' w' => PYields P ops C oi v a' ∧ K1 (a'.put oi.dst v) w') a w := by
  obtain ⟨h1, h2, h3⟩ := Oper.apart_spec hap
  have keep : ∀ u, PYields P ops C oi v (a.put oj.dst u) := fun u => hy.of_same (execOp_put oi hsi a oj.dst u h3) (wanted_put oi a oj.dst u h3)
  have swap : ∀ u, (a.put oi.dst v).put oj.dst u = (a.put oj.dst u).put oi.dst v := fun u => Act.put_comm a v u h2
  have lets : ¬ LetsOut (onlyN K0) := fun ⟨_, _, hq⟩ => hq
  unfold Go.wpOp at *
  simp only [hj] at *
  rw [wanted_put oj a oi.dst v h1] at h
  split
  · rename_i hw
    simp only [hw, if_true] at h
    rcases h with h | ⟨_, hq⟩
    · refine .inl ?_
      unfold Oper.wp at h ⊢
      rw [execOp_put oj hsj a oi.dst v h1] at h
      revert h
      generalize (execOp a.eval oj).run P w = r
      intro h
      unfold Oper.upon at h ⊢
      split at h
      · exact ⟨keep _, by rw [← swap]; exact h⟩
      · exact ⟨keep _, by rw [← swap]; exact h⟩
      · rename_i d w'
        have e1 : ({ a with defers := d :: a.defers }.put oj.dst undef).put oi.dst v = { a.put oi.dst v with defers := d :: (a.put oi.dst v).defers }.put oj.dst undef := by
          rw [Act.put_comm _ undef v (fun q hq hh => h2 q hh hq)]
          cases oi.dst <;> rfl
        have e2 : PYields P ops C oi v ({ a with defers := d :: a.defers }.put oj.dst undef) := by
          refine (keep undef).of_same ?_ ?_
          · cases oj.dst <;> rfl
          · cases oj.dst <;> rfl
        exact ⟨e2, by rw [e1]; exact h⟩
      · refine Calls.mono h fun x w'' hx => ?_
        cases x with
        | returned u => exact ⟨keep _, by rw [← swap]; exact hx⟩
        | panicked c => exact hx.elim
        | outgrown => exact (lets hx).elim
      · exact Rows.mono h fun u w'' hx => ⟨keep _, by rw [← swap]; exact hx⟩
      · exact h.elim
      · exact h
    · exact (lets hq).elim
  · rename_i hw
    simp only [hw] at h
    exact ⟨keep _, by rw [← swap]; exact h⟩

theorem wpX_first {i : Nat} {oi : Oper} {v : Value} {b : Bool} (hup : ∀ w w', C w → Ext w w' → C w') (hi : ops[i]? = some oi) (hsel : ∀ (j : Nat) (o : Oper) cs b, ops[j]? = some o → o.op ≠ .select cs b) :
    ∀ (fuel : Nat) (listed : Array Bool) (a : Act) (w : World), (b = true ∨ C w) →
      (∀ j oj, ops[j]? = some oj → j ≠ i → listed.getD j true = false → (∀ e ∈ oj.after, Region.binds .any e = true → e.on ≠ i) → oi.apart ops oj = true ∧ (b = true ∨ early j = true)) →
      i ∈ Region.ready .any ops listed → PYields P ops (fun w => b = true ∨ C w) oi v a →
      wpX P ops C early K fuel (listed.setIfInBounds i true) (a.put oi.dst v) w → wpX P ops C early K (fuel + 1) listed a w := by
  intro fuel
  induction fuel with
  | zero =>
    intro listed a w hC _ hr hy H
    refine ⟨fun h => (by rw [h] at hr; cases hr), fun w1 hx j hj => ?_⟩
    by_cases hji : j = i
    · subst hji; exact hy.wpOp hi (hC.imp id fun h => hup _ _ h hx) fun w' hx' => ⟨fun hc _ => hup _ _ hc hx', wpX_ext (hx.trans hx') H⟩
    · have := ready_mono hj hji
      rw [H.1] at this
      cases this
  | succ fuel ih =>
    intro listed a w hC hfree hr hy H
    refine ⟨fun h => (by rw [h] at hr; cases hr), fun w1 hx j hj => ?_⟩
    by_cases hji : j = i
    · subst hji; exact hy.wpOp hi (hC.imp id fun h => hup _ _ h hx) fun w' hx' => ⟨fun hc _ => hup _ _ hc hx', wpX_ext (hx.trans hx') H⟩
    · have h1 := H.2 w1 hx j (ready_mono hj hji)
      obtain ⟨hjun, oj, hoj, hall⟩ := mem_ready.1 hj
      have hnot : ∀ e ∈ oj.after, Region.binds .any e = true → e.on ≠ i := fun e he hb heq => by
        have h1 := hall e he hb
        have h0 := (mem_ready.1 hr).1
        rw [heq] at h1
        rcases Nat.lt_or_ge i listed.size with h' | h'
        · simp [h'] at h0 h1; rw [h0] at h1; cases h1
        · simp [Array.getElem?_eq_none h'] at h1
      obtain ⟨hap, hea⟩ := hfree j oj hoj hji hjun hnot
      have h2 := wpOp_putX hoj hap (fun cs b => hsel i oi cs b hi) (fun cs b => hsel j oj cs b hoj) hy h1
      have hfree' : ∀ k ok, ops[k]? = some ok → k ≠ i → (listed.setIfInBounds j true).getD k true = false →
          (∀ e ∈ ok.after, Region.binds .any e = true → e.on ≠ i) → oi.apart ops ok = true ∧ (b = true ∨ early k = true) := fun k ok hk hki hun hno => by
        refine hfree k ok hk hki ?_ hno
        by_cases hjk : j = k
        · subst hjk; exact hjun
        · rw [getD_set_ne true hjk] at hun; exact hun
      refine wpOp_mono' (fun a' w' h3 => ⟨h3.2.1, ih (listed.setIfInBounds j true) a' w' ?_ hfree' (ready_mono hr (Ne.symm hji)) h3.1 ?_⟩) h2
      · rcases hea with hb | hea
        · exact .inl hb
        · rcases hC with hb | hc
          · exact .inl hb
          · exact .inr (h3.2.1 (hup _ _ hc hx) hea)
      · rw [Array.setIfInBounds_comm _ _ hji]
        exact h3.2.2

def wpY (P : Program) (ops : Array Oper) (C : World → Prop) (early : Nat → Bool) (K : Act → World → Prop) : Strat → Act → World → Prop
  | .done, a, w => ∀ w', Ext w w' → K a w'
  | .fl b i k, a, w => ∃ o, ops[i]? = some o ∧ ∃ v, PYields P ops (fun w => b = true ∨ C w) o v a ∧ (b = true ∨ C w) ∧ wpY P ops C early K k (a.put o.dst v) w
  | .br i k more, a, w => (∃ o, ops[i]? = some o ∧ ∀ w', Ext w w' → wpList P ops (onlyN fun a' w'' => (early i = true → C w'') ∧ wpY P ops C early K k a' w'') [o] a w') ∧ wpY P ops C early K more a w
  | .stop, _, _ => True

theorem wpY_ext (hup : ∀ w w', C w → Ext w w' → C w') : ∀ {s : Strat} {a : Act} {w w2 : World} (_ : Ext w w2), wpY P ops C early K s a w → wpY P ops C early K s a w2
  | .done, _, _, _, hx, h => fun w' h' => h w' (hx.trans h')
  | .fl b i k, _, _, _, hx, ⟨o, ho, v, h1, h2, h3⟩ => ⟨o, ho, v, h1, h2.imp id fun h => hup _ _ h hx, wpY_ext hup hx h3⟩
  | .br i k more, _, _, _, hx, ⟨⟨o, ho, h1⟩, h2⟩ => ⟨⟨o, ho, fun w' h' => h1 w' (hx.trans h')⟩, wpY_ext hup hx h2⟩
  | .stop, _, _, _, _, _ => trivial

theorem stratX_all (hup : ∀ w w', C w → Ext w w' → C w') (hsel : ∀ (j : Nat) (o : Oper) cs b, ops[j]? = some o → o.op ≠ .select cs b) : ∀ (s : Strat),
    (∀ (L : Array Bool) (a : Act) (w : World), stratB ops early true s L = true → wpY P ops C early K s a w → wpX P ops C early K (slen s) L a w) ∧
    (∀ (L : Array Bool) (a : Act) (w : World) (n : Nat), stratB ops early false s L = true → (isStop s = true ∨ slen s = n + 1) → wpY P ops C early K s a w → ∀ i ∈ heads s, ∀ w', Ext w w' →
      wpOp P ops (onlyN K) i (fun a' w'' => (C w' → early i = true → C w'') ∧ wpX P ops C early K n (L.setIfInBounds i true) a' w'') a w')
  | .done => ⟨fun L a w hB h => ⟨by simpa [stratB] using hB, h⟩, fun L a w n hB => by simp [stratB] at hB⟩
  | .stop => ⟨fun L a w hB => by simp [stratB] at hB, fun L a w n hB hn h i hi => by simp [heads] at hi⟩
  | .fl b i k => by
    refine ⟨fun L a w hB h => ?_, fun L a w n hB => by simp [stratB] at hB⟩
    obtain ⟨o, ho, v, h1, h2, h3⟩ := h
    simp only [stratB, ho, Bool.true_and, Bool.and_eq_true] at hB
    obtain ⟨⟨hB1, hB2⟩, hB3⟩ := hB
    have hfree : ∀ j oj, ops[j]? = some oj → j ≠ i → L.getD j true = false → (∀ e ∈ oj.after, Region.binds .any e = true → e.on ≠ i) → o.apart ops oj = true ∧ (b = true ∨ early j = true) := by
      intro j oj hj hji hun hno
      have hjlt : j < ops.size := (Array.getElem?_eq_some_iff.1 hj).1
      have := List.all_eq_true.1 hB2 j (List.mem_range.2 hjlt)
      simp only [hj, Bool.or_eq_true, beq_iff_eq, hji, hun, Bool.false_eq_true, false_or, Bool.and_eq_true] at this
      rcases this with hw | hw
      · exfalso
        simp only [waits, hj] at hw
        obtain ⟨e, he, hb⟩ := Array.any_eq_true'.1 hw
        simp only [Bool.and_eq_true, beq_iff_eq] at hb
        exact hno e he hb.1 hb.2
      · exact hw
    exact wpX_first hup ho hsel (slen k) L a w h2 hfree (by simpa using hB1) h1 ((stratX_all hup hsel k).1 _ _ _ hB3 h3)
  | .br i k more => by
    have key : ∀ (L : Array Bool) (a : Act) (w : World), stratB ops early true k (L.setIfInBounds i true) = true →
        (∃ o, ops[i]? = some o ∧ ∀ w', Ext w w' → wpList P ops (onlyN fun a' w'' => (early i = true → C w'') ∧ wpY P ops C early K k a' w'') [o] a w') → ∀ w', Ext w w' →
        wpOp P ops (onlyN K) i (fun a' w'' => (C w' → early i = true → C w'') ∧ wpX P ops C early K (slen k) (L.setIfInBounds i true) a' w'') a w' := by
      rintro L a w hB ⟨o, ho, h⟩ w1 hx
      refine wpOp_of_list ho (h w1 hx) _ fun a' w' h' => ?_
      have h'' : (early i = true → C w') ∧ wpY P ops C early K k a' w' := h'
      exact ⟨fun _ he => h''.1 he, (stratX_all hup hsel k).1 _ _ _ hB h''.2⟩
    refine ⟨fun L a w hB h => ?_, fun L a w n hB hn h => ?_⟩
    · simp only [stratB, Bool.not_true, Bool.false_or, Bool.and_eq_true, beq_iff_eq, Bool.or_eq_true] at hB
      obtain ⟨⟨⟨hB1, hB2⟩, hB3⟩, hB4⟩ := hB
      refine ⟨by rw [hB1]; simp, fun w1 hx j hj => ?_⟩
      rw [hB1] at hj
      rcases List.mem_cons.1 hj with rfl | hj
      · exact key L a w hB3 h.1 w1 hx
      · refine (stratX_all hup hsel more).2 L a w (slen k) hB4 ?_ h.2 j hj w1 hx
        rcases hB2 with hB2 | hB2
        · exact .inl hB2
        · exact .inr (Nat.eq_of_beq_eq_true hB2)
    · simp only [stratB, Bool.not_false, Bool.true_or, Bool.true_and, Bool.and_eq_true, Bool.or_eq_true] at hB
      obtain ⟨⟨hB2, hB3⟩, hB4⟩ := hB
      have hk : slen k = n := by
        rcases hn with hn | hn
        · cases hn
        · exact Nat.succ.inj hn
      subst hk
      intro j hj w1 hx
      rcases List.mem_cons.1 hj with rfl | hj
      · exact key L a w hB3 h.1 w1 hx
      · refine (stratX_all hup hsel more).2 L a w (slen k) hB4 ?_ h.2 j hj w1 hx
        rcases hB2 with hB2 | hB2
        · exact .inl hB2
        · exact .inr (Nat.eq_of_beq_eq_true hB2)
end tree

structure SX (P : Program) (N : Nat) (l : List Oper) (w0 : World) (early : Nat → Bool) (s : Strat) (e : Env) (w : World) (Q : Exit → Act → World → Prop) : Prop where
  go : ∀ a, Fit N e a → wpY P l.toArray (Ext w0) early (fun a w => Q .normal a w) s a w
theorem ext_up (w0 : World) : ∀ w w', Ext w0 w → Ext w w' → Ext w0 w' := fun _ _ h k => h.trans k

section rules
variable {P : Program} {N : Nat} {e : Env} {w w0 : World} {Q : Exit → Act → World → Prop} {l : List Oper} {early : Nat → Bool} {s k more : Strat} {o : Oper} {i : Nat}
theorem W.regionGX {id : Nat} (s : Strat) (E : List Nat) (hm : P.follows .mixedOrders = true) (hB : (Region.noSelect l.toArray && Nat.beq (slen s) l.toArray.size && stratB l.toArray (memN E) true s (Array.replicate l.toArray.size false)) = true)
    (h : SX P N l w (memN E) s e w Q) : W P N (.region id l.toArray true) e w Q := by
  refine ⟨fun a m hf => wp_region_any hm ?_⟩
  simp only [Bool.and_eq_true] at hB
  obtain ⟨⟨hB1, hB2⟩, hB3⟩ := hB
  have hsel : ∀ (j : Nat) (o : Oper) cs b, l.toArray[j]? = some o → o.op ≠ .select cs b := fun j o cs b ho => Region.noSelect_spec hB1 j o cs b ho
  have hsz := Nat.eq_of_beq_eq_true hB2
  have key := (stratX_all (P := P) (C := Ext w) (K := fun a w => Q .normal a w) (ext_up w) hsel s).1 _ _ _ hB3 (h.go a hf)
  rw [hsz] at key
  exact wpAny_of_X (K := fun a w => Q .normal a w) (C := Ext w) (early := memN E) (fun _ _ h => h) _ _ _ _ (wpX_ext (w := w) ((Ext.refl w).at (m + 1)) key)
theorem SX.done (h : ∀ w', Ext w w' → Z N Q .normal e w') : SX P N l w0 early .done e w Q := ⟨fun a hf w' hx => (h w' hx).go a w'.drawn hf⟩
theorem SX.stop : SX P N l w0 early .stop e w Q := ⟨fun a hf => trivial⟩
theorem SX.fl0 (ho : nthO l i = some o) (h : FL P N l.toArray (fun _ => True) [o] e w (fun a => wpY P l.toArray (Ext w0) early (fun a w => Q .normal a w) k a w)) : SX P N l w0 early (.fl true i k) e w Q := by
  refine ⟨fun a hf => ⟨o, nthO_eq ho, ?_⟩⟩
  have := h.go a hf
  unfold wpFl at this
  split at this
  · rename_i hw
    obtain ⟨v, h1, h2⟩ := this
    exact ⟨v, .inl ⟨hw, fun w' _ => .inl (h1 w' trivial)⟩, .inl rfl, h2⟩
  · rename_i hw
    exact ⟨undef, .inr ⟨by simpa using hw, rfl⟩, .inl rfl, this⟩
theorem SX.fl1 (ho : nthO l i = some o) (hC : Ext w0 w) (h : FL P N l.toArray (Ext w0) [o] e w (fun a => wpY P l.toArray (Ext w0) early (fun a w => Q .normal a w) k a w)) : SX P N l w0 early (.fl false i k) e w Q := by
  refine ⟨fun a hf => ⟨o, nthO_eq ho, ?_⟩⟩
  have := h.go a hf
  unfold wpFl at this
  split at this
  · rename_i hw
    obtain ⟨v, h1, h2⟩ := this
    exact ⟨v, .inl ⟨hw, fun w' hc => .inl (h1 w' (hc.resolve_left (by simp)))⟩, .inr hC, h2⟩
  · rename_i hw
    exact ⟨undef, .inr ⟨by simpa using hw, rfl⟩, .inr hC, this⟩
theorem FL.nilX {opsA : Array Oper} {C' : World → Prop} (h : SX P N l w0 early k e w Q) : FL P N opsA C' [] e w (fun a => wpY P l.toArray (Ext w0) early (fun a w => Q .normal a w) k a w) := ⟨fun a hf => h.go a hf⟩
theorem SX.br (ho : nthO l i = some o) (h : ∀ w', Ext w w' → WL P N l.toArray [o] e w' (onlyN fun a' w'' => (early i = true → Ext w0 w'') ∧ wpY P l.toArray (Ext w0) early (fun a w => Q .normal a w) k a' w'')) (hm : SX P N l w0 early more e w Q) : SX P N l w0 early (.br i k more) e w Q :=
  ⟨fun a hf => ⟨⟨o, nthO_eq ho, fun w' hx => (h w' hx).go a w'.drawn hf⟩, hm.go a hf⟩⟩
theorem SX.br1 (ho : nthO l i = some o) (h : ∀ w', Ext w w' → WL P N l.toArray [o] e w' (onlyN fun a' w'' => (early i = true → Ext w0 w'') ∧ wpY P l.toArray (Ext w0) early (fun a w => Q .normal a w) k a' w'')) : SX P N l w0 early (.br i k .stop) e w Q := SX.br ho h SX.stop
theorem Z.sx (hC : early i = true → Ext w0 w) (h : SX P N l w0 early k e w Q) : Z N (onlyN fun a' w'' => (early i = true → Ext w0 w'') ∧ wpY P l.toArray (Ext w0) early (fun a w => Q .normal a w) k a' w'') .normal e w :=
  ⟨fun a m hf => ⟨fun he => (hC he).at m, wpY_ext (ext_up w0) ((Ext.refl w).at m) (h.go a hf)⟩⟩
theorem Z.sxL (hE : early i = false) (h : SX P N l w0 early k e w Q) : Z N (onlyN fun a' w'' => (early i = true → Ext w0 w'') ∧ wpY P l.toArray (Ext w0) early (fun a w => Q .normal a w) k a' w'') .normal e w := Z.sx (fun h => by rw [hE] at h; cases h) h
end rules
end Go.Lt
namespace Go.Proofs.YtlcenenkloicjaaDoor
open Go Go.Lt Go.RowKit
set_option linter.unusedVariables false
set_option linter.unusedSimpArgs false
set_option maxRecDepth 20000

abbrev fv (v p : Int) (o : Bool) : Value := .agg #[.int .i64 v, .int .i64 p, .bool o]
def goodF (n : List (Int × Int)) (v p : Int) : Prop := 0 < v ∧ v ≤ n.length ∧ (p = 0 ∨ ((p = 1 ∨ p = 2) ∧ 0 ≤ (n.getD (v - 1).toNat (0, 0)).1))
def atO (o : Bool) : Int := if o = true then 1 else 0
def stuckL (v : Int) (o : Bool) (l : Int) : Int := if l / 2 = v then (if l % 2 = 1 then atO (!o) else atO o) else l
theorem atO_le (o : Bool) : 0 ≤ atO o ∧ atO o ≤ 1 := by unfold atO; split <;> omega
theorem stuckL_le {v : Int} {o : Bool} {l k : Int} (h : 0 ≤ l ∧ l ≤ 2 * k + 1) (hk : 0 ≤ k) : 0 ≤ stuckL v o l ∧ stuckL v o l ≤ 2 * k + 1 := by
  have h1 := atO_le o
  have h2 := atO_le (!o)
  unfold stuckL
  split
  · split <;> omega
  · exact h
/-- A node, with a fault. -/
def injN (v p : Int) (o : Bool) (k : Nat) (x : Int × Int) : Int × Int :=
  if p = 0 then (if 0 ≤ x.1 then (stuckL v o x.1, stuckL v o x.2) else x)
  else if v = (k : Int) + 1 then (if p = 1 then (atO o, x.2) else if p = 2 then (x.1, atO o) else x) else x
def injL (v p : Int) (o : Bool) (l : Int) : Int := if p = 0 then stuckL v o l else l
noncomputable def injNet (n : List (Int × Int)) (v p : Int) (o : Bool) : List (Int × Int) := tab n.length (fun u => injN v p o u (n.getD u (0, 0)))
theorem injNet_len (n : List (Int × Int)) (v p : Int) (o : Bool) : (injNet n v p o).length = n.length := tab_len _ _
theorem injNet_get {n : List (Int × Int)} {v p : Int} {o : Bool} {k : Nat} {x : Int × Int} (h : n[k]? = some x) : (injNet n v p o)[k]? = some (injN v p o k x) := by
  rw [injNet, tab_get _ (lt_of_get h), getD_of h]
theorem injNet_good {n : List (Int × Int)} {v p : Int} {o : Bool} (hg : GoodNet n) (hf : goodF n v p) : GoodNet (injNet n v p o) := by
  intro k y hy
  have hk := lt_of_get hy
  rw [injNet_len] at hk
  obtain ⟨x, hx⟩ := getI n hk
  rw [injNet_get hx] at hy
  cases hy
  have ho := atO_le o
  have hgx : 0 ≤ x.1 → x.1 ≤ 2 * (k : Int) + 1 ∧ 0 ≤ x.2 ∧ x.2 ≤ 2 * (k : Int) + 1 := fun h => hg.gate hx h
  unfold badNode injN
  by_cases hp : p = 0
  · rw [if_pos hp]
    by_cases h0 : 0 ≤ x.1
    · rw [if_pos h0]
      have h1 := hgx h0
      have h2 := stuckL_le (v := v) (o := o) (k := (k : Int)) ⟨h0, h1.1⟩ (by omega)
      have h3 := stuckL_le (v := v) (o := o) (k := (k : Int)) ⟨h1.2.1, h1.2.2⟩ (by omega)
      dsimp only; omega
    · rw [if_neg h0]; omega
  · rw [if_neg hp]
    by_cases hv : v = (k : Int) + 1
    · rw [if_pos hv]
      have hgate : 0 ≤ x.1 := by
        have h := hf.2.2.resolve_left hp
        have h2 := h.2
        rw [show (v - 1).toNat = k by omega, getD_of hx] at h2
        exact h2
      have h1 := hgx hgate
      split
      · dsimp only; omega
      · split
        · dsimp only; omega
        · omega
    · rw [if_neg hv]
      intro h
      have h1 := hgx h.1
      omega
theorem injL_le {n : List (Int × Int)} {v p : Int} {o : Bool} {l : Int} (h : 0 ≤ l ∧ l ≤ 2 * (n.length : Int) + 1) : 0 ≤ injL v p o l ∧ injL v p o l ≤ 2 * (n.length : Int) + 1 := by
  unfold injL
  split
  · exact stuckL_le h (by omega)
  · exact h

theorem ref44_at (o : Bool) (w : World) : Still Tryd.prog 53 [.bool o] w (.int .i64 (atO o)) := by
  cases o
  · refine Spec.of _ Tryd.func53 rfl Tryd.ntmps53 (by kernel_rfl) rfl ?_
    repeat' (first
      | (show WL _ _ _ _ _ _ _; first | apply WL.nil | (refine WL.au (k := ?_)))
      | (show Z _ _ _ _ _; apply Z.then_normal)
      | (show W _ _ _ _ _ _; first | apply W.seq | apply W.region | apply W.skip | apply W.ret | (apply W.condF; exact rfl))
      | fail)
    exact Z.body1 Tryd.results53 rfl fun m => ⟨rfl, m, rfl⟩
  · refine Spec.of _ Tryd.func53 rfl Tryd.ntmps53 (by kernel_rfl) rfl ?_
    repeat' (first
      | (show WL _ _ _ _ _ _ _; first | apply WL.nil | (refine WL.au (k := ?_)))
      | (show Z _ _ _ _ _; first | apply Z.then_normal | apply Z.then_ret)
      | (show W _ _ _ _ _ _; first | apply W.seq | apply W.region | apply W.ret | (apply W.condT; exact rfl))
      | fail)
    exact Z.body1 Tryd.results53 rfl fun m => ⟨rfl, m, rfl⟩
theorem fault_constant (o : Bool) (w : World) : Still Tryd.prog 50 [.bool o] w (.int .i64 (atO o)) := by
  cases o
  · refine Spec.of _ Tryd.func50 rfl Tryd.ntmps50 (by kernel_rfl) rfl ?_
    repeat' (first
      | (show WL _ _ _ _ _ _ _; first | apply WL.nil | (refine WL.au (k := ?_)))
      | (show Z _ _ _ _ _; apply Z.then_normal)
      | (show W _ _ _ _ _ _; first | apply W.seq | apply W.region | apply W.skip | apply W.ret | (apply W.condF; exact rfl))
      | fail)
    exact Z.body1 Tryd.results50 rfl fun m => ⟨rfl, m, rfl⟩
  · refine Spec.of _ Tryd.func50 rfl Tryd.ntmps50 (by kernel_rfl) rfl ?_
    repeat' (first
      | (show WL _ _ _ _ _ _ _; first | apply WL.nil | (refine WL.au (k := ?_)))
      | (show Z _ _ _ _ _; first | apply Z.then_normal | apply Z.then_ret)
      | (show W _ _ _ _ _ _; first | apply W.seq | apply W.region | apply W.ret | (apply W.condT; exact rfl))
      | fail)
    exact Z.body1 Tryd.results50 rfl fun m => ⟨rfl, m, rfl⟩
theorem ref44_stuck (v p l : Int) (o : Bool) (w : World) (hl : 0 ≤ l ∧ l ≤ 9223372036854775807) : Pure Tryd.prog 52 [.int .i64 l, fv v p o] w (.int .i64 (stuckL v o l)) := by
  refine Spec.of _ Tryd.func52 rfl Tryd.ntmps52 (by kernel_rfl) rfl ?_
  repeat' (first
    | (apply WL.box; exact rfl; exact rfl; exact rfl; intro gb w' hb hge hc hx; have hcc := hc; (first | (obtain ⟨h1, h2, h3, _⟩ := hc) | (obtain ⟨h1, h2, _⟩ := hc)))
    | ((show WL _ _ _ (⟨_, .call ⟨.value (.func 53), _, _⟩, _, _, _, _⟩ :: _) _ _ _); apply WL.callS; exact rfl; exact rfl; exact rfl; exact rfl; exact ref44_at _ _)
    | (show WL _ _ _ _ _ _ _; first | apply WL.nil | (refine WL.au (k := ?_)))
    | (show Z _ _ _ _ _; first | apply Z.then_normal | apply Z.then_ret)
    | (show W _ _ _ _ _ _; first | apply W.seq | apply W.region | apply W.skip | apply W.ret | (apply W.condD; exact rfl; all_goals intro _))
    | fail)
  all_goals (refine Z.body1 Tryd.results52 rfl fun m => ⟨congrArg (Value.int .i64) ?_, Ext.at (by (exact extA)) m⟩; unfold stuckL; first | (rw [if_neg (by assumption)]; done) | (rw [if_pos (by omega), if_pos (by assumption)]; done) | (rw [if_pos (by omega), if_neg (by assumption)]; done))
set_option maxHeartbeats 4000000 in
set_option maxRecDepth 10000 in
theorem ref44_Good (a : Option Addr) (cap : Nat) (n : List (Int × Int)) (v p : Int) (o : Bool) (w : World) (R : Row 2 encN w a n) (hv : inI64 v) : Pure Tryd.prog 38 [.slice a n.length cap, fv v p o] w (.bool (dec (goodF n v p))) := by
  have hlen := R.len
  have hv' : v ≤ 9223372036854775807 := hv.2
  by_cases h : 0 < v ∧ v ≤ n.length
  · obtain ⟨x, hx⟩ := getI n (show (v - 1).toNat < n.length by omega)
    have hgx : goodF n v p ↔ (p = 0 ∨ ((p = 1 ∨ p = 2) ∧ 0 ≤ x.1)) := by unfold goodF; rw [getD_of hx]; exact ⟨fun h => h.2.2, fun h2 => ⟨h.1, h.2, h2⟩⟩
    rw [dec_congr hgx]
    by_cases p0 : p = 0
    · rw [dec_true (.inl p0)]
      refine Spec.of _ Tryd.func38 rfl Tryd.ntmps38 (by kernel_rfl) rfl ?_
      repeat' (first
        | (apply WL.box; exact rfl; exact rfl; exact rfl; intro gb w' hb hge hc hx; have hcc := hc; (first | (obtain ⟨h1, h2, h3, _⟩ := hc) | (obtain ⟨h1, h2, _⟩ := hc)))
        | (apply WL.gT; exact rfl; exact rfl; (focus (first | exact dec_true (by omega) | exact dec_false (by omega); done)))
        | (show WL _ _ _ _ _ _ _; first | apply WL.nil | (refine WL.au (k := ?_)) | (apply WL.guardF; exact rfl; exact rfl))
        | (show Z _ _ _ _ _; apply Z.then_normal)
        | (show W _ _ _ _ _ _; first | apply W.seq | apply W.region | apply W.ret)
        | fail)
      all_goals exact Z.body1 Tryd.results38 rfl fun m => ⟨rfl, Ext.at (by (exact extA)) m⟩
    by_cases p12 : p = 1 ∨ p = 2
    · by_cases x0 : 0 ≤ x.1
      · rw [dec_true (.inr ⟨p12, x0⟩)]
        rcases p12 with p1 | p1
        all_goals (
          refine Spec.of _ Tryd.func38 rfl Tryd.ntmps38 (by kernel_rfl) rfl ?_
          repeat' (first
            | (apply WL.box; exact rfl; exact rfl; exact rfl; intro gb w' hb hge hc hx; have hcc := hc; (first | (obtain ⟨h1, h2, h3, _⟩ := hc) | (obtain ⟨h1, h2, _⟩ := hc)))
            | (apply WL.gT; exact rfl; exact rfl; (focus (first | exact dec_true (by omega) | exact dec_false (by omega); done)))
            | (apply WL.gF; exact rfl; exact rfl; (focus (first | exact dec_true (by omega) | exact dec_false (by omega); done)))
            | (show WL _ _ _ _ _ _ _; first | apply WL.nil | (refine WL.au (k := ?_)) | (apply WL.index tOk; exact rfl; exact rfl; exact rfl; exact rfl; exact rfl; exact rfl; exact rfl; exact rfl; assumption; (exact extA); exact rfl; omega; assumption; intro b off h; have hcc := h; first | (obtain ⟨h1, h2, h3, h4, h5, h6, _⟩ := h) | (obtain ⟨h1, h2, h3, _⟩ := h) | (obtain ⟨h1, h2, _⟩ := h) | (obtain ⟨h1, _⟩ := h)) | (apply WL.guardF; exact rfl; exact rfl))
            | (show Z _ _ _ _ _; apply Z.then_normal)
            | (show W _ _ _ _ _ _; first | apply W.seq | apply W.region | apply W.ret)
            | fail)
          all_goals exact Z.body1 Tryd.results38 rfl fun m => ⟨by first | rfl | exact congrArg Value.bool (dec_true x0), Ext.at (by (exact extA)) m⟩)
      · rw [dec_false (fun h2 => h2.elim p0 (fun h3 => x0 h3.2))]
        rcases p12 with p1 | p1
        all_goals (
          refine Spec.of _ Tryd.func38 rfl Tryd.ntmps38 (by kernel_rfl) rfl ?_
          repeat' (first
            | (apply WL.box; exact rfl; exact rfl; exact rfl; intro gb w' hb hge hc hx; have hcc := hc; (first | (obtain ⟨h1, h2, h3, _⟩ := hc) | (obtain ⟨h1, h2, _⟩ := hc)))
            | (apply WL.gT; exact rfl; exact rfl; (focus (first | exact dec_true (by omega) | exact dec_false (by omega); done)))
            | (apply WL.gF; exact rfl; exact rfl; (focus (first | exact dec_true (by omega) | exact dec_false (by omega); done)))
            | (show WL _ _ _ _ _ _ _; first | apply WL.nil | (refine WL.au (k := ?_)) | (apply WL.index tOk; exact rfl; exact rfl; exact rfl; exact rfl; exact rfl; exact rfl; exact rfl; exact rfl; assumption; (exact extA); exact rfl; omega; assumption; intro b off h; have hcc := h; first | (obtain ⟨h1, h2, h3, h4, h5, h6, _⟩ := h) | (obtain ⟨h1, h2, h3, _⟩ := h) | (obtain ⟨h1, h2, _⟩ := h) | (obtain ⟨h1, _⟩ := h)) | (apply WL.guardF; exact rfl; exact rfl))
            | (show Z _ _ _ _ _; apply Z.then_normal)
            | (show W _ _ _ _ _ _; first | apply W.seq | apply W.region | apply W.ret)
            | fail)
          all_goals exact Z.body1 Tryd.results38 rfl fun m => ⟨by first | rfl | exact congrArg Value.bool (dec_false x0), Ext.at (by (exact extA)) m⟩)
    · rw [dec_false (fun h2 => h2.elim p0 (fun h3 => p12 h3.1))]
      by_cases pb : p < 0
      all_goals (
        refine Spec.of _ Tryd.func38 rfl Tryd.ntmps38 (by kernel_rfl) rfl ?_
        repeat' (first
          | (apply WL.box; exact rfl; exact rfl; exact rfl; intro gb w' hb hge hc hx; have hcc := hc; (first | (obtain ⟨h1, h2, h3, _⟩ := hc) | (obtain ⟨h1, h2, _⟩ := hc)))
          | (apply WL.gT; exact rfl; exact rfl; (focus (first | exact dec_true (by omega) | exact dec_false (by omega); done)))
          | (apply WL.gF; exact rfl; exact rfl; (focus (first | exact dec_true (by omega) | exact dec_false (by omega); done)))
          | (show WL _ _ _ _ _ _ _; first | apply WL.nil | (refine WL.au (k := ?_)) | (apply WL.guardF; exact rfl; exact rfl))
          | (show Z _ _ _ _ _; apply Z.then_normal)
          | (show W _ _ _ _ _ _; first | apply W.seq | apply W.region | apply W.ret)
          | fail)
        all_goals exact Z.body1 Tryd.results38 rfl fun m => ⟨rfl, Ext.at (by (exact extA)) m⟩)
  · rw [dec_false (fun h2 => h ⟨h2.1, h2.2.1⟩)]
    by_cases hv1 : 0 < v
    all_goals (
      refine Spec.of _ Tryd.func38 rfl Tryd.ntmps38 (by kernel_rfl) rfl ?_
      repeat' (first
        | (apply WL.box; exact rfl; exact rfl; exact rfl; intro gb w' hb hge hc hx; have hcc := hc; (first | (obtain ⟨h1, h2, h3, _⟩ := hc) | (obtain ⟨h1, h2, _⟩ := hc)))
        | (apply WL.gT; exact rfl; exact rfl; (focus (first | exact dec_true (by omega) | exact dec_false (by omega); done)))
        | (apply WL.gF; exact rfl; exact rfl; (focus (first | exact dec_true (by omega) | exact dec_false (by omega); done)))
        | (show WL _ _ _ _ _ _ _; first | apply WL.nil | (refine WL.au (k := ?_)) | (apply WL.guardF; exact rfl; exact rfl))
        | (show Z _ _ _ _ _; apply Z.then_normal)
        | (show W _ _ _ _ _ _; first | apply W.seq | apply W.region | apply W.ret)
        | fail)
      all_goals exact Z.body1 Tryd.results38 rfl fun m => ⟨rfl, Ext.at (by (exact extA)) m⟩)
set_option maxHeartbeats 4000000 in
set_option maxRecDepth 10000 in
theorem fault_Good (a : Option Addr) (cap : Nat) (n : List (Int × Int)) (v p : Int) (o : Bool) (w : World) (R : Row 2 encN w a n) (hv : inI64 v) : Pure Tryd.prog 43 [.slice a n.length cap, fv v p o] w (.bool (dec (goodF n v p))) := by
  have hlen := R.len
  have hv' : v ≤ 9223372036854775807 := hv.2
  by_cases h : 0 < v ∧ v ≤ n.length
  · obtain ⟨x, hx⟩ := getI n (show (v - 1).toNat < n.length by omega)
    have hgx : goodF n v p ↔ (p = 0 ∨ ((p = 1 ∨ p = 2) ∧ 0 ≤ x.1)) := by unfold goodF; rw [getD_of hx]; exact ⟨fun h => h.2.2, fun h2 => ⟨h.1, h.2, h2⟩⟩
    rw [dec_congr hgx]
    by_cases p0 : p = 0
    · rw [dec_true (.inl p0)]
      refine Spec.of _ Tryd.func43 rfl Tryd.ntmps43 (by kernel_rfl) rfl ?_
      repeat' (first
        | (apply WL.box; exact rfl; exact rfl; exact rfl; intro gb w' hb hge hc hx; have hcc := hc; (first | (obtain ⟨h1, h2, h3, _⟩ := hc) | (obtain ⟨h1, h2, _⟩ := hc)))
        | (apply WL.gT; exact rfl; exact rfl; (focus (first | exact dec_true (by omega) | exact dec_false (by omega); done)))
        | (apply WL.gF; exact rfl; exact rfl; (focus (first | exact dec_true (by omega) | exact dec_false (by omega); done)))
        | (apply W.condKF; exact rfl; (focus (first | exact dec_true (by omega) | exact dec_false (by omega); done)))
        | (show WL _ _ _ _ _ _ _; first | apply WL.nil | (refine WL.au (k := ?_)) | (apply WL.guardF; exact rfl; exact rfl))
        | (show Z _ _ _ _ _; apply Z.then_normal)
        | (show W _ _ _ _ _ _; first | apply W.seq | apply W.region | apply W.skip | apply W.ret)
        | fail)
      all_goals exact Z.body1 Tryd.results43 rfl fun m => ⟨rfl, Ext.at (by (exact extA)) m⟩
    by_cases p12 : p = 1 ∨ p = 2
    · by_cases x0 : 0 ≤ x.1
      · rw [dec_true (.inr ⟨p12, x0⟩)]
        rcases p12 with p1 | p1
        all_goals (
          refine Spec.of _ Tryd.func43 rfl Tryd.ntmps43 (by kernel_rfl) rfl ?_
          repeat' (first
            | (apply WL.box; exact rfl; exact rfl; exact rfl; intro gb w' hb hge hc hx; have hcc := hc; (first | (obtain ⟨h1, h2, h3, _⟩ := hc) | (obtain ⟨h1, h2, _⟩ := hc)))
            | (apply WL.gF; exact rfl; exact rfl; (focus (first | exact dec_true (by omega) | exact dec_false (by omega); done)))
            | (apply W.condKF; exact rfl; (focus (first | exact dec_true (by omega) | exact dec_false (by omega); done)))
            | (show WL _ _ _ _ _ _ _; first | apply WL.nil | (refine WL.au (k := ?_)) | (apply WL.index tOk; exact rfl; exact rfl; exact rfl; exact rfl; exact rfl; exact rfl; exact rfl; exact rfl; assumption; (exact extA); exact rfl; omega; assumption; intro b off h; have hcc := h; first | (obtain ⟨h1, h2, h3, h4, h5, h6, _⟩ := h) | (obtain ⟨h1, h2, h3, _⟩ := h) | (obtain ⟨h1, h2, _⟩ := h) | (obtain ⟨h1, _⟩ := h)))
            | (show Z _ _ _ _ _; apply Z.then_normal)
            | (show W _ _ _ _ _ _; first | apply W.seq | apply W.region | apply W.skip | apply W.ret)
            | fail)
          all_goals exact Z.body1 Tryd.results43 rfl fun m => ⟨by first | rfl | exact congrArg Value.bool (dec_true x0), Ext.at (by (exact extA)) m⟩)
      · rw [dec_false (fun h2 => h2.elim p0 (fun h3 => x0 h3.2))]
        rcases p12 with p1 | p1
        all_goals (
          refine Spec.of _ Tryd.func43 rfl Tryd.ntmps43 (by kernel_rfl) rfl ?_
          repeat' (first
            | (apply WL.box; exact rfl; exact rfl; exact rfl; intro gb w' hb hge hc hx; have hcc := hc; (first | (obtain ⟨h1, h2, h3, _⟩ := hc) | (obtain ⟨h1, h2, _⟩ := hc)))
            | (apply WL.gF; exact rfl; exact rfl; (focus (first | exact dec_true (by omega) | exact dec_false (by omega); done)))
            | (apply W.condKF; exact rfl; (focus (first | exact dec_true (by omega) | exact dec_false (by omega); done)))
            | (show WL _ _ _ _ _ _ _; first | apply WL.nil | (refine WL.au (k := ?_)) | (apply WL.index tOk; exact rfl; exact rfl; exact rfl; exact rfl; exact rfl; exact rfl; exact rfl; exact rfl; assumption; (exact extA); exact rfl; omega; assumption; intro b off h; have hcc := h; first | (obtain ⟨h1, h2, h3, h4, h5, h6, _⟩ := h) | (obtain ⟨h1, h2, h3, _⟩ := h) | (obtain ⟨h1, h2, _⟩ := h) | (obtain ⟨h1, _⟩ := h)))
            | (show Z _ _ _ _ _; apply Z.then_normal)
            | (show W _ _ _ _ _ _; first | apply W.seq | apply W.region | apply W.skip | apply W.ret)
            | fail)
          all_goals exact Z.body1 Tryd.results43 rfl fun m => ⟨by first | rfl | exact congrArg Value.bool (dec_false x0), Ext.at (by (exact extA)) m⟩)
    · rw [dec_false (fun h2 => h2.elim p0 (fun h3 => p12 h3.1))]
      by_cases pb : p < 0
      all_goals (
        refine Spec.of _ Tryd.func43 rfl Tryd.ntmps43 (by kernel_rfl) rfl ?_
        repeat' (first
          | (apply WL.box; exact rfl; exact rfl; exact rfl; intro gb w' hb hge hc hx; have hcc := hc; (first | (obtain ⟨h1, h2, h3, _⟩ := hc) | (obtain ⟨h1, h2, _⟩ := hc)))
          | (apply WL.gT; exact rfl; exact rfl; (focus (first | exact dec_true (by omega) | exact dec_false (by omega); done)))
          | (apply WL.gF; exact rfl; exact rfl; (focus (first | exact dec_true (by omega) | exact dec_false (by omega); done)))
          | (apply W.condKT; exact rfl; (focus (first | exact dec_true (by omega) | exact dec_false (by omega); done)))
          | (show WL _ _ _ _ _ _ _; first | apply WL.nil | (refine WL.au (k := ?_)) | (apply WL.guardF; exact rfl; exact rfl))
          | (show Z _ _ _ _ _; first | apply Z.then_normal | apply Z.then_ret)
          | (show W _ _ _ _ _ _; first | apply W.seq | apply W.region | apply W.ret | (apply W.condT; exact rfl))
          | fail)
        all_goals exact Z.body1 Tryd.results43 rfl fun m => ⟨rfl, Ext.at (by (exact extA)) m⟩)
  · rw [dec_false (fun h2 => h ⟨h2.1, h2.2.1⟩)]
    by_cases hv1 : 0 < v
    all_goals (
      refine Spec.of _ Tryd.func43 rfl Tryd.ntmps43 (by kernel_rfl) rfl ?_
      repeat' (first
        | (apply WL.box; exact rfl; exact rfl; exact rfl; intro gb w' hb hge hc hx; have hcc := hc; (first | (obtain ⟨h1, h2, h3, _⟩ := hc) | (obtain ⟨h1, h2, _⟩ := hc)))
        | (apply WL.gT; exact rfl; exact rfl; (focus (first | exact dec_true (by omega) | exact dec_false (by omega); done)))
        | (apply WL.gF; exact rfl; exact rfl; (focus (first | exact dec_true (by omega) | exact dec_false (by omega); done)))
        | (show WL _ _ _ _ _ _ _; first | apply WL.nil | (refine WL.au (k := ?_)) | (apply WL.guardF; exact rfl; exact rfl))
        | (show Z _ _ _ _ _; first | apply Z.then_normal | apply Z.then_ret)
        | (show W _ _ _ _ _ _; first | apply W.seq | apply W.region | apply W.ret | (apply W.condT; exact rfl))
        | fail)
      all_goals exact Z.body1 Tryd.results43 rfl fun m => ⟨rfl, Ext.at (by (exact extA)) m⟩)


/-- All literals are of variables of the net. -/
def KnownP (n : List (Int × Int)) (l : List Int) : Prop := ∀ x ∈ l, 0 ≤ x ∧ x ≤ 2 * (n.length : Int) + 1
theorem ref22_Known (a al : Option Addr) (cap cl : Nat) (n : List (Int × Int)) (l : List Int) (w : World) (Rl : Row 1 encI w al l) (hn : n.length ≤ 1048576) : Still Tryd.prog 26 [.slice a n.length cap, .slice al l.length cl] w (.bool (dec (KnownP n l))) := by
  have hlen := Rl.len
  refine Spec.of _ Tryd.func26 rfl Tryd.ntmps26 (by kernel_rfl) rfl ?_
  repeat' (first
    | (show WL _ _ _ _ _ _ _; first | apply WL.nil | (refine WL.au (k := ?_)))
    | (show Z _ _ _ _ _; apply Z.then_normal)
    | (show W _ _ _ _ _ _; first | apply W.seq | apply W.region | apply W.block)
    | fail)
  refine W.loop1 l.length (fun k => k ≤ l.length ∧ KnownP n (l.take k)) (fun k => [(0, .slice a n.length cap), (1, .slice al l.length cl), (5, .int .i64 k)]) ⟨by omega, fun x h => by simp at h⟩ (fun k h => h.1) ⟨rfl, rfl, rfl, trivial⟩ ?_
  rintro k ⟨hk, hK⟩
  by_cases hlt : k < l.length
  · obtain ⟨z, hz⟩ := getI l hlt
    by_cases hzz : 0 ≤ z ∧ z ≤ 2 * (n.length : Int) + 1
    · repeat' (first
        | (apply WL.gF; exact rfl; exact rfl; (focus (first | exact dec_true (by omega) | exact dec_false (by omega); done)))
        | (apply W.condKT; exact rfl; (focus (first | exact dec_true (by omega) | exact dec_false (by omega); done)))
        | (apply W.condKF; exact rfl; (focus (first | exact dec_true (by omega) | exact dec_false (by omega); done)))
        | (show WL _ _ _ _ _ _ _; first | apply WL.nil | (refine WL.au (k := ?_)) | (apply WL.index tOk; exact rfl; exact rfl; exact rfl; exact rfl; exact rfl; exact rfl; exact rfl; exact rfl; assumption; (exact extA); exact rfl; omega; assumption; intro b off h; have hcc := h; first | (obtain ⟨h1, h2, h3, h4, h5, h6, _⟩ := h) | (obtain ⟨h1, h2, h3, _⟩ := h) | (obtain ⟨h1, h2, _⟩ := h) | (obtain ⟨h1, _⟩ := h)))
        | (show Z _ _ _ _ _; first | apply Z.then_normal | apply Z.block_normal)
        | (show W _ _ _ _ _ _; first | apply W.seq | apply W.region | apply W.block | apply W.skip)
        | fail)
      exact Z.again1 ⟨by omega, fun x hx => by
        rw [take_succ' hz] at hx
        rcases List.mem_append.1 hx with h1 | h1
        · exact hK x h1
        · obtain rfl := List.mem_singleton.1 h1; exact hzz⟩ ⟨rfl, rfl, rfl, trivial⟩
    · repeat' (first
        | (apply W.condKT; exact rfl; (focus (exact dec_true (by omega); done)))
        | (show WL _ _ _ _ _ _ _; first | apply WL.nil | (refine WL.au (k := ?_)) | (apply WL.index tOk; exact rfl; exact rfl; exact rfl; exact rfl; exact rfl; exact rfl; exact rfl; exact rfl; assumption; (exact extA); exact rfl; omega; assumption; intro b off h; have hcc := h; first | (obtain ⟨h1, h2, h3, h4, h5, h6, _⟩ := h) | (obtain ⟨h1, h2, h3, _⟩ := h) | (obtain ⟨h1, h2, _⟩ := h) | (obtain ⟨h1, _⟩ := h)) | (apply WL.guardF; exact rfl; exact rfl) | (apply WL.gD; exact rfl; exact rfl; all_goals intro _))
        | (show Z _ _ _ _ _; first | apply Z.then_normal | apply Z.then_ret | apply Z.block_ret)
        | (show W _ _ _ _ _ _; first | apply W.seq | apply W.region | apply W.block | apply W.skip | apply W.ret | (apply W.condT; exact rfl))
        | fail)
      all_goals first
        | (exfalso; omega)
        | exact Z.body1 Tryd.results26 rfl fun m => ⟨congrArg Value.bool (dec_false (fun h => hzz (h z (List.mem_of_getElem? hz)))).symm, m, rfl⟩
  · obtain rfl : k = l.length := by omega
    rw [List.take_length] at hK
    repeat' (first
      | (apply W.condKF; exact rfl; (focus (exact dec_false (by omega); done)))
      | (show WL _ _ _ _ _ _ _; first | apply WL.nil | (refine WL.au (k := ?_)))
      | (show Z _ _ _ _ _; first | apply Z.then_normal | apply Z.then_exit | apply Z.block_exit)
      | (show W _ _ _ _ _ _; first | apply W.seq | apply W.region | apply W.ret | apply W.exit)
      | fail)
    exact Z.body1 Tryd.results26 rfl fun m => ⟨congrArg Value.bool (dec_true hK).symm, m, rfl⟩
theorem law44_Small (a al : Option Addr) (cap cl : Nat) (n : List (Int × Int)) (l : List Int) (most : Int) (w : World) (R : Row 2 encN w a n) (Rl : Row 1 encI w al l) (hm : most ≤ 1048576) :
    Still Tryd.prog 12 [.slice a n.length cap, .slice al l.length cl, .int .i64 most] w (.bool (dec (((n.length : Int) ≤ most ∧ GoodNet n) ∧ l.length ≤ 20 ∧ KnownP n l))) := by
  have hgo : ∀ {b : Bool}, b = dec (((n.length : Int) ≤ most ∧ GoodNet n) ∧ l.length ≤ 20 ∧ KnownP n l) → Value.bool b = .bool (dec (((n.length : Int) ≤ most ∧ GoodNet n) ∧ l.length ≤ 20 ∧ KnownP n l)) := fun h => by rw [h]
  by_cases h1 : (n.length : Int) ≤ most ∧ GoodNet n
  · by_cases h2 : l.length ≤ 20
    · by_cases h3 : KnownP n l
      · refine Spec.of _ Tryd.func12 rfl Tryd.ntmps12 (by kernel_rfl) rfl ?_
        repeat' (first
          | ((show WL _ _ _ (⟨_, .call ⟨.value (.func 25), _, _⟩, _, _, _, _⟩ :: _) _ _ _); apply WL.callS; exact rfl; exact rfl; exact rfl; exact rfl; exact law07_Small _ _ n most _ R hm)
          | ((show WL _ _ _ (⟨_, .call ⟨.value (.func 26), _, _⟩, _, _, _, _⟩ :: _) _ _ _); apply WL.callS; exact rfl; exact rfl; exact rfl; exact rfl; exact ref22_Known _ _ _ _ n l _ Rl (by omega))
          | (apply WL.gT; exact rfl; exact rfl; (focus (first | exact dec_true h1 | exact dec_true h3 | exact dec_true (by omega); done)))
          | (show WL _ _ _ _ _ _ _; first | apply WL.nil | (refine WL.au (k := ?_)))
          | (show Z _ _ _ _ _; apply Z.then_normal)
          | (show W _ _ _ _ _ _; first | apply W.seq | apply W.region | apply W.ret)
          | fail)
        exact Z.body1 Tryd.results12 rfl fun m => ⟨hgo (by first | exact (dec_true ⟨h1, h2, h3⟩).symm | exact (dec_true h3).trans (dec_true ⟨h1, h2, h3⟩).symm), m, rfl⟩
      · refine Spec.of _ Tryd.func12 rfl Tryd.ntmps12 (by kernel_rfl) rfl ?_
        repeat' (first
          | ((show WL _ _ _ (⟨_, .call ⟨.value (.func 25), _, _⟩, _, _, _, _⟩ :: _) _ _ _); apply WL.callS; exact rfl; exact rfl; exact rfl; exact rfl; exact law07_Small _ _ n most _ R hm)
          | ((show WL _ _ _ (⟨_, .call ⟨.value (.func 26), _, _⟩, _, _, _, _⟩ :: _) _ _ _); apply WL.callS; exact rfl; exact rfl; exact rfl; exact rfl; exact ref22_Known _ _ _ _ n l _ Rl (by omega))
          | (apply WL.gT; exact rfl; exact rfl; (focus (first | exact dec_true h1 | exact dec_false h3 | exact dec_true (by omega); done)))
          | (show WL _ _ _ _ _ _ _; first | apply WL.nil | (refine WL.au (k := ?_)))
          | (show Z _ _ _ _ _; apply Z.then_normal)
          | (show W _ _ _ _ _ _; first | apply W.seq | apply W.region | apply W.ret)
          | fail)
        exact Z.body1 Tryd.results12 rfl fun m => ⟨hgo (by first | exact (dec_false (fun h => h3 h.2.2)).symm | exact (dec_false h3).trans (dec_false (fun h => h3 h.2.2)).symm), m, rfl⟩
    · refine Spec.of _ Tryd.func12 rfl Tryd.ntmps12 (by kernel_rfl) rfl ?_
      repeat' (first
        | ((show WL _ _ _ (⟨_, .call ⟨.value (.func 25), _, _⟩, _, _, _, _⟩ :: _) _ _ _); apply WL.callS; exact rfl; exact rfl; exact rfl; exact rfl; exact law07_Small _ _ n most _ R hm)
        | (apply WL.gT; exact rfl; exact rfl; (focus (first | exact dec_true h1 | exact dec_false (by omega); done)))
        | (apply WL.gF; exact rfl; exact rfl; (focus (first | exact dec_true h1 | exact dec_false (by omega); done)))
        | (show WL _ _ _ _ _ _ _; first | apply WL.nil | (refine WL.au (k := ?_)) | (apply WL.guardF; exact rfl; exact rfl))
        | (show Z _ _ _ _ _; apply Z.then_normal)
        | (show W _ _ _ _ _ _; first | apply W.seq | apply W.region | apply W.ret)
        | fail)
      exact Z.body1 Tryd.results12 rfl fun m => ⟨congrArg Value.bool (dec_false (fun h => h2 h.2.1)).symm, m, rfl⟩
  · refine Spec.of _ Tryd.func12 rfl Tryd.ntmps12 (by kernel_rfl) rfl ?_
    repeat' (first
      | ((show WL _ _ _ (⟨_, .call ⟨.value (.func 25), _, _⟩, _, _, _, _⟩ :: _) _ _ _); apply WL.callS; exact rfl; exact rfl; exact rfl; exact rfl; exact law07_Small _ _ n most _ R hm)
      | (apply WL.gF; exact rfl; exact rfl; (focus (first | exact dec_false h1; done)))
      | (show WL _ _ _ _ _ _ _; first | apply WL.nil | (refine WL.au (k := ?_)) | (apply WL.guardF; exact rfl; exact rfl))
      | (show Z _ _ _ _ _; apply Z.then_normal)
      | (show W _ _ _ _ _ _; first | apply W.seq | apply W.region | apply W.ret)
      | fail)
    exact Z.body1 Tryd.results12 rfl fun m => ⟨congrArg Value.bool (dec_false (fun h => h1 h.1)).symm, m, rfl⟩
end Go.Proofs.YtlcenenkloicjaaDoor
namespace Go.Proofs.YtlcenenkloicjaaDoor
open Go Go.Lt Go.RowKit
set_option linter.unusedVariables false
set_option linter.unusedSimpArgs false
set_option maxRecDepth 20000

theorem bit_and (u : BitVec 64) (n : Nat) : dec ((((u >>> n) &&& BitVec.ofInt 64 1).toNat : Int) = 1) = u.getLsbD n := by
  have h : ((u >>> n) &&& BitVec.ofInt 64 1).toNat = (u >>> n).toNat % 2 := by
    rw [BitVec.toNat_and, show (BitVec.ofInt 64 1).toNat = 1 from rfl, Nat.and_one_is_mod]
  rw [h, dec_decide]
  rw [show u.getLsbD n = (u >>> n).getLsbD 0 by simp, BitVec.getLsbD, Nat.testBit_zero]
  congr 1
  simp only [eq_iff_iff]; omega
abbrev W2 (a b : BitVec 64) : Value := .agg #[u64 a, u64 b]
end Go.Proofs.YtlcenenkloicjaaDoor
namespace Go.Proofs.YtlcenenkloicjaaDoor
open Go Go.Lt Go.RowKit
set_option linter.unusedVariables false
set_option linter.unusedSimpArgs false
set_option maxRecDepth 20000

def wordOf (v : List (BitVec 64)) (l : Int) : BitVec 64 :=
  if l < 0 ∨ (v.length ≤ l / 2 ∧ 0 < l / 2) then 0#64
  else if l % 2 = 1 then ~~~ (if 0 < l / 2 then v.getD (l / 2).toNat 0#64 else 0#64) else (if 0 < l / 2 then v.getD (l / 2).toNat 0#64 else 0#64)
theorem sim_Word (a : Option Addr) (cap : Nat) (v : List (BitVec 64)) (l : Int) (w : World) (R : Row 1 encV w a v) (hl : inI64 l) : Still Tryd.prog 46 [.slice a v.length cap, .int .i64 l] w (u64 (wordOf v l)) := by
  unfold inI64 at hl
  have hlen := R.len
  by_cases h0 : l < 0
  · refine Spec.of _ Tryd.func46 rfl Tryd.ntmps46 (by kernel_rfl) rfl ?_
    repeat' (first
      | (apply WL.gT; exact rfl; exact rfl; (focus (first | exact dec_true (by omega) | exact dec_false (by omega); done)))
      | (apply WL.quow; exact rfl; exact rfl; exact rfl; exact rfl; unfold inI64; omega)
      | (show WL _ _ _ _ _ _ _; first | apply WL.nil | (refine WL.au (k := ?_)) | (apply WL.guardF; exact rfl; exact rfl))
      | (show Z _ _ _ _ _; first | apply Z.then_normal | apply Z.then_ret | apply Z.block_ret)
      | (show W _ _ _ _ _ _; first | apply W.seq | apply W.region | apply W.block | apply W.ret | (apply W.condT; exact rfl))
      | fail)
    all_goals (refine Z.body1 Tryd.results46 rfl fun m => ⟨?_, m, rfl⟩; rw [wordOf, if_pos (.inl h0)]; rfl)
  by_cases h1 : v.length ≤ l / 2 ∧ 0 < l / 2
  · refine Spec.of _ Tryd.func46 rfl Tryd.ntmps46 (by kernel_rfl) rfl ?_
    repeat' (first
      | (apply WL.gT; exact rfl; exact rfl; (focus (first | exact dec_true (by omega) | exact dec_false (by omega); done)))
      | (apply WL.gF; exact rfl; exact rfl; (focus (first | exact dec_true (by omega) | exact dec_false (by omega); done)))
      | (apply W.condKT; exact rfl; (focus (first | exact dec_true (by omega) | exact dec_false (by omega); done)))
      | (show WL _ _ _ _ _ _ _; first | apply WL.nil | (refine WL.au (k := ?_)))
      | (show Z _ _ _ _ _; first | apply Z.then_normal | apply Z.then_ret | apply Z.block_ret)
      | (show W _ _ _ _ _ _; first | apply W.seq | apply W.region | apply W.block | apply W.ret)
      | fail)
    exact Z.body1 Tryd.results46 rfl fun m => ⟨by rw [wordOf, if_pos (.inr h1)]; rfl, m, rfl⟩
  by_cases h2 : 0 < l / 2
  · obtain ⟨z, hz⟩ := getI v (show (l / 2).toNat < v.length by omega)
    refine Spec.of _ Tryd.func46 rfl Tryd.ntmps46 (by kernel_rfl) rfl ?_
    repeat' (first
      | (apply WL.gF; exact rfl; exact rfl; (focus (first | exact dec_true (by omega) | exact dec_false (by omega); done)))
      | (apply W.condKT; exact rfl; (focus (first | exact dec_true (by omega) | exact dec_false (by omega); done)))
      | (apply WL.unot; exact rfl; exact rfl; exact rfl; (first | exact rfl | exact u64_lit _ (by omega)))
      | (apply WL.and1; exact rfl; exact rfl; exact rfl; exact rfl; omega)
      | (show WL _ _ _ _ _ _ _; first | apply WL.nil | (refine WL.au (k := ?_)) | (apply WL.index tOk; exact rfl; exact rfl; exact rfl; exact rfl; exact rfl; exact rfl; exact rfl; exact rfl; assumption; (exact extA); exact rfl; omega; assumption; intro b off h; have hcc := h; first | (obtain ⟨h1, h2, h3, h4, h5, h6, _⟩ := h) | (obtain ⟨h1, h2, h3, _⟩ := h) | (obtain ⟨h1, h2, _⟩ := h) | (obtain ⟨h1, _⟩ := h)) | (apply WL.guardF; exact rfl; exact rfl))
      | (show Z _ _ _ _ _; first | apply Z.then_normal | apply Z.block_normal | apply Z.then_ret)
      | (show W _ _ _ _ _ _; first | apply W.seq | apply W.region | apply W.block | apply W.skip | apply W.ret | (apply W.condF; exact rfl) | (apply W.condD; exact rfl; all_goals intro _))
      | fail)
    all_goals (refine Z.body1 Tryd.results46 rfl fun m => ⟨?_, m, rfl⟩; rw [wordOf, if_neg (by omega)]; (first | rw [if_pos (by assumption)] | rw [if_neg (by assumption)]); rw [if_pos h2, getD_of hz])
  · refine Spec.of _ Tryd.func46 rfl Tryd.ntmps46 (by kernel_rfl) rfl ?_
    repeat' (first
      | (apply WL.gF; exact rfl; exact rfl; (focus (first | exact dec_true (by omega) | exact dec_false (by omega); done)))
      | (apply W.condKF; exact rfl; (focus (first | exact dec_true (by omega) | exact dec_false (by omega); done)))
      | (apply WL.unot; exact rfl; exact rfl; exact rfl; (first | exact rfl | exact u64_lit _ (by omega)))
      | (apply WL.and1; exact rfl; exact rfl; exact rfl; exact rfl; omega)
      | (show WL _ _ _ _ _ _ _; first | apply WL.nil | (refine WL.au (k := ?_)) | (apply WL.guardF; exact rfl; exact rfl) | (apply WL.gD; exact rfl; exact rfl; all_goals intro _))
      | (show Z _ _ _ _ _; first | apply Z.then_normal | apply Z.block_normal | apply Z.then_ret)
      | (show W _ _ _ _ _ _; first | apply W.seq | apply W.region | apply W.block | apply W.skip | apply W.ret | (apply W.condF; exact rfl) | (apply W.condD; exact rfl; all_goals intro _))
      | fail)
    all_goals (refine Z.body1 Tryd.results46 rfl fun m => ⟨?_, m, rfl⟩; rw [wordOf, if_neg (by omega)]; (first | rw [if_pos (by assumption)] | rw [if_neg (by assumption)]); rw [if_neg h2]; rfl)

theorem map_snoc {α β : Type} (f : α → β) {l : List α} {k : Nat} {x : α} (h : l[k]? = some x) : (l.take (k + 1)).map f = (l.take k).map f ++ [f x] := by rw [take_succ' h]; simp
end Go.Proofs.YtlcenenkloicjaaDoor
namespace Go.Lt
open Go.RowKit
set_option linter.unusedVariables false
set_option linter.unusedSimpArgs false
section
variable {P : Program} {T : Tab} {N : Nat} {e : Env} {w : World} {Q : Exit → Act → World → Prop} {ops : List Oper} {l : List Oper}
  {tt t el : TypeId} {ps : String} {af : Array Edge} {g : Option (Nat × Bool)} {α : Type} {s : Nat} {enc : α → List Value} {B : Nat} {ei : TI}
theorem take_set_le {β : Type} (L : List β) (k M : Nat) (v : β) (h : k < M) : (L.set k v).take M = (L.take M).set k v := by
  apply List.ext_getElem?
  intro i
  simp only [List.getElem?_take, List.getElem?_set, List.length_take]
  split <;> split <;> (try split) <;> (try rfl) <;> (try omega) <;> simp_all <;> omega
theorem WL.storeOF {x y : Operand} {gb q i cap : Nat} {v u : Value} {xs : List α} {z z' : α} {wo w0 : World} (p r : List Value) (hT : OkTab P T) (hg : gate ops e g = some true)
    (hx : ev e x = some (.pointer (some ⟨gb, q, none⟩))) (hy : ev e y = some v) (ht : tget T t = some ei)
    (ho : Own s enc el B wo (some ⟨gb, 0, none⟩) cap xs) (hwo : Ext wo w) (hq : q = i * s + p.length) (hzo : enc z = p ++ u :: r) (hzn : enc z' = p ++ v :: r) (hv : v.cells.toList = [v]) (hs : ei.size = 1) (hE : Enc s enc) (hz : xs[i]? = some z) (hB : w0.heap.size = B) (hX : Ext w0 w)
    (k : ∀ w', Own s enc el B w' (some ⟨gb, 0, none⟩) cap (xs.set i z') → Ext w0 w' → Upd B (some ⟨gb, 0, none⟩) w w' → WL P N ops.toArray l e w' Q) :
    WL P N ops.toArray (⟨none, .store t x y, tt, ps, af, g⟩ :: l) e w Q := by
  subst hq
  have hi : i < xs.length := (List.getElem?_eq_some_iff.1 hz).1
  have ho' := ho.ext hwo
  have hO := ho'
  rcases ho'.2 with ⟨h1, _⟩ | ⟨g', c', cur, h1, h2, h3, h4, h5, h6, h7⟩
  · simp at h1
  simp only [Value.slice.injEq, Option.some.injEq, Addr.mk.injEq, and_true, true_and] at h1
  obtain ⟨rfl, rfl⟩ := h1
  have hps : p.length < s := by have := hE.len z; rw [hzo] at this; simp at this; omega
  have hvs : v.cells.size = 1 := by have := congrArg List.length hv; simpa using this
  have hle : i * s + s ≤ xs.length * s := by rw [← Nat.succ_mul]; exact Nat.mul_le_mul_right s hi
  have hle2 : xs.length * s ≤ cap * s := Nat.mul_le_mul_right s h4
  have hone : ∀ u ∈ v.cells.toList, u.oneCell' = true := fun u hu => hE.one z' u (by rw [hv] at hu; rw [hzn]; simp at hu; subst hu; simp)
  refine WL.effN (w' := fun m => (at' w m).setRow gb (cur.toList.take (i * s + p.length) ++ v.cells.toList ++ cur.toList.drop (i * s + p.length + v.cells.size)).toArray) hg ?_ (fun m => ?_)
  · intro ρ hρ m
    have hr := run_storeVar' (hT.at ht) gb (i * s + p.length) el cur (at' w m) v h3 (hvs.trans hs.symm) (by rw [hvs, h6]; omega) hone
    simp [execOp, hρ _ _ hx, hρ _ _ hy, Instr.storeAt, Instr.sureAddr, hr]
  · have hU : Upd B (some ⟨gb, 0, none⟩) w ((at' w m).setRow gb (cur.toList.take (i * s + p.length) ++ v.cells.toList ++ cur.toList.drop (i * s + p.length + v.cells.size)).toArray) :=
      ⟨⟨rfl, rfl, rfl, by simp [World.setRow], fun k hk hne => setRow_other (at' w m) gb k _ (fun hh => hne (by rw [hh]; rfl))⟩, fun k hk => (hO.blk_lt k hk).1⟩
    refine k _ ?_ (hU.ext hX (Nat.le_of_eq hB)) hU
    have h8 : cur.toList.length = cap * s := by simpa using h6
    have hcl : i * s + p.length < cur.toList.length := by omega
    have hset : cur.toList.take (i * s + p.length) ++ v.cells.toList ++ cur.toList.drop (i * s + p.length + v.cells.size) = cur.toList.set (i * s + p.length) v := by
      rw [hv, hvs, List.set_eq_take_append_cons_drop, if_pos hcl]; simp
    refine ⟨by rw [length_flatMap' hE.len], .inr ⟨gb, cap, _, rfl, h2, setRow_heap (at' w m) gb cur _ el _ h3, by simpa using h4, h5, ?_, ?_⟩⟩
    · rw [hset]; simp [h6]
    · simp only [List.length_set]
      rw [hset, take_set_le _ _ _ _ (by omega), h7]
      exact set_flatMap' hE.len xs i z z' hz p r u v hzo hzn
end
end Go.Lt
namespace Go.Proofs.YtlcenenkloicjaaDoor
open Go Go.Lt Go.RowKit
set_option linter.unusedVariables false
set_option linter.unusedSimpArgs false
set_option maxRecDepth 20000

/-- What Inject leaves. -/
abbrev AtInj (w : World) (n : List (Int × Int)) (outs : List Int) (v p : Int) (o : Bool) (x : Value) (w' : World) : Prop :=
  Ext w w' ∧ ∃ a c a2 c2, x = .tuple #[.slice a (injNet n v p o).length c, .slice a2 (outs.map (injL v p o)).length c2] ∧ Row 2 encN w' a (injNet n v p o) ∧ Row 1 encI w' a2 (outs.map (injL v p o))
noncomputable def injTo (n : List (Int × Int)) (v p : Int) (o : Bool) (k : Nat) : List (Int × Int) := tab k (fun u => injN v p o u (n.getD u (0, 0)))
theorem injTo_succ {n : List (Int × Int)} {v p : Int} {o : Bool} {k : Nat} {x : Int × Int} (h : n[k]? = some x) : injTo n v p o (k + 1) = injTo n v p o k ++ [injN v p o k x] := by
  rw [injTo, tab_succ, getD_of h]; rfl

set_option maxHeartbeats 8000000 in
set_option maxRecDepth 10000 in
theorem ref44_Inject (ra rb : Option Addr) (cap cb : Nat) (n : List (Int × Int)) (outs : List Int) (v p : Int) (o : Bool) (w : World) (R : Row 2 encN w ra n) (Rb : Row 1 encI w rb outs) (hg : GoodNet n) (hn : n.length ≤ 1048576) (ho : outs.length ≤ 1048576) (hf : goodF n v p) (hk : ∀ l ∈ outs, 0 ≤ l ∧ l ≤ 2 * (n.length : Int) + 1) :
    Lt.Spec Tryd.prog 47 [.slice ra n.length cap, .slice rb outs.length cb, fv v p o] w (AtInj w n outs v p o) := by
  have hlb := Rb.len
  have hv1 : 0 < v ∧ v ≤ n.length := ⟨hf.1, hf.2.1⟩
  have hp3 : p = 0 ∨ p = 1 ∨ p = 2 := by have := hf.2.2; omega
  refine Spec.of _ Tryd.func47 rfl Tryd.ntmps47 (by kernel_rfl) rfl ?_
  repeat' (first
    | (show W _ _ _ _ _ _; first | apply W.seq | apply W.region)
    | fail)
  apply WL.box; exact rfl; exact rfl; exact rfl; intro gb w' hb hge hc hx
  obtain ⟨g5, rfl⟩ : ∃ x, x = gb := ⟨_, rfl⟩; obtain ⟨wb, rfl⟩ : ∃ x, x = w' := ⟨_, rfl⟩
  obtain ⟨k1, k2, k3, _⟩ := id hc
  have hc5 : Cells wb g5 0 [.int .i64 v, .int .i64 p, .bool o] := hc
  have hXb : Ext w wb := hx
  have R1 := R.ext hXb
  have Rb1 := Rb.ext hXb
  have hS : Lt.Sep wb.heap.size wb [] := Sep.none'
  repeat' (first
    | ((show WL _ _ _ (⟨_, .buildSlice 32 _ _, _, _, _, _⟩ :: _) _ _ _); apply WL.lit (len := 0) tOk; exact rfl; exact rfl; exact rfl; exact rfl; exact rfl; exact rfl; (first | exact rfl | kernel_rfl | (simp [Instr.fill, catCells]; done)); exact rfl; intro gb w' hb hge hc hx; replace hS := Sep.newRow (Sep.ext hS (by (exact extA))) hx (Own.base (Own.of_block0 (enc := encN) (s := 2) hb hge) (Below.size ((by (exact extA)) : Ext wb _))) (fun k hk => by cases hk; exact hge) (Below.size ((by (exact extA)) : Ext wb _)); (try simp only [List.set_cons_zero, List.set_cons_succ] at hS); (try have hR0 := hS.row (i := 0) rfl); (try have hR1 := hS.row (i := 1) rfl); (try have hR2 := hS.row (i := 2) rfl); (try have hR3 := hS.row (i := 3) rfl); (try have hR4 := hS.row (i := 4) rfl); (try have hC0 := hS.cell (i := 0) rfl); (try have hD0 := (cells_heap hC0).1); (try have hE0 := (cells_heap hC0).2.1); (try have hF0 := (cells_heap hC0).2.2.1); (try have hG0 := (cells_heap hC0).2.2.2.1); (try have hC1 := hS.cell (i := 1) rfl); (try have hD1 := (cells_heap hC1).1); (try have hE1 := (cells_heap hC1).2.1); (try have hF1 := (cells_heap hC1).2.2.1); (try have hG1 := (cells_heap hC1).2.2.2.1); (try have hC2 := hS.cell (i := 2) rfl); (try have hD2 := (cells_heap hC2).1); (try have hE2 := (cells_heap hC2).2.1); (try have hF2 := (cells_heap hC2).2.2.1); (try have hG2 := (cells_heap hC2).2.2.2.1); (try have hC3 := hS.cell (i := 3) rfl); (try have hD3 := (cells_heap hC3).1); (try have hE3 := (cells_heap hC3).2.1); (try have hF3 := (cells_heap hC3).2.2.1); (try have hG3 := (cells_heap hC3).2.2.2.1); (try have hC4 := hS.cell (i := 4) rfl); (try have hD4 := (cells_heap hC4).1); (try have hE4 := (cells_heap hC4).2.1); (try have hF4 := (cells_heap hC4).2.2.1); (try have hG4 := (cells_heap hC4).2.2.2.1); (try have hM0 := hS.map (i := 0) rfl); (try have hM1 := hS.map (i := 1) rfl); (try have hM2 := hS.map (i := 2) rfl); (try have hM3 := hS.map (i := 3) rfl); (try have hM4 := hS.map (i := 4) rfl))
    | (show WL _ _ _ _ _ _ _; first | apply WL.nil | (refine WL.au (k := ?_)))
    | (show Z _ _ _ _ _; apply Z.then_normal)
    | (show W _ _ _ _ _ _; first | apply W.seq | apply W.region)
    | fail)
  obtain ⟨go, rfl⟩ : ∃ x, x = gb := ⟨_, rfl⟩
  repeat' (first
    | ((show WL _ _ _ (⟨_, .buildSlice 22 _ _, _, _, _, _⟩ :: _) _ _ _); apply WL.lit (len := 0) tOk; exact rfl; exact rfl; exact rfl; exact rfl; exact rfl; exact rfl; (first | exact rfl | kernel_rfl | (simp [Instr.fill, catCells]; done)); exact rfl; intro gb w' hb hge hc hx; replace hS := Sep.newRow (Sep.ext hS (by (exact extA))) hx (Own.base (Own.of_block0 (enc := encI) (s := 1) hb hge) (Below.size ((by (exact extA)) : Ext wb _))) (fun k hk => by cases hk; exact hge) (Below.size ((by (exact extA)) : Ext wb _)); (try simp only [List.set_cons_zero, List.set_cons_succ] at hS); (try have hR0 := hS.row (i := 0) rfl); (try have hR1 := hS.row (i := 1) rfl); (try have hR2 := hS.row (i := 2) rfl); (try have hR3 := hS.row (i := 3) rfl); (try have hR4 := hS.row (i := 4) rfl); (try have hC0 := hS.cell (i := 0) rfl); (try have hD0 := (cells_heap hC0).1); (try have hE0 := (cells_heap hC0).2.1); (try have hF0 := (cells_heap hC0).2.2.1); (try have hG0 := (cells_heap hC0).2.2.2.1); (try have hC1 := hS.cell (i := 1) rfl); (try have hD1 := (cells_heap hC1).1); (try have hE1 := (cells_heap hC1).2.1); (try have hF1 := (cells_heap hC1).2.2.1); (try have hG1 := (cells_heap hC1).2.2.2.1); (try have hC2 := hS.cell (i := 2) rfl); (try have hD2 := (cells_heap hC2).1); (try have hE2 := (cells_heap hC2).2.1); (try have hF2 := (cells_heap hC2).2.2.1); (try have hG2 := (cells_heap hC2).2.2.2.1); (try have hC3 := hS.cell (i := 3) rfl); (try have hD3 := (cells_heap hC3).1); (try have hE3 := (cells_heap hC3).2.1); (try have hF3 := (cells_heap hC3).2.2.1); (try have hG3 := (cells_heap hC3).2.2.2.1); (try have hC4 := hS.cell (i := 4) rfl); (try have hD4 := (cells_heap hC4).1); (try have hE4 := (cells_heap hC4).2.1); (try have hF4 := (cells_heap hC4).2.2.1); (try have hG4 := (cells_heap hC4).2.2.2.1); (try have hM0 := hS.map (i := 0) rfl); (try have hM1 := hS.map (i := 1) rfl); (try have hM2 := hS.map (i := 2) rfl); (try have hM3 := hS.map (i := 3) rfl); (try have hM4 := hS.map (i := 4) rfl))
    | (show WL _ _ _ _ _ _ _; first | apply WL.nil | (refine WL.au (k := ?_)))
    | (show Z _ _ _ _ _; apply Z.then_normal)
    | (show W _ _ _ _ _ _; first | apply W.seq | apply W.region)
    | fail)
  obtain ⟨gt, rfl⟩ : ∃ x, x = gb := ⟨_, rfl⟩
  have hX1 : Ext wb w' := (by (exact extA))
  obtain ⟨w1, rfl⟩ : ∃ x, x = w' := ⟨_, rfl⟩
  repeat' (first
    | ((show WL _ _ _ (⟨_, .call ⟨.value (.func 38), _, _⟩, _, _, _, _⟩ :: _) _ _ _); apply WL.callP; exact rfl; exact rfl; exact rfl; exact rfl; exact ref44_Good _ _ n v p o _ (R1.ext (by (exact extA))) ⟨by omega, by omega⟩; intro w' hx)
    | (show WL _ _ _ _ _ _ _; first | apply WL.nil | (refine WL.au (k := ?_)))
    | (show Z _ _ _ _ _; apply Z.then_normal)
    | (show W _ _ _ _ _ _; first | apply W.seq | apply W.region | apply W.block)
    | fail)
  have hxg : Ext w1 w' := (by (exact extA))
  refine W.loopO n.length (fun k c cp w' => k ≤ n.length ∧ Ext wb w' ∧ Sep wb.heap.size w' [prow 1 encI 3 wb.heap.size (some ⟨gt, 0, none⟩) 0 [], prow 2 encN 52 wb.heap.size c cp (injTo n v p o k)])
    (fun k c cp => [(0, .slice ra n.length cap), (1, .slice rb outs.length cb), (5, .pointer (some ⟨g5, 0, none⟩)), (8, .slice c (injTo n v p o k).length cp), (9, .slice (some ⟨gt, 0, none⟩) 0 0), (10, .bool (dec (goodF n v p))), (11, .int .i64 k)]) (some ⟨go, 0, none⟩) 0 ⟨by omega, hX1.trans hxg, hS.ext hxg⟩ (fun k c cp w' h => h.1) ⟨rfl, rfl, rfl, rfl, rfl, rfl, rfl, trivial⟩ ?_
  rintro k c cp w9 ⟨hkn, hX9, hS9⟩
  have R9 := R1.ext hX9
  have hsz : wb.heap.size ≤ w9.heap.size := Below.size hX9
  have hti : (injTo n v p o k).length = k := tab_len _ _
  by_cases hlt : k < n.length
  · obtain ⟨x, hxn⟩ := getI n hlt
    have e1 := injTo_succ (v := v) (p := p) (o := o) hxn
    have hS := hS9
    have hgx : 0 ≤ x.1 → x.1 ≤ 2 * (k : Int) + 1 ∧ 0 ≤ x.2 ∧ x.2 ≤ 2 * (k : Int) + 1 := fun h => hg.gate hxn h
    by_cases p0 : p = 0
    · by_cases hin : 0 ≤ x.1
      · have hgy := hgx hin
        have e2 : injN v p o k x = (stuckL v o x.1, stuckL v o x.2) := by rw [injN, if_pos p0, if_pos hin]
        rw [e2] at e1
        repeat' (first
          | (apply WL.gT; exact rfl; exact rfl; (focus (first | exact dec_true hf | exact dec_true (by omega) | exact dec_false (by omega); done)))
          | (apply WL.gF; exact rfl; exact rfl; (focus (first | exact dec_true hf | exact dec_true (by omega) | exact dec_false (by omega); done)))
          | (apply W.condKT; exact rfl; (focus (first | exact dec_true hf | exact dec_true (by omega) | exact dec_false (by omega); done)))
          | (apply W.condKF; exact rfl; (focus (first | exact dec_true hf | exact dec_true (by omega) | exact dec_false (by omega); done)))
          | (apply WL.alloc tOk; exact rfl; exact rfl; exact rfl; intro gb w' hb hge hx; replace hS := Sep.newCell (Sep.ext hS (by (exact extA))) hx hb hge (by (first | exact Nat.le_refl _ | exact Below.size (by (exact extA)))); (try simp only [List.set_cons_zero, List.set_cons_succ] at hS); (try have hR0 := hS.row (i := 0) rfl); (try have hR1 := hS.row (i := 1) rfl); (try have hR2 := hS.row (i := 2) rfl); (try have hR3 := hS.row (i := 3) rfl); (try have hR4 := hS.row (i := 4) rfl); (try have hC0 := hS.cell (i := 0) rfl); (try have hD0 := (cells_heap hC0).1); (try have hE0 := (cells_heap hC0).2.1); (try have hF0 := (cells_heap hC0).2.2.1); (try have hG0 := (cells_heap hC0).2.2.2.1); (try have hC1 := hS.cell (i := 1) rfl); (try have hD1 := (cells_heap hC1).1); (try have hE1 := (cells_heap hC1).2.1); (try have hF1 := (cells_heap hC1).2.2.1); (try have hG1 := (cells_heap hC1).2.2.2.1); (try have hC2 := hS.cell (i := 2) rfl); (try have hD2 := (cells_heap hC2).1); (try have hE2 := (cells_heap hC2).2.1); (try have hF2 := (cells_heap hC2).2.2.1); (try have hG2 := (cells_heap hC2).2.2.2.1); (try have hC3 := hS.cell (i := 3) rfl); (try have hD3 := (cells_heap hC3).1); (try have hE3 := (cells_heap hC3).2.1); (try have hF3 := (cells_heap hC3).2.2.1); (try have hG3 := (cells_heap hC3).2.2.2.1); (try have hC4 := hS.cell (i := 4) rfl); (try have hD4 := (cells_heap hC4).1); (try have hE4 := (cells_heap hC4).2.1); (try have hF4 := (cells_heap hC4).2.2.1); (try have hG4 := (cells_heap hC4).2.2.2.1); (try have hM0 := hS.map (i := 0) rfl); (try have hM1 := hS.map (i := 1) rfl); (try have hM2 := hS.map (i := 2) rfl); (try have hM3 := hS.map (i := 3) rfl); (try have hM4 := hS.map (i := 4) rfl))
          | (apply WL.storeB (w0 := wb) tOk; exact rfl; exact rfl; exact rfl; exact rfl; assumption; (exact extA); exact rfl; exact rfl; exact rfl; (exact extA); (first | assumption | omega | (focus (apply Nat.le_trans; rotate_left; assumption; exact Below.size (by (exact extA)); done))); intro w' hb hc hX' hU; have hcc := hc; obtain ⟨h1, h2, _⟩ := hc; (first | replace hS := Sep.updCell (i := 0) rfl hU hb hS (by (exact extA)) (by (first | exact Nat.le_refl _ | exact Below.size (by (exact extA)))) | replace hS := Sep.updCell (i := 1) rfl hU hb hS (by (exact extA)) (by (first | exact Nat.le_refl _ | exact Below.size (by (exact extA)))) | replace hS := Sep.updCell (i := 2) rfl hU hb hS (by (exact extA)) (by (first | exact Nat.le_refl _ | exact Below.size (by (exact extA)))) | replace hS := Sep.updCell (i := 3) rfl hU hb hS (by (exact extA)) (by (first | exact Nat.le_refl _ | exact Below.size (by (exact extA))))); (try simp only [List.set_cons_zero, List.set_cons_succ] at hS); (try have hR0 := hS.row (i := 0) rfl); (try have hR1 := hS.row (i := 1) rfl); (try have hR2 := hS.row (i := 2) rfl); (try have hR3 := hS.row (i := 3) rfl); (try have hR4 := hS.row (i := 4) rfl); (try have hC0 := hS.cell (i := 0) rfl); (try have hD0 := (cells_heap hC0).1); (try have hE0 := (cells_heap hC0).2.1); (try have hF0 := (cells_heap hC0).2.2.1); (try have hG0 := (cells_heap hC0).2.2.2.1); (try have hC1 := hS.cell (i := 1) rfl); (try have hD1 := (cells_heap hC1).1); (try have hE1 := (cells_heap hC1).2.1); (try have hF1 := (cells_heap hC1).2.2.1); (try have hG1 := (cells_heap hC1).2.2.2.1); (try have hC2 := hS.cell (i := 2) rfl); (try have hD2 := (cells_heap hC2).1); (try have hE2 := (cells_heap hC2).2.1); (try have hF2 := (cells_heap hC2).2.2.1); (try have hG2 := (cells_heap hC2).2.2.2.1); (try have hC3 := hS.cell (i := 3) rfl); (try have hD3 := (cells_heap hC3).1); (try have hE3 := (cells_heap hC3).2.1); (try have hF3 := (cells_heap hC3).2.2.1); (try have hG3 := (cells_heap hC3).2.2.2.1); (try have hC4 := hS.cell (i := 4) rfl); (try have hD4 := (cells_heap hC4).1); (try have hE4 := (cells_heap hC4).2.1); (try have hF4 := (cells_heap hC4).2.2.1); (try have hG4 := (cells_heap hC4).2.2.2.1); (try have hM0 := hS.map (i := 0) rfl); (try have hM1 := hS.map (i := 1) rfl); (try have hM2 := hS.map (i := 2) rfl); (try have hM3 := hS.map (i := 3) rfl); (try have hM4 := hS.map (i := 4) rfl))
          | (apply W.regionQX 9 tMix; kernel_rfl; exact rfl; kernel_rfl; kernel_rfl)
          | (apply QL.build tOk; exact rfl; exact rfl; exact rfl; exact rfl; exact rfl; exact rfl; exact rfl; kernel_rfl)
          | ((show QL _ _ _ _ (⟨_, .call ⟨.value (.func 52), _, _⟩, _, _, _, _⟩ :: _) _ _); apply QL.callP; exact rfl; exact rfl; exact rfl; exact rfl; exact (fun w9 h9 => ref44_stuck v p x.1 o _ (by omega)))
          | ((show QL _ _ _ _ (⟨_, .call ⟨.value (.func 52), _, _⟩, _, _, _, _⟩ :: _) _ _); apply QL.callP; exact rfl; exact rfl; exact rfl; exact rfl; exact (fun w9 h9 => ref44_stuck v p x.2 o _ (by omega)))
          | (apply WL.lit tOk; exact rfl; exact rfl; exact rfl; exact rfl; exact rfl; exact rfl; (first | exact rfl | kernel_rfl | (simp [Instr.fill, catCells]; done)); exact rfl; intro gb w' hb hge hc hx)
          | (apply WL.append1 (z := ((stuckL v o x.1, stuckL v o x.2))) tOk encN_ok; exact rfl; exact rfl; exact rfl; exact rfl; exact rfl; exact rfl; exact rfl; exact rfl; exact rfl; exact rfl; assumption; (exact extA); (first | exact rfl | (focus (simp only [List.length_set]; done)) | (focus (simp; done)) | (focus (simp [*]; done)) | omega | (focus (simp only [List.length_set]; omega))); (first | assumption | (refine Cells.ext ?_ (by assumption); exact extA)); exact rfl; exact rfl; (exact extA); (first | omega | (simp; omega) | (simp at *; omega)); intro a' cap' w' hO hX' hU hF; (first | replace hS := Sep.updRow (i := 0) rfl hU hO hF hS (by (exact extA)) (by (first | exact Nat.le_refl _ | exact Below.size (by (exact extA)))) | replace hS := Sep.updRow (i := 1) rfl hU hO hF hS (by (exact extA)) (by (first | exact Nat.le_refl _ | exact Below.size (by (exact extA)))) | replace hS := Sep.updRow (i := 2) rfl hU hO hF hS (by (exact extA)) (by (first | exact Nat.le_refl _ | exact Below.size (by (exact extA)))) | replace hS := Sep.updRow (i := 3) rfl hU hO hF hS (by (exact extA)) (by (first | exact Nat.le_refl _ | exact Below.size (by (exact extA)))) | replace hS := Sep.updRow (i := 4) rfl hU hO hF hS (by (exact extA)) (by (first | exact Nat.le_refl _ | exact Below.size (by (exact extA)))) | replace hS := Sep.updRow (i := 5) rfl hU hO hF hS (by (exact extA)) (by (first | exact Nat.le_refl _ | exact Below.size (by (exact extA))))); (try simp only [List.set_cons_zero, List.set_cons_succ] at hS); (try have hR0 := hS.row (i := 0) rfl); (try have hR1 := hS.row (i := 1) rfl); (try have hR2 := hS.row (i := 2) rfl); (try have hR3 := hS.row (i := 3) rfl); (try have hR4 := hS.row (i := 4) rfl); (try have hC0 := hS.cell (i := 0) rfl); (try have hD0 := (cells_heap hC0).1); (try have hE0 := (cells_heap hC0).2.1); (try have hF0 := (cells_heap hC0).2.2.1); (try have hG0 := (cells_heap hC0).2.2.2.1); (try have hC1 := hS.cell (i := 1) rfl); (try have hD1 := (cells_heap hC1).1); (try have hE1 := (cells_heap hC1).2.1); (try have hF1 := (cells_heap hC1).2.2.1); (try have hG1 := (cells_heap hC1).2.2.2.1); (try have hC2 := hS.cell (i := 2) rfl); (try have hD2 := (cells_heap hC2).1); (try have hE2 := (cells_heap hC2).2.1); (try have hF2 := (cells_heap hC2).2.2.1); (try have hG2 := (cells_heap hC2).2.2.2.1); (try have hC3 := hS.cell (i := 3) rfl); (try have hD3 := (cells_heap hC3).1); (try have hE3 := (cells_heap hC3).2.1); (try have hF3 := (cells_heap hC3).2.2.1); (try have hG3 := (cells_heap hC3).2.2.2.1); (try have hC4 := hS.cell (i := 4) rfl); (try have hD4 := (cells_heap hC4).1); (try have hE4 := (cells_heap hC4).2.1); (try have hF4 := (cells_heap hC4).2.2.1); (try have hG4 := (cells_heap hC4).2.2.2.1); (try have hM0 := hS.map (i := 0) rfl); (try have hM1 := hS.map (i := 1) rfl); (try have hM2 := hS.map (i := 2) rfl); (try have hM3 := hS.map (i := 3) rfl); (try have hM4 := hS.map (i := 4) rfl))
          | (show WL _ _ _ _ _ _ _; first | apply WL.nil | (refine WL.au (k := ?_)) | (apply WL.index tOk; exact rfl; exact rfl; exact rfl; exact rfl; exact rfl; exact rfl; exact rfl; exact rfl; assumption; (exact extA); exact rfl; omega; assumption; intro b off h; have hcc := h; first | (obtain ⟨h1, h2, h3, h4, h5, h6, _⟩ := h) | (obtain ⟨h1, h2, h3, _⟩ := h) | (obtain ⟨h1, h2, _⟩ := h) | (obtain ⟨h1, _⟩ := h)) | (apply WL.guardF; exact rfl; exact rfl) | (apply WL.gD; exact rfl; exact rfl; all_goals intro _))
          | (show QL _ _ _ _ _ _ _; first | (apply QL.nilX; intro w' hx) | (refine QL.au (k := ?_)))
          | (show Z _ _ _ _ _; first | apply Z.tail | apply Z.then_normal | apply Z.block_normal)
          | (show W _ _ _ _ _ _; first | apply W.seq | apply W.region | apply W.block | apply W.skip | (apply W.condF; exact rfl))
          | fail)
        all_goals exact Z.againO a' cap' ⟨by omega, (by (exact extA)), by rw [e1]; exact Sep.drop hS 1⟩ (by repeat' first | exact trivial | (refine And.intro ?_ ?_) | exact rfl | (rw [e1]; exact rfl))
      · have e2 : injN v p o k x = x := by rw [injN, if_pos p0, if_neg hin]
        rw [e2] at e1
        repeat' (first
          | (apply WL.gT; exact rfl; exact rfl; (focus (first | exact dec_true hf | exact dec_true (by omega) | exact dec_false (by omega); done)))
          | (apply WL.gF; exact rfl; exact rfl; (focus (first | exact dec_true hf | exact dec_true (by omega) | exact dec_false (by omega); done)))
          | (apply W.condKT; exact rfl; (focus (first | exact dec_true hf | exact dec_true (by omega) | exact dec_false (by omega); done)))
          | (apply W.condKF; exact rfl; (focus (first | exact dec_true hf | exact dec_true (by omega) | exact dec_false (by omega); done)))
          | (apply WL.alloc tOk; exact rfl; exact rfl; exact rfl; intro gb w' hb hge hx; replace hS := Sep.newCell (Sep.ext hS (by (exact extA))) hx hb hge (by (first | exact Nat.le_refl _ | exact Below.size (by (exact extA)))); (try simp only [List.set_cons_zero, List.set_cons_succ] at hS); (try have hR0 := hS.row (i := 0) rfl); (try have hR1 := hS.row (i := 1) rfl); (try have hR2 := hS.row (i := 2) rfl); (try have hR3 := hS.row (i := 3) rfl); (try have hR4 := hS.row (i := 4) rfl); (try have hC0 := hS.cell (i := 0) rfl); (try have hD0 := (cells_heap hC0).1); (try have hE0 := (cells_heap hC0).2.1); (try have hF0 := (cells_heap hC0).2.2.1); (try have hG0 := (cells_heap hC0).2.2.2.1); (try have hC1 := hS.cell (i := 1) rfl); (try have hD1 := (cells_heap hC1).1); (try have hE1 := (cells_heap hC1).2.1); (try have hF1 := (cells_heap hC1).2.2.1); (try have hG1 := (cells_heap hC1).2.2.2.1); (try have hC2 := hS.cell (i := 2) rfl); (try have hD2 := (cells_heap hC2).1); (try have hE2 := (cells_heap hC2).2.1); (try have hF2 := (cells_heap hC2).2.2.1); (try have hG2 := (cells_heap hC2).2.2.2.1); (try have hC3 := hS.cell (i := 3) rfl); (try have hD3 := (cells_heap hC3).1); (try have hE3 := (cells_heap hC3).2.1); (try have hF3 := (cells_heap hC3).2.2.1); (try have hG3 := (cells_heap hC3).2.2.2.1); (try have hC4 := hS.cell (i := 4) rfl); (try have hD4 := (cells_heap hC4).1); (try have hE4 := (cells_heap hC4).2.1); (try have hF4 := (cells_heap hC4).2.2.1); (try have hG4 := (cells_heap hC4).2.2.2.1); (try have hM0 := hS.map (i := 0) rfl); (try have hM1 := hS.map (i := 1) rfl); (try have hM2 := hS.map (i := 2) rfl); (try have hM3 := hS.map (i := 3) rfl); (try have hM4 := hS.map (i := 4) rfl))
          | (apply WL.storeB (w0 := wb) tOk; exact rfl; exact rfl; exact rfl; exact rfl; assumption; (exact extA); exact rfl; exact rfl; exact rfl; (exact extA); (first | assumption | omega | (focus (apply Nat.le_trans; rotate_left; assumption; exact Below.size (by (exact extA)); done))); intro w' hb hc hX' hU; have hcc := hc; obtain ⟨h1, h2, _⟩ := hc; (first | replace hS := Sep.updCell (i := 0) rfl hU hb hS (by (exact extA)) (by (first | exact Nat.le_refl _ | exact Below.size (by (exact extA)))) | replace hS := Sep.updCell (i := 1) rfl hU hb hS (by (exact extA)) (by (first | exact Nat.le_refl _ | exact Below.size (by (exact extA)))) | replace hS := Sep.updCell (i := 2) rfl hU hb hS (by (exact extA)) (by (first | exact Nat.le_refl _ | exact Below.size (by (exact extA)))) | replace hS := Sep.updCell (i := 3) rfl hU hb hS (by (exact extA)) (by (first | exact Nat.le_refl _ | exact Below.size (by (exact extA))))); (try simp only [List.set_cons_zero, List.set_cons_succ] at hS); (try have hR0 := hS.row (i := 0) rfl); (try have hR1 := hS.row (i := 1) rfl); (try have hR2 := hS.row (i := 2) rfl); (try have hR3 := hS.row (i := 3) rfl); (try have hR4 := hS.row (i := 4) rfl); (try have hC0 := hS.cell (i := 0) rfl); (try have hD0 := (cells_heap hC0).1); (try have hE0 := (cells_heap hC0).2.1); (try have hF0 := (cells_heap hC0).2.2.1); (try have hG0 := (cells_heap hC0).2.2.2.1); (try have hC1 := hS.cell (i := 1) rfl); (try have hD1 := (cells_heap hC1).1); (try have hE1 := (cells_heap hC1).2.1); (try have hF1 := (cells_heap hC1).2.2.1); (try have hG1 := (cells_heap hC1).2.2.2.1); (try have hC2 := hS.cell (i := 2) rfl); (try have hD2 := (cells_heap hC2).1); (try have hE2 := (cells_heap hC2).2.1); (try have hF2 := (cells_heap hC2).2.2.1); (try have hG2 := (cells_heap hC2).2.2.2.1); (try have hC3 := hS.cell (i := 3) rfl); (try have hD3 := (cells_heap hC3).1); (try have hE3 := (cells_heap hC3).2.1); (try have hF3 := (cells_heap hC3).2.2.1); (try have hG3 := (cells_heap hC3).2.2.2.1); (try have hC4 := hS.cell (i := 4) rfl); (try have hD4 := (cells_heap hC4).1); (try have hE4 := (cells_heap hC4).2.1); (try have hF4 := (cells_heap hC4).2.2.1); (try have hG4 := (cells_heap hC4).2.2.2.1); (try have hM0 := hS.map (i := 0) rfl); (try have hM1 := hS.map (i := 1) rfl); (try have hM2 := hS.map (i := 2) rfl); (try have hM3 := hS.map (i := 3) rfl); (try have hM4 := hS.map (i := 4) rfl))
          | (apply WL.lit tOk; exact rfl; exact rfl; exact rfl; exact rfl; exact rfl; exact rfl; (first | exact rfl | kernel_rfl | (simp [Instr.fill, catCells]; done)); exact rfl; intro gb w' hb hge hc hx)
          | (apply WL.append1 (z := (x)) tOk encN_ok; exact rfl; exact rfl; exact rfl; exact rfl; exact rfl; exact rfl; exact rfl; exact rfl; exact rfl; exact rfl; assumption; (exact extA); (first | exact rfl | (focus (simp only [List.length_set]; done)) | (focus (simp; done)) | (focus (simp [*]; done)) | omega | (focus (simp only [List.length_set]; omega))); (first | assumption | (refine Cells.ext ?_ (by assumption); exact extA)); exact rfl; exact rfl; (exact extA); (first | omega | (simp; omega) | (simp at *; omega)); intro a' cap' w' hO hX' hU hF; (first | replace hS := Sep.updRow (i := 0) rfl hU hO hF hS (by (exact extA)) (by (first | exact Nat.le_refl _ | exact Below.size (by (exact extA)))) | replace hS := Sep.updRow (i := 1) rfl hU hO hF hS (by (exact extA)) (by (first | exact Nat.le_refl _ | exact Below.size (by (exact extA)))) | replace hS := Sep.updRow (i := 2) rfl hU hO hF hS (by (exact extA)) (by (first | exact Nat.le_refl _ | exact Below.size (by (exact extA)))) | replace hS := Sep.updRow (i := 3) rfl hU hO hF hS (by (exact extA)) (by (first | exact Nat.le_refl _ | exact Below.size (by (exact extA)))) | replace hS := Sep.updRow (i := 4) rfl hU hO hF hS (by (exact extA)) (by (first | exact Nat.le_refl _ | exact Below.size (by (exact extA)))) | replace hS := Sep.updRow (i := 5) rfl hU hO hF hS (by (exact extA)) (by (first | exact Nat.le_refl _ | exact Below.size (by (exact extA))))); (try simp only [List.set_cons_zero, List.set_cons_succ] at hS); (try have hR0 := hS.row (i := 0) rfl); (try have hR1 := hS.row (i := 1) rfl); (try have hR2 := hS.row (i := 2) rfl); (try have hR3 := hS.row (i := 3) rfl); (try have hR4 := hS.row (i := 4) rfl); (try have hC0 := hS.cell (i := 0) rfl); (try have hD0 := (cells_heap hC0).1); (try have hE0 := (cells_heap hC0).2.1); (try have hF0 := (cells_heap hC0).2.2.1); (try have hG0 := (cells_heap hC0).2.2.2.1); (try have hC1 := hS.cell (i := 1) rfl); (try have hD1 := (cells_heap hC1).1); (try have hE1 := (cells_heap hC1).2.1); (try have hF1 := (cells_heap hC1).2.2.1); (try have hG1 := (cells_heap hC1).2.2.2.1); (try have hC2 := hS.cell (i := 2) rfl); (try have hD2 := (cells_heap hC2).1); (try have hE2 := (cells_heap hC2).2.1); (try have hF2 := (cells_heap hC2).2.2.1); (try have hG2 := (cells_heap hC2).2.2.2.1); (try have hC3 := hS.cell (i := 3) rfl); (try have hD3 := (cells_heap hC3).1); (try have hE3 := (cells_heap hC3).2.1); (try have hF3 := (cells_heap hC3).2.2.1); (try have hG3 := (cells_heap hC3).2.2.2.1); (try have hC4 := hS.cell (i := 4) rfl); (try have hD4 := (cells_heap hC4).1); (try have hE4 := (cells_heap hC4).2.1); (try have hF4 := (cells_heap hC4).2.2.1); (try have hG4 := (cells_heap hC4).2.2.2.1); (try have hM0 := hS.map (i := 0) rfl); (try have hM1 := hS.map (i := 1) rfl); (try have hM2 := hS.map (i := 2) rfl); (try have hM3 := hS.map (i := 3) rfl); (try have hM4 := hS.map (i := 4) rfl))
          | (show WL _ _ _ _ _ _ _; first | apply WL.nil | (refine WL.au (k := ?_)) | (apply WL.index tOk; exact rfl; exact rfl; exact rfl; exact rfl; exact rfl; exact rfl; exact rfl; exact rfl; assumption; (exact extA); exact rfl; omega; assumption; intro b off h; have hcc := h; first | (obtain ⟨h1, h2, h3, h4, h5, h6, _⟩ := h) | (obtain ⟨h1, h2, h3, _⟩ := h) | (obtain ⟨h1, h2, _⟩ := h) | (obtain ⟨h1, _⟩ := h)) | (apply WL.guardF; exact rfl; exact rfl) | (apply WL.gD; exact rfl; exact rfl; all_goals intro _))
          | (show Z _ _ _ _ _; first | apply Z.then_normal | apply Z.block_normal)
          | (show W _ _ _ _ _ _; first | apply W.seq | apply W.region | apply W.block | apply W.skip | (apply W.condF; exact rfl))
          | fail)
        all_goals exact Z.againO a' cap' ⟨by omega, (by (exact extA)), by rw [e1]; exact Sep.drop hS 1⟩ (by repeat' first | exact trivial | (refine And.intro ?_ ?_) | exact rfl | (rw [e1]; exact rfl))
    · by_cases hvk : v = (k : Int) + 1
      · by_cases p1 : p = 1
        · have e2 : injN v p o k x = (atO o, x.2) := by rw [injN, if_neg p0, if_pos hvk, if_pos p1]
          rw [e2] at e1
          repeat' (first
            | (apply WL.gT; exact rfl; exact rfl; (focus (first | exact dec_true hf | exact dec_true (by omega) | exact dec_false (by omega); done)))
            | (apply WL.gF; exact rfl; exact rfl; (focus (first | exact dec_true hf | exact dec_true (by omega) | exact dec_false (by omega); done)))
            | (apply W.condKT; exact rfl; (focus (first | exact dec_true hf | exact dec_true (by omega) | exact dec_false (by omega); done)))
            | (apply W.condKF; exact rfl; (focus (first | exact dec_true hf | exact dec_true (by omega) | exact dec_false (by omega); done)))
            | (apply WL.alloc tOk; exact rfl; exact rfl; exact rfl; intro gb w' hb hge hx; replace hS := Sep.newCell (Sep.ext hS (by (exact extA))) hx hb hge (by (first | exact Nat.le_refl _ | exact Below.size (by (exact extA)))); (try simp only [List.set_cons_zero, List.set_cons_succ] at hS); (try have hR0 := hS.row (i := 0) rfl); (try have hR1 := hS.row (i := 1) rfl); (try have hR2 := hS.row (i := 2) rfl); (try have hR3 := hS.row (i := 3) rfl); (try have hR4 := hS.row (i := 4) rfl); (try have hC0 := hS.cell (i := 0) rfl); (try have hD0 := (cells_heap hC0).1); (try have hE0 := (cells_heap hC0).2.1); (try have hF0 := (cells_heap hC0).2.2.1); (try have hG0 := (cells_heap hC0).2.2.2.1); (try have hC1 := hS.cell (i := 1) rfl); (try have hD1 := (cells_heap hC1).1); (try have hE1 := (cells_heap hC1).2.1); (try have hF1 := (cells_heap hC1).2.2.1); (try have hG1 := (cells_heap hC1).2.2.2.1); (try have hC2 := hS.cell (i := 2) rfl); (try have hD2 := (cells_heap hC2).1); (try have hE2 := (cells_heap hC2).2.1); (try have hF2 := (cells_heap hC2).2.2.1); (try have hG2 := (cells_heap hC2).2.2.2.1); (try have hC3 := hS.cell (i := 3) rfl); (try have hD3 := (cells_heap hC3).1); (try have hE3 := (cells_heap hC3).2.1); (try have hF3 := (cells_heap hC3).2.2.1); (try have hG3 := (cells_heap hC3).2.2.2.1); (try have hC4 := hS.cell (i := 4) rfl); (try have hD4 := (cells_heap hC4).1); (try have hE4 := (cells_heap hC4).2.1); (try have hF4 := (cells_heap hC4).2.2.1); (try have hG4 := (cells_heap hC4).2.2.2.1); (try have hM0 := hS.map (i := 0) rfl); (try have hM1 := hS.map (i := 1) rfl); (try have hM2 := hS.map (i := 2) rfl); (try have hM3 := hS.map (i := 3) rfl); (try have hM4 := hS.map (i := 4) rfl))
            | (apply WL.storeB (w0 := wb) tOk; exact rfl; exact rfl; exact rfl; exact rfl; assumption; (exact extA); exact rfl; exact rfl; exact rfl; (exact extA); (first | assumption | omega | (focus (apply Nat.le_trans; rotate_left; assumption; exact Below.size (by (exact extA)); done))); intro w' hb hc hX' hU; have hcc := hc; obtain ⟨h1, h2, _⟩ := hc; (first | replace hS := Sep.updCell (i := 0) rfl hU hb hS (by (exact extA)) (by (first | exact Nat.le_refl _ | exact Below.size (by (exact extA)))) | replace hS := Sep.updCell (i := 1) rfl hU hb hS (by (exact extA)) (by (first | exact Nat.le_refl _ | exact Below.size (by (exact extA)))) | replace hS := Sep.updCell (i := 2) rfl hU hb hS (by (exact extA)) (by (first | exact Nat.le_refl _ | exact Below.size (by (exact extA)))) | replace hS := Sep.updCell (i := 3) rfl hU hb hS (by (exact extA)) (by (first | exact Nat.le_refl _ | exact Below.size (by (exact extA))))); (try simp only [List.set_cons_zero, List.set_cons_succ] at hS); (try have hR0 := hS.row (i := 0) rfl); (try have hR1 := hS.row (i := 1) rfl); (try have hR2 := hS.row (i := 2) rfl); (try have hR3 := hS.row (i := 3) rfl); (try have hR4 := hS.row (i := 4) rfl); (try have hC0 := hS.cell (i := 0) rfl); (try have hD0 := (cells_heap hC0).1); (try have hE0 := (cells_heap hC0).2.1); (try have hF0 := (cells_heap hC0).2.2.1); (try have hG0 := (cells_heap hC0).2.2.2.1); (try have hC1 := hS.cell (i := 1) rfl); (try have hD1 := (cells_heap hC1).1); (try have hE1 := (cells_heap hC1).2.1); (try have hF1 := (cells_heap hC1).2.2.1); (try have hG1 := (cells_heap hC1).2.2.2.1); (try have hC2 := hS.cell (i := 2) rfl); (try have hD2 := (cells_heap hC2).1); (try have hE2 := (cells_heap hC2).2.1); (try have hF2 := (cells_heap hC2).2.2.1); (try have hG2 := (cells_heap hC2).2.2.2.1); (try have hC3 := hS.cell (i := 3) rfl); (try have hD3 := (cells_heap hC3).1); (try have hE3 := (cells_heap hC3).2.1); (try have hF3 := (cells_heap hC3).2.2.1); (try have hG3 := (cells_heap hC3).2.2.2.1); (try have hC4 := hS.cell (i := 4) rfl); (try have hD4 := (cells_heap hC4).1); (try have hE4 := (cells_heap hC4).2.1); (try have hF4 := (cells_heap hC4).2.2.1); (try have hG4 := (cells_heap hC4).2.2.2.1); (try have hM0 := hS.map (i := 0) rfl); (try have hM1 := hS.map (i := 1) rfl); (try have hM2 := hS.map (i := 2) rfl); (try have hM3 := hS.map (i := 3) rfl); (try have hM4 := hS.map (i := 4) rfl); have hb2 : w'.heap[gb]? = some (.cells [.int .i64 x.1, .int .i64 x.2].toArray 52 (0, 0)) := hb)
            | ((show WL _ _ _ (⟨_, .call ⟨.value (.func 53), _, _⟩, _, _, _, _⟩ :: _) _ _ _); apply WL.callS; exact rfl; exact rfl; exact rfl; exact rfl; exact ref44_at o _)
            | (apply WL.storeF (w0 := wb) tOk; exact rfl; exact rfl; exact rfl; exact rfl; assumption; (exact extA); exact rfl; exact rfl; exact rfl; exact rfl; (exact extA); (first | assumption | omega | (focus (apply Nat.le_trans; rotate_left; assumption; exact Below.size (by (exact extA))))); intro w' hb hX' hU; replace hS := Sep.updCell (i := 0) rfl hU hb hS (by (exact extA)) (by (first | exact Nat.le_refl _ | exact Below.size (by (exact extA)))); (try simp only [List.set_cons_zero, List.set_cons_succ] at hS); (try have hR0 := hS.row (i := 0) rfl); (try have hR1 := hS.row (i := 1) rfl); (try have hR2 := hS.row (i := 2) rfl); (try have hR3 := hS.row (i := 3) rfl); (try have hR4 := hS.row (i := 4) rfl); (try have hC0 := hS.cell (i := 0) rfl); (try have hD0 := (cells_heap hC0).1); (try have hE0 := (cells_heap hC0).2.1); (try have hF0 := (cells_heap hC0).2.2.1); (try have hG0 := (cells_heap hC0).2.2.2.1); (try have hC1 := hS.cell (i := 1) rfl); (try have hD1 := (cells_heap hC1).1); (try have hE1 := (cells_heap hC1).2.1); (try have hF1 := (cells_heap hC1).2.2.1); (try have hG1 := (cells_heap hC1).2.2.2.1); (try have hC2 := hS.cell (i := 2) rfl); (try have hD2 := (cells_heap hC2).1); (try have hE2 := (cells_heap hC2).2.1); (try have hF2 := (cells_heap hC2).2.2.1); (try have hG2 := (cells_heap hC2).2.2.2.1); (try have hC3 := hS.cell (i := 3) rfl); (try have hD3 := (cells_heap hC3).1); (try have hE3 := (cells_heap hC3).2.1); (try have hF3 := (cells_heap hC3).2.2.1); (try have hG3 := (cells_heap hC3).2.2.2.1); (try have hC4 := hS.cell (i := 4) rfl); (try have hD4 := (cells_heap hC4).1); (try have hE4 := (cells_heap hC4).2.1); (try have hF4 := (cells_heap hC4).2.2.1); (try have hG4 := (cells_heap hC4).2.2.2.1); (try have hM0 := hS.map (i := 0) rfl); (try have hM1 := hS.map (i := 1) rfl); (try have hM2 := hS.map (i := 2) rfl); (try have hM3 := hS.map (i := 3) rfl); (try have hM4 := hS.map (i := 4) rfl); have hcc9 : Cells w' gb 0 [.int .i64 (atO o), .int .i64 (x.2)] := cells_heap (hS.cell (i := 0) rfl))
            | (apply WL.lit tOk; exact rfl; exact rfl; exact rfl; exact rfl; exact rfl; exact rfl; (first | exact rfl | kernel_rfl | (simp [Instr.fill, catCells]; done)); exact rfl; intro gb w' hb hge hc hx)
            | (apply WL.append1 (z := ((atO o, x.2))) tOk encN_ok; exact rfl; exact rfl; exact rfl; exact rfl; exact rfl; exact rfl; exact rfl; exact rfl; exact rfl; exact rfl; assumption; (exact extA); (first | exact rfl | (focus (simp only [List.length_set]; done)) | (focus (simp; done)) | (focus (simp [*]; done)) | omega | (focus (simp only [List.length_set]; omega))); (first | assumption | (refine Cells.ext ?_ (by assumption); exact extA)); exact rfl; exact rfl; (exact extA); (first | omega | (simp; omega) | (simp at *; omega)); intro a' cap' w' hO hX' hU hF; (first | replace hS := Sep.updRow (i := 0) rfl hU hO hF hS (by (exact extA)) (by (first | exact Nat.le_refl _ | exact Below.size (by (exact extA)))) | replace hS := Sep.updRow (i := 1) rfl hU hO hF hS (by (exact extA)) (by (first | exact Nat.le_refl _ | exact Below.size (by (exact extA)))) | replace hS := Sep.updRow (i := 2) rfl hU hO hF hS (by (exact extA)) (by (first | exact Nat.le_refl _ | exact Below.size (by (exact extA)))) | replace hS := Sep.updRow (i := 3) rfl hU hO hF hS (by (exact extA)) (by (first | exact Nat.le_refl _ | exact Below.size (by (exact extA)))) | replace hS := Sep.updRow (i := 4) rfl hU hO hF hS (by (exact extA)) (by (first | exact Nat.le_refl _ | exact Below.size (by (exact extA)))) | replace hS := Sep.updRow (i := 5) rfl hU hO hF hS (by (exact extA)) (by (first | exact Nat.le_refl _ | exact Below.size (by (exact extA))))); (try simp only [List.set_cons_zero, List.set_cons_succ] at hS); (try have hR0 := hS.row (i := 0) rfl); (try have hR1 := hS.row (i := 1) rfl); (try have hR2 := hS.row (i := 2) rfl); (try have hR3 := hS.row (i := 3) rfl); (try have hR4 := hS.row (i := 4) rfl); (try have hC0 := hS.cell (i := 0) rfl); (try have hD0 := (cells_heap hC0).1); (try have hE0 := (cells_heap hC0).2.1); (try have hF0 := (cells_heap hC0).2.2.1); (try have hG0 := (cells_heap hC0).2.2.2.1); (try have hC1 := hS.cell (i := 1) rfl); (try have hD1 := (cells_heap hC1).1); (try have hE1 := (cells_heap hC1).2.1); (try have hF1 := (cells_heap hC1).2.2.1); (try have hG1 := (cells_heap hC1).2.2.2.1); (try have hC2 := hS.cell (i := 2) rfl); (try have hD2 := (cells_heap hC2).1); (try have hE2 := (cells_heap hC2).2.1); (try have hF2 := (cells_heap hC2).2.2.1); (try have hG2 := (cells_heap hC2).2.2.2.1); (try have hC3 := hS.cell (i := 3) rfl); (try have hD3 := (cells_heap hC3).1); (try have hE3 := (cells_heap hC3).2.1); (try have hF3 := (cells_heap hC3).2.2.1); (try have hG3 := (cells_heap hC3).2.2.2.1); (try have hC4 := hS.cell (i := 4) rfl); (try have hD4 := (cells_heap hC4).1); (try have hE4 := (cells_heap hC4).2.1); (try have hF4 := (cells_heap hC4).2.2.1); (try have hG4 := (cells_heap hC4).2.2.2.1); (try have hM0 := hS.map (i := 0) rfl); (try have hM1 := hS.map (i := 1) rfl); (try have hM2 := hS.map (i := 2) rfl); (try have hM3 := hS.map (i := 3) rfl); (try have hM4 := hS.map (i := 4) rfl))
            | (show WL _ _ _ _ _ _ _; first | apply WL.nil | (refine WL.au (k := ?_)) | (apply WL.index tOk; exact rfl; exact rfl; exact rfl; exact rfl; exact rfl; exact rfl; exact rfl; exact rfl; assumption; (exact extA); exact rfl; omega; assumption; intro b off h; have hcc := h; first | (obtain ⟨h1, h2, h3, h4, h5, h6, _⟩ := h) | (obtain ⟨h1, h2, h3, _⟩ := h) | (obtain ⟨h1, h2, _⟩ := h) | (obtain ⟨h1, _⟩ := h)) | (apply WL.guardF; exact rfl; exact rfl))
            | (show Z _ _ _ _ _; first | apply Z.then_normal | apply Z.block_normal)
            | (show W _ _ _ _ _ _; first | apply W.seq | apply W.region | apply W.block | apply W.skip | (apply W.condF; exact rfl))
            | fail)
          all_goals exact Z.againO a' cap' ⟨by omega, (by (exact extA)), by rw [e1]; exact Sep.drop hS 1⟩ (by repeat' first | exact trivial | (refine And.intro ?_ ?_) | exact rfl | (rw [e1]; exact rfl))
        · have e2 : injN v p o k x = (x.1, atO o) := by rw [injN, if_neg p0, if_pos hvk, if_neg p1, if_pos (by omega)]
          rw [e2] at e1
          repeat' (first
            | (apply WL.gT; exact rfl; exact rfl; (focus (first | exact dec_true hf | exact dec_true (by omega) | exact dec_false (by omega); done)))
            | (apply WL.gF; exact rfl; exact rfl; (focus (first | exact dec_true hf | exact dec_true (by omega) | exact dec_false (by omega); done)))
            | (apply W.condKT; exact rfl; (focus (first | exact dec_true hf | exact dec_true (by omega) | exact dec_false (by omega); done)))
            | (apply W.condKF; exact rfl; (focus (first | exact dec_true hf | exact dec_true (by omega) | exact dec_false (by omega); done)))
            | (apply WL.alloc tOk; exact rfl; exact rfl; exact rfl; intro gb w' hb hge hx; replace hS := Sep.newCell (Sep.ext hS (by (exact extA))) hx hb hge (by (first | exact Nat.le_refl _ | exact Below.size (by (exact extA)))); (try simp only [List.set_cons_zero, List.set_cons_succ] at hS); (try have hR0 := hS.row (i := 0) rfl); (try have hR1 := hS.row (i := 1) rfl); (try have hR2 := hS.row (i := 2) rfl); (try have hR3 := hS.row (i := 3) rfl); (try have hR4 := hS.row (i := 4) rfl); (try have hC0 := hS.cell (i := 0) rfl); (try have hD0 := (cells_heap hC0).1); (try have hE0 := (cells_heap hC0).2.1); (try have hF0 := (cells_heap hC0).2.2.1); (try have hG0 := (cells_heap hC0).2.2.2.1); (try have hC1 := hS.cell (i := 1) rfl); (try have hD1 := (cells_heap hC1).1); (try have hE1 := (cells_heap hC1).2.1); (try have hF1 := (cells_heap hC1).2.2.1); (try have hG1 := (cells_heap hC1).2.2.2.1); (try have hC2 := hS.cell (i := 2) rfl); (try have hD2 := (cells_heap hC2).1); (try have hE2 := (cells_heap hC2).2.1); (try have hF2 := (cells_heap hC2).2.2.1); (try have hG2 := (cells_heap hC2).2.2.2.1); (try have hC3 := hS.cell (i := 3) rfl); (try have hD3 := (cells_heap hC3).1); (try have hE3 := (cells_heap hC3).2.1); (try have hF3 := (cells_heap hC3).2.2.1); (try have hG3 := (cells_heap hC3).2.2.2.1); (try have hC4 := hS.cell (i := 4) rfl); (try have hD4 := (cells_heap hC4).1); (try have hE4 := (cells_heap hC4).2.1); (try have hF4 := (cells_heap hC4).2.2.1); (try have hG4 := (cells_heap hC4).2.2.2.1); (try have hM0 := hS.map (i := 0) rfl); (try have hM1 := hS.map (i := 1) rfl); (try have hM2 := hS.map (i := 2) rfl); (try have hM3 := hS.map (i := 3) rfl); (try have hM4 := hS.map (i := 4) rfl))
            | (apply WL.storeB (w0 := wb) tOk; exact rfl; exact rfl; exact rfl; exact rfl; assumption; (exact extA); exact rfl; exact rfl; exact rfl; (exact extA); (first | assumption | omega | (focus (apply Nat.le_trans; rotate_left; assumption; exact Below.size (by (exact extA)); done))); intro w' hb hc hX' hU; have hcc := hc; obtain ⟨h1, h2, _⟩ := hc; (first | replace hS := Sep.updCell (i := 0) rfl hU hb hS (by (exact extA)) (by (first | exact Nat.le_refl _ | exact Below.size (by (exact extA)))) | replace hS := Sep.updCell (i := 1) rfl hU hb hS (by (exact extA)) (by (first | exact Nat.le_refl _ | exact Below.size (by (exact extA)))) | replace hS := Sep.updCell (i := 2) rfl hU hb hS (by (exact extA)) (by (first | exact Nat.le_refl _ | exact Below.size (by (exact extA)))) | replace hS := Sep.updCell (i := 3) rfl hU hb hS (by (exact extA)) (by (first | exact Nat.le_refl _ | exact Below.size (by (exact extA))))); (try simp only [List.set_cons_zero, List.set_cons_succ] at hS); (try have hR0 := hS.row (i := 0) rfl); (try have hR1 := hS.row (i := 1) rfl); (try have hR2 := hS.row (i := 2) rfl); (try have hR3 := hS.row (i := 3) rfl); (try have hR4 := hS.row (i := 4) rfl); (try have hC0 := hS.cell (i := 0) rfl); (try have hD0 := (cells_heap hC0).1); (try have hE0 := (cells_heap hC0).2.1); (try have hF0 := (cells_heap hC0).2.2.1); (try have hG0 := (cells_heap hC0).2.2.2.1); (try have hC1 := hS.cell (i := 1) rfl); (try have hD1 := (cells_heap hC1).1); (try have hE1 := (cells_heap hC1).2.1); (try have hF1 := (cells_heap hC1).2.2.1); (try have hG1 := (cells_heap hC1).2.2.2.1); (try have hC2 := hS.cell (i := 2) rfl); (try have hD2 := (cells_heap hC2).1); (try have hE2 := (cells_heap hC2).2.1); (try have hF2 := (cells_heap hC2).2.2.1); (try have hG2 := (cells_heap hC2).2.2.2.1); (try have hC3 := hS.cell (i := 3) rfl); (try have hD3 := (cells_heap hC3).1); (try have hE3 := (cells_heap hC3).2.1); (try have hF3 := (cells_heap hC3).2.2.1); (try have hG3 := (cells_heap hC3).2.2.2.1); (try have hC4 := hS.cell (i := 4) rfl); (try have hD4 := (cells_heap hC4).1); (try have hE4 := (cells_heap hC4).2.1); (try have hF4 := (cells_heap hC4).2.2.1); (try have hG4 := (cells_heap hC4).2.2.2.1); (try have hM0 := hS.map (i := 0) rfl); (try have hM1 := hS.map (i := 1) rfl); (try have hM2 := hS.map (i := 2) rfl); (try have hM3 := hS.map (i := 3) rfl); (try have hM4 := hS.map (i := 4) rfl); have hb2 : w'.heap[gb]? = some (.cells [.int .i64 x.1, .int .i64 x.2].toArray 52 (0, 0)) := hb)
            | ((show WL _ _ _ (⟨_, .call ⟨.value (.func 53), _, _⟩, _, _, _, _⟩ :: _) _ _ _); apply WL.callS; exact rfl; exact rfl; exact rfl; exact rfl; exact ref44_at o _)
            | (apply WL.storeF (w0 := wb) tOk; exact rfl; exact rfl; exact rfl; exact rfl; assumption; (exact extA); exact rfl; exact rfl; exact rfl; exact rfl; (exact extA); (first | assumption | omega | (focus (apply Nat.le_trans; rotate_left; assumption; exact Below.size (by (exact extA))))); intro w' hb hX' hU; replace hS := Sep.updCell (i := 0) rfl hU hb hS (by (exact extA)) (by (first | exact Nat.le_refl _ | exact Below.size (by (exact extA)))); (try simp only [List.set_cons_zero, List.set_cons_succ] at hS); (try have hR0 := hS.row (i := 0) rfl); (try have hR1 := hS.row (i := 1) rfl); (try have hR2 := hS.row (i := 2) rfl); (try have hR3 := hS.row (i := 3) rfl); (try have hR4 := hS.row (i := 4) rfl); (try have hC0 := hS.cell (i := 0) rfl); (try have hD0 := (cells_heap hC0).1); (try have hE0 := (cells_heap hC0).2.1); (try have hF0 := (cells_heap hC0).2.2.1); (try have hG0 := (cells_heap hC0).2.2.2.1); (try have hC1 := hS.cell (i := 1) rfl); (try have hD1 := (cells_heap hC1).1); (try have hE1 := (cells_heap hC1).2.1); (try have hF1 := (cells_heap hC1).2.2.1); (try have hG1 := (cells_heap hC1).2.2.2.1); (try have hC2 := hS.cell (i := 2) rfl); (try have hD2 := (cells_heap hC2).1); (try have hE2 := (cells_heap hC2).2.1); (try have hF2 := (cells_heap hC2).2.2.1); (try have hG2 := (cells_heap hC2).2.2.2.1); (try have hC3 := hS.cell (i := 3) rfl); (try have hD3 := (cells_heap hC3).1); (try have hE3 := (cells_heap hC3).2.1); (try have hF3 := (cells_heap hC3).2.2.1); (try have hG3 := (cells_heap hC3).2.2.2.1); (try have hC4 := hS.cell (i := 4) rfl); (try have hD4 := (cells_heap hC4).1); (try have hE4 := (cells_heap hC4).2.1); (try have hF4 := (cells_heap hC4).2.2.1); (try have hG4 := (cells_heap hC4).2.2.2.1); (try have hM0 := hS.map (i := 0) rfl); (try have hM1 := hS.map (i := 1) rfl); (try have hM2 := hS.map (i := 2) rfl); (try have hM3 := hS.map (i := 3) rfl); (try have hM4 := hS.map (i := 4) rfl); have hcc9 : Cells w' gb 0 [.int .i64 (x.1), .int .i64 (atO o)] := cells_heap (hS.cell (i := 0) rfl))
            | (apply WL.lit tOk; exact rfl; exact rfl; exact rfl; exact rfl; exact rfl; exact rfl; (first | exact rfl | kernel_rfl | (simp [Instr.fill, catCells]; done)); exact rfl; intro gb w' hb hge hc hx)
            | (apply WL.append1 (z := ((x.1, atO o))) tOk encN_ok; exact rfl; exact rfl; exact rfl; exact rfl; exact rfl; exact rfl; exact rfl; exact rfl; exact rfl; exact rfl; assumption; (exact extA); (first | exact rfl | (focus (simp only [List.length_set]; done)) | (focus (simp; done)) | (focus (simp [*]; done)) | omega | (focus (simp only [List.length_set]; omega))); (first | assumption | (refine Cells.ext ?_ (by assumption); exact extA)); exact rfl; exact rfl; (exact extA); (first | omega | (simp; omega) | (simp at *; omega)); intro a' cap' w' hO hX' hU hF; (first | replace hS := Sep.updRow (i := 0) rfl hU hO hF hS (by (exact extA)) (by (first | exact Nat.le_refl _ | exact Below.size (by (exact extA)))) | replace hS := Sep.updRow (i := 1) rfl hU hO hF hS (by (exact extA)) (by (first | exact Nat.le_refl _ | exact Below.size (by (exact extA)))) | replace hS := Sep.updRow (i := 2) rfl hU hO hF hS (by (exact extA)) (by (first | exact Nat.le_refl _ | exact Below.size (by (exact extA)))) | replace hS := Sep.updRow (i := 3) rfl hU hO hF hS (by (exact extA)) (by (first | exact Nat.le_refl _ | exact Below.size (by (exact extA)))) | replace hS := Sep.updRow (i := 4) rfl hU hO hF hS (by (exact extA)) (by (first | exact Nat.le_refl _ | exact Below.size (by (exact extA)))) | replace hS := Sep.updRow (i := 5) rfl hU hO hF hS (by (exact extA)) (by (first | exact Nat.le_refl _ | exact Below.size (by (exact extA))))); (try simp only [List.set_cons_zero, List.set_cons_succ] at hS); (try have hR0 := hS.row (i := 0) rfl); (try have hR1 := hS.row (i := 1) rfl); (try have hR2 := hS.row (i := 2) rfl); (try have hR3 := hS.row (i := 3) rfl); (try have hR4 := hS.row (i := 4) rfl); (try have hC0 := hS.cell (i := 0) rfl); (try have hD0 := (cells_heap hC0).1); (try have hE0 := (cells_heap hC0).2.1); (try have hF0 := (cells_heap hC0).2.2.1); (try have hG0 := (cells_heap hC0).2.2.2.1); (try have hC1 := hS.cell (i := 1) rfl); (try have hD1 := (cells_heap hC1).1); (try have hE1 := (cells_heap hC1).2.1); (try have hF1 := (cells_heap hC1).2.2.1); (try have hG1 := (cells_heap hC1).2.2.2.1); (try have hC2 := hS.cell (i := 2) rfl); (try have hD2 := (cells_heap hC2).1); (try have hE2 := (cells_heap hC2).2.1); (try have hF2 := (cells_heap hC2).2.2.1); (try have hG2 := (cells_heap hC2).2.2.2.1); (try have hC3 := hS.cell (i := 3) rfl); (try have hD3 := (cells_heap hC3).1); (try have hE3 := (cells_heap hC3).2.1); (try have hF3 := (cells_heap hC3).2.2.1); (try have hG3 := (cells_heap hC3).2.2.2.1); (try have hC4 := hS.cell (i := 4) rfl); (try have hD4 := (cells_heap hC4).1); (try have hE4 := (cells_heap hC4).2.1); (try have hF4 := (cells_heap hC4).2.2.1); (try have hG4 := (cells_heap hC4).2.2.2.1); (try have hM0 := hS.map (i := 0) rfl); (try have hM1 := hS.map (i := 1) rfl); (try have hM2 := hS.map (i := 2) rfl); (try have hM3 := hS.map (i := 3) rfl); (try have hM4 := hS.map (i := 4) rfl))
            | (show WL _ _ _ _ _ _ _; first | apply WL.nil | (refine WL.au (k := ?_)) | (apply WL.index tOk; exact rfl; exact rfl; exact rfl; exact rfl; exact rfl; exact rfl; exact rfl; exact rfl; assumption; (exact extA); exact rfl; omega; assumption; intro b off h; have hcc := h; first | (obtain ⟨h1, h2, h3, h4, h5, h6, _⟩ := h) | (obtain ⟨h1, h2, h3, _⟩ := h) | (obtain ⟨h1, h2, _⟩ := h) | (obtain ⟨h1, _⟩ := h)) | (apply WL.guardF; exact rfl; exact rfl))
            | (show Z _ _ _ _ _; first | apply Z.then_normal | apply Z.block_normal)
            | (show W _ _ _ _ _ _; first | apply W.seq | apply W.region | apply W.block | apply W.skip | (apply W.condF; exact rfl))
            | fail)
          all_goals exact Z.againO a' cap' ⟨by omega, (by (exact extA)), by rw [e1]; exact Sep.drop hS 1⟩ (by repeat' first | exact trivial | (refine And.intro ?_ ?_) | exact rfl | (rw [e1]; exact rfl))
      · have e2 : injN v p o k x = x := by rw [injN, if_neg p0, if_neg hvk]
        rw [e2] at e1
        repeat' (first
          | (apply WL.gT; exact rfl; exact rfl; (focus (first | exact dec_true hf | exact dec_true (by omega) | exact dec_false (by omega); done)))
          | (apply WL.gF; exact rfl; exact rfl; (focus (first | exact dec_true hf | exact dec_true (by omega) | exact dec_false (by omega); done)))
          | (apply W.condKT; exact rfl; (focus (first | exact dec_true hf | exact dec_true (by omega) | exact dec_false (by omega); done)))
          | (apply WL.alloc tOk; exact rfl; exact rfl; exact rfl; intro gb w' hb hge hx; replace hS := Sep.newCell (Sep.ext hS (by (exact extA))) hx hb hge (by (first | exact Nat.le_refl _ | exact Below.size (by (exact extA)))); (try simp only [List.set_cons_zero, List.set_cons_succ] at hS); (try have hR0 := hS.row (i := 0) rfl); (try have hR1 := hS.row (i := 1) rfl); (try have hR2 := hS.row (i := 2) rfl); (try have hR3 := hS.row (i := 3) rfl); (try have hR4 := hS.row (i := 4) rfl); (try have hC0 := hS.cell (i := 0) rfl); (try have hD0 := (cells_heap hC0).1); (try have hE0 := (cells_heap hC0).2.1); (try have hF0 := (cells_heap hC0).2.2.1); (try have hG0 := (cells_heap hC0).2.2.2.1); (try have hC1 := hS.cell (i := 1) rfl); (try have hD1 := (cells_heap hC1).1); (try have hE1 := (cells_heap hC1).2.1); (try have hF1 := (cells_heap hC1).2.2.1); (try have hG1 := (cells_heap hC1).2.2.2.1); (try have hC2 := hS.cell (i := 2) rfl); (try have hD2 := (cells_heap hC2).1); (try have hE2 := (cells_heap hC2).2.1); (try have hF2 := (cells_heap hC2).2.2.1); (try have hG2 := (cells_heap hC2).2.2.2.1); (try have hC3 := hS.cell (i := 3) rfl); (try have hD3 := (cells_heap hC3).1); (try have hE3 := (cells_heap hC3).2.1); (try have hF3 := (cells_heap hC3).2.2.1); (try have hG3 := (cells_heap hC3).2.2.2.1); (try have hC4 := hS.cell (i := 4) rfl); (try have hD4 := (cells_heap hC4).1); (try have hE4 := (cells_heap hC4).2.1); (try have hF4 := (cells_heap hC4).2.2.1); (try have hG4 := (cells_heap hC4).2.2.2.1); (try have hM0 := hS.map (i := 0) rfl); (try have hM1 := hS.map (i := 1) rfl); (try have hM2 := hS.map (i := 2) rfl); (try have hM3 := hS.map (i := 3) rfl); (try have hM4 := hS.map (i := 4) rfl))
          | (apply WL.storeB (w0 := wb) tOk; exact rfl; exact rfl; exact rfl; exact rfl; assumption; (exact extA); exact rfl; exact rfl; exact rfl; (exact extA); (first | assumption | omega | (focus (apply Nat.le_trans; rotate_left; assumption; exact Below.size (by (exact extA)); done))); intro w' hb hc hX' hU; have hcc := hc; obtain ⟨h1, h2, _⟩ := hc; (first | replace hS := Sep.updCell (i := 0) rfl hU hb hS (by (exact extA)) (by (first | exact Nat.le_refl _ | exact Below.size (by (exact extA)))) | replace hS := Sep.updCell (i := 1) rfl hU hb hS (by (exact extA)) (by (first | exact Nat.le_refl _ | exact Below.size (by (exact extA)))) | replace hS := Sep.updCell (i := 2) rfl hU hb hS (by (exact extA)) (by (first | exact Nat.le_refl _ | exact Below.size (by (exact extA)))) | replace hS := Sep.updCell (i := 3) rfl hU hb hS (by (exact extA)) (by (first | exact Nat.le_refl _ | exact Below.size (by (exact extA))))); (try simp only [List.set_cons_zero, List.set_cons_succ] at hS); (try have hR0 := hS.row (i := 0) rfl); (try have hR1 := hS.row (i := 1) rfl); (try have hR2 := hS.row (i := 2) rfl); (try have hR3 := hS.row (i := 3) rfl); (try have hR4 := hS.row (i := 4) rfl); (try have hC0 := hS.cell (i := 0) rfl); (try have hD0 := (cells_heap hC0).1); (try have hE0 := (cells_heap hC0).2.1); (try have hF0 := (cells_heap hC0).2.2.1); (try have hG0 := (cells_heap hC0).2.2.2.1); (try have hC1 := hS.cell (i := 1) rfl); (try have hD1 := (cells_heap hC1).1); (try have hE1 := (cells_heap hC1).2.1); (try have hF1 := (cells_heap hC1).2.2.1); (try have hG1 := (cells_heap hC1).2.2.2.1); (try have hC2 := hS.cell (i := 2) rfl); (try have hD2 := (cells_heap hC2).1); (try have hE2 := (cells_heap hC2).2.1); (try have hF2 := (cells_heap hC2).2.2.1); (try have hG2 := (cells_heap hC2).2.2.2.1); (try have hC3 := hS.cell (i := 3) rfl); (try have hD3 := (cells_heap hC3).1); (try have hE3 := (cells_heap hC3).2.1); (try have hF3 := (cells_heap hC3).2.2.1); (try have hG3 := (cells_heap hC3).2.2.2.1); (try have hC4 := hS.cell (i := 4) rfl); (try have hD4 := (cells_heap hC4).1); (try have hE4 := (cells_heap hC4).2.1); (try have hF4 := (cells_heap hC4).2.2.1); (try have hG4 := (cells_heap hC4).2.2.2.1); (try have hM0 := hS.map (i := 0) rfl); (try have hM1 := hS.map (i := 1) rfl); (try have hM2 := hS.map (i := 2) rfl); (try have hM3 := hS.map (i := 3) rfl); (try have hM4 := hS.map (i := 4) rfl))
          | (apply WL.lit tOk; exact rfl; exact rfl; exact rfl; exact rfl; exact rfl; exact rfl; (first | exact rfl | kernel_rfl | (simp [Instr.fill, catCells]; done)); exact rfl; intro gb w' hb hge hc hx)
          | (apply WL.append1 (z := (x)) tOk encN_ok; exact rfl; exact rfl; exact rfl; exact rfl; exact rfl; exact rfl; exact rfl; exact rfl; exact rfl; exact rfl; assumption; (exact extA); (first | exact rfl | (focus (simp only [List.length_set]; done)) | (focus (simp; done)) | (focus (simp [*]; done)) | omega | (focus (simp only [List.length_set]; omega))); (first | assumption | (refine Cells.ext ?_ (by assumption); exact extA)); exact rfl; exact rfl; (exact extA); (first | omega | (simp; omega) | (simp at *; omega)); intro a' cap' w' hO hX' hU hF; (first | replace hS := Sep.updRow (i := 0) rfl hU hO hF hS (by (exact extA)) (by (first | exact Nat.le_refl _ | exact Below.size (by (exact extA)))) | replace hS := Sep.updRow (i := 1) rfl hU hO hF hS (by (exact extA)) (by (first | exact Nat.le_refl _ | exact Below.size (by (exact extA)))) | replace hS := Sep.updRow (i := 2) rfl hU hO hF hS (by (exact extA)) (by (first | exact Nat.le_refl _ | exact Below.size (by (exact extA)))) | replace hS := Sep.updRow (i := 3) rfl hU hO hF hS (by (exact extA)) (by (first | exact Nat.le_refl _ | exact Below.size (by (exact extA)))) | replace hS := Sep.updRow (i := 4) rfl hU hO hF hS (by (exact extA)) (by (first | exact Nat.le_refl _ | exact Below.size (by (exact extA)))) | replace hS := Sep.updRow (i := 5) rfl hU hO hF hS (by (exact extA)) (by (first | exact Nat.le_refl _ | exact Below.size (by (exact extA))))); (try simp only [List.set_cons_zero, List.set_cons_succ] at hS); (try have hR0 := hS.row (i := 0) rfl); (try have hR1 := hS.row (i := 1) rfl); (try have hR2 := hS.row (i := 2) rfl); (try have hR3 := hS.row (i := 3) rfl); (try have hR4 := hS.row (i := 4) rfl); (try have hC0 := hS.cell (i := 0) rfl); (try have hD0 := (cells_heap hC0).1); (try have hE0 := (cells_heap hC0).2.1); (try have hF0 := (cells_heap hC0).2.2.1); (try have hG0 := (cells_heap hC0).2.2.2.1); (try have hC1 := hS.cell (i := 1) rfl); (try have hD1 := (cells_heap hC1).1); (try have hE1 := (cells_heap hC1).2.1); (try have hF1 := (cells_heap hC1).2.2.1); (try have hG1 := (cells_heap hC1).2.2.2.1); (try have hC2 := hS.cell (i := 2) rfl); (try have hD2 := (cells_heap hC2).1); (try have hE2 := (cells_heap hC2).2.1); (try have hF2 := (cells_heap hC2).2.2.1); (try have hG2 := (cells_heap hC2).2.2.2.1); (try have hC3 := hS.cell (i := 3) rfl); (try have hD3 := (cells_heap hC3).1); (try have hE3 := (cells_heap hC3).2.1); (try have hF3 := (cells_heap hC3).2.2.1); (try have hG3 := (cells_heap hC3).2.2.2.1); (try have hC4 := hS.cell (i := 4) rfl); (try have hD4 := (cells_heap hC4).1); (try have hE4 := (cells_heap hC4).2.1); (try have hF4 := (cells_heap hC4).2.2.1); (try have hG4 := (cells_heap hC4).2.2.2.1); (try have hM0 := hS.map (i := 0) rfl); (try have hM1 := hS.map (i := 1) rfl); (try have hM2 := hS.map (i := 2) rfl); (try have hM3 := hS.map (i := 3) rfl); (try have hM4 := hS.map (i := 4) rfl))
          | (show WL _ _ _ _ _ _ _; first | apply WL.nil | (refine WL.au (k := ?_)) | (apply WL.index tOk; exact rfl; exact rfl; exact rfl; exact rfl; exact rfl; exact rfl; exact rfl; exact rfl; assumption; (exact extA); exact rfl; omega; assumption; intro b off h; have hcc := h; first | (obtain ⟨h1, h2, h3, h4, h5, h6, _⟩ := h) | (obtain ⟨h1, h2, h3, _⟩ := h) | (obtain ⟨h1, h2, _⟩ := h) | (obtain ⟨h1, _⟩ := h)) | (apply WL.guardF; exact rfl; exact rfl))
          | (show Z _ _ _ _ _; first | apply Z.then_normal | apply Z.block_normal)
          | (show W _ _ _ _ _ _; first | apply W.seq | apply W.region | apply W.block | apply W.skip | (apply W.condF; exact rfl))
          | fail)
        all_goals exact Z.againO a' cap' ⟨by omega, (by (exact extA)), by rw [e1]; exact Sep.drop hS 1⟩ (by repeat' first | exact trivial | (refine And.intro ?_ ?_) | exact rfl | (rw [e1]; exact rfl))
  · obtain rfl : k = n.length := by omega
    have hfull : injTo n v p o n.length = injNet n v p o := rfl
    rw [hfull] at hS9 ⊢
    repeat' (first
      | (apply W.condKF; exact rfl; (focus (exact dec_false (by omega); done)))
      | (show WL _ _ _ _ _ _ _; first | apply WL.nil | (refine WL.au (k := ?_)))
      | (show Z _ _ _ _ _; first | apply Z.then_normal | apply Z.then_exit | apply Z.block_exit)
      | (show W _ _ _ _ _ _; first | apply W.seq | apply W.region | apply W.block | apply W.exit)
      | fail)
    refine W.loopO outs.length (fun k d dp w' => k ≤ outs.length ∧ Ext wb w' ∧ Sep wb.heap.size w' [prow 1 encI 3 wb.heap.size d dp ((outs.take k).map (injL v p o)), prow 2 encN 52 wb.heap.size c cp (injNet n v p o)])
      (fun k d dp => [(1, .slice rb outs.length cb), (5, .pointer (some ⟨g5, 0, none⟩)), (8, .slice c (injNet n v p o).length cp), (9, .slice d ((outs.take k).map (injL v p o)).length dp), (10, .bool (dec (goodF n v p))), (13, .int .i64 k)]) (some ⟨gt, 0, none⟩) 0 ⟨by omega, hX9, hS9⟩ (fun k d dp w' h => h.1) ⟨rfl, rfl, rfl, rfl, rfl, rfl, trivial⟩ ?_
    rintro k d dp w8 ⟨hk8, hX8, hS8⟩
    have hS := hS8
    (try simp only [List.set_cons_zero, List.set_cons_succ] at hS); (try have hR0 := hS.row (i := 0) rfl); (try have hR1 := hS.row (i := 1) rfl); (try have hR2 := hS.row (i := 2) rfl); (try have hR3 := hS.row (i := 3) rfl); (try have hR4 := hS.row (i := 4) rfl); (try have hC0 := hS.cell (i := 0) rfl); (try have hD0 := (cells_heap hC0).1); (try have hE0 := (cells_heap hC0).2.1); (try have hF0 := (cells_heap hC0).2.2.1); (try have hG0 := (cells_heap hC0).2.2.2.1); (try have hC1 := hS.cell (i := 1) rfl); (try have hD1 := (cells_heap hC1).1); (try have hE1 := (cells_heap hC1).2.1); (try have hF1 := (cells_heap hC1).2.2.1); (try have hG1 := (cells_heap hC1).2.2.2.1); (try have hC2 := hS.cell (i := 2) rfl); (try have hD2 := (cells_heap hC2).1); (try have hE2 := (cells_heap hC2).2.1); (try have hF2 := (cells_heap hC2).2.2.1); (try have hG2 := (cells_heap hC2).2.2.2.1); (try have hC3 := hS.cell (i := 3) rfl); (try have hD3 := (cells_heap hC3).1); (try have hE3 := (cells_heap hC3).2.1); (try have hF3 := (cells_heap hC3).2.2.1); (try have hG3 := (cells_heap hC3).2.2.2.1); (try have hC4 := hS.cell (i := 4) rfl); (try have hD4 := (cells_heap hC4).1); (try have hE4 := (cells_heap hC4).2.1); (try have hF4 := (cells_heap hC4).2.2.1); (try have hG4 := (cells_heap hC4).2.2.2.1); (try have hM0 := hS.map (i := 0) rfl); (try have hM1 := hS.map (i := 1) rfl); (try have hM2 := hS.map (i := 2) rfl); (try have hM3 := hS.map (i := 3) rfl); (try have hM4 := hS.map (i := 4) rfl)
    have hml : ((outs.take k).map (injL v p o)).length = k := by simp; omega
    by_cases hlt : k < outs.length
    · obtain ⟨z, hz⟩ := getI outs hlt
      have e1 := map_snoc (injL v p o) hz
      have hzk := hk z (List.mem_of_getElem? hz)
      by_cases p0 : p = 0
      · rw [show injL v p o z = stuckL v o z from if_pos p0] at e1
        repeat' (first
          | (apply WL.gT; exact rfl; exact rfl; (focus (first | exact dec_true hf | exact dec_true (by omega); done)))
          | (apply W.condKT; exact rfl; (focus (first | exact dec_true hf | exact dec_true (by omega); done)))
          | (show W _ _ (.region 18 _ _) _ _ _; apply W.regionG (.fl true 0 (.fl true 1 (.fl true 2 (.fl true 3 (.fl false 4 (.fl false 5 (.br 6 (.br 7 (.br 8 (.fl true 9 .done) .stop) .stop) .stop))))))) [5, 7, 8] (Ext wb) tMix; kernel_rfl)
          | ((show WL _ _ _ (⟨_, .call ⟨.value (.func 52), _, _⟩, _, _, _, _⟩ :: _) _ _ _); apply WL.callP; exact rfl; exact rfl; exact rfl; exact rfl; exact ref44_stuck v p z o _ (by omega); intro w' hx)
          | (apply WL.lit tOk; exact rfl; exact rfl; exact rfl; exact rfl; exact rfl; exact rfl; (first | exact rfl | kernel_rfl | (simp [Instr.fill, catCells]; done)); exact rfl; intro gb w' hb hge hc hx)
          | (apply WL.append1 (z := (stuckL v o z)) tOk encI_ok; exact rfl; exact rfl; exact rfl; exact rfl; exact rfl; exact rfl; exact rfl; exact rfl; exact rfl; exact rfl; assumption; (exact extA); (first | exact rfl | (focus (simp only [List.length_set]; done)) | (focus (simp; done)) | (focus (simp [*]; done)) | omega | (focus (simp only [List.length_set]; omega))); (first | assumption | (refine Cells.ext ?_ (by assumption); exact extA)); exact rfl; exact rfl; (exact extA); (first | omega | (simp; omega) | (simp at *; omega)); intro a' cap' w' hO hX' hU hF; (first | replace hS := Sep.updRow (i := 0) rfl hU hO hF hS (by (exact extA)) (by (first | exact Nat.le_refl _ | exact Below.size (by (exact extA)))) | replace hS := Sep.updRow (i := 1) rfl hU hO hF hS (by (exact extA)) (by (first | exact Nat.le_refl _ | exact Below.size (by (exact extA)))) | replace hS := Sep.updRow (i := 2) rfl hU hO hF hS (by (exact extA)) (by (first | exact Nat.le_refl _ | exact Below.size (by (exact extA)))) | replace hS := Sep.updRow (i := 3) rfl hU hO hF hS (by (exact extA)) (by (first | exact Nat.le_refl _ | exact Below.size (by (exact extA)))) | replace hS := Sep.updRow (i := 4) rfl hU hO hF hS (by (exact extA)) (by (first | exact Nat.le_refl _ | exact Below.size (by (exact extA)))) | replace hS := Sep.updRow (i := 5) rfl hU hO hF hS (by (exact extA)) (by (first | exact Nat.le_refl _ | exact Below.size (by (exact extA))))); (try simp only [List.set_cons_zero, List.set_cons_succ] at hS); (try have hR0 := hS.row (i := 0) rfl); (try have hR1 := hS.row (i := 1) rfl); (try have hR2 := hS.row (i := 2) rfl); (try have hR3 := hS.row (i := 3) rfl); (try have hR4 := hS.row (i := 4) rfl); (try have hC0 := hS.cell (i := 0) rfl); (try have hD0 := (cells_heap hC0).1); (try have hE0 := (cells_heap hC0).2.1); (try have hF0 := (cells_heap hC0).2.2.1); (try have hG0 := (cells_heap hC0).2.2.2.1); (try have hC1 := hS.cell (i := 1) rfl); (try have hD1 := (cells_heap hC1).1); (try have hE1 := (cells_heap hC1).2.1); (try have hF1 := (cells_heap hC1).2.2.1); (try have hG1 := (cells_heap hC1).2.2.2.1); (try have hC2 := hS.cell (i := 2) rfl); (try have hD2 := (cells_heap hC2).1); (try have hE2 := (cells_heap hC2).2.1); (try have hF2 := (cells_heap hC2).2.2.1); (try have hG2 := (cells_heap hC2).2.2.2.1); (try have hC3 := hS.cell (i := 3) rfl); (try have hD3 := (cells_heap hC3).1); (try have hE3 := (cells_heap hC3).2.1); (try have hF3 := (cells_heap hC3).2.2.1); (try have hG3 := (cells_heap hC3).2.2.2.1); (try have hC4 := hS.cell (i := 4) rfl); (try have hD4 := (cells_heap hC4).1); (try have hE4 := (cells_heap hC4).2.1); (try have hF4 := (cells_heap hC4).2.2.1); (try have hG4 := (cells_heap hC4).2.2.2.1); (try have hM0 := hS.map (i := 0) rfl); (try have hM1 := hS.map (i := 1) rfl); (try have hM2 := hS.map (i := 2) rfl); (try have hM3 := hS.map (i := 3) rfl); (try have hM4 := hS.map (i := 4) rfl))
          | (show WL _ _ _ _ _ _ _; first | apply WL.nil | (refine WL.au (k := ?_)))
          | (show SG _ _ _ _ _ _ _ _ _; first | apply SG.done | (apply SG.fl0; exact rfl) | (apply SG.fl1; exact rfl; (focus ((intro m; first | assumption | (apply Ext.at; (exact extA)) | apply But.of_at; first | exact But.upd (by assumption) | exact But.ext (by (exact extA)) | (refine But.trans ?_ (But.upd (by assumption)); exact But.ext (by (exact extA))) | exact But.at _ _ _); done))) | (apply SG.br1; exact rfl))
          | (show FL _ _ _ _ _ _ _ _; first | (apply FL.loadE tOk; exact rfl; exact rfl; exact rfl; exact rfl; exact rfl; assumption) | (apply FL.loadAE tOk; exact rfl; exact rfl; exact rfl; exact rfl; exact rfl; assumption; exact rfl) | (apply FL.indexE tOk; exact rfl; exact rfl; exact rfl; exact rfl; exact rfl; exact rfl; exact rfl; exact rfl; assumption; exact rfl; omega; assumption; intro b off h; have hcc := h; first | (obtain ⟨h1, h2, h3, h4, h5, h6, _⟩ := h) | (obtain ⟨h1, h2, h3, _⟩ := h) | (obtain ⟨h1, h2, _⟩ := h) | (obtain ⟨h1, _⟩ := h)))
          | (show FL _ _ _ _ _ _ _ _; first | apply FL.nilS | (refine FL.au (k := ?_)))
          | (show Z _ _ _ _ _; first | (apply Z.sgL; exact rfl) | (apply Z.sgE; (focus ((intro m; first | assumption | (apply Ext.at; (exact extA)) | apply But.of_at; first | exact But.upd (by assumption) | exact But.ext (by (exact extA)) | (refine But.trans ?_ (But.upd (by assumption)); exact But.ext (by (exact extA))) | exact But.at _ _ _); done))))
          | (show Z _ _ _ _ _; first | apply Z.then_normal | apply Z.block_normal)
          | (show W _ _ _ _ _ _; first | apply W.seq | apply W.region | apply W.block | apply W.skip)
          | fail)
        exact Z.againO a' cap' ⟨by omega, (by (exact extA)), by rw [e1]; exact hS⟩ (by repeat' first | exact trivial | (refine And.intro ?_ ?_) | exact rfl | (rw [e1]; exact rfl))
      · rw [show injL v p o z = z from if_neg p0] at e1
        repeat' (first
          | (apply WL.gT; exact rfl; exact rfl; (focus (first | exact dec_true hf | exact dec_true (by omega) | exact dec_false (by omega); done)))
          | (apply W.condKT; exact rfl; (focus (first | exact dec_true hf | exact dec_true (by omega) | exact dec_false (by omega); done)))
          | (apply W.condKF; exact rfl; (focus (first | exact dec_true hf | exact dec_true (by omega) | exact dec_false (by omega); done)))
          | (apply WL.lit tOk; exact rfl; exact rfl; exact rfl; exact rfl; exact rfl; exact rfl; (first | exact rfl | kernel_rfl | (simp [Instr.fill, catCells]; done)); exact rfl; intro gb w' hb hge hc hx)
          | (apply WL.append1 (z := (z)) tOk encI_ok; exact rfl; exact rfl; exact rfl; exact rfl; exact rfl; exact rfl; exact rfl; exact rfl; exact rfl; exact rfl; assumption; (exact extA); (first | exact rfl | (focus (simp only [List.length_set]; done)) | (focus (simp; done)) | (focus (simp [*]; done)) | omega | (focus (simp only [List.length_set]; omega))); (first | assumption | (refine Cells.ext ?_ (by assumption); exact extA)); exact rfl; exact rfl; (exact extA); (first | omega | (simp; omega) | (simp at *; omega)); intro a' cap' w' hO hX' hU hF; (first | replace hS := Sep.updRow (i := 0) rfl hU hO hF hS (by (exact extA)) (by (first | exact Nat.le_refl _ | exact Below.size (by (exact extA)))) | replace hS := Sep.updRow (i := 1) rfl hU hO hF hS (by (exact extA)) (by (first | exact Nat.le_refl _ | exact Below.size (by (exact extA)))) | replace hS := Sep.updRow (i := 2) rfl hU hO hF hS (by (exact extA)) (by (first | exact Nat.le_refl _ | exact Below.size (by (exact extA)))) | replace hS := Sep.updRow (i := 3) rfl hU hO hF hS (by (exact extA)) (by (first | exact Nat.le_refl _ | exact Below.size (by (exact extA)))) | replace hS := Sep.updRow (i := 4) rfl hU hO hF hS (by (exact extA)) (by (first | exact Nat.le_refl _ | exact Below.size (by (exact extA)))) | replace hS := Sep.updRow (i := 5) rfl hU hO hF hS (by (exact extA)) (by (first | exact Nat.le_refl _ | exact Below.size (by (exact extA))))); (try simp only [List.set_cons_zero, List.set_cons_succ] at hS); (try have hR0 := hS.row (i := 0) rfl); (try have hR1 := hS.row (i := 1) rfl); (try have hR2 := hS.row (i := 2) rfl); (try have hR3 := hS.row (i := 3) rfl); (try have hR4 := hS.row (i := 4) rfl); (try have hC0 := hS.cell (i := 0) rfl); (try have hD0 := (cells_heap hC0).1); (try have hE0 := (cells_heap hC0).2.1); (try have hF0 := (cells_heap hC0).2.2.1); (try have hG0 := (cells_heap hC0).2.2.2.1); (try have hC1 := hS.cell (i := 1) rfl); (try have hD1 := (cells_heap hC1).1); (try have hE1 := (cells_heap hC1).2.1); (try have hF1 := (cells_heap hC1).2.2.1); (try have hG1 := (cells_heap hC1).2.2.2.1); (try have hC2 := hS.cell (i := 2) rfl); (try have hD2 := (cells_heap hC2).1); (try have hE2 := (cells_heap hC2).2.1); (try have hF2 := (cells_heap hC2).2.2.1); (try have hG2 := (cells_heap hC2).2.2.2.1); (try have hC3 := hS.cell (i := 3) rfl); (try have hD3 := (cells_heap hC3).1); (try have hE3 := (cells_heap hC3).2.1); (try have hF3 := (cells_heap hC3).2.2.1); (try have hG3 := (cells_heap hC3).2.2.2.1); (try have hC4 := hS.cell (i := 4) rfl); (try have hD4 := (cells_heap hC4).1); (try have hE4 := (cells_heap hC4).2.1); (try have hF4 := (cells_heap hC4).2.2.1); (try have hG4 := (cells_heap hC4).2.2.2.1); (try have hM0 := hS.map (i := 0) rfl); (try have hM1 := hS.map (i := 1) rfl); (try have hM2 := hS.map (i := 2) rfl); (try have hM3 := hS.map (i := 3) rfl); (try have hM4 := hS.map (i := 4) rfl))
          | (show WL _ _ _ _ _ _ _; first | apply WL.nil | (refine WL.au (k := ?_)) | (apply WL.index tOk; exact rfl; exact rfl; exact rfl; exact rfl; exact rfl; exact rfl; exact rfl; exact rfl; assumption; (exact extA); exact rfl; omega; assumption; intro b off h; have hcc := h; first | (obtain ⟨h1, h2, h3, h4, h5, h6, _⟩ := h) | (obtain ⟨h1, h2, h3, _⟩ := h) | (obtain ⟨h1, h2, _⟩ := h) | (obtain ⟨h1, _⟩ := h)))
          | (show Z _ _ _ _ _; first | apply Z.then_normal | apply Z.block_normal)
          | (show W _ _ _ _ _ _; first | apply W.seq | apply W.region | apply W.block | apply W.skip)
          | fail)
        exact Z.againO a' cap' ⟨by omega, (by (exact extA)), by rw [e1]; exact hS⟩ (by repeat' first | exact trivial | (refine And.intro ?_ ?_) | exact rfl | (rw [e1]; exact rfl))
    · obtain rfl : k = outs.length := by omega
      rw [List.take_length] at hS8 hml ⊢
      repeat' (first
        | (apply W.condKF; exact rfl; (focus (exact dec_false (by omega); done)))
        | (show WL _ _ _ _ _ _ _; first | apply WL.nil | (refine WL.au (k := ?_)))
        | (show Z _ _ _ _ _; first | apply Z.then_normal | apply Z.then_exit | apply Z.block_exit)
        | (show W _ _ _ _ _ _; first | apply W.seq | apply W.region | apply W.ret | apply W.exit)
        | fail)
      exact Z.body2 Tryd.results47 rfl rfl fun m => ⟨(hXb.trans hX8).at m, c, cp, d, dp, rfl, (Own.row encN_ok (hS8.row (i := 1) rfl)).ext ((Ext.refl _).at m), (Own.row encI_ok (hS8.row (i := 0) rfl)).ext ((Ext.refl _).at m)⟩
end Go.Proofs.YtlcenenkloicjaaDoor
namespace Go.Proofs.YtlcenenkloicjaaDoor
open Go Go.Lt Go.RowKit
set_option linter.unusedVariables false
set_option linter.unusedSimpArgs false
set_option maxRecDepth 20000

theorem values_len' (n : List (Int × Int)) (ins : List Bool) : (values n ins).length = n.length + 1 := (vto_len n ins n.length (Nat.le_refl _)).1
end Go.Proofs.YtlcenenkloicjaaDoor
namespace Go.Proofs.YtlcenenkloicjaaDoor
open Go Go.Lt Go.RowKit
set_option linter.unusedVariables false
set_option linter.unusedSimpArgs false
set_option maxRecDepth 20000

abbrev outsV (n : List (Int × Int)) (outs : List Int) (ins : List Bool) : List Bool := outs.map (ofL (values n ins))
noncomputable abbrev outsF (n : List (Int × Int)) (outs : List Int) (v p : Int) (o : Bool) (ins : List Bool) : List Bool := outsV (injNet n v p o) (outs.map (injL v p o)) ins
def detP (n : List (Int × Int)) (outs : List Int) (v p : Int) (o : Bool) (ins : List Bool) : Prop := goodF n v p ∧ ¬ outsV n outs ins = outsF n outs v p o ins

set_option maxHeartbeats 4000000 in
theorem ref44_Outs (ra rb ri : Option Addr) (cap cb ci : Nat) (n : List (Int × Int)) (outs : List Int) (v p : Int) (o : Bool) (ins : List Bool) (w : World) (R : Row 2 encN w ra n) (Rb : Row 1 encI w rb outs) (Ri : Row 1 encB w ri ins) (hg : GoodNet n) (hn : n.length ≤ 1048576) (ho : outs.length ≤ 1048576) (hf : goodF n v p) (hk : ∀ l ∈ outs, 0 ≤ l ∧ l ≤ 2 * (n.length : Int) + 1) :
    Lt.Spec Tryd.prog 41 [.slice ra n.length cap, .slice rb outs.length cb, fv v p o, .slice ri ins.length ci] w (IsFresh 1 encB 4 w (outsF n outs v p o ins)) := by
  have hng := injNet_good (o := o) hg hf
  have hnl := injNet_len n v p o
  have hvl := values_len' (injNet n v p o) ins
  have hml : (outs.map (injL v p o)).length = outs.length := by simp
  refine Spec.of _ Tryd.func41 rfl Tryd.ntmps41 (by kernel_rfl) rfl ?_
  repeat' (first
    | (apply WL.box; exact rfl; exact rfl; exact rfl; intro gb w' hb hge hc hx; have hcc := hc; (first | (obtain ⟨h1, h2, h3, _⟩ := hc) | (obtain ⟨h1, h2, _⟩ := hc)))
    | (((show WL _ _ _ (⟨_, .call ⟨.value (.func 47), _, _⟩, _, _, _, _⟩ :: _) _ _ _); apply WL.call; exact rfl; exact rfl; exact rfl; exact rfl; exact ref44_Inject _ _ _ _ n outs v p o _ (R.ext (by (exact extA))) (Rb.ext (by (exact extA))) hg hn ho hf hk; rintro v' w2 ⟨hx2, a2, c2, a3, c3, rfl, R2, R3⟩))
    | (show WL _ _ _ _ _ _ _; first | apply WL.nil | (refine WL.au (k := ?_)))
    | (show Z _ _ _ _ _; apply Z.then_normal)
    | (show W _ _ _ _ _ _; first | apply W.seq | apply W.region)
    | fail)
  repeat' (first
    | ((show WL _ _ _ (⟨_, .call ⟨.value (.func 39), _, _⟩, _, _, _, _⟩ :: _) _ _ _); apply WL.call; exact rfl; exact rfl; exact rfl; exact rfl; exact ref07_Values _ _ _ _ (injNet n v p o) ins _ (R2.ext (by (exact extA))) (Ri.ext (by (exact extA))) hng (by omega); rintro v' w' ⟨hx, a', cap', rfl, hO⟩)
    | fail)
  have RV := Own.row encB_ok hO
  have hxv : Ext w2 w' := (by (exact extA))
  have R3v := R3.ext hxv
  have hxw : Ext w w' := (by (exact extA))
  obtain ⟨av, rfl⟩ : ∃ x, x = a' := ⟨_, rfl⟩; obtain ⟨cv, rfl⟩ : ∃ x, x = cap' := ⟨_, rfl⟩; obtain ⟨wv, rfl⟩ : ∃ x, x = w' := ⟨_, rfl⟩
  repeat' (first
    | (apply WL.lit (len := 0) tOk; exact rfl; exact rfl; exact rfl; exact rfl; exact rfl; exact rfl; (first | exact rfl | kernel_rfl | (simp [Instr.fill, catCells]; done)); exact rfl; intro gb w' hb hge hc hx; have hO0 := Own.of_block0 (enc := encB) (s := 1) hb hge)
    | (show WL _ _ _ _ _ _ _; first | apply WL.nil | (refine WL.au (k := ?_)))
    | (show Z _ _ _ _ _; apply Z.then_normal)
    | (show W _ _ _ _ _ _; first | apply W.seq | apply W.region | apply W.block)
    | fail)
  refine W.loopO (outs.map (injL v p o)).length (fun k c cp w' => k ≤ (outs.map (injL v p o)).length ∧ Ext wv w' ∧ Own 1 encB 4 wv.heap.size w' c cp (((outs.map (injL v p o)).take k).map (ofL (values (injNet n v p o) ins))))
    (fun k c cp => [(10, .slice a3 (outs.map (injL v p o)).length c3), (11, .slice av (values (injNet n v p o) ins).length cv), (12, .slice c (((outs.map (injL v p o)).take k).map (ofL (values (injNet n v p o) ins))).length cp), (13, .int .i64 k)]) (some ⟨gb, 0, none⟩) 0 ⟨by omega, hx, hO0⟩ (fun k c cp w' h => h.1) ⟨rfl, rfl, rfl, rfl, trivial⟩ ?_
  rintro k c cp w9 ⟨hkk, hX9, hO9⟩
  have hlk : (((outs.map (injL v p o)).take k).map (ofL (values (injNet n v p o) ins))).length = k := by rw [List.length_map, List.length_take]; omega
  by_cases hlt : k < (outs.map (injL v p o)).length
  · obtain ⟨z, hz⟩ := getI (outs.map (injL v p o)) hlt
    have e1 := map_snoc (ofL (values (injNet n v p o) ins)) hz
    have hzk : 0 ≤ z ∧ z ≤ 2 * (n.length : Int) + 1 := by
      obtain ⟨y, hy, rfl⟩ := List.mem_map.1 (List.mem_of_getElem? hz)
      exact injL_le (hk y hy)
    repeat' (first
      | (apply W.condKT; exact rfl; (focus (exact dec_true (by omega); done)))
      | ((show WL _ _ _ (⟨_, .call ⟨.value (.func 40), _, _⟩, _, _, _, _⟩ :: _) _ _ _); apply WL.callS; exact rfl; exact rfl; exact rfl; exact rfl; exact ref07_Of _ _ (values (injNet n v p o) ins) z _ (RV.ext hX9) ⟨by omega, by omega, by omega⟩)
      | (apply WL.lit tOk; exact rfl; exact rfl; exact rfl; exact rfl; exact rfl; exact rfl; (first | exact rfl | kernel_rfl | (simp [Instr.fill, catCells]; done)); exact rfl; intro gb w' hb hge hc hx)
      | (apply WL.append1 (z := (ofL (values (injNet n v p o) ins) z)) tOk encB_ok; exact rfl; exact rfl; exact rfl; exact rfl; exact rfl; exact rfl; exact rfl; exact rfl; exact rfl; exact rfl; assumption; (exact extA); (first | exact rfl | (focus (simp only [List.length_set]; done)) | (focus (simp; done)) | (focus (simp [*]; done)) | omega | (focus (simp only [List.length_set]; omega))); (first | assumption | (refine Cells.ext ?_ (by assumption); exact extA)); exact rfl; exact rfl; (exact extA); (first | omega | (simp; omega) | (simp at *; omega)); intro a' cap' w' hO hX' hU hF)
      | (show WL _ _ _ _ _ _ _; first | apply WL.nil | (refine WL.au (k := ?_)) | (apply WL.index tOk; exact rfl; exact rfl; exact rfl; exact rfl; exact rfl; exact rfl; exact rfl; exact rfl; assumption; (exact extA); exact rfl; omega; assumption; intro b off h; have hcc := h; first | (obtain ⟨h1, h2, h3, h4, h5, h6, _⟩ := h) | (obtain ⟨h1, h2, h3, _⟩ := h) | (obtain ⟨h1, h2, _⟩ := h) | (obtain ⟨h1, _⟩ := h)))
      | (show Z _ _ _ _ _; first | apply Z.then_normal | apply Z.block_normal)
      | (show W _ _ _ _ _ _; first | apply W.seq | apply W.region | apply W.block | apply W.skip)
      | fail)
    exact Z.againO a' cap' ⟨by omega, (by (exact extA)), by rw [e1]; exact hO⟩ (by repeat' first | exact trivial | (refine And.intro ?_ ?_) | exact rfl | (rw [e1]; exact rfl))
  · obtain rfl : k = (outs.map (injL v p o)).length := by omega
    rw [List.take_length] at hO9 ⊢
    repeat' (first
      | (apply W.condKF; exact rfl; (focus (exact dec_false (by omega); done)))
      | (show WL _ _ _ _ _ _ _; first | apply WL.nil | (refine WL.au (k := ?_)))
      | (show Z _ _ _ _ _; first | apply Z.then_normal | apply Z.then_exit | apply Z.block_exit)
      | (show W _ _ _ _ _ _; first | apply W.seq | apply W.region | apply W.ret | apply W.exit)
      | fail)
    exact Z.body1 Tryd.results41 rfl fun m => ⟨(hxw.trans hX9).at m, c, cp, rfl, (hO9.base hxw.size).ext ((Ext.refl _).at m)⟩

set_option maxHeartbeats 4000000 in
theorem ref45_Detects (ra rb ri : Option Addr) (cap cb ci : Nat) (n : List (Int × Int)) (outs : List Int) (v p : Int) (o : Bool) (ins : List Bool) (w : World) (R : Row 2 encN w ra n) (Rb : Row 1 encI w rb outs) (Ri : Row 1 encB w ri ins) (hg : GoodNet n) (hn : n.length ≤ 1048576) (ho : outs.length ≤ 1048576) (hv : inI64 v) (hk : ∀ l ∈ outs, 0 ≤ l ∧ l ≤ 2 * (n.length : Int) + 1) :
    Pure Tryd.prog 30 [.slice ra n.length cap, .slice rb outs.length cb, fv v p o, .slice ri ins.length ci] w (.bool (dec (detP n outs v p o ins))) := by
  by_cases hf : goodF n v p
  · have hvl := values_len' n ins
    have hd : dec (detP n outs v p o ins) = !dec (outsV n outs ins = outsF n outs v p o ins) := by
      by_cases h : outsV n outs ins = outsF n outs v p o ins
      · rw [dec_true h, dec_false (fun hh => hh.2 h)]; rfl
      · rw [dec_false h, dec_true ⟨hf, h⟩]; rfl
    rw [hd]
    refine Spec.of _ Tryd.func30 rfl Tryd.ntmps30 (by kernel_rfl) rfl ?_
    repeat' (first
      | (show W _ _ _ _ _ _; first | apply W.seq | apply W.region)
      | fail)
    apply WL.box; exact rfl; exact rfl; exact rfl; intro gb w' hb hge hc hx
    obtain ⟨g5, rfl⟩ : ∃ x, x = gb := ⟨_, rfl⟩; obtain ⟨wb, rfl⟩ : ∃ x, x = w' := ⟨_, rfl⟩
    have hc5 : Cells wb g5 0 [.int .i64 v, .int .i64 p, .bool o] := hc
    have hXb : Ext w wb := hx
    repeat' (first
      | ((show WL _ _ _ (⟨_, .call ⟨.value (.func 38), _, _⟩, _, _, _, _⟩ :: _) _ _ _); apply WL.callP; exact rfl; exact rfl; exact rfl; exact rfl; exact ref44_Good _ _ n v p o _ (R.ext (by (exact extA))) hv; intro w' hx)
      | (apply W.condKF; exact rfl; (focus ((rw [dec_true hf]; rfl); done)))
      | ((show WL _ _ _ (⟨_, .call ⟨.value (.func 39), _, _⟩, _, _, _, _⟩ :: _) _ _ _); apply WL.call; exact rfl; exact rfl; exact rfl; exact rfl; exact ref07_Values _ _ _ _ n ins _ (R.ext (by (exact extA))) (Ri.ext (by (exact extA))) hg hn; rintro v' w' ⟨hx, a', cap', rfl, hO⟩)
      | (show WL _ _ _ _ _ _ _; first | apply WL.nil | (refine WL.au (k := ?_)))
      | (show Z _ _ _ _ _; apply Z.then_normal)
      | (show W _ _ _ _ _ _; first | apply W.seq | apply W.region | apply W.skip)
      | fail)
    have RV := Own.row encB_ok hO
    have hxw : Ext w w' := (by (exact extA))
    have hbv : Ext wb w' := (by (exact extA))
    obtain ⟨av, rfl⟩ : ∃ x, x = a' := ⟨_, rfl⟩; obtain ⟨cv, rfl⟩ : ∃ x, x = cap' := ⟨_, rfl⟩; obtain ⟨wv, rfl⟩ : ∃ x, x = w' := ⟨_, rfl⟩
    repeat' (first
      | (apply WL.lit (len := 0) tOk; exact rfl; exact rfl; exact rfl; exact rfl; exact rfl; exact rfl; (first | exact rfl | kernel_rfl | (simp [Instr.fill, catCells]; done)); exact rfl; intro gb w' hb hge hc hx; have hO0 := Own.of_block0 (enc := encB) (s := 1) hb hge)
      | (show WL _ _ _ _ _ _ _; first | apply WL.nil | (refine WL.au (k := ?_)))
      | (show Z _ _ _ _ _; apply Z.then_normal)
      | (show W _ _ _ _ _ _; first | apply W.seq | apply W.region | apply W.block)
      | fail)
    refine W.loopO outs.length (fun k c cp w' => k ≤ outs.length ∧ Ext wv w' ∧ Own 1 encB 4 wv.heap.size w' c cp ((outs.take k).map (ofL (values n ins))))
      (fun k c cp => [(0, .slice ra n.length cap), (1, .slice rb outs.length cb), (3, .slice ri ins.length ci), (6, .pointer (some ⟨g5, 0, none⟩)), (9, .slice av (values n ins).length cv), (10, .slice c ((outs.take k).map (ofL (values n ins))).length cp), (11, .int .i64 k)]) (some ⟨gb, 0, none⟩) 0 ⟨by omega, hx, hO0⟩ (fun k c cp w' h => h.1) ⟨rfl, rfl, rfl, rfl, rfl, rfl, rfl, trivial⟩ ?_
    rintro k c cp w9 ⟨hkk, hX9, hO9⟩
    have hlk : ((outs.take k).map (ofL (values n ins))).length = k := by rw [List.length_map, List.length_take]; omega
    have Rb9 := Rb.ext (hxw.trans hX9)
    by_cases hlt : k < outs.length
    · obtain ⟨z, hz⟩ := getI outs hlt
      have e1 := map_snoc (ofL (values n ins)) hz
      have hzk := hk z (List.mem_of_getElem? hz)
      repeat' (first
        | (apply W.condKT; exact rfl; (focus (exact dec_true (by omega); done)))
        | ((show WL _ _ _ (⟨_, .call ⟨.value (.func 40), _, _⟩, _, _, _, _⟩ :: _) _ _ _); apply WL.callS; exact rfl; exact rfl; exact rfl; exact rfl; exact ref07_Of _ _ (values n ins) z _ (RV.ext hX9) ⟨by omega, by omega, by omega⟩)
        | (apply WL.lit tOk; exact rfl; exact rfl; exact rfl; exact rfl; exact rfl; exact rfl; (first | exact rfl | kernel_rfl | (simp [Instr.fill, catCells]; done)); exact rfl; intro gb w' hb hge hc hx)
        | (apply WL.append1 (z := (ofL (values n ins) z)) tOk encB_ok; exact rfl; exact rfl; exact rfl; exact rfl; exact rfl; exact rfl; exact rfl; exact rfl; exact rfl; exact rfl; assumption; (exact extA); (first | exact rfl | (focus (simp only [List.length_set]; done)) | (focus (simp; done)) | (focus (simp [*]; done)) | omega | (focus (simp only [List.length_set]; omega))); (first | assumption | (refine Cells.ext ?_ (by assumption); exact extA)); exact rfl; exact rfl; (exact extA); (first | omega | (simp; omega) | (simp at *; omega)); intro a' cap' w' hO hX' hU hF)
        | (show WL _ _ _ _ _ _ _; first | apply WL.nil | (refine WL.au (k := ?_)) | (apply WL.index tOk; exact rfl; exact rfl; exact rfl; exact rfl; exact rfl; exact rfl; exact rfl; exact rfl; assumption; (exact extA); exact rfl; omega; assumption; intro b off h; have hcc := h; first | (obtain ⟨h1, h2, h3, h4, h5, h6, _⟩ := h) | (obtain ⟨h1, h2, h3, _⟩ := h) | (obtain ⟨h1, h2, _⟩ := h) | (obtain ⟨h1, _⟩ := h)))
        | (show Z _ _ _ _ _; first | apply Z.then_normal | apply Z.block_normal)
        | (show W _ _ _ _ _ _; first | apply W.seq | apply W.region | apply W.block | apply W.skip)
        | fail)
      exact Z.againO a' cap' ⟨by omega, (by (exact extA)), by rw [e1]; exact hO⟩ (by repeat' first | exact trivial | (refine And.intro ?_ ?_) | exact rfl | (rw [e1]; exact rfl))
    · obtain rfl : k = outs.length := by omega
      rw [List.take_length] at hO9 hlk ⊢
      have hc9 := Cells.ext (hbv.trans hX9) hc5
      have RL := Own.row encB_ok hO9
      repeat' (first
        | (apply W.condKF; exact rfl; (focus (exact dec_false (by omega); done)))
        | ((show WL _ _ _ (⟨_, .call ⟨.value (.func 41), _, _⟩, _, _, _, _⟩ :: _) _ _ _); apply WL.call; exact rfl; exact rfl; exact rfl; exact rfl; exact ref44_Outs _ _ _ _ _ _ n outs v p o ins _ (R.ext (hxw.trans hX9)) Rb9 (Ri.ext (hxw.trans hX9)) hg hn ho hf hk; rintro v' w' ⟨hx, a', cap', rfl, hO⟩)
        | ((show WL _ _ _ (⟨_, .call ⟨.value (.func 19), _, _⟩, _, _, _, _⟩ :: _) _ _ _); apply WL.callS; exact rfl; exact rfl; exact rfl; exact rfl; exact ref_SameB _ _ _ _ (outsV n outs ins) (outsF n outs v p o ins) _ (RL.ext (by (exact extA))) (Own.row encB_ok (by assumption)))
        | (show WL _ _ _ _ _ _ _; first | apply WL.nil | (refine WL.au (k := ?_)))
        | (show Z _ _ _ _ _; first | apply Z.then_normal | apply Z.then_exit | apply Z.block_exit)
        | (show W _ _ _ _ _ _; first | apply W.seq | apply W.region | apply W.ret | apply W.exit)
        | fail)
      exact Z.body1 Tryd.results30 rfl fun m => ⟨rfl, Ext.at (hxw.trans (hX9.trans hx)) m⟩
  · rw [dec_false (fun h => hf h.1)]
    refine Spec.of _ Tryd.func30 rfl Tryd.ntmps30 (by kernel_rfl) rfl ?_
    repeat' (first
      | (apply WL.box; exact rfl; exact rfl; exact rfl; intro gb w' hb hge hc hx; have hcc := hc; (first | (obtain ⟨h1, h2, h3, _⟩ := hc) | (obtain ⟨h1, h2, _⟩ := hc)))
      | ((show WL _ _ _ (⟨_, .call ⟨.value (.func 38), _, _⟩, _, _, _, _⟩ :: _) _ _ _); apply WL.callP; exact rfl; exact rfl; exact rfl; exact rfl; exact ref44_Good _ _ n v p o _ (R.ext (by (exact extA))) hv; intro w' hx)
      | (apply W.condKT; exact rfl; (focus ((rw [dec_false hf]; rfl); done)))
      | (show WL _ _ _ _ _ _ _; first | apply WL.nil | (refine WL.au (k := ?_)))
      | (show Z _ _ _ _ _; first | apply Z.then_normal | apply Z.then_ret)
      | (show W _ _ _ _ _ _; first | apply W.seq | apply W.region | apply W.ret)
      | fail)
    exact Z.body1 Tryd.results30 rfl fun m => ⟨rfl, Ext.at (by (exact extA)) m⟩
end Go.Proofs.YtlcenenkloicjaaDoor
namespace Go.Proofs.YtlcenenkloicjaaDoor
open Go Go.Lt Go.RowKit
set_option linter.unusedVariables false
set_option linter.unusedSimpArgs false
set_option maxRecDepth 20000

theorem fault_Inject1 (g5 g10 : Nat) (v p l : Int) (o : Bool) (w : World) (h5 : Cells w g5 0 [.int .i64 v, .int .i64 p, .bool o]) (h10 : w.cell? ⟨g10, 0, none⟩ = some (.int .i64 (atO o))) (hl : 0 ≤ l ∧ l ≤ 9223372036854775807) :
    Still Tryd.prog 51 ([.int .i64 l] ++ [.pointer (some ⟨g5, 0, none⟩), .pointer (some ⟨g10, 0, none⟩)]) w (.int .i64 (stuckL v o l)) := by
  obtain ⟨k1, k2, k3, _⟩ := h5
  have ho := atO_le o
  refine Spec.of _ Tryd.func51 rfl Tryd.ntmps51 (by kernel_rfl) rfl ?_
  repeat' (first
    | (apply WL.and1; exact rfl; exact rfl; exact rfl; exact rfl; omega)
    | (apply WL.xorI; exact rfl; exact rfl; exact rfl; exact rfl; omega; omega)
    | (show WL _ _ _ _ _ _ _; first | apply WL.nil | (refine WL.au (k := ?_)))
    | (show Z _ _ _ _ _; first | apply Z.then_normal | apply Z.then_ret)
    | (show W _ _ _ _ _ _; first | apply W.seq | apply W.region | apply W.skip | apply W.ret | (apply W.condD; exact rfl; all_goals intro _))
    | fail)
  · refine Z.body1 Tryd.results51 rfl fun m => ⟨congrArg (Value.int .i64) ?_, m, rfl⟩
    unfold stuckL
    rw [if_pos (by assumption)]
    unfold xorI
    cases o
    · split <;> rfl
    · split <;> rfl
  · refine Z.body1 Tryd.results51 rfl fun m => ⟨congrArg (Value.int .i64) ?_, m, rfl⟩
    unfold stuckL
    rw [if_neg (by assumption)]

/-- The net so far. -/
noncomputable def injUp (n : List (Int × Int)) (v p : Int) (o : Bool) (k : Nat) : List (Int × Int) := tab n.length (fun u => if u < k then injN v p o u (n.getD u (0, 0)) else n.getD u (0, 0))
theorem injUp_zero (n : List (Int × Int)) (v p : Int) (o : Bool) : injUp n v p o 0 = n := (tab_eq rfl (fun u x h => by rw [if_neg (by omega), getD_of h])).symm
theorem injUp_all (n : List (Int × Int)) (v p : Int) (o : Bool) : injUp n v p o n.length = injNet n v p o := tab_congr fun u hu => if_pos hu
theorem injUp_get {n : List (Int × Int)} {v p : Int} {o : Bool} {k : Nat} {x : Int × Int} (h : n[k]? = some x) : (injUp n v p o k)[k]? = some x := by
  rw [injUp, tab_get _ (lt_of_get h), if_neg (by omega), getD_of h]
theorem injUp_set {n : List (Int × Int)} {v p : Int} {o : Bool} {k : Nat} {x y : Int × Int} (h : n[k]? = some x) (hy : y = injN v p o k x) : (injUp n v p o k).set k y = injUp n v p o (k + 1) := by
  refine tab_set fun u hu => ?_
  by_cases hk : u = k
  · subst hk; rw [if_pos rfl, if_pos (by omega), getD_of h, hy]
  · rw [if_neg hk]
    by_cases hl : u < k
    · rw [if_pos (by omega), if_pos hl]
    · rw [if_neg (by omega), if_neg hl]
theorem injUp_same {n : List (Int × Int)} {v p : Int} {o : Bool} {k : Nat} {x : Int × Int} (h : n[k]? = some x) (hy : x = injN v p o k x) : injUp n v p o k = injUp n v p o (k + 1) := by
  rw [← injUp_set h hy]
  apply List.ext_getElem?
  intro i
  rw [List.getElem?_set]
  split
  · rename_i hi; subst hi; rw [injUp_get h]; split
    · rfl
    · rename_i hh; exact absurd (lt_of_get (injUp_get h (v := v) (p := p) (o := o))) hh
  · rfl
theorem injNet_one {n : List (Int × Int)} {v p : Int} {o : Bool} {x y : Int × Int} (hp : ¬ p = 0) (hv : 0 < v) (h : n[(v - 1).toNat]? = some x) (hy : y = injN v p o (v - 1).toNat x) : n.set (v - 1).toNat y = injNet n v p o := by
  conv => lhs; rw [show n = tab n.length (fun u => n.getD u (0, 0)) from tab_eq rfl (fun u x h => getD_of h)]
  refine tab_set fun u hu => ?_
  by_cases hk : u = (v - 1).toNat
  · rw [if_pos hk, hk, getD_of h, hy]
  · rw [if_neg hk, injN, if_neg hp, if_neg (by omega)]

/-- A list of which the first ones are turned. -/
def mapUp (f : Int → Int) (l : List Int) (k : Nat) : List Int := (l.take k).map f ++ l.drop k
theorem mapUp_len (f : Int → Int) (l : List Int) (k : Nat) : (mapUp f l k).length = l.length := by unfold mapUp; simp; omega
theorem mapUp_zero (f : Int → Int) (l : List Int) : mapUp f l 0 = l := by simp [mapUp]
theorem mapUp_all (f : Int → Int) (l : List Int) : mapUp f l l.length = l.map f := by simp [mapUp]
theorem mapUp_get {f : Int → Int} {l : List Int} {k : Nat} {x : Int} (h : l[k]? = some x) : (mapUp f l k)[k]? = some x := by
  have hk := lt_of_get h
  have hl : ((l.take k).map f).length = k := by simp; omega
  unfold mapUp
  rw [List.getElem?_append_right (by omega), hl, Nat.sub_self, List.getElem?_drop]; exact h
theorem mapUp_set {f : Int → Int} {l : List Int} {k : Nat} {x : Int} (h : l[k]? = some x) : (mapUp f l k).set k (f x) = mapUp f l (k + 1) := by
  have hk := lt_of_get h
  have hl : ((l.take k).map f).length = k := by simp; omega
  unfold mapUp
  rw [List.set_append_right _ _ (by omega), hl, Nat.sub_self, map_snoc f h, List.append_assoc]
  congr 1
  have hd : l.drop k = x :: l.drop (k + 1) := by
    rw [List.drop_eq_getElem_cons hk]; congr 1
    exact (List.getElem?_eq_some_iff.1 h).2
  rw [hd]; rfl

set_option maxHeartbeats 8000000 in
set_option maxRecDepth 10000 in
theorem fault_Inject (ra rb : Option Addr) (cap cb : Nat) (n : List (Int × Int)) (outs : List Int) (v p : Int) (o : Bool) (w : World) (R : Row 2 encN w ra n) (Rb : Row 1 encI w rb outs) (hna : ra = none → cap = 0) (hnb : rb = none → cb = 0) (hg : GoodNet n) (hn : n.length ≤ 1048576) (ho : outs.length ≤ 1048576) (hf : goodF n v p) (hk : ∀ l ∈ outs, 0 ≤ l ∧ l ≤ 2 * (n.length : Int) + 1) :
    Lt.Spec Tryd.prog 44 [.slice ra n.length cap, .slice rb outs.length cb, fv v p o] w (AtInj w n outs v p o) := by
  have hlb := Rb.len
  have hv1 : 0 < v ∧ v ≤ n.length := ⟨hf.1, hf.2.1⟩
  have hp3 : p = 0 ∨ p = 1 ∨ p = 2 := by have := hf.2.2; omega
  refine Spec.of _ Tryd.func44 rfl Tryd.ntmps44 (by kernel_rfl) rfl ?_
  repeat' (first
    | (show W _ _ _ _ _ _; first | apply W.seq | apply W.region)
    | fail)
  apply WL.box; exact rfl; exact rfl; exact rfl; intro gb w' hb hge hc hx
  obtain ⟨g5, rfl⟩ : ∃ x, x = gb := ⟨_, rfl⟩; obtain ⟨wb, rfl⟩ : ∃ x, x = w' := ⟨_, rfl⟩
  have hc5 : Cells wb g5 0 [.int .i64 v, .int .i64 p, .bool o] := hc
  obtain ⟨k1, k2, k3, _⟩ := id hc5
  have hXb : Ext w wb := hx
  have R1 := R.ext hXb
  have Rb1 := Rb.ext hXb
  repeat' (first
    | ((show WL _ _ _ (⟨_, .call ⟨.value (.func 48), _, _⟩, _, _, _, _⟩ :: _) _ _ _); apply WL.call; exact rfl; exact rfl; exact rfl; exact rfl; exact slices_CloneN _ _ n _ R1 hna hn; rintro v' w' ⟨hx, a', cap', rfl, hO⟩)
    | (show WL _ _ _ _ _ _ _; first | apply WL.nil | (refine WL.au (k := ?_)))
    | (show Z _ _ _ _ _; apply Z.then_normal)
    | (show W _ _ _ _ _ _; first | apply W.seq | apply W.region)
    | fail)
  have hO1 := hO
  have hx1 := hx
  obtain ⟨an, rfl⟩ : ∃ x, x = a' := ⟨_, rfl⟩; obtain ⟨cn, rfl⟩ : ∃ x, x = cap' := ⟨_, rfl⟩; obtain ⟨w1, rfl⟩ : ∃ x, x = w' := ⟨_, rfl⟩
  repeat' (first
    | ((show WL _ _ _ (⟨_, .call ⟨.value (.func 49), _, _⟩, _, _, _, _⟩ :: _) _ _ _); apply WL.call; exact rfl; exact rfl; exact rfl; exact rfl; exact slices_CloneI _ _ outs _ (Rb1.ext hx1) hnb ho; rintro v' w' ⟨hx, a', cap', rfl, hO⟩)
    | (show WL _ _ _ _ _ _ _; first | apply WL.nil | (refine WL.au (k := ?_)))
    | (show Z _ _ _ _ _; apply Z.then_normal)
    | (show W _ _ _ _ _ _; first | apply W.seq | apply W.region)
    | fail)
  have hx2 := hx
  have hS0 : Lt.Sep wb.heap.size w1 [prow 2 encN 52 wb.heap.size an cn n] := Sep.newRow' Sep.none' hx1 hO1 (Nat.le_refl _)
  have hS : Lt.Sep wb.heap.size w' [prow 1 encI 3 wb.heap.size a' cap' outs, prow 2 encN 52 wb.heap.size an cn n] := Sep.newRow' hS0 hx2 hO hx1.size
  obtain ⟨at0, rfl⟩ : ∃ x, x = a' := ⟨_, rfl⟩; obtain ⟨ct, rfl⟩ : ∃ x, x = cap' := ⟨_, rfl⟩; obtain ⟨w2, rfl⟩ : ∃ x, x = w' := ⟨_, rfl⟩
  have hX2 : Ext wb w2 := hx1.trans hx2
  have ho1 := atO_le o
  by_cases p0 : p = 0
  · repeat' (first
      | ((show WL _ _ _ (⟨_, .call ⟨.value (.func 43), _, _⟩, _, _, _, _⟩ :: _) _ _ _); apply WL.callP; exact rfl; exact rfl; exact rfl; exact rfl; exact fault_Good _ _ n v p o _ (R1.ext (by (exact extA))) ⟨by omega, by omega⟩; intro w' hx)
      | (apply W.condKF; exact rfl; (focus ((rw [dec_true hf]; rfl); done)))
      | ((show WL _ _ _ (⟨_, .call ⟨.value (.func 50), _, _⟩, _, _, _, _⟩ :: _) _ _ _); apply WL.callS; exact rfl; exact rfl; exact rfl; exact rfl; exact fault_constant o _)
      | (show WL _ _ _ _ _ _ _; first | apply WL.nil | (refine WL.au (k := ?_)))
      | (show Z _ _ _ _ _; apply Z.then_normal)
      | (show W _ _ _ _ _ _; first | apply W.seq | apply W.region | apply W.skip)
      | fail)
    apply WL.alloc tOk; exact rfl; exact rfl; exact rfl; intro gb w' hb hge hx
    obtain ⟨g10, rfl⟩ : ∃ x, x = gb := ⟨_, rfl⟩
    replace hS := Sep.newCell (Sep.ext hS (by (exact extA))) hx hb hge (Below.size (by (exact extA)))
    repeat' (first
      | (apply WL.storeB (w0 := wb) tOk; exact rfl; exact rfl; exact rfl; exact rfl; assumption; (exact extA); exact rfl; exact rfl; exact rfl; (exact extA); (first | assumption | omega | (focus (apply Nat.le_trans; rotate_left; assumption; exact Below.size (by (exact extA)); done))); intro w' hb hc hX' hU; have hcc := hc; obtain ⟨h1, h2, _⟩ := hc; replace hS := Sep.updCell (i := 0) rfl hU hb hS (by (exact extA)) (by (first | exact Nat.le_refl _ | exact Below.size (by (exact extA)))); (try simp only [List.set_cons_zero, List.set_cons_succ] at hS); (try have hR0 := hS.row (i := 0) rfl); (try have hR1 := hS.row (i := 1) rfl); (try have hR2 := hS.row (i := 2) rfl); (try have hR3 := hS.row (i := 3) rfl); (try have hR4 := hS.row (i := 4) rfl); (try have hC0 := hS.cell (i := 0) rfl); (try have hD0 := (cells_heap hC0).1); (try have hE0 := (cells_heap hC0).2.1); (try have hF0 := (cells_heap hC0).2.2.1); (try have hG0 := (cells_heap hC0).2.2.2.1); (try have hC1 := hS.cell (i := 1) rfl); (try have hD1 := (cells_heap hC1).1); (try have hE1 := (cells_heap hC1).2.1); (try have hF1 := (cells_heap hC1).2.2.1); (try have hG1 := (cells_heap hC1).2.2.2.1); (try have hC2 := hS.cell (i := 2) rfl); (try have hD2 := (cells_heap hC2).1); (try have hE2 := (cells_heap hC2).2.1); (try have hF2 := (cells_heap hC2).2.2.1); (try have hG2 := (cells_heap hC2).2.2.2.1); (try have hC3 := hS.cell (i := 3) rfl); (try have hD3 := (cells_heap hC3).1); (try have hE3 := (cells_heap hC3).2.1); (try have hF3 := (cells_heap hC3).2.2.1); (try have hG3 := (cells_heap hC3).2.2.2.1); (try have hC4 := hS.cell (i := 4) rfl); (try have hD4 := (cells_heap hC4).1); (try have hE4 := (cells_heap hC4).2.1); (try have hF4 := (cells_heap hC4).2.2.1); (try have hG4 := (cells_heap hC4).2.2.2.1); (try have hM0 := hS.map (i := 0) rfl); (try have hM1 := hS.map (i := 1) rfl); (try have hM2 := hS.map (i := 2) rfl); (try have hM3 := hS.map (i := 3) rfl); (try have hM4 := hS.map (i := 4) rfl))
      | (apply W.condKF; exact rfl; (focus (first | exact dec_true (by omega) | exact dec_false (by omega); done)))
      | (show WL _ _ _ _ _ _ _; first | apply WL.nil | (refine WL.au (k := ?_)))
      | (show Z _ _ _ _ _; apply Z.then_normal)
      | (show W _ _ _ _ _ _; first | apply W.seq | apply W.region | apply W.block)
      | fail)
    have hX3 : Ext wb w' := (by (exact extA))
    obtain ⟨w3, rfl⟩ : ∃ x, x = w' := ⟨_, rfl⟩
    refine W.loopW n.length (fun k w' => k ≤ n.length ∧ Ext wb w' ∧ Sep wb.heap.size w' [pcell g10 #[.int .i64 (atO o)] 3, prow 1 encI 3 wb.heap.size at0 ct outs, prow 2 encN 52 wb.heap.size an cn (injUp n v p o k)])
      (fun k => [(5, .pointer (some ⟨g5, 0, none⟩)), (8, .slice an n.length cn), (9, .slice at0 outs.length ct), (10, .pointer (some ⟨g10, 0, none⟩)), (11, .func (.func 51) #[] #[.pointer (some ⟨g5, 0, none⟩), .pointer (some ⟨g10, 0, none⟩)]), (32, .slice an n.length cn), (33, .int .i64 n.length), (34, .int .i64 k)]) ⟨by omega, hX3, by rw [injUp_zero]; exact hS⟩ (fun k w' h => h.1) ⟨rfl, rfl, rfl, rfl, rfl, rfl, rfl, rfl, trivial⟩ ?_
    rintro k w9 ⟨hkn, hX9, hS9⟩
    have hsz : wb.heap.size ≤ w9.heap.size := Below.size hX9
    have hul : (injUp n v p o k).length = n.length := tab_len _ _
    by_cases hlt : k < n.length
    · obtain ⟨x, hxn⟩ := getI n hlt
      have hxu := injUp_get (v := v) (p := p) (o := o) hxn
      have hS := hS9
      (try simp only [List.set_cons_zero, List.set_cons_succ] at hS); (try have hR0 := hS.row (i := 0) rfl); (try have hR1 := hS.row (i := 1) rfl); (try have hR2 := hS.row (i := 2) rfl); (try have hR3 := hS.row (i := 3) rfl); (try have hR4 := hS.row (i := 4) rfl); (try have hC0 := hS.cell (i := 0) rfl); (try have hD0 := (cells_heap hC0).1); (try have hE0 := (cells_heap hC0).2.1); (try have hF0 := (cells_heap hC0).2.2.1); (try have hG0 := (cells_heap hC0).2.2.2.1); (try have hC1 := hS.cell (i := 1) rfl); (try have hD1 := (cells_heap hC1).1); (try have hE1 := (cells_heap hC1).2.1); (try have hF1 := (cells_heap hC1).2.2.1); (try have hG1 := (cells_heap hC1).2.2.2.1); (try have hC2 := hS.cell (i := 2) rfl); (try have hD2 := (cells_heap hC2).1); (try have hE2 := (cells_heap hC2).2.1); (try have hF2 := (cells_heap hC2).2.2.1); (try have hG2 := (cells_heap hC2).2.2.2.1); (try have hC3 := hS.cell (i := 3) rfl); (try have hD3 := (cells_heap hC3).1); (try have hE3 := (cells_heap hC3).2.1); (try have hF3 := (cells_heap hC3).2.2.1); (try have hG3 := (cells_heap hC3).2.2.2.1); (try have hC4 := hS.cell (i := 4) rfl); (try have hD4 := (cells_heap hC4).1); (try have hE4 := (cells_heap hC4).2.1); (try have hF4 := (cells_heap hC4).2.2.1); (try have hG4 := (cells_heap hC4).2.2.2.1); (try have hM0 := hS.map (i := 0) rfl); (try have hM1 := hS.map (i := 1) rfl); (try have hM2 := hS.map (i := 2) rfl); (try have hM3 := hS.map (i := 3) rfl); (try have hM4 := hS.map (i := 4) rfl)
      by_cases hin : 0 ≤ x.1
      · have hgx := hg.gate hxn hin
        have e1 := injUp_set (v := v) (p := p) (o := o) hxn (y := (stuckL v o x.1, stuckL v o x.2)) (by rw [injN, if_pos p0, if_pos hin])
        repeat' (first
          | (apply W.condKT; exact rfl; (focus (first | exact dec_true (by omega) | exact dec_false (by omega); done)))
          | (apply WL.indexO tOk; exact rfl; exact rfl; exact rfl; exact rfl; exact rfl; exact rfl; exact rfl; exact rfl; assumption; (exact extA); exact encN_ok; (first | exact rfl | (focus (simp only [List.length_set]; done)) | (focus (simp; done)) | (focus (simp [*]; done)) | omega | (focus (simp only [List.length_set]; omega))); omega; assumption; intro gb ha hc; cases ha; have hcc := hc; first | (obtain ⟨h1, h2, h3, _⟩ := hc) | (obtain ⟨h1, h2, _⟩ := hc) | (obtain ⟨h1, _⟩ := hc))
          | (apply WL.alloc tOk; exact rfl; exact rfl; exact rfl; intro gb w' hb hge hx; replace hS := Sep.newCell (Sep.ext hS (by (exact extA))) hx hb hge (by (first | exact Nat.le_refl _ | exact Below.size (by (exact extA)))); (try simp only [List.set_cons_zero, List.set_cons_succ] at hS); (try have hR0 := hS.row (i := 0) rfl); (try have hR1 := hS.row (i := 1) rfl); (try have hR2 := hS.row (i := 2) rfl); (try have hR3 := hS.row (i := 3) rfl); (try have hR4 := hS.row (i := 4) rfl); (try have hC0 := hS.cell (i := 0) rfl); (try have hD0 := (cells_heap hC0).1); (try have hE0 := (cells_heap hC0).2.1); (try have hF0 := (cells_heap hC0).2.2.1); (try have hG0 := (cells_heap hC0).2.2.2.1); (try have hC1 := hS.cell (i := 1) rfl); (try have hD1 := (cells_heap hC1).1); (try have hE1 := (cells_heap hC1).2.1); (try have hF1 := (cells_heap hC1).2.2.1); (try have hG1 := (cells_heap hC1).2.2.2.1); (try have hC2 := hS.cell (i := 2) rfl); (try have hD2 := (cells_heap hC2).1); (try have hE2 := (cells_heap hC2).2.1); (try have hF2 := (cells_heap hC2).2.2.1); (try have hG2 := (cells_heap hC2).2.2.2.1); (try have hC3 := hS.cell (i := 3) rfl); (try have hD3 := (cells_heap hC3).1); (try have hE3 := (cells_heap hC3).2.1); (try have hF3 := (cells_heap hC3).2.2.1); (try have hG3 := (cells_heap hC3).2.2.2.1); (try have hC4 := hS.cell (i := 4) rfl); (try have hD4 := (cells_heap hC4).1); (try have hE4 := (cells_heap hC4).2.1); (try have hF4 := (cells_heap hC4).2.2.1); (try have hG4 := (cells_heap hC4).2.2.2.1); (try have hM0 := hS.map (i := 0) rfl); (try have hM1 := hS.map (i := 1) rfl); (try have hM2 := hS.map (i := 2) rfl); (try have hM3 := hS.map (i := 3) rfl); (try have hM4 := hS.map (i := 4) rfl))
          | (apply WL.storeB (w0 := wb) tOk; exact rfl; exact rfl; exact rfl; exact rfl; assumption; (exact extA); exact rfl; exact rfl; exact rfl; (exact extA); (first | assumption | omega | (focus (apply Nat.le_trans; rotate_left; assumption; exact Below.size (by (exact extA)); done))); intro w' hb hc hX' hU; have hcc := hc; obtain ⟨h1, h2, _⟩ := hc; (first | replace hS := Sep.updCell (i := 0) rfl hU hb hS (by (exact extA)) (by (first | exact Nat.le_refl _ | exact Below.size (by (exact extA)))) | replace hS := Sep.updCell (i := 1) rfl hU hb hS (by (exact extA)) (by (first | exact Nat.le_refl _ | exact Below.size (by (exact extA)))) | replace hS := Sep.updCell (i := 2) rfl hU hb hS (by (exact extA)) (by (first | exact Nat.le_refl _ | exact Below.size (by (exact extA)))) | replace hS := Sep.updCell (i := 3) rfl hU hb hS (by (exact extA)) (by (first | exact Nat.le_refl _ | exact Below.size (by (exact extA))))); (try simp only [List.set_cons_zero, List.set_cons_succ] at hS); (try have hR0 := hS.row (i := 0) rfl); (try have hR1 := hS.row (i := 1) rfl); (try have hR2 := hS.row (i := 2) rfl); (try have hR3 := hS.row (i := 3) rfl); (try have hR4 := hS.row (i := 4) rfl); (try have hC0 := hS.cell (i := 0) rfl); (try have hD0 := (cells_heap hC0).1); (try have hE0 := (cells_heap hC0).2.1); (try have hF0 := (cells_heap hC0).2.2.1); (try have hG0 := (cells_heap hC0).2.2.2.1); (try have hC1 := hS.cell (i := 1) rfl); (try have hD1 := (cells_heap hC1).1); (try have hE1 := (cells_heap hC1).2.1); (try have hF1 := (cells_heap hC1).2.2.1); (try have hG1 := (cells_heap hC1).2.2.2.1); (try have hC2 := hS.cell (i := 2) rfl); (try have hD2 := (cells_heap hC2).1); (try have hE2 := (cells_heap hC2).2.1); (try have hF2 := (cells_heap hC2).2.2.1); (try have hG2 := (cells_heap hC2).2.2.2.1); (try have hC3 := hS.cell (i := 3) rfl); (try have hD3 := (cells_heap hC3).1); (try have hE3 := (cells_heap hC3).2.1); (try have hF3 := (cells_heap hC3).2.2.1); (try have hG3 := (cells_heap hC3).2.2.2.1); (try have hC4 := hS.cell (i := 4) rfl); (try have hD4 := (cells_heap hC4).1); (try have hE4 := (cells_heap hC4).2.1); (try have hF4 := (cells_heap hC4).2.2.1); (try have hG4 := (cells_heap hC4).2.2.2.1); (try have hM0 := hS.map (i := 0) rfl); (try have hM1 := hS.map (i := 1) rfl); (try have hM2 := hS.map (i := 2) rfl); (try have hM3 := hS.map (i := 3) rfl); (try have hM4 := hS.map (i := 4) rfl))
          | (apply W.regionQS 11 tMix; kernel_rfl; exact rfl; kernel_rfl; kernel_rfl)
          | (apply QL.build tOk; exact rfl; exact rfl; exact rfl; exact rfl; exact rfl; exact rfl; exact rfl; kernel_rfl)
          | ((show QL _ _ _ _ (⟨_, .call ⟨.value (.tmp _), _, _⟩, _, _, _, _⟩ :: _) _ _); apply QL.callS; exact rfl; exact rfl; exact rfl; exact rfl; exact fault_Inject1 g5 g10 v p x.1 o _ (Cells.ext (by (exact extA)) hc5) (cells_heap (Ext.heap (by (exact extA)) (hS.cell (i := 1) rfl))).1 (by omega))
          | ((show QL _ _ _ _ (⟨_, .call ⟨.value (.tmp _), _, _⟩, _, _, _, _⟩ :: _) _ _); apply QL.callS; exact rfl; exact rfl; exact rfl; exact rfl; exact fault_Inject1 g5 g10 v p x.2 o _ (Cells.ext (by (exact extA)) hc5) (cells_heap (Ext.heap (by (exact extA)) (hS.cell (i := 1) rfl))).1 (by omega))
          | (apply WL.storeO (z' := ((stuckL v o x.1, stuckL v o x.2))) tOk; exact rfl; exact rfl; exact rfl; exact rfl; assumption; (exact extA); exact rfl; exact rfl; exact rfl; exact encN_ok; assumption; exact rfl; (exact extA); intro w' hO hX' hU; (first | replace hS := Sep.updRow (i := 0) rfl hU hO (.inl rfl) hS (by (exact extA)) (by (first | exact Nat.le_refl _ | exact Below.size (by (exact extA)))) | replace hS := Sep.updRow (i := 1) rfl hU hO (.inl rfl) hS (by (exact extA)) (by (first | exact Nat.le_refl _ | exact Below.size (by (exact extA)))) | replace hS := Sep.updRow (i := 2) rfl hU hO (.inl rfl) hS (by (exact extA)) (by (first | exact Nat.le_refl _ | exact Below.size (by (exact extA)))) | replace hS := Sep.updRow (i := 3) rfl hU hO (.inl rfl) hS (by (exact extA)) (by (first | exact Nat.le_refl _ | exact Below.size (by (exact extA)))) | replace hS := Sep.updRow (i := 4) rfl hU hO (.inl rfl) hS (by (exact extA)) (by (first | exact Nat.le_refl _ | exact Below.size (by (exact extA)))) | replace hS := Sep.updRow (i := 5) rfl hU hO (.inl rfl) hS (by (exact extA)) (by (first | exact Nat.le_refl _ | exact Below.size (by (exact extA))))); (try simp only [List.set_cons_zero, List.set_cons_succ] at hS); (try have hR0 := hS.row (i := 0) rfl); (try have hR1 := hS.row (i := 1) rfl); (try have hR2 := hS.row (i := 2) rfl); (try have hR3 := hS.row (i := 3) rfl); (try have hR4 := hS.row (i := 4) rfl); (try have hC0 := hS.cell (i := 0) rfl); (try have hD0 := (cells_heap hC0).1); (try have hE0 := (cells_heap hC0).2.1); (try have hF0 := (cells_heap hC0).2.2.1); (try have hG0 := (cells_heap hC0).2.2.2.1); (try have hC1 := hS.cell (i := 1) rfl); (try have hD1 := (cells_heap hC1).1); (try have hE1 := (cells_heap hC1).2.1); (try have hF1 := (cells_heap hC1).2.2.1); (try have hG1 := (cells_heap hC1).2.2.2.1); (try have hC2 := hS.cell (i := 2) rfl); (try have hD2 := (cells_heap hC2).1); (try have hE2 := (cells_heap hC2).2.1); (try have hF2 := (cells_heap hC2).2.2.1); (try have hG2 := (cells_heap hC2).2.2.2.1); (try have hC3 := hS.cell (i := 3) rfl); (try have hD3 := (cells_heap hC3).1); (try have hE3 := (cells_heap hC3).2.1); (try have hF3 := (cells_heap hC3).2.2.1); (try have hG3 := (cells_heap hC3).2.2.2.1); (try have hC4 := hS.cell (i := 4) rfl); (try have hD4 := (cells_heap hC4).1); (try have hE4 := (cells_heap hC4).2.1); (try have hF4 := (cells_heap hC4).2.2.1); (try have hG4 := (cells_heap hC4).2.2.2.1); (try have hM0 := hS.map (i := 0) rfl); (try have hM1 := hS.map (i := 1) rfl); (try have hM2 := hS.map (i := 2) rfl); (try have hM3 := hS.map (i := 3) rfl); (try have hM4 := hS.map (i := 4) rfl))
          | (show WL _ _ _ _ _ _ _; first | apply WL.nil | (refine WL.au (k := ?_)))
          | (show QL _ _ _ _ _ _ _; first | apply QL.nil | (refine QL.au (k := ?_)))
          | (show Z _ _ _ _ _; first | apply Z.tail | apply Z.then_normal | apply Z.block_normal)
          | (show W _ _ _ _ _ _; first | apply W.seq | apply W.region | apply W.block | apply W.skip)
          | fail)
        exact Z.againW ⟨by omega, (by (exact extA)), by rw [← e1]; exact Sep.drop hS 1⟩ ⟨rfl, rfl, rfl, rfl, rfl, rfl, rfl, rfl, trivial⟩
      · have e1 := injUp_same (v := v) (p := p) (o := o) hxn (by rw [injN, if_pos p0, if_neg hin])
        repeat' (first
          | (apply W.condKT; exact rfl; (focus (first | exact dec_true (by omega) | exact dec_false (by omega); done)))
          | (apply W.condKF; exact rfl; (focus (first | exact dec_true (by omega) | exact dec_false (by omega); done)))
          | (apply WL.indexO tOk; exact rfl; exact rfl; exact rfl; exact rfl; exact rfl; exact rfl; exact rfl; exact rfl; assumption; (exact extA); exact encN_ok; (first | exact rfl | (focus (simp only [List.length_set]; done)) | (focus (simp; done)) | (focus (simp [*]; done)) | omega | (focus (simp only [List.length_set]; omega))); omega; assumption; intro gb ha hc; cases ha; have hcc := hc; first | (obtain ⟨h1, h2, h3, _⟩ := hc) | (obtain ⟨h1, h2, _⟩ := hc) | (obtain ⟨h1, _⟩ := hc))
          | (apply WL.alloc tOk; exact rfl; exact rfl; exact rfl; intro gb w' hb hge hx; replace hS := Sep.newCell (Sep.ext hS (by (exact extA))) hx hb hge (by (first | exact Nat.le_refl _ | exact Below.size (by (exact extA)))); (try simp only [List.set_cons_zero, List.set_cons_succ] at hS); (try have hR0 := hS.row (i := 0) rfl); (try have hR1 := hS.row (i := 1) rfl); (try have hR2 := hS.row (i := 2) rfl); (try have hR3 := hS.row (i := 3) rfl); (try have hR4 := hS.row (i := 4) rfl); (try have hC0 := hS.cell (i := 0) rfl); (try have hD0 := (cells_heap hC0).1); (try have hE0 := (cells_heap hC0).2.1); (try have hF0 := (cells_heap hC0).2.2.1); (try have hG0 := (cells_heap hC0).2.2.2.1); (try have hC1 := hS.cell (i := 1) rfl); (try have hD1 := (cells_heap hC1).1); (try have hE1 := (cells_heap hC1).2.1); (try have hF1 := (cells_heap hC1).2.2.1); (try have hG1 := (cells_heap hC1).2.2.2.1); (try have hC2 := hS.cell (i := 2) rfl); (try have hD2 := (cells_heap hC2).1); (try have hE2 := (cells_heap hC2).2.1); (try have hF2 := (cells_heap hC2).2.2.1); (try have hG2 := (cells_heap hC2).2.2.2.1); (try have hC3 := hS.cell (i := 3) rfl); (try have hD3 := (cells_heap hC3).1); (try have hE3 := (cells_heap hC3).2.1); (try have hF3 := (cells_heap hC3).2.2.1); (try have hG3 := (cells_heap hC3).2.2.2.1); (try have hC4 := hS.cell (i := 4) rfl); (try have hD4 := (cells_heap hC4).1); (try have hE4 := (cells_heap hC4).2.1); (try have hF4 := (cells_heap hC4).2.2.1); (try have hG4 := (cells_heap hC4).2.2.2.1); (try have hM0 := hS.map (i := 0) rfl); (try have hM1 := hS.map (i := 1) rfl); (try have hM2 := hS.map (i := 2) rfl); (try have hM3 := hS.map (i := 3) rfl); (try have hM4 := hS.map (i := 4) rfl))
          | (apply WL.storeB (w0 := wb) tOk; exact rfl; exact rfl; exact rfl; exact rfl; assumption; (exact extA); exact rfl; exact rfl; exact rfl; (exact extA); (first | assumption | omega | (focus (apply Nat.le_trans; rotate_left; assumption; exact Below.size (by (exact extA)); done))); intro w' hb hc hX' hU; have hcc := hc; obtain ⟨h1, h2, _⟩ := hc; (first | replace hS := Sep.updCell (i := 0) rfl hU hb hS (by (exact extA)) (by (first | exact Nat.le_refl _ | exact Below.size (by (exact extA)))) | replace hS := Sep.updCell (i := 1) rfl hU hb hS (by (exact extA)) (by (first | exact Nat.le_refl _ | exact Below.size (by (exact extA)))) | replace hS := Sep.updCell (i := 2) rfl hU hb hS (by (exact extA)) (by (first | exact Nat.le_refl _ | exact Below.size (by (exact extA)))) | replace hS := Sep.updCell (i := 3) rfl hU hb hS (by (exact extA)) (by (first | exact Nat.le_refl _ | exact Below.size (by (exact extA))))); (try simp only [List.set_cons_zero, List.set_cons_succ] at hS); (try have hR0 := hS.row (i := 0) rfl); (try have hR1 := hS.row (i := 1) rfl); (try have hR2 := hS.row (i := 2) rfl); (try have hR3 := hS.row (i := 3) rfl); (try have hR4 := hS.row (i := 4) rfl); (try have hC0 := hS.cell (i := 0) rfl); (try have hD0 := (cells_heap hC0).1); (try have hE0 := (cells_heap hC0).2.1); (try have hF0 := (cells_heap hC0).2.2.1); (try have hG0 := (cells_heap hC0).2.2.2.1); (try have hC1 := hS.cell (i := 1) rfl); (try have hD1 := (cells_heap hC1).1); (try have hE1 := (cells_heap hC1).2.1); (try have hF1 := (cells_heap hC1).2.2.1); (try have hG1 := (cells_heap hC1).2.2.2.1); (try have hC2 := hS.cell (i := 2) rfl); (try have hD2 := (cells_heap hC2).1); (try have hE2 := (cells_heap hC2).2.1); (try have hF2 := (cells_heap hC2).2.2.1); (try have hG2 := (cells_heap hC2).2.2.2.1); (try have hC3 := hS.cell (i := 3) rfl); (try have hD3 := (cells_heap hC3).1); (try have hE3 := (cells_heap hC3).2.1); (try have hF3 := (cells_heap hC3).2.2.1); (try have hG3 := (cells_heap hC3).2.2.2.1); (try have hC4 := hS.cell (i := 4) rfl); (try have hD4 := (cells_heap hC4).1); (try have hE4 := (cells_heap hC4).2.1); (try have hF4 := (cells_heap hC4).2.2.1); (try have hG4 := (cells_heap hC4).2.2.2.1); (try have hM0 := hS.map (i := 0) rfl); (try have hM1 := hS.map (i := 1) rfl); (try have hM2 := hS.map (i := 2) rfl); (try have hM3 := hS.map (i := 3) rfl); (try have hM4 := hS.map (i := 4) rfl))
          | (show WL _ _ _ _ _ _ _; first | apply WL.nil | (refine WL.au (k := ?_)))
          | (show Z _ _ _ _ _; first | apply Z.then_normal | apply Z.block_normal)
          | (show W _ _ _ _ _ _; first | apply W.seq | apply W.region | apply W.block | apply W.skip)
          | fail)
        exact Z.againW ⟨by omega, (by (exact extA)), by rw [← e1]; exact Sep.drop hS 1⟩ ⟨rfl, rfl, rfl, rfl, rfl, rfl, rfl, rfl, trivial⟩
    · obtain rfl : k = n.length := by omega
      rw [injUp_all] at hS9
      repeat' (first
        | (apply W.condKF; exact rfl; (focus (exact dec_false (by omega); done)))
        | (show WL _ _ _ _ _ _ _; first | apply WL.nil | (refine WL.au (k := ?_)))
        | (show Z _ _ _ _ _; first | apply Z.then_normal | apply Z.then_exit | apply Z.block_exit)
        | (show W _ _ _ _ _ _; first | apply W.seq | apply W.region | apply W.block | apply W.exit)
        | fail)
      refine W.loopW outs.length (fun k w' => k ≤ outs.length ∧ Ext wb w' ∧ Sep wb.heap.size w' [pcell g10 #[.int .i64 (atO o)] 3, prow 1 encI 3 wb.heap.size at0 ct (mapUp (injL v p o) outs k), prow 2 encN 52 wb.heap.size an cn (injNet n v p o)])
        (fun k => [(5, .pointer (some ⟨g5, 0, none⟩)), (8, .slice an n.length cn), (9, .slice at0 outs.length ct), (10, .pointer (some ⟨g10, 0, none⟩)), (11, .func (.func 51) #[] #[.pointer (some ⟨g5, 0, none⟩), .pointer (some ⟨g10, 0, none⟩)]), (55, .slice at0 outs.length ct), (56, .int .i64 outs.length), (57, .int .i64 k)]) ⟨by omega, hX9, by rw [mapUp_zero]; exact hS9⟩ (fun k w' h => h.1) ⟨rfl, rfl, rfl, rfl, rfl, rfl, rfl, rfl, trivial⟩ ?_
      rintro k w8 ⟨hk8, hX8, hS8⟩
      have hml := mapUp_len (injL v p o) outs k
      by_cases hlt : k < outs.length
      · obtain ⟨z, hz⟩ := getI outs hlt
        have hzu := mapUp_get (f := injL v p o) hz
        have hzk := hk z (List.mem_of_getElem? hz)
        have e1 := mapUp_set (f := injL v p o) hz
        rw [show injL v p o z = stuckL v o z from if_pos p0] at e1
        have hS := hS8
        (try simp only [List.set_cons_zero, List.set_cons_succ] at hS); (try have hR0 := hS.row (i := 0) rfl); (try have hR1 := hS.row (i := 1) rfl); (try have hR2 := hS.row (i := 2) rfl); (try have hR3 := hS.row (i := 3) rfl); (try have hR4 := hS.row (i := 4) rfl); (try have hC0 := hS.cell (i := 0) rfl); (try have hD0 := (cells_heap hC0).1); (try have hE0 := (cells_heap hC0).2.1); (try have hF0 := (cells_heap hC0).2.2.1); (try have hG0 := (cells_heap hC0).2.2.2.1); (try have hC1 := hS.cell (i := 1) rfl); (try have hD1 := (cells_heap hC1).1); (try have hE1 := (cells_heap hC1).2.1); (try have hF1 := (cells_heap hC1).2.2.1); (try have hG1 := (cells_heap hC1).2.2.2.1); (try have hC2 := hS.cell (i := 2) rfl); (try have hD2 := (cells_heap hC2).1); (try have hE2 := (cells_heap hC2).2.1); (try have hF2 := (cells_heap hC2).2.2.1); (try have hG2 := (cells_heap hC2).2.2.2.1); (try have hC3 := hS.cell (i := 3) rfl); (try have hD3 := (cells_heap hC3).1); (try have hE3 := (cells_heap hC3).2.1); (try have hF3 := (cells_heap hC3).2.2.1); (try have hG3 := (cells_heap hC3).2.2.2.1); (try have hC4 := hS.cell (i := 4) rfl); (try have hD4 := (cells_heap hC4).1); (try have hE4 := (cells_heap hC4).2.1); (try have hF4 := (cells_heap hC4).2.2.1); (try have hG4 := (cells_heap hC4).2.2.2.1); (try have hM0 := hS.map (i := 0) rfl); (try have hM1 := hS.map (i := 1) rfl); (try have hM2 := hS.map (i := 2) rfl); (try have hM3 := hS.map (i := 3) rfl); (try have hM4 := hS.map (i := 4) rfl)
        repeat' (first
          | (apply W.condKT; exact rfl; (focus (first | exact dec_true (by omega) | exact dec_false (by omega); done)))
          | (apply WL.indexO tOk; exact rfl; exact rfl; exact rfl; exact rfl; exact rfl; exact rfl; exact rfl; exact rfl; assumption; (exact extA); exact encI_ok; (first | exact rfl | (focus (simp only [List.length_set]; done)) | (focus (simp; done)) | (focus (simp [*]; done)) | omega | (focus (simp only [List.length_set]; omega))); omega; assumption; intro gb ha hc; cases ha; have hcc := hc; first | (obtain ⟨h1, h2, h3, _⟩ := hc) | (obtain ⟨h1, h2, _⟩ := hc) | (obtain ⟨h1, _⟩ := hc))
          | ((show WL _ _ _ (⟨_, .call ⟨.value (.tmp _), _, _⟩, _, _, _, _⟩ :: _) _ _ _); apply WL.callS; exact rfl; exact rfl; exact rfl; exact rfl; exact fault_Inject1 g5 g10 v p z o _ (Cells.ext (by (exact extA)) hc5) (cells_heap (Ext.heap (by (exact extA)) (hS.cell (i := 0) rfl))).1 (by omega))
          | (apply WL.storeO tOk; exact rfl; exact rfl; exact rfl; exact rfl; assumption; (exact extA); exact rfl; exact rfl; exact rfl; exact encI_ok; assumption; exact rfl; (exact extA); intro w' hO hX' hU; (first | replace hS := Sep.updRow (i := 0) rfl hU hO (.inl rfl) hS (by (exact extA)) (by (first | exact Nat.le_refl _ | exact Below.size (by (exact extA)))) | replace hS := Sep.updRow (i := 1) rfl hU hO (.inl rfl) hS (by (exact extA)) (by (first | exact Nat.le_refl _ | exact Below.size (by (exact extA)))) | replace hS := Sep.updRow (i := 2) rfl hU hO (.inl rfl) hS (by (exact extA)) (by (first | exact Nat.le_refl _ | exact Below.size (by (exact extA)))) | replace hS := Sep.updRow (i := 3) rfl hU hO (.inl rfl) hS (by (exact extA)) (by (first | exact Nat.le_refl _ | exact Below.size (by (exact extA)))) | replace hS := Sep.updRow (i := 4) rfl hU hO (.inl rfl) hS (by (exact extA)) (by (first | exact Nat.le_refl _ | exact Below.size (by (exact extA)))) | replace hS := Sep.updRow (i := 5) rfl hU hO (.inl rfl) hS (by (exact extA)) (by (first | exact Nat.le_refl _ | exact Below.size (by (exact extA))))); (try simp only [List.set_cons_zero, List.set_cons_succ] at hS); (try have hR0 := hS.row (i := 0) rfl); (try have hR1 := hS.row (i := 1) rfl); (try have hR2 := hS.row (i := 2) rfl); (try have hR3 := hS.row (i := 3) rfl); (try have hR4 := hS.row (i := 4) rfl); (try have hC0 := hS.cell (i := 0) rfl); (try have hD0 := (cells_heap hC0).1); (try have hE0 := (cells_heap hC0).2.1); (try have hF0 := (cells_heap hC0).2.2.1); (try have hG0 := (cells_heap hC0).2.2.2.1); (try have hC1 := hS.cell (i := 1) rfl); (try have hD1 := (cells_heap hC1).1); (try have hE1 := (cells_heap hC1).2.1); (try have hF1 := (cells_heap hC1).2.2.1); (try have hG1 := (cells_heap hC1).2.2.2.1); (try have hC2 := hS.cell (i := 2) rfl); (try have hD2 := (cells_heap hC2).1); (try have hE2 := (cells_heap hC2).2.1); (try have hF2 := (cells_heap hC2).2.2.1); (try have hG2 := (cells_heap hC2).2.2.2.1); (try have hC3 := hS.cell (i := 3) rfl); (try have hD3 := (cells_heap hC3).1); (try have hE3 := (cells_heap hC3).2.1); (try have hF3 := (cells_heap hC3).2.2.1); (try have hG3 := (cells_heap hC3).2.2.2.1); (try have hC4 := hS.cell (i := 4) rfl); (try have hD4 := (cells_heap hC4).1); (try have hE4 := (cells_heap hC4).2.1); (try have hF4 := (cells_heap hC4).2.2.1); (try have hG4 := (cells_heap hC4).2.2.2.1); (try have hM0 := hS.map (i := 0) rfl); (try have hM1 := hS.map (i := 1) rfl); (try have hM2 := hS.map (i := 2) rfl); (try have hM3 := hS.map (i := 3) rfl); (try have hM4 := hS.map (i := 4) rfl))
          | (show WL _ _ _ _ _ _ _; first | apply WL.nil | (refine WL.au (k := ?_)))
          | (show Z _ _ _ _ _; first | apply Z.then_normal | apply Z.block_normal)
          | (show W _ _ _ _ _ _; first | apply W.seq | apply W.region | apply W.block | apply W.skip)
          | fail)
        exact Z.againW ⟨by omega, (by (exact extA)), by rw [← e1]; exact hS⟩ ⟨rfl, rfl, rfl, rfl, rfl, rfl, rfl, rfl, trivial⟩
      · obtain rfl : k = outs.length := by omega
        rw [mapUp_all] at hS8
        repeat' (first
          | (apply W.condKF; exact rfl; (focus (exact dec_false (by omega); done)))
          | (show WL _ _ _ _ _ _ _; first | apply WL.nil | (refine WL.au (k := ?_)))
          | (show Z _ _ _ _ _; first | apply Z.then_normal | apply Z.block_normal | apply Z.then_exit | apply Z.block_exit)
          | (show W _ _ _ _ _ _; first | apply W.seq | apply W.region | apply W.ret | apply W.exit)
          | fail)
        exact Z.body2 Tryd.results44 rfl rfl fun m => ⟨(hXb.trans hX8).at m, an, cn, at0, ct, by rw [injNet_len, List.length_map], (Own.row encN_ok (hS8.row (i := 2) rfl)).ext ((Ext.refl _).at m), (Own.row encI_ok (hS8.row (i := 1) rfl)).ext ((Ext.refl _).at m)⟩
  · have eo : outs.map (injL v p o) = outs := (List.map_congr_left (fun l _ => if_neg p0)).trans (List.map_id' _)
    obtain ⟨x, hxn⟩ := getI n (show (v - 1).toNat < n.length by omega)
    have hR1 := hS.row (i := 1) rfl
    by_cases p1 : p = 1
    · have e1 := injNet_one (n := n) (v := v) (p := p) (o := o) (x := x) (y := (atO o, x.2)) p0 hv1.1 hxn (by rw [injN, if_neg p0, if_pos (by omega), if_pos p1])
      repeat' (first
        | ((show WL _ _ _ (⟨_, .call ⟨.value (.func 43), _, _⟩, _, _, _, _⟩ :: _) _ _ _); apply WL.callP; exact rfl; exact rfl; exact rfl; exact rfl; exact fault_Good _ _ n v p o _ (R1.ext (by (exact extA))) ⟨by omega, by omega⟩; intro w' hx)
        | (apply W.condKT; exact rfl; (focus (first | (rw [dec_true hf]; rfl) | exact dec_true (by omega) | exact dec_false (by omega); done)))
        | (apply W.condKF; exact rfl; (focus (first | (rw [dec_true hf]; rfl) | exact dec_true (by omega) | exact dec_false (by omega); done)))
        | ((show WL _ _ _ (⟨_, .call ⟨.value (.func 50), _, _⟩, _, _, _, _⟩ :: _) _ _ _); apply WL.callS; exact rfl; exact rfl; exact rfl; exact rfl; exact fault_constant o _)
        | (apply WL.alloc tOk; exact rfl; exact rfl; exact rfl; intro gb w' hb hge hx; replace hS := Sep.newCell (Sep.ext hS (by (exact extA))) hx hb hge (by (first | exact Nat.le_refl _ | exact Below.size (by (exact extA)))); (try simp only [List.set_cons_zero, List.set_cons_succ] at hS); (try have hR0 := hS.row (i := 0) rfl); (try have hR1 := hS.row (i := 1) rfl); (try have hR2 := hS.row (i := 2) rfl); (try have hR3 := hS.row (i := 3) rfl); (try have hR4 := hS.row (i := 4) rfl); (try have hC0 := hS.cell (i := 0) rfl); (try have hD0 := (cells_heap hC0).1); (try have hE0 := (cells_heap hC0).2.1); (try have hF0 := (cells_heap hC0).2.2.1); (try have hG0 := (cells_heap hC0).2.2.2.1); (try have hC1 := hS.cell (i := 1) rfl); (try have hD1 := (cells_heap hC1).1); (try have hE1 := (cells_heap hC1).2.1); (try have hF1 := (cells_heap hC1).2.2.1); (try have hG1 := (cells_heap hC1).2.2.2.1); (try have hC2 := hS.cell (i := 2) rfl); (try have hD2 := (cells_heap hC2).1); (try have hE2 := (cells_heap hC2).2.1); (try have hF2 := (cells_heap hC2).2.2.1); (try have hG2 := (cells_heap hC2).2.2.2.1); (try have hC3 := hS.cell (i := 3) rfl); (try have hD3 := (cells_heap hC3).1); (try have hE3 := (cells_heap hC3).2.1); (try have hF3 := (cells_heap hC3).2.2.1); (try have hG3 := (cells_heap hC3).2.2.2.1); (try have hC4 := hS.cell (i := 4) rfl); (try have hD4 := (cells_heap hC4).1); (try have hE4 := (cells_heap hC4).2.1); (try have hF4 := (cells_heap hC4).2.2.1); (try have hG4 := (cells_heap hC4).2.2.2.1); (try have hM0 := hS.map (i := 0) rfl); (try have hM1 := hS.map (i := 1) rfl); (try have hM2 := hS.map (i := 2) rfl); (try have hM3 := hS.map (i := 3) rfl); (try have hM4 := hS.map (i := 4) rfl))
        | (apply WL.storeB (w0 := wb) tOk; exact rfl; exact rfl; exact rfl; exact rfl; assumption; (exact extA); exact rfl; exact rfl; exact rfl; (exact extA); (first | assumption | omega | (focus (apply Nat.le_trans; rotate_left; assumption; exact Below.size (by (exact extA)); done))); intro w' hb hc hX' hU; have hcc := hc; obtain ⟨h1, h2, _⟩ := hc; replace hS := Sep.updCell (i := 0) rfl hU hb hS (by (exact extA)) (by (first | exact Nat.le_refl _ | exact Below.size (by (exact extA)))); (try simp only [List.set_cons_zero, List.set_cons_succ] at hS); (try have hR0 := hS.row (i := 0) rfl); (try have hR1 := hS.row (i := 1) rfl); (try have hR2 := hS.row (i := 2) rfl); (try have hR3 := hS.row (i := 3) rfl); (try have hR4 := hS.row (i := 4) rfl); (try have hC0 := hS.cell (i := 0) rfl); (try have hD0 := (cells_heap hC0).1); (try have hE0 := (cells_heap hC0).2.1); (try have hF0 := (cells_heap hC0).2.2.1); (try have hG0 := (cells_heap hC0).2.2.2.1); (try have hC1 := hS.cell (i := 1) rfl); (try have hD1 := (cells_heap hC1).1); (try have hE1 := (cells_heap hC1).2.1); (try have hF1 := (cells_heap hC1).2.2.1); (try have hG1 := (cells_heap hC1).2.2.2.1); (try have hC2 := hS.cell (i := 2) rfl); (try have hD2 := (cells_heap hC2).1); (try have hE2 := (cells_heap hC2).2.1); (try have hF2 := (cells_heap hC2).2.2.1); (try have hG2 := (cells_heap hC2).2.2.2.1); (try have hC3 := hS.cell (i := 3) rfl); (try have hD3 := (cells_heap hC3).1); (try have hE3 := (cells_heap hC3).2.1); (try have hF3 := (cells_heap hC3).2.2.1); (try have hG3 := (cells_heap hC3).2.2.2.1); (try have hC4 := hS.cell (i := 4) rfl); (try have hD4 := (cells_heap hC4).1); (try have hE4 := (cells_heap hC4).2.1); (try have hF4 := (cells_heap hC4).2.2.1); (try have hG4 := (cells_heap hC4).2.2.2.1); (try have hM0 := hS.map (i := 0) rfl); (try have hM1 := hS.map (i := 1) rfl); (try have hM2 := hS.map (i := 2) rfl); (try have hM3 := hS.map (i := 3) rfl); (try have hM4 := hS.map (i := 4) rfl))
        | (apply WL.indexO tOk; exact rfl; exact rfl; exact rfl; exact rfl; exact rfl; exact rfl; exact rfl; exact rfl; assumption; (exact extA); exact encN_ok; (first | exact rfl | (focus (simp only [List.length_set]; done)) | (focus (simp; done)) | (focus (simp [*]; done)) | omega | (focus (simp only [List.length_set]; omega))); omega; assumption; intro gb ha hc; cases ha; have hcc := hc; first | (obtain ⟨h1, h2, h3, _⟩ := hc) | (obtain ⟨h1, h2, _⟩ := hc) | (obtain ⟨h1, _⟩ := hc))
        | ((apply WL.storeOF (w0 := wb) (z' := (atO o, x.2)) (i := (v - 1).toNat) [] [.int .i64 x.2] tOk; exact rfl; exact rfl; exact rfl; exact rfl; assumption; exact (by (exact extA)); exact rfl; exact rfl; exact rfl; exact rfl; exact rfl; exact encN_ok; assumption; exact rfl; exact (by (exact extA)); intro w' hO hX' hU; replace hS := Sep.updRow (i := 2) rfl hU hO (.inl rfl) hS (by (exact extA)) (Below.size (by (exact extA)))))
        | (show WL _ _ _ _ _ _ _; first | apply WL.nil | (refine WL.au (k := ?_)))
        | (show Z _ _ _ _ _; first | apply Z.then_normal | apply Z.block_normal)
        | (show W _ _ _ _ _ _; first | apply W.seq | apply W.region | apply W.block | apply W.skip | apply W.ret)
        | fail)
      exact Z.body2 Tryd.results44 rfl rfl fun m => ⟨Ext.at (by (exact extA)) m, _, cn, at0, ct, by rw [injNet_len, eo], (Own.row encN_ok (by rw [← e1]; exact hS.row (i := 2) rfl)).ext ((Ext.refl _).at m), (Own.row encI_ok (by rw [eo]; exact hS.row (i := 1) rfl)).ext ((Ext.refl _).at m)⟩
    · have e1 := injNet_one (n := n) (v := v) (p := p) (o := o) (x := x) (y := (x.1, atO o)) p0 hv1.1 hxn (by rw [injN, if_neg p0, if_pos (by omega), if_neg p1, if_pos (by omega)])
      repeat' (first
        | ((show WL _ _ _ (⟨_, .call ⟨.value (.func 43), _, _⟩, _, _, _, _⟩ :: _) _ _ _); apply WL.callP; exact rfl; exact rfl; exact rfl; exact rfl; exact fault_Good _ _ n v p o _ (R1.ext (by (exact extA))) ⟨by omega, by omega⟩; intro w' hx)
        | (apply W.condKT; exact rfl; (focus (first | (rw [dec_true hf]; rfl) | exact dec_true (by omega) | exact dec_false (by omega); done)))
        | (apply W.condKF; exact rfl; (focus (first | (rw [dec_true hf]; rfl) | exact dec_true (by omega) | exact dec_false (by omega); done)))
        | ((show WL _ _ _ (⟨_, .call ⟨.value (.func 50), _, _⟩, _, _, _, _⟩ :: _) _ _ _); apply WL.callS; exact rfl; exact rfl; exact rfl; exact rfl; exact fault_constant o _)
        | (apply WL.alloc tOk; exact rfl; exact rfl; exact rfl; intro gb w' hb hge hx; replace hS := Sep.newCell (Sep.ext hS (by (exact extA))) hx hb hge (by (first | exact Nat.le_refl _ | exact Below.size (by (exact extA)))); (try simp only [List.set_cons_zero, List.set_cons_succ] at hS); (try have hR0 := hS.row (i := 0) rfl); (try have hR1 := hS.row (i := 1) rfl); (try have hR2 := hS.row (i := 2) rfl); (try have hR3 := hS.row (i := 3) rfl); (try have hR4 := hS.row (i := 4) rfl); (try have hC0 := hS.cell (i := 0) rfl); (try have hD0 := (cells_heap hC0).1); (try have hE0 := (cells_heap hC0).2.1); (try have hF0 := (cells_heap hC0).2.2.1); (try have hG0 := (cells_heap hC0).2.2.2.1); (try have hC1 := hS.cell (i := 1) rfl); (try have hD1 := (cells_heap hC1).1); (try have hE1 := (cells_heap hC1).2.1); (try have hF1 := (cells_heap hC1).2.2.1); (try have hG1 := (cells_heap hC1).2.2.2.1); (try have hC2 := hS.cell (i := 2) rfl); (try have hD2 := (cells_heap hC2).1); (try have hE2 := (cells_heap hC2).2.1); (try have hF2 := (cells_heap hC2).2.2.1); (try have hG2 := (cells_heap hC2).2.2.2.1); (try have hC3 := hS.cell (i := 3) rfl); (try have hD3 := (cells_heap hC3).1); (try have hE3 := (cells_heap hC3).2.1); (try have hF3 := (cells_heap hC3).2.2.1); (try have hG3 := (cells_heap hC3).2.2.2.1); (try have hC4 := hS.cell (i := 4) rfl); (try have hD4 := (cells_heap hC4).1); (try have hE4 := (cells_heap hC4).2.1); (try have hF4 := (cells_heap hC4).2.2.1); (try have hG4 := (cells_heap hC4).2.2.2.1); (try have hM0 := hS.map (i := 0) rfl); (try have hM1 := hS.map (i := 1) rfl); (try have hM2 := hS.map (i := 2) rfl); (try have hM3 := hS.map (i := 3) rfl); (try have hM4 := hS.map (i := 4) rfl))
        | (apply WL.storeB (w0 := wb) tOk; exact rfl; exact rfl; exact rfl; exact rfl; assumption; (exact extA); exact rfl; exact rfl; exact rfl; (exact extA); (first | assumption | omega | (focus (apply Nat.le_trans; rotate_left; assumption; exact Below.size (by (exact extA)); done))); intro w' hb hc hX' hU; have hcc := hc; obtain ⟨h1, h2, _⟩ := hc; replace hS := Sep.updCell (i := 0) rfl hU hb hS (by (exact extA)) (by (first | exact Nat.le_refl _ | exact Below.size (by (exact extA)))); (try simp only [List.set_cons_zero, List.set_cons_succ] at hS); (try have hR0 := hS.row (i := 0) rfl); (try have hR1 := hS.row (i := 1) rfl); (try have hR2 := hS.row (i := 2) rfl); (try have hR3 := hS.row (i := 3) rfl); (try have hR4 := hS.row (i := 4) rfl); (try have hC0 := hS.cell (i := 0) rfl); (try have hD0 := (cells_heap hC0).1); (try have hE0 := (cells_heap hC0).2.1); (try have hF0 := (cells_heap hC0).2.2.1); (try have hG0 := (cells_heap hC0).2.2.2.1); (try have hC1 := hS.cell (i := 1) rfl); (try have hD1 := (cells_heap hC1).1); (try have hE1 := (cells_heap hC1).2.1); (try have hF1 := (cells_heap hC1).2.2.1); (try have hG1 := (cells_heap hC1).2.2.2.1); (try have hC2 := hS.cell (i := 2) rfl); (try have hD2 := (cells_heap hC2).1); (try have hE2 := (cells_heap hC2).2.1); (try have hF2 := (cells_heap hC2).2.2.1); (try have hG2 := (cells_heap hC2).2.2.2.1); (try have hC3 := hS.cell (i := 3) rfl); (try have hD3 := (cells_heap hC3).1); (try have hE3 := (cells_heap hC3).2.1); (try have hF3 := (cells_heap hC3).2.2.1); (try have hG3 := (cells_heap hC3).2.2.2.1); (try have hC4 := hS.cell (i := 4) rfl); (try have hD4 := (cells_heap hC4).1); (try have hE4 := (cells_heap hC4).2.1); (try have hF4 := (cells_heap hC4).2.2.1); (try have hG4 := (cells_heap hC4).2.2.2.1); (try have hM0 := hS.map (i := 0) rfl); (try have hM1 := hS.map (i := 1) rfl); (try have hM2 := hS.map (i := 2) rfl); (try have hM3 := hS.map (i := 3) rfl); (try have hM4 := hS.map (i := 4) rfl))
        | (apply WL.indexO tOk; exact rfl; exact rfl; exact rfl; exact rfl; exact rfl; exact rfl; exact rfl; exact rfl; assumption; (exact extA); exact encN_ok; (first | exact rfl | (focus (simp only [List.length_set]; done)) | (focus (simp; done)) | (focus (simp [*]; done)) | omega | (focus (simp only [List.length_set]; omega))); omega; assumption; intro gb ha hc; cases ha; have hcc := hc; first | (obtain ⟨h1, h2, h3, _⟩ := hc) | (obtain ⟨h1, h2, _⟩ := hc) | (obtain ⟨h1, _⟩ := hc))
        | ((apply WL.storeOF (w0 := wb) (z' := (x.1, atO o)) (i := (v - 1).toNat) [.int .i64 x.1] [] tOk; exact rfl; exact rfl; exact rfl; exact rfl; assumption; exact (by (exact extA)); exact rfl; exact rfl; exact rfl; exact rfl; exact rfl; exact encN_ok; assumption; exact rfl; exact (by (exact extA)); intro w' hO hX' hU; replace hS := Sep.updRow (i := 2) rfl hU hO (.inl rfl) hS (by (exact extA)) (Below.size (by (exact extA)))))
        | (show WL _ _ _ _ _ _ _; first | apply WL.nil | (refine WL.au (k := ?_)))
        | (show Z _ _ _ _ _; first | apply Z.then_normal | apply Z.block_normal)
        | (show W _ _ _ _ _ _; first | apply W.seq | apply W.region | apply W.block | apply W.skip | apply W.ret)
        | fail)
      exact Z.body2 Tryd.results44 rfl rfl fun m => ⟨Ext.at (by (exact extA)) m, _, cn, at0, ct, by rw [injNet_len, eo], (Own.row encN_ok (by rw [← e1]; exact hS.row (i := 2) rfl)).ext ((Ext.refl _).at m), (Own.row encI_ok (by rw [eo]; exact hS.row (i := 1) rfl)).ext ((Ext.refl _).at m)⟩
end Go.Proofs.YtlcenenkloicjaaDoor
namespace Go.Proofs.YtlcenenkloicjaaDoor
open Go Go.Lt Go.RowKit
set_option linter.unusedVariables false
set_option linter.unusedSimpArgs false
set_option maxRecDepth 20000

def wstep (ins : List (BitVec 64)) (s : List (BitVec 64) × Nat) (x : Int × Int) : List (BitVec 64) × Nat :=
  if 0 ≤ x.1 then (s.1 ++ [wordOf s.1 x.1 &&& wordOf s.1 x.2], s.2) else (s.1 ++ [ins.getD s.2 0#64], s.2 + 1)
def wto (n : List (Int × Int)) (ins : List (BitVec 64)) (k : Nat) : List (BitVec 64) × Nat := (n.take k).foldl (wstep ins) ([0#64], 0)
def wvalues (n : List (Int × Int)) (ins : List (BitVec 64)) : List (BitVec 64) := (wto n ins n.length).1
theorem wto_succ {n : List (Int × Int)} {k : Nat} {x : Int × Int} (ins : List (BitVec 64)) (h : n[k]? = some x) : wto n ins (k + 1) = wstep ins (wto n ins k) x := by
  unfold wto; rw [take_succ' h, List.foldl_append]; rfl
theorem wto_len (n : List (Int × Int)) (ins : List (BitVec 64)) : ∀ k, k ≤ n.length → (wto n ins k).1.length = k + 1 ∧ (wto n ins k).2 ≤ k
  | 0, _ => by simp [wto]
  | k + 1, h => by
    obtain ⟨x, hx⟩ := getI n (show k < n.length by omega)
    have ih := wto_len n ins k (by omega)
    rw [wto_succ ins hx]; unfold wstep
    split <;> simp <;> omega

theorem sim_Words (a b : Option Addr) (cap cb : Nat) (n : List (Int × Int)) (ins : List (BitVec 64)) (w : World) (R : Row 2 encN w a n) (Rb : Row 1 encV w b ins) (hcb : ins.length ≤ cb) (hg : GoodNet n) (hn : n.length ≤ 1048576) :
    Lt.Spec Tryd.prog 45 [.slice a n.length cap, .slice b ins.length cb] w (IsFresh 1 encV 62 w (wvalues n ins)) := by
  have hlen := Rb.len
  refine Spec.of _ Tryd.func45 rfl Tryd.ntmps45 (by kernel_rfl) rfl ?_
  repeat' (first
    | (apply WL.makeC (w0 := w) (z := 0#64) tOk; exact rfl; exact rfl; exact rfl; exact rfl; exact rfl; exact rfl; exact rfl; exact rfl; exact rfl; exact encV_ok; exact rfl; exact rfl; (exact extA); (first | omega | (simp; omega) | (simp at *; omega)); intro gb w' hO hge hx)
    | (show WL _ _ _ _ _ _ _; first | apply WL.nil | (refine WL.au (k := ?_)))
    | (show Z _ _ _ _ _; apply Z.then_normal)
    | (show W _ _ _ _ _ _; first | apply W.seq | apply W.region | apply W.block)
    | fail)
  refine W.loopO2 n.length (fun k c cp b dp w' => k ≤ n.length ∧ Ext w w' ∧ Own 1 encV 62 w.heap.size w' c cp (wto n ins k).1 ∧ Row 1 encV w b (ins.drop (wto n ins k).2) ∧ (ins.drop (wto n ins k).2).length ≤ dp)
    (fun k c cp b dp => [(0, .slice a n.length cap), (1, .slice b (ins.drop (wto n ins k).2).length dp), (5, .slice c (wto n ins k).1.length cp), (13, .slice a n.length cap), (14, .int .i64 n.length), (15, .int .i64 k)])
    (some ⟨gb, 0, none⟩) _ b cb ⟨by omega, hx, hO, Rb, hcb⟩ (fun k c cp b dp w' h => h.1) ⟨rfl, rfl, rfl, rfl, rfl, rfl, trivial⟩ ?_
  rintro k c cp ba dp w' ⟨hk, hx', hO', Rb', hdp⟩
  have hvl := wto_len n ins k hk
  by_cases hlt : k < n.length
  · obtain ⟨x, hxn⟩ := getI n hlt
    have hs := wto_succ ins hxn
    by_cases hin : 0 ≤ x.1
    · have hgt := hg.gate hxn hin
      have e2 : (wto n ins (k + 1)).2 = (wto n ins k).2 := by rw [hs, wstep, if_pos hin]
      have e1 : (wto n ins (k + 1)).1 = (wto n ins k).1 ++ [wordOf (wto n ins k).1 x.1 &&& wordOf (wto n ins k).1 x.2] := by rw [hs, wstep, if_pos hin]
      repeat' (first
        | (apply W.condKT; exact rfl; (focus (first | exact dec_true (by omega) | exact dec_false (by omega); done)))
        | (apply QL.uand; exact rfl; exact rfl; exact rfl; exact rfl; (first | exact rfl | exact u64_lit _ (by omega)); (first | exact rfl | exact u64_lit _ (by omega)))
        | (apply WL.alloc tOk; exact rfl; exact rfl; exact rfl; intro gb w' hb hge hx)
        | (apply WL.storeB (w0 := w) tOk; exact rfl; exact rfl; exact rfl; exact rfl; assumption; (exact extA); exact rfl; exact rfl; exact rfl; (exact extA); (first | assumption | omega | (focus (apply Nat.le_trans; rotate_left; assumption; exact Below.size (by (exact extA)); done))); intro w' hb hc hX' hU; have hcc := hc; obtain ⟨h1, h2, _⟩ := hc; have hO3 := Upd.own hU (Own.ext hO' hx) (Own.blk_ne hO' hge))
        | ((show QL _ _ _ _ (⟨_, .call ⟨.value (.func 46), _, _⟩, _, _, _, _⟩ :: _) _ _); apply QL.callS; exact rfl; exact rfl; exact rfl; exact rfl; exact sim_Word _ _ _ _ _ (Own.row encV_ok (by assumption)) (by unfold inI64; omega))
        | (apply WL.lit tOk; exact rfl; exact rfl; exact rfl; exact rfl; exact rfl; exact rfl; (first | exact rfl | kernel_rfl | (simp [Instr.fill, catCells]; done)); exact rfl; intro gb w' hb hge hc hx)
        | (apply WL.append1 tOk encV_ok; exact rfl; exact rfl; exact rfl; exact rfl; exact rfl; exact rfl; exact rfl; exact rfl; exact rfl; exact rfl; assumption; (exact extA); (first | exact rfl | (focus (simp only [List.length_set]; done)) | (focus (simp; done)) | (focus (simp [*]; done)) | omega | (focus (simp only [List.length_set]; omega))); assumption; (first | exact rfl | exact (rfl : encV (_, _) = _)); exact rfl; (exact extA); (first | omega | (simp; omega) | (simp at *; omega)); intro a' cap' w' hO hX' hU hF)
        | (show WL _ _ _ _ _ _ _; first | apply WL.nil | (refine WL.au (k := ?_)) | (apply WL.index tOk; exact rfl; exact rfl; exact rfl; exact rfl; exact rfl; exact rfl; exact rfl; exact rfl; assumption; (exact extA); exact rfl; omega; assumption; intro b off h; have hcc := h; first | (obtain ⟨h1, h2, h3, h4, h5, h6, _⟩ := h) | (obtain ⟨h1, h2, h3, _⟩ := h) | (obtain ⟨h1, h2, _⟩ := h) | (obtain ⟨h1, _⟩ := h)))
        | (show QL _ _ _ _ _ _ _; first | apply QL.nil | (refine QL.au (k := ?_)))
        | (show Z _ _ _ _ _; first | apply Z.then_normal | apply Z.block_normal)
        | (show W _ _ _ _ _ _; first | apply W.seq | apply W.region | apply W.block | apply W.skip | (apply W.regionD tMix; kernel_rfl))
        | fail)
      exact Z.againO2 a' cap' ba dp ⟨by omega, hX', by rw [e1]; exact hO, by rw [e2]; exact Rb', by rw [e2]; exact hdp⟩ (by repeat' first | exact trivial | (refine And.intro ?_ ?_) | exact rfl | (rw [e1]; exact rfl) | (rw [e2]; exact rfl))
    · have e2 : (wto n ins (k + 1)).2 = (wto n ins k).2 + 1 := by rw [hs, wstep, if_neg hin]
      have e1 : (wto n ins (k + 1)).1 = (wto n ins k).1 ++ [ins.getD (wto n ins k).2 0#64] := by rw [hs, wstep, if_neg hin]
      by_cases hki : (wto n ins k).2 < ins.length
      · obtain ⟨z, hz⟩ := getI ins hki
        have hz' : (ins.drop (wto n ins k).2)[0]? = some z := by rw [List.getElem?_drop]; exact hz
        have hdl : 0 < (ins.drop (wto n ins k).2).length := by rw [List.length_drop]; omega
        rw [getD_of hz] at e1
        have e3 : (ins.drop (wto n ins k).2).drop 1 = ins.drop (wto n ins (k + 1)).2 := by rw [e2, List.drop_drop]
        repeat' (first
          | (apply W.condKT; exact rfl; (focus (first | exact dec_true (by omega) | exact dec_false (by omega); done)))
          | (apply W.condKF; exact rfl; (focus (first | exact dec_true (by omega) | exact dec_false (by omega); done)))
          | (apply WL.alloc tOk; exact rfl; exact rfl; exact rfl; intro gb w' hb hge hx)
          | (apply WL.storeB (w0 := w) tOk; exact rfl; exact rfl; exact rfl; exact rfl; assumption; (exact extA); exact rfl; exact rfl; exact rfl; (exact extA); (first | assumption | omega | (focus (apply Nat.le_trans; rotate_left; assumption; exact Below.size (by (exact extA)); done))); intro w' hb hc hX' hU; have hcc := hc; obtain ⟨h1, h2, _⟩ := hc; have hO3 := Upd.own hU (Own.ext hO' hx) (Own.blk_ne hO' hge))
          | (apply QL.sliceL tOk; exact rfl; exact rfl; exact rfl; exact rfl; exact rfl; exact rfl; exact rfl; exact rfl; assumption; (first | exact rfl | (focus (simp only [List.length_set]; done)) | (focus (simp; done)) | (focus (simp [*]; done)) | omega | (focus (simp only [List.length_set]; omega))); (first | assumption | omega); (first | omega | (simp; omega) | (simp at *; omega)); intro as' cs' hR hcs)
          | (apply WL.lit tOk; exact rfl; exact rfl; exact rfl; exact rfl; exact rfl; exact rfl; (first | exact rfl | kernel_rfl | (simp [Instr.fill, catCells]; done)); exact rfl; intro gb w' hb hge hc hx)
          | (apply WL.append1 tOk encV_ok; exact rfl; exact rfl; exact rfl; exact rfl; exact rfl; exact rfl; exact rfl; exact rfl; exact rfl; exact rfl; assumption; (exact extA); (first | exact rfl | (focus (simp only [List.length_set]; done)) | (focus (simp; done)) | (focus (simp [*]; done)) | omega | (focus (simp only [List.length_set]; omega))); assumption; (first | exact rfl | exact (rfl : encV (_, _) = _)); exact rfl; (exact extA); (first | omega | (simp; omega) | (simp at *; omega)); intro a' cap' w' hO hX' hU hF)
          | (show WL _ _ _ _ _ _ _; first | apply WL.nil | (refine WL.au (k := ?_)) | (apply WL.index tOk; exact rfl; exact rfl; exact rfl; exact rfl; exact rfl; exact rfl; exact rfl; exact rfl; assumption; (exact extA); exact rfl; omega; assumption; intro b off h; have hcc := h; first | (obtain ⟨h1, h2, h3, h4, h5, h6, _⟩ := h) | (obtain ⟨h1, h2, h3, _⟩ := h) | (obtain ⟨h1, h2, _⟩ := h) | (obtain ⟨h1, _⟩ := h)))
          | (show QL _ _ _ _ _ _ _; first | apply QL.nil | (refine QL.au (k := ?_)) | (apply QL.index tOk; exact rfl; exact rfl; exact rfl; exact rfl; exact rfl; exact rfl; exact rfl; exact rfl; assumption; (exact extA); exact rfl; omega; assumption; intro b off h; have hcc := h; first | (obtain ⟨h1, h2, h3, h4, h5, h6, _⟩ := h) | (obtain ⟨h1, h2, h3, _⟩ := h) | (obtain ⟨h1, h2, _⟩ := h) | (obtain ⟨h1, _⟩ := h)))
          | (show Z _ _ _ _ _; first | apply Z.then_normal | apply Z.block_normal)
          | (show W _ _ _ _ _ _; first | apply W.seq | apply W.region | apply W.block | apply W.skip | (apply W.regionD tMix; kernel_rfl))
          | fail)
        exact Z.againO2 a' cap' as' cs' ⟨by omega, hX', by rw [e1]; exact hO, by rw [← e3]; exact hR, by rw [← e3]; exact hcs⟩ (by repeat' first | exact trivial | (refine And.intro ?_ ?_) | exact rfl | (rw [e1]; exact rfl) | (rw [←e3]; exact rfl))
      · have hd0 : (ins.drop (wto n ins k).2).length = 0 := by rw [List.length_drop]; omega
        have e4 : ins.drop (wto n ins (k + 1)).2 = ins.drop (wto n ins k).2 := by rw [e2, List.drop_eq_nil_of_le (by omega), List.drop_eq_nil_of_le (by omega)]
        have e5 : ins.getD (wto n ins k).2 0#64 = 0#64 := by rw [List.getD, List.getElem?_eq_none (by omega)]; rfl
        rw [e5] at e1
        repeat' (first
          | (apply W.condKT; exact rfl; (focus (first | exact dec_true (by omega) | exact dec_false (by omega); done)))
          | (apply W.condKF; exact rfl; (focus (first | exact dec_true (by omega) | exact dec_false (by omega); done)))
          | (apply WL.alloc tOk; exact rfl; exact rfl; exact rfl; intro gb w' hb hge hx)
          | (apply WL.storeB (w0 := w) tOk; exact rfl; exact rfl; exact rfl; exact rfl; assumption; (exact extA); exact rfl; exact rfl; exact rfl; (exact extA); (first | assumption | omega | (focus (apply Nat.le_trans; rotate_left; assumption; exact Below.size (by (exact extA)); done))); intro w' hb hc hX' hU; have hcc := hc; obtain ⟨h1, h2, _⟩ := hc; have hO3 := Upd.own hU (Own.ext hO' hx) (Own.blk_ne hO' hge))
          | (apply WL.lit tOk; exact rfl; exact rfl; exact rfl; exact rfl; exact rfl; exact rfl; (first | exact rfl | kernel_rfl | (simp [Instr.fill, catCells]; done)); exact rfl; intro gb w' hb hge hc hx)
          | ((apply WL.append1 (z := 0#64) tOk encV_ok; exact rfl; exact rfl; exact rfl; exact rfl; exact rfl; exact rfl; exact rfl; exact rfl; exact rfl; exact rfl; assumption; (first | exact Ext.refl _ | assumption | exact Ext.trans (by assumption) (by assumption)); (first | exact rfl | omega); assumption; exact rfl; exact rfl; (first | exact Ext.refl _ | assumption | exact Ext.trans (by assumption) (by assumption)); omega; intro a' cap' w' hO hX' hU hF))
          | (show WL _ _ _ _ _ _ _; first | apply WL.nil | (refine WL.au (k := ?_)) | (apply WL.index tOk; exact rfl; exact rfl; exact rfl; exact rfl; exact rfl; exact rfl; exact rfl; exact rfl; assumption; (exact extA); exact rfl; omega; assumption; intro b off h; have hcc := h; first | (obtain ⟨h1, h2, h3, h4, h5, h6, _⟩ := h) | (obtain ⟨h1, h2, h3, _⟩ := h) | (obtain ⟨h1, h2, _⟩ := h) | (obtain ⟨h1, _⟩ := h)))
          | (show Z _ _ _ _ _; first | apply Z.then_normal | apply Z.block_normal)
          | (show W _ _ _ _ _ _; first | apply W.seq | apply W.region | apply W.block | apply W.skip)
          | fail)
        exact Z.againO2 a' cap' ba dp ⟨by omega, hX', by rw [e1]; exact hO, by rw [e4]; exact Rb', by rw [e4]; exact hdp⟩ (by repeat' first | exact trivial | (refine And.intro ?_ ?_) | exact rfl | (rw [e1]; exact rfl) | (rw [e4]; exact rfl))
  · repeat' (first
      | (apply W.condKF; exact rfl; (focus (exact dec_false (by omega); done)))
      | (show WL _ _ _ _ _ _ _; first | apply WL.nil | (refine WL.au (k := ?_)))
      | (show Z _ _ _ _ _; first | apply Z.then_normal | apply Z.then_exit | apply Z.block_exit)
      | (show W _ _ _ _ _ _; first | apply W.seq | apply W.region | apply W.ret | apply W.exit)
      | fail)
    obtain rfl : k = n.length := by omega
    exact Z.body1 Tryd.results45 rfl fun m => ⟨hx'.at m, c, cp, rfl, hO'⟩
end Go.Proofs.YtlcenenkloicjaaDoor
namespace Go.Proofs.YtlcenenkloicjaaDoor
open Go Go.Lt Go.RowKit
set_option linter.unusedVariables false
set_option linter.unusedSimpArgs false
set_option maxRecDepth 20000

/-- A row of rows: each element a slice value with the values behind it. -/
abbrev BRow := Option Addr × Nat × List Bool
abbrev encR : BRow → List Value := fun r => [.slice r.1 r.2.2.length r.2.1]
theorem encR_ok : Enc 1 encR := ⟨fun _ => rfl, fun x u hu => by simp at hu; subst hu; rfl, by decide⟩
def RowsIn (w : World) (rs : List BRow) : Prop := ∀ r ∈ rs, Row 1 encB w r.1 r.2.2 ∧ r.2.2.length ≤ r.2.1

def growW (v : List (BitVec 64)) (m : Nat) : List (BitVec 64) := v ++ List.replicate (m - v.length) 0#64
def rowTo (v : List (BitVec 64)) (i : Nat) (row : List Bool) : Nat → List (BitVec 64)
  | 0 => v
  | k + 1 => if row.getD k false then (rowTo v i row k).set k ((rowTo v i row k).getD k 0#64 ||| (1#64 <<< i)) else rowTo v i row k
def packTo (rs : List BRow) : Nat → List (BitVec 64)
  | 0 => []
  | i + 1 => rowTo (growW (packTo rs i) (rs.getD i (none, 0, [])).2.2.length) i (rs.getD i (none, 0, [])).2.2 (rs.getD i (none, 0, [])).2.2.length
def pack (rs : List BRow) : List (BitVec 64) := packTo rs (min rs.length 64)
theorem rowTo_len (v : List (BitVec 64)) (i : Nat) (row : List Bool) (k : Nat) : (rowTo v i row k).length = v.length := by
  induction k with
  | zero => rfl
  | succ k ih => unfold rowTo; split <;> simp [ih]
theorem growW_len (v : List (BitVec 64)) (m : Nat) : (growW v m).length = max v.length m := by simp [growW]; omega

theorem sim_Pack (a : Option Addr) (cap : Nat) (rs : List BRow) (w : World) (R : Row 1 encR w a rs) (hc : rs.length ≤ cap) (hRs : RowsIn w rs) (hb : ∀ r ∈ rs, r.2.2.length ≤ 1048576) :
    Lt.Spec Tryd.prog 36 [.slice a rs.length cap] w (IsFresh 1 encV 62 w (pack rs)) := by
  have hlen := R.len
  have hmm : (min (rs.length : Int) 64).toNat = min rs.length 64 := by omega
  refine Spec.of _ Tryd.func36 rfl Tryd.ntmps36 (by kernel_rfl) rfl ?_
  repeat' (first
    | (apply WL.sliceH tOk; exact rfl; exact rfl; exact rfl; exact rfl; exact rfl; exact rfl; exact rfl; assumption; (first | exact rfl | (focus (simp only [List.length_set]; done)) | (focus (simp; done)) | (focus (simp [*]; done)) | omega | (focus (simp only [List.length_set]; omega))); (first | assumption | omega); (first | omega | (simp; omega) | (simp at *; omega)); intro hR hc)
    | (apply WL.min; exact rfl; exact rfl; exact rfl; exact rfl)
    | (show WL _ _ _ _ _ _ _; first | apply WL.nil | (refine WL.au (k := ?_)))
    | (show Z _ _ _ _ _; apply Z.then_normal)
    | (show W _ _ _ _ _ _; first | apply W.seq | apply W.region | apply W.block)
    | fail)
  rw [hmm] at hR hc
  have hm : (rs.take (min rs.length 64)).length = min rs.length 64 := by rw [List.length_take]; omega
  refine W.loopO (min rs.length 64) (fun i c cp w' => i ≤ min rs.length 64 ∧ Ext w w' ∧ Own 1 encV 62 w.heap.size w' c cp (packTo rs i))
    (fun i c cp => [(3, .slice c (packTo rs i).length cp), (12, .slice a (rs.take (min rs.length 64)).length cap), (13, .int .i64 (rs.take (min rs.length 64)).length), (14, .int .i64 i)]) none 0 ⟨by omega, Ext.refl w, Own.nil⟩ (fun k c cp w' h => h.1) ⟨rfl, by rw [hmm]; rfl, by rw [hmm]; rfl, rfl, trivial⟩ ?_
  rintro i c cp w' ⟨hi, hx', hO'⟩
  by_cases hlt : i < min rs.length 64
  · obtain ⟨r, hr⟩ := getI rs (show i < rs.length by omega)
    have hrt : (rs.take (min rs.length 64))[i]? = some r := by rw [List.getElem?_take, if_pos hlt]; exact hr
    have hrr := hRs r (List.mem_of_getElem? hr)
    have hrl := hb r (List.mem_of_getElem? hr)
    have Rr := hrr.1
    have hrd : rs.getD i (none, 0, []) = r := getD_of hr
    have hnext : packTo rs (i + 1) = rowTo (growW (packTo rs i) r.2.2.length) i r.2.2 r.2.2.length := by rw [packTo, hrd]
    generalize packTo rs i = v at *
    repeat' (first
      | (apply W.condKT; exact rfl; (focus (first | exact dec_true (by omega) | exact dec_false (by omega); done)))
      | (show WL _ _ _ _ _ _ _; first | apply WL.nil | (refine WL.au (k := ?_)) | (apply WL.index tOk; exact rfl; exact rfl; exact rfl; exact rfl; exact rfl; exact rfl; exact rfl; exact rfl; assumption; (exact extA); exact rfl; omega; assumption; intro b off h; have hcc := h; first | (obtain ⟨h1, h2, h3, h4, h5, h6, _⟩ := h) | (obtain ⟨h1, h2, h3, _⟩ := h) | (obtain ⟨h1, h2, _⟩ := h) | (obtain ⟨h1, _⟩ := h)))
      | (show Z _ _ _ _ _; apply Z.then_normal)
      | (show W _ _ _ _ _ _; first | apply W.seq | apply W.region | apply W.block | apply W.skip)
      | fail)
    refine W.loopO (r.2.2.length - v.length) (fun j c cp w' => j ≤ r.2.2.length - v.length ∧ Ext w w' ∧ Own 1 encV 62 w.heap.size w' c cp (v ++ List.replicate j 0#64))
      (fun j c cp => [(3, .slice c (v ++ List.replicate j 0#64).length cp), (4, .int .i64 i), (5, .slice r.1 r.2.2.length r.2.1), (12, .slice a (rs.take (min rs.length 64)).length cap), (13, .int .i64 (rs.take (min rs.length 64)).length), (14, .int .i64 i)]) c cp ⟨by omega, hx', by simpa using hO'⟩ (fun k c cp w' h => h.1) ⟨by rw [List.replicate_zero, List.append_nil]; rfl, rfl, rfl, rfl, rfl, rfl, trivial⟩ ?_
    rintro j c cp w' ⟨hj, hx', hO'⟩
    have hjl : (v ++ List.replicate j 0#64).length = v.length + j := by simp
    by_cases hjt : j < r.2.2.length - v.length
    · have e1 : v ++ List.replicate (j + 1) 0#64 = (v ++ List.replicate j 0#64) ++ [0#64] := by rw [List.append_assoc, List.replicate_succ']
      repeat' (first
        | (apply W.condKT; exact rfl; (focus (first | exact dec_true (by omega) | exact dec_false (by omega); done)))
        | (apply WL.lit tOk; exact rfl; exact rfl; exact rfl; exact rfl; exact rfl; exact rfl; (first | exact rfl | kernel_rfl | (simp [Instr.fill, catCells]; done)); exact rfl; intro gb w' hb hge hc hx)
        | ((apply WL.append1 (z := 0#64) tOk encV_ok; exact rfl; exact rfl; exact rfl; exact rfl; exact rfl; exact rfl; exact rfl; exact rfl; exact rfl; exact rfl; assumption; (first | exact Ext.refl _ | assumption | exact Ext.trans (by assumption) (by assumption)); (first | exact rfl | omega); assumption; exact rfl; exact rfl; (first | exact Ext.refl _ | assumption | exact Ext.trans (by assumption) (by assumption)); omega; intro a' cap' w' hO hX' hU hF))
        | (show WL _ _ _ _ _ _ _; first | apply WL.nil | (refine WL.au (k := ?_)))
        | (show Z _ _ _ _ _; first | apply Z.then_normal | apply Z.block_normal)
        | (show W _ _ _ _ _ _; first | apply W.seq | apply W.region | apply W.block | apply W.skip)
        | fail)
      exact Z.againO a' cap' ⟨by omega, hX', by rw [e1]; exact hO⟩ (by repeat' first | exact trivial | (refine And.intro ?_ ?_) | exact rfl | (rw [e1]; exact rfl))
    · repeat' (first
        | (apply W.condKF; exact rfl; (focus (first | exact dec_true (by omega) | exact dec_false (by omega); done)))
        | (show WL _ _ _ _ _ _ _; first | apply WL.nil | (refine WL.au (k := ?_)))
        | (show Z _ _ _ _ _; first | apply Z.then_normal | apply Z.then_exit | apply Z.block_exit)
        | (show W _ _ _ _ _ _; first | apply W.seq | apply W.region | apply W.block | apply W.exit)
        | fail)
      obtain rfl : j = r.2.2.length - v.length := by omega
      have hgw : v ++ List.replicate (r.2.2.length - v.length) 0#64 = growW v r.2.2.length := rfl
      rw [hgw] at hO' hjl ⊢
      have hgl := growW_len v r.2.2.length
      refine W.loopW r.2.2.length (fun k w' => k ≤ r.2.2.length ∧ Ext w w' ∧ Own 1 encV 62 w.heap.size w' c cp (rowTo (growW v r.2.2.length) i r.2.2 k))
        (fun k => [(3, .slice c (rowTo (growW v r.2.2.length) i r.2.2 k).length cp), (4, .int .i64 i), (27, .slice r.1 r.2.2.length r.2.1), (28, .int .i64 r.2.2.length), (29, .int .i64 k), (12, .slice a (rs.take (min rs.length 64)).length cap), (13, .int .i64 (rs.take (min rs.length 64)).length), (14, .int .i64 i)]) ⟨by omega, hx', hO'⟩ (fun k w' h => h.1) ⟨rfl, rfl, rfl, rfl, rfl, rfl, rfl, rfl, trivial⟩ ?_
      rintro k w' ⟨hk, hx', hO'⟩
      have hrlen := rowTo_len (growW v r.2.2.length) i r.2.2 k
      by_cases hkt : k < r.2.2.length
      · obtain ⟨z, hz⟩ := getI r.2.2 hkt
        obtain ⟨u, hu⟩ := getI (rowTo (growW v r.2.2.length) i r.2.2 k) (show k < _ by omega)
        have e0 : rowTo (growW v r.2.2.length) i r.2.2 (k + 1) = if z then (rowTo (growW v r.2.2.length) i r.2.2 k).set k (u ||| (1#64 <<< i)) else rowTo (growW v r.2.2.length) i r.2.2 k := by rw [rowTo, getD_of hz, getD_of hu]
        have e5 : (rowTo (growW v r.2.2.length) i r.2.2 (k + 1)).length = (rowTo (growW v r.2.2.length) i r.2.2 k).length := by rw [rowTo_len, rowTo_len]
        repeat' (first
          | (apply W.condKT; exact rfl; (focus (first | exact dec_true (by omega) | exact dec_false (by omega); done)))
          | (apply QL.uor; exact rfl; exact rfl; exact rfl; exact rfl; (first | exact rfl | exact u64_lit _ (by omega)); (first | exact rfl | exact u64_lit _ (by omega)))
          | (apply QL.ushl; exact rfl; exact rfl; exact rfl; exact rfl; (first | exact rfl | exact u64_lit _ (by omega)); omega)
          | (apply W.regionQS 8 tMix; kernel_rfl; exact rfl; kernel_rfl; kernel_rfl)
          | (apply QL.indexO tOk; exact rfl; exact rfl; exact rfl; exact rfl; exact rfl; exact rfl; exact rfl; exact rfl; assumption; (exact extA); exact encV_ok; (first | exact rfl | (focus (simp only [List.length_set]; done)) | (focus (simp; done)) | (focus (simp [*]; done)) | omega | (focus (simp only [List.length_set]; omega))); omega; assumption; intro gb ha hc; cases ha; have hcc := hc; first | (obtain ⟨h1, h2, h3, _⟩ := hc) | (obtain ⟨h1, h2, _⟩ := hc) | (obtain ⟨h1, _⟩ := hc))
          | (apply WL.storeO tOk; exact rfl; exact rfl; exact rfl; exact rfl; assumption; (exact extA); exact rfl; exact rfl; exact rfl; exact encV_ok; assumption; exact rfl; (exact extA); intro w' hO hX' hU)
          | (show WL _ _ _ _ _ _ _; first | apply WL.nil | (refine WL.au (k := ?_)) | (apply WL.index tOk; exact rfl; exact rfl; exact rfl; exact rfl; exact rfl; exact rfl; exact rfl; exact rfl; assumption; (exact extA); exact rfl; omega; assumption; intro b off h; have hcc := h; first | (obtain ⟨h1, h2, h3, h4, h5, h6, _⟩ := h) | (obtain ⟨h1, h2, h3, _⟩ := h) | (obtain ⟨h1, h2, _⟩ := h) | (obtain ⟨h1, _⟩ := h)))
          | (show QL _ _ _ _ _ _ _; first | apply QL.nil | (refine QL.au (k := ?_)))
          | (show Z _ _ _ _ _; first | apply Z.tail | apply Z.then_normal | apply Z.block_normal)
          | (show W _ _ _ _ _ _; first | apply W.seq | apply W.region | apply W.block | apply W.skip | (apply W.condB; exact rfl; all_goals intro _))
          | fail)
        · have hz1 : z = true := by assumption
          rw [hz1, if_pos rfl] at e0
          simp only [Int.toNat_natCast, show BitVec.ofInt 64 1 = 1#64 from rfl] at hO
          rw [← e0] at hO
          exact Z.againW ⟨by omega, hX', hO⟩ (by repeat' first | exact trivial | (refine And.intro ?_ ?_) | exact rfl | (rw [e5]; exact rfl))
        · have hz1 : z = false := by assumption
          rw [hz1, if_neg (by decide)] at e0
          exact Z.againW ⟨by omega, hx', by rw [e0]; exact hO'⟩ (by repeat' first | exact trivial | (refine And.intro ?_ ?_) | exact rfl | (rw [e5]; exact rfl))
      · repeat' (first
          | (apply W.condKF; exact rfl; (focus (first | exact dec_true (by omega) | exact dec_false (by omega); done)))
          | (show WL _ _ _ _ _ _ _; first | apply WL.nil | (refine WL.au (k := ?_)))
          | (show Z _ _ _ _ _; first | apply Z.then_normal | apply Z.block_normal | apply Z.then_exit | apply Z.block_exit)
          | (show W _ _ _ _ _ _; first | apply W.seq | apply W.region | apply W.exit)
          | fail)
        obtain rfl : k = r.2.2.length := by omega
        exact Z.againO c cp ⟨by omega, hx', by rw [hnext]; exact hO'⟩ (by repeat' first | exact trivial | (refine And.intro ?_ ?_) | exact rfl | (rw [hnext]; exact rfl))
  · repeat' (first
      | (apply W.condKF; exact rfl; (focus (first | exact dec_true (by omega) | exact dec_false (by omega); done)))
      | (show WL _ _ _ _ _ _ _; first | apply WL.nil | (refine WL.au (k := ?_)))
      | (show Z _ _ _ _ _; first | apply Z.then_normal | apply Z.then_exit | apply Z.block_exit)
      | (show W _ _ _ _ _ _; first | apply W.seq | apply W.region | apply W.ret | apply W.exit)
      | fail)
    obtain rfl : i = min rs.length 64 := by omega
    exact Z.body1 Tryd.results36 rfl fun m => ⟨hx'.at m, c, cp, rfl, hO'⟩
end Go.Proofs.YtlcenenkloicjaaDoor
