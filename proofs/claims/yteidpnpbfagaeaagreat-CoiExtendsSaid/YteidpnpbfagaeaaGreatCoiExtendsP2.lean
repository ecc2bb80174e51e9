/- Part 2 of what the claim CoiExtends needs: lemmas and contracts. No conditions. -/
import Derived.Test.YteidpnpbfagaeaaGreatRows
import Derived.Lib.SmallJoins
import Derived.KernelRfl
import Derived.WalkKit
import Derived.ProofKit
import Derived.Deep.Quiet
import Derived.Deep.LoopGhost
import Derived.StillTail
import Derived.Test.YteidpnpbfagaeaaGreatProg
import Derived.OpenShut
import Derived.ShutString
import Derived.ChangeOld
import Derived.Deep.Slices
import Derived.SizedLaws
import Derived.Laws.StructEq
import Derived.Laws.Externs
import Derived.MapKept
import Derived.Laws.CopyRow
import Derived.Laws.IdiomCopy
import Derived.Test.YteidpnpbfagaeaaGreatCoiExtendsP1
set_option linter.unusedVariables false
set_option linter.unusedSimpArgs false
set_option maxRecDepth 20000
set_option maxHeartbeats 32000000
namespace Go.Lt
open Go.RowKit

section
variable {P : Program} {T : Tab} {e : Env} {dd : Option Tmp} {tt ty t el : TypeId} {x y : Operand} {ps : String} {af : Array Edge} {g : Option (Nat × Bool)} {i : TI} {p : Option Addr} {a : Addr}
theorem ynilc (hx : ev e x = some (.pointer (some a))) : Yields P e ⟨dd, .nilCheck x, tt, ps, af, g⟩ (.pointer (some a)) := by
 intro ρ hρ w
 simp [execOp, hρ _ _ hx]
theorem run_eqPtrNil (hT : OkTab P T) (ht : tget T t = some i) (hd : i.desc = .pointer el) (w : World) : (Op.equal t (.pointer p) (.pointer none)).run P w = .ok (dec (p = none)) w := by
 have hu := rUn (hT.at ht) w; rw [hd] at hu
 unfold Op.equal
 rw [show Op.maxDepth = 9999 + 1 from rfl, Op.equalIn]
 simp only [Sem.run_bind, hu, Result.andThen_ok]
 cases p with
 | none => simp [dTt]
 | some q => simp [dFf]
theorem yeqNil (hT : OkTab P T) (hx : ev e x = some (.pointer p)) (hy : ev e y = some (.pointer none)) (ht : tget T t = some i) (hd : i.desc = .pointer el) : Yields P e ⟨dd, .binOp .eql t x y ty, tt, ps, af, g⟩ (.bool (dec (p = none))) := by
 intro ρ hρ w
 have h1 : (eqGuard .eql t x y (.pointer p) (.pointer none)).run P w = .ok () w := by simp [eqGuard]
 have h2 : (binOp .eql t (.pointer p) (.pointer none)).run P w = .ok (.bool (dec (p = none))) w := by simp [binOp, run_eqPtrNil hT ht hd]
 simp [execOp, hρ _ _ hx, hρ _ _ hy, h1, h2]
theorem yneNil (hT : OkTab P T) (hx : ev e x = some (.pointer p)) (hy : ev e y = some (.pointer none)) (ht : tget T t = some i) (hd : i.desc = .pointer el) : Yields P e ⟨dd, .binOp .neq t x y ty, tt, ps, af, g⟩ (.bool (dec (p ≠ none))) := by
 intro ρ hρ w
 have h1 : (eqGuard .neq t x y (.pointer p) (.pointer none)).run P w = .ok () w := by simp [eqGuard]
 have h3 : (!dec (p = none)) = dec (p ≠ none) := by
  by_cases hh : p = none
  ·rw [dTt hh, dFf (fun h => h hh)]; rfl
  ·rw [dFf hh, dTt hh]; rfl
 have h2 : (binOp .neq t (.pointer p) (.pointer none)).run P w = .ok (.bool (dec (p ≠ none))) w := by simp [binOp, run_eqPtrNil hT ht hd, h3]
 simp [execOp, hρ _ _ hx, hρ _ _ hy, h1, h2]
end

section rules
variable {P : Program} {N : Nat} {e : Env} {w : World} {Q : Exit -> Act -> World -> Prop} {ops : List Oper} {l : List Oper} {T : Tab} {C : World -> Prop} {Kf : Act -> Prop}
 {d : Nat} {tt ty t el : TypeId} {ps : String} {af : Array Edge} {g : Option (Nat × Bool)} {x y : Operand} {i : TI} {p : Option Addr} {a : Addr}
theorem WL.nilc (hg : gate ops e g = some true) (hd : Nat.blt d N = true) (hx : ev e x = some (.pointer (some a))) (k : WL P N ops.toArray l ((d, .pointer (some a)) :: e) w Q) : WL P N ops.toArray (⟨some d, .nilCheck x, tt, ps, af, g⟩ :: l) e w Q := WL.step hg hd (ynilc hx).in k
theorem QL.nilc (hg : gate ops e g = some true) (hd : Nat.blt d N = true) (hx : ev e x = some (.pointer (some a))) (k : QL P N C ops.toArray l ((d, .pointer (some a)) :: e) Q) : QL P N C ops.toArray (⟨some d, .nilCheck x, tt, ps, af, g⟩ :: l) e Q := QL.step hg hd (ynilc hx).in k
theorem FL.nilc (hg : gate ops e g = some true) (hd : Nat.blt d N = true) (hx : ev e x = some (.pointer (some a))) (k : FL P N ops.toArray C l ((d, .pointer (some a)) :: e) w Kf) : FL P N ops.toArray C (⟨some d, .nilCheck x, tt, ps, af, g⟩ :: l) e w Kf := FL.step hg hd (ynilc hx).in k
theorem WL.eqNil (hT : OkTab P T) (hg : gate ops e g = some true) (hd : Nat.blt d N = true) (hx : ev e x = some (.pointer p)) (hy : ev e y = some (.pointer none)) (ht : tget T t = some i) (htd : i.desc = .pointer el) (k : WL P N ops.toArray l ((d, .bool (dec (p = none))) :: e) w Q) : WL P N ops.toArray (⟨some d, .binOp .eql t x y ty, tt, ps, af, g⟩ :: l) e w Q := WL.step hg hd (yeqNil hT hx hy ht htd).in k
theorem WL.neNil (hT : OkTab P T) (hg : gate ops e g = some true) (hd : Nat.blt d N = true) (hx : ev e x = some (.pointer p)) (hy : ev e y = some (.pointer none)) (ht : tget T t = some i) (htd : i.desc = .pointer el) (k : WL P N ops.toArray l ((d, .bool (dec (p ≠ none))) :: e) w Q) : WL P N ops.toArray (⟨some d, .binOp .neq t x y ty, tt, ps, af, g⟩ :: l) e w Q := WL.step hg hd (yneNil hT hx hy ht htd).in k
theorem WL.neNilS {q : Addr} (hT : OkTab P T) (hg : gate ops e g = some true) (hd : Nat.blt d N = true) (hx : ev e x = some (.pointer (some q))) (hy : ev e y = some (.pointer none)) (ht : tget T t = some i) (htd : i.desc = .pointer el) (k : WL P N ops.toArray l ((d, .bool true) :: e) w Q) : WL P N ops.toArray (⟨some d, .binOp .neq t x y ty, tt, ps, af, g⟩ :: l) e w Q := WL.neNil hT hg hd hx hy ht htd (by rw [dTt (fun h => by cases h)]; exact k)
theorem WL.eqNilS {q : Addr} (hT : OkTab P T) (hg : gate ops e g = some true) (hd : Nat.blt d N = true) (hx : ev e x = some (.pointer (some q))) (hy : ev e y = some (.pointer none)) (ht : tget T t = some i) (htd : i.desc = .pointer el) (k : WL P N ops.toArray l ((d, .bool false) :: e) w Q) : WL P N ops.toArray (⟨some d, .binOp .eql t x y ty, tt, ps, af, g⟩ :: l) e w Q := WL.eqNil hT hg hd hx hy ht htd (by rw [dFf (fun h => by cases h)]; exact k)

theorem WL.storeF {gb off : Nat} {v : Value} {cur : List Value} {et : TypeId} {w0 wo : World} (hT : OkTab P T) (hg : gate ops e g = some true)
  (hx : ev e x = some (.pointer (some ⟨gb, off, none⟩))) (hy : ev e y = some v) (ht : tget T t = some i)
  (hb : wo.heap[gb]? = some (.cells cur.toArray et (0, 0))) (hwo : Ext wo w) (hs : v.cells = #[v]) (hs1 : i.size = 1) (hoff : Nat.blt off cur.length = true) (h1 : v.oneCell' = true) (hX : Ext w0 w) (hB : w0.heap.size <= gb)
  (k : ∀ w', w'.heap[gb]? = some (.cells (cur.set off v).toArray et (0, 0)) -> Ext w0 w' -> Upd gb (some ⟨gb, 0, none⟩) w w' -> WL P N ops.toArray l e w' Q) :
  WL P N ops.toArray (⟨none, .store t x y, tt, ps, af, g⟩ :: l) e w Q := by
 have hof : off < cur.length := by simpa [Nat.blt_eq] using hoff
 have hbw : w.heap[gb]? = some (.cells cur.toArray et (0, 0)) := by rw [hwo.block gb (Array.getElem?_eq_some_iff.1 hb).1]; exact hb
 have hcur : (cur.toArray.toList.take off ++ v.cells.toList ++ cur.toArray.toList.drop (off + v.cells.size)).toArray = (cur.set off v).toArray := by
  rw [hs]
  simp only [List.size_toArray, List.length_cons, List.length_nil]
  rw [List.set_eq_take_append_cons_drop, if_pos hof]
  simp
 refine WL.effN (w' := fun m => (at' w m).setRow gb (cur.set off v).toArray) hg ?_ (fun m => ?_)
 ·intro ρ hρ m
  have hr := run_storeVar' (hT.at ht) gb off et cur.toArray (at' w m) v hbw (by rw [hs, hs1]; rfl) (by rw [hs]; simp; omega) (fun u hu => by rw [hs] at hu; simp at hu; subst hu; exact h1)
  rw [hcur] at hr
  simp [execOp, hρ _ _ hx, hρ _ _ hy, Instr.storeAt, Instr.sureAddr, hr]
 ·have hU : Upd gb (some ⟨gb, 0, none⟩) w ((at' w m).setRow gb (cur.set off v).toArray) :=
   ⟨⟨rfl, rfl, rfl, by simp [World.setRow], fun k hk hne => setRow_other (at' w m) gb k _ (fun hh => hne (by rw [hh]; rfl))⟩, fun k hk => by simp only [blk, Option.map_some, Option.some.injEq] at hk; omega⟩
  exact k _ (setRow_heap (at' w m) gb cur.toArray _ et _ hbw) (hU.ext hX hB) hU
end rules
theorem Sep.map {B : Nat} {w : World} {ps : List Piece} {i r : Nat} {κ ν : Type} {kv : κ -> Value} {vv : ν -> Value} {L : List (κ × ν)} (hS : Sep B w ps) (h : ps[i]? = some (pmap kv vv r L)) : MapIs kv vv w r L := (hS.holds i _ h).1
theorem Sep.updMap {B : Nat} {w w' w1 : World} {ps : List Piece} {i r B' : Nat} {κ ν : Type} {kv : κ -> Value} {vv : ν -> Value} {L L' : List (κ × ν)} (hi : ps[i]? = some (pmap kv vv r L)) (hU : Upd B' (some ⟨r, 0, none⟩) w w') (h : MapIs kv vv w' r L') (hS : Sep B w1 ps) (hx : Ext w1 w) (hB : B <= w.heap.size) : Sep B w' (ps.set i (pmap kv vv r L')) :=
 (hS.ext hx).upd hi hU.grown h (.inl rfl) hB
theorem Sep.newMap {B : Nat} {w w' : World} {ps : List Piece} {r : Nat} {κ ν : Type} {kv : κ -> Value} {vv : ν -> Value} {L : List (κ × ν)} (hS : Sep B w ps) (hx : Ext w w') (h : MapIs kv vv w' r L) (hge : w.heap.size <= r) (hB : B <= w.heap.size) : Sep B w' (pmap kv vv r L :: ps) :=
 hS.new hx h (fun k hk => by cases hk; exact ⟨hge, h.lt⟩) hB

inductive Strat where
 | done : Strat
 | fl : Bool -> Nat -> Strat -> Strat
 | br : Nat -> Strat -> Strat -> Strat
 | stop : Strat

def heads : Strat -> List Nat
 | .br i _ more => i :: heads more
 | _ => []
def slen : Strat -> Nat
 | .done => 0
 | .fl _ _ k => slen k + 1
 | .br _ k _ => slen k + 1
 | .stop => 0
def isStop : Strat -> Bool
 | .stop => true
 | _ => false

def stratB (ops : Array Oper) (early : Nat -> Bool) : Bool -> Strat -> Array Bool -> Bool
 | top, .done, L => top && Region.ready .any ops L == []
 | top, .fl b i k, L => top && (Region.ready .any ops L).contains i && (match ops[i]? with
   | some oi => (List.range ops.size).all (fun j => j == i || L.getD j true || waits ops j i || (match ops[j]? with | some oj => oi.apart ops oj && (b || early j) | none => false))
   | none => false) && stratB ops early true k (L.setIfInBounds i true)
 | top, .br i k more, L => (!top || Region.ready .any ops L == i :: heads more) && (isStop more || Nat.beq (slen more) (slen k + 1)) && stratB ops early true k (L.setIfInBounds i true) && stratB ops early false more L
 | top, .stop, _ => !top

section tree
variable {P : Program} {ops : Array Oper} {C : World -> Prop} {early : Nat -> Bool} {K : Act -> World -> Prop}

def wpT (P : Program) (ops : Array Oper) (C : World -> Prop) (early : Nat -> Bool) (K : Act -> World -> Prop) : Nat -> Array Bool -> Act -> World -> Prop
 | 0, listed, a, w => Region.ready .any ops listed = [] /\ ∀ m, K a (at' w m)
 | n + 1, listed, a, w => Region.ready .any ops listed ≠ [] /\ ∀ m, ∀ i ∈ Region.ready .any ops listed,
   wpOp P ops (onlyN K) i (fun a' w' => ((∀ m, C (at' w m)) -> early i = true -> ∀ m, C (at' w' m)) /\ wpT P ops C early K n (listed.setIfInBounds i true) a' w') a (at' w m)

theorem wpT_at : ∀ {n : Nat} {listed : Array Bool} {a : Act} {w : World} (m : Nat), wpT P ops C early K n listed a w -> wpT P ops C early K n listed a (at' w m)
 | 0, _, _, _, _, h => ⟨h.1, fun m' => h.2 m'⟩
 | _ + 1, _, _, _, _, h => ⟨h.1, fun m' => h.2 m'⟩

theorem wpAny_of_T {Q : Exit -> Act -> World -> Prop} (hQ : ∀ a w, K a w -> Q .normal a w) : ∀ (fuel : Nat) (listed : Array Bool) (a : Act) (w : World), wpT P ops C early K fuel listed a w -> wpAny P .any ops Q fuel listed a w
 | 0, _, _, w, h => ⟨h.1, hQ _ _ (h.2 w.drawn)⟩
 | fuel + 1, _, _, w, h => ⟨fun h0 => absurd h0 h.1, fun i hi => wpOp_mono' (fun a w hh => wpAny_of_T hQ fuel _ a w hh.2) (h.2 w.drawn i hi)⟩

def StillAt (P : Program) (s : Sem Next) (w : World) (v : Value) : Prop :=
 s.run P w = .ok (.value v) w ∨ ∃ f args, s.run P w = .ok (.enter f args) w /\ Calls P f args w (fun x w' => x = .returned v /\ ∃ m, w' = at' w m)

def SYields (P : Program) (ops : Array Oper) (C : World -> Prop) (o : Oper) (v : Value) (a : Act) : Prop :=
 (Region.wanted o (yielded ops a.tmps) = true /\ ∀ w, C w -> StillAt P (execOp a.eval o) w v) ∨ (Region.wanted o (yielded ops a.tmps) = false /\ v = undef)

theorem SYields.wpOp {i : Nat} {o : Oper} {v : Value} {a : Act} {w : World} {Q : Exit -> Act -> World -> Prop} {K' : Act -> World -> Prop} (hi : ops[i]? = some o) (hy : SYields P ops C o v a) (hC : C w) (h : ∀ m, K' (a.put o.dst v) (at' w m)) : wpOp P ops Q i K' a w := by
 unfold Go.wpOp
 simp only [hi]
 rcases hy with ⟨hw, hv⟩ | ⟨hw, rfl⟩
 ·simp only [hw, if_true]
  refine .inl ?_
  unfold Oper.wp
  rcases hv w hC with hv | ⟨f, args, hv, hc⟩
  ·rw [hv]; exact h w.drawn
  ·rw [hv]
   refine Calls.mono hc ?_
   rintro x w' ⟨rfl, m, rfl⟩
   exact h m
 ·simp only [hw, Bool.false_eq_true, if_false]; exact h w.drawn

theorem SYields.of_same {o : Oper} {v : Value} {a a' : Act} (hy : SYields P ops C o v a) (he : execOp a'.eval o = execOp a.eval o)
  (hw : Region.wanted o (yielded ops a'.tmps) = Region.wanted o (yielded ops a.tmps)) : SYields P ops C o v a' := by
 unfold SYields at *
 rw [he, hw]
 exact hy

theorem wpOp_putS {j : Nat} {oi oj : Oper} {v : Value} {C : World -> Prop} (hj : ops[j]? = some oj) (hap : oi.apart ops oj = true)
  (hsi : ∀ cs b, oi.op ≠ .select cs b) (hsj : ∀ cs b, oj.op ≠ .select cs b) {K0 K1 : Act -> World -> Prop} {a : Act} {w : World}
  (hy : SYields P ops C oi v a) (h : wpOp P ops (onlyN K0) j K1 (a.put oi.dst v) w) :
  wpOp P ops (onlyN K0) j (fun a' w' => SYields P ops C oi v a' /\ K1 (a'.put oi.dst v) w') a w := by
 obtain ⟨h1, h2, h3⟩ := Oper.apart_spec hap
 have keep : ∀ u, SYields P ops C oi v (a.put oj.dst u) := fun u => hy.of_same (execOp_put oi hsi a oj.dst u h3) (wanted_put oi a oj.dst u h3)
 have swap : ∀ u, (a.put oi.dst v).put oj.dst u = (a.put oj.dst u).put oi.dst v := fun u => Act.put_comm a v u h2
 have lets : ¬ LetsOut (onlyN K0) := fun ⟨_, _, hq⟩ => hq
 unfold Go.wpOp at *
 simp only [hj] at *
 rw [wanted_put oj a oi.dst v h1] at h
 split
 ·rename_i hw
  simp only [hw, if_true] at h
  rcases h with h | ⟨_, hq⟩
  ·refine .inl ?_
   unfold Oper.wp at h ⊢
   rw [execOp_put oj hsj a oi.dst v h1] at h
   revert h
   generalize (execOp a.eval oj).run P w = r
   intro h
   unfold Oper.upon at h ⊢
   split at h
   ·exact ⟨keep _, by rw [<- swap]; exact h⟩
   ·exact ⟨keep _, by rw [<- swap]; exact h⟩
   ·rename_i d w'
    have e1 : ({ a with defers := d :: a.defers }.put oj.dst undef).put oi.dst v = { a.put oi.dst v with defers := d :: (a.put oi.dst v).defers }.put oj.dst undef := by
     rw [Act.put_comm _ undef v (fun q hq hh => h2 q hh hq)]
     cases oi.dst <;> rfl
    have e2 : SYields P ops C oi v ({ a with defers := d :: a.defers }.put oj.dst undef) := by
     refine (keep undef).of_same ?_ ?_
     ·cases oj.dst <;> rfl
     ·cases oj.dst <;> rfl
    exact ⟨e2, by rw [e1]; exact h⟩
   ·refine Calls.mono h fun x w'' hx => ?_
    cases x with
    | returned u => exact ⟨keep _, by rw [<- swap]; exact hx⟩
    | panicked c => exact hx.elim
    | outgrown => exact (lets hx).elim
   ·exact Rows.mono h fun u w'' hx => ⟨keep _, by rw [<- swap]; exact hx⟩
   ·exact h.elim
   ·exact h
  ·exact (lets hq).elim
 ·rename_i hw
  simp only [hw] at h
  exact ⟨keep _, by rw [<- swap]; exact h⟩

theorem wpT_first {i : Nat} {oi : Oper} {v : Value} {b : Bool} (hi : ops[i]? = some oi) (hsel : ∀ (j : Nat) (o : Oper) cs b, ops[j]? = some o -> o.op ≠ .select cs b) :
  ∀ (fuel : Nat) (listed : Array Bool) (a : Act) (w : World), (∀ m, b = true ∨ C (at' w m)) ->
   (∀ j oj, ops[j]? = some oj -> j ≠ i -> listed.getD j true = false -> (∀ e ∈ oj.after, Region.binds .any e = true -> e.on ≠ i) -> oi.apart ops oj = true /\ (b = true ∨ early j = true)) ->
   i ∈ Region.ready .any ops listed -> SYields P ops (fun w => b = true ∨ C w) oi v a ->
   wpT P ops C early K fuel (listed.setIfInBounds i true) (a.put oi.dst v) w -> wpT P ops C early K (fuel + 1) listed a w := by
 intro fuel
 induction fuel with
 | zero =>
  intro listed a w hC _ hr hy H
  refine ⟨fun h => (by rw [h] at hr; cases hr), fun m j hj => ?_⟩
  by_cases hji : j = i
  ·subst hji; exact hy.wpOp hi (hC m) fun m' => ⟨fun hc _ m2 => hc m2, wpT_at m' H⟩
  ·have := ready_mono hj hji
   rw [H.1] at this
   cases this
 | succ fuel ih =>
  intro listed a w hC hfree hr hy H
  refine ⟨fun h => (by rw [h] at hr; cases hr), fun m j hj => ?_⟩
  by_cases hji : j = i
  ·subst hji; exact hy.wpOp hi (hC m) fun m' => ⟨fun hc _ m2 => hc m2, wpT_at m' H⟩
  ·have h1 := H.2 m j (ready_mono hj hji)
   obtain ⟨hjun, oj, hoj, hall⟩ := mem_ready.1 hj
   have hnot : ∀ e ∈ oj.after, Region.binds .any e = true -> e.on ≠ i := fun e he hb heq => by
    have h1 := hall e he hb
    have h0 := (mem_ready.1 hr).1
    rw [heq] at h1
    rcases Nat.lt_or_ge i listed.size with h' | h'
    ·simp [h'] at h0 h1; rw [h0] at h1; cases h1
    ·simp [Array.getElem?_eq_none h'] at h1
   obtain ⟨hap, hea⟩ := hfree j oj hoj hji hjun hnot
   have h2 := wpOp_putS hoj hap (fun cs b => hsel i oi cs b hi) (fun cs b => hsel j oj cs b hoj) hy h1
   have hfree' : ∀ k ok, ops[k]? = some ok -> k ≠ i -> (listed.setIfInBounds j true).getD k true = false ->
     (∀ e ∈ ok.after, Region.binds .any e = true -> e.on ≠ i) -> oi.apart ops ok = true /\ (b = true ∨ early k = true) := fun k ok hk hki hun hno => by
    refine hfree k ok hk hki ?_ hno
    by_cases hjk : j = k
    ·subst hjk; exact hjun
    ·rw [getD_set_ne true hjk] at hun; exact hun
   refine wpOp_mono' (fun a' w' h3 => ⟨h3.2.1, ih (listed.setIfInBounds j true) a' w' ?_ hfree' (ready_mono hr (Ne.symm hji)) h3.1 ?_⟩) h2
   ·intro m2
    rcases hea with hb | hea
    ·exact .inl hb
    ·by_cases hb : b = true
     ·exact .inl hb
     ·exact .inr (h3.2.1 (fun m3 => (hC m3).resolve_left hb) hea m2)
   ·rw [Array.setIfInBounds_comm _ _ hji]
    exact h3.2.2

def wpS (P : Program) (ops : Array Oper) (C : World -> Prop) (early : Nat -> Bool) (K : Act -> World -> Prop) : Strat -> Act -> World -> Prop
 | .done, a, w => ∀ m, K a (at' w m)
 | .fl b i k, a, w => ∃ o, ops[i]? = some o /\ ∃ v, SYields P ops (fun w => b = true ∨ C w) o v a /\ (∀ m, b = true ∨ C (at' w m)) /\ wpS P ops C early K k (a.put o.dst v) w
 | .br i k more, a, w => (∃ o, ops[i]? = some o /\ ∀ m, wpList P ops (onlyN fun a' w' => (early i = true -> ∀ m, C (at' w' m)) /\ wpS P ops C early K k a' w') [o] a (at' w m)) /\ wpS P ops C early K more a w
 | .stop, _, _ => True

theorem wpS_at : ∀ {s : Strat} {a : Act} {w : World} (m : Nat), wpS P ops C early K s a w -> wpS P ops C early K s a (at' w m)
 | .done, _, _, _, h => fun m' => h m'
 | .fl b i k, _, _, m, ⟨o, ho, v, h1, h2, h3⟩ => ⟨o, ho, v, h1, fun m' => h2 m', wpS_at m h3⟩
 | .br i k more, _, _, m, ⟨⟨o, ho, h1⟩, h2⟩ => ⟨⟨o, ho, fun m' => h1 m'⟩, wpS_at m h2⟩
 | .stop, _, _, _, _ => trivial

theorem strat_all (hsel : ∀ (j : Nat) (o : Oper) cs b, ops[j]? = some o -> o.op ≠ .select cs b) : ∀ (s : Strat),
  (∀ (L : Array Bool) (a : Act) (w : World), stratB ops early true s L = true -> wpS P ops C early K s a w -> wpT P ops C early K (slen s) L a w) /\
  (∀ (L : Array Bool) (a : Act) (w : World) (n : Nat), stratB ops early false s L = true -> (isStop s = true ∨ slen s = n + 1) -> wpS P ops C early K s a w -> ∀ i ∈ heads s, ∀ m,
   wpOp P ops (onlyN K) i (fun a' w' => ((∀ m, C (at' w m)) -> early i = true -> ∀ m, C (at' w' m)) /\ wpT P ops C early K n (L.setIfInBounds i true) a' w') a (at' w m))
 | .done => ⟨fun L a w hB h => ⟨by simpa [stratB] using hB, h⟩, fun L a w n hB => by simp [stratB] at hB⟩
 | .stop => ⟨fun L a w hB => by simp [stratB] at hB, fun L a w n hB hn h i hi => by simp [heads] at hi⟩
 | .fl b i k => by
  refine ⟨fun L a w hB h => ?_, fun L a w n hB => by simp [stratB] at hB⟩
  obtain ⟨o, ho, v, h1, h2, h3⟩ := h
  simp only [stratB, ho, Bool.true_and, Bool.and_eq_true] at hB
  obtain ⟨⟨hB1, hB2⟩, hB3⟩ := hB
  have hfree : ∀ j oj, ops[j]? = some oj -> j ≠ i -> L.getD j true = false -> (∀ e ∈ oj.after, Region.binds .any e = true -> e.on ≠ i) -> o.apart ops oj = true /\ (b = true ∨ early j = true) := by
   intro j oj hj hji hun hno
   have hjlt : j < ops.size := (Array.getElem?_eq_some_iff.1 hj).1
   have := List.all_eq_true.1 hB2 j (List.mem_range.2 hjlt)
   simp only [hj, Bool.or_eq_true, beq_iff_eq, hji, hun, Bool.false_eq_true, false_or, Bool.and_eq_true] at this
   rcases this with hw | hw
   ·exfalso
    simp only [waits, hj] at hw
    obtain ⟨e, he, hb⟩ := Array.any_eq_true'.1 hw
    simp only [Bool.and_eq_true, beq_iff_eq] at hb
    exact hno e he hb.1 hb.2
   ·exact hw
  exact wpT_first ho hsel (slen k) L a w h2 hfree (by simpa using hB1) h1 ((strat_all hsel k).1 _ _ _ hB3 h3)
 | .br i k more => by
  have key : ∀ (L : Array Bool) (a : Act) (w : World), stratB ops early true k (L.setIfInBounds i true) = true ->
    (∃ o, ops[i]? = some o /\ ∀ m, wpList P ops (onlyN fun a' w' => (early i = true -> ∀ m, C (at' w' m)) /\ wpS P ops C early K k a' w') [o] a (at' w m)) -> ∀ m,
    wpOp P ops (onlyN K) i (fun a' w' => ((∀ m, C (at' w m)) -> early i = true -> ∀ m, C (at' w' m)) /\ wpT P ops C early K (slen k) (L.setIfInBounds i true) a' w') a (at' w m) := by
   rintro L a w hB ⟨o, ho, h⟩ m
   refine wpOp_of_list ho (h m) _ fun a' w' h' => ?_
   have h'' : (early i = true -> ∀ m, C (at' w' m)) /\ wpS P ops C early K k a' w' := h'
   exact ⟨fun _ he => h''.1 he, (strat_all hsel k).1 _ _ _ hB h''.2⟩
  refine ⟨fun L a w hB h => ?_, fun L a w n hB hn h => ?_⟩
  ·simp only [stratB, Bool.not_true, Bool.false_or, Bool.and_eq_true, beq_iff_eq, Bool.or_eq_true] at hB
   obtain ⟨⟨⟨hB1, hB2⟩, hB3⟩, hB4⟩ := hB
   refine ⟨by rw [hB1]; simp, fun m j hj => ?_⟩
   rw [hB1] at hj
   rcases List.mem_cons.1 hj with rfl | hj
   ·exact key L a w hB3 h.1 m
   ·refine (strat_all hsel more).2 L a w (slen k) hB4 ?_ h.2 j hj m
    rcases hB2 with hB2 | hB2
    ·exact .inl hB2
    ·exact .inr (Nat.eq_of_beq_eq_true hB2)
  ·simp only [stratB, Bool.not_false, Bool.true_or, Bool.true_and, Bool.and_eq_true, Bool.or_eq_true] at hB
   obtain ⟨⟨hB2, hB3⟩, hB4⟩ := hB
   have hk : slen k = n := by
    rcases hn with hn | hn
    ·cases hn
    ·exact Nat.succ.inj hn
   subst hk
   intro j hj m
   rcases List.mem_cons.1 hj with rfl | hj
   ·exact key L a w hB3 h.1 m
   ·refine (strat_all hsel more).2 L a w (slen k) hB4 ?_ h.2 j hj m
    rcases hB2 with hB2 | hB2
    ·exact .inl hB2
    ·exact .inr (Nat.eq_of_beq_eq_true hB2)
end tree

structure SG (P : Program) (N : Nat) (l : List Oper) (C : World -> Prop) (early : Nat -> Bool) (s : Strat) (e : Env) (w : World) (Q : Exit -> Act -> World -> Prop) : Prop where
 go : ∀ a, Fit N e a -> wpS P l.toArray C early (fun a w => Q .normal a w) s a w

def memN : List Nat -> Nat -> Bool
 | [], _ => false
 | k :: r, j => Nat.beq k j || memN r j
def nthO : List Oper -> Nat -> Option Oper
 | [], _ => none
 | o :: _, 0 => some o
 | _ :: r, i + 1 => nthO r i
theorem nthO_eq : ∀ {l : List Oper} {i : Nat} {o : Oper}, nthO l i = some o -> l.toArray[i]? = some o
 | [], _, _, h => by cases h
 | _ :: _, 0, _, h => by simpa [nthO] using h
 | _ :: r, i + 1, o, h => by have := nthO_eq (l := r) (i := i) h; simpa using this

section rules
variable {P : Program} {N : Nat} {e : Env} {w : World} {Q : Exit -> Act -> World -> Prop} {C : World -> Prop} {l : List Oper} {early : Nat -> Bool} {s k more : Strat} {o : Oper} {i : Nat}

theorem W.regionG {id : Nat} (s : Strat) (E : List Nat) (C : World -> Prop) (hm : P.follows .mixedOrders = true) (hB : (Region.noSelect l.toArray && Nat.beq (slen s) l.toArray.size && stratB l.toArray (memN E) true s (Array.replicate l.toArray.size false)) = true)
  (h : SG P N l C (memN E) s e w Q) : W P N (.region id l.toArray true) e w Q := by
 refine ⟨fun a m hf => wp_region_any hm ?_⟩
 simp only [Bool.and_eq_true] at hB
 obtain ⟨⟨hB1, hB2⟩, hB3⟩ := hB
 have hsel : ∀ (j : Nat) (o : Oper) cs b, l.toArray[j]? = some o -> o.op ≠ .select cs b := fun j o cs b ho => Region.noSelect_spec hB1 j o cs b ho
 have hsz := Nat.eq_of_beq_eq_true hB2
 have key := (strat_all (P := P) (C := C) (K := fun a w => Q .normal a w) hsel s).1 _ _ _ hB3 (h.go a hf)
 rw [hsz] at key
 exact wpAny_of_T (K := fun a w => Q .normal a w) (C := C) (early := memN E) (fun _ _ h => h) _ _ _ _ (wpT_at (w := w) (m + 1) key)

theorem W.regionGB {id : Nat} (s : Strat) (E : List Nat) (b : Option Nat) (hm : P.follows .mixedOrders = true) (hB : (Region.noSelect l.toArray && Nat.beq (slen s) l.toArray.size && stratB l.toArray (memN E) true s (Array.replicate l.toArray.size false)) = true)
  (h : SG P N l (But w b) (memN E) s e w Q) : W P N (.region id l.toArray true) e w Q := W.regionG s E (But w b) hm hB h
theorem SG.done (h : Z N Q .normal e w) : SG P N l C early .done e w Q := ⟨fun a hf m => h.go a m hf⟩
theorem SG.stop : SG P N l C early .stop e w Q := ⟨fun a hf => trivial⟩
theorem SG.fl0 (ho : nthO l i = some o) (h : FL P N l.toArray (fun _ => True) [o] e w (fun a => wpS P l.toArray C early (fun a w => Q .normal a w) k a w)) : SG P N l C early (.fl true i k) e w Q := by
 refine ⟨fun a hf => ⟨o, nthO_eq ho, ?_⟩⟩
 have := h.go a hf
 unfold wpFl at this
 split at this
 ·rename_i hw
  obtain ⟨v, h1, h2⟩ := this
  exact ⟨v, .inl ⟨hw, fun w' _ => .inl (h1 w' trivial)⟩, fun m => .inl rfl, h2⟩
 ·rename_i hw
  exact ⟨undef, .inr ⟨by simpa using hw, rfl⟩, fun m => .inl rfl, this⟩
theorem SG.fl1 (ho : nthO l i = some o) (hC : ∀ m, C (at' w m)) (h : FL P N l.toArray C [o] e w (fun a => wpS P l.toArray C early (fun a w => Q .normal a w) k a w)) : SG P N l C early (.fl false i k) e w Q := by
 refine ⟨fun a hf => ⟨o, nthO_eq ho, ?_⟩⟩
 have := h.go a hf
 unfold wpFl at this
 split at this
 ·rename_i hw
  obtain ⟨v, h1, h2⟩ := this
  exact ⟨v, .inl ⟨hw, fun w' hc => .inl (h1 w' (hc.resolve_left (by simp)))⟩, fun m => .inr (hC m), h2⟩
 ·rename_i hw
  exact ⟨undef, .inr ⟨by simpa using hw, rfl⟩, fun m => .inr (hC m), this⟩
theorem FL.nilS {opsA : Array Oper} {C' : World -> Prop} (h : SG P N l C early k e w Q) : FL P N opsA C' [] e w (fun a => wpS P l.toArray C early (fun a w => Q .normal a w) k a w) := ⟨fun a hf => h.go a hf⟩
theorem SG.br (ho : nthO l i = some o) (h : WL P N l.toArray [o] e w (onlyN fun a' w' => (early i = true -> ∀ m, C (at' w' m)) /\ wpS P l.toArray C early (fun a w => Q .normal a w) k a' w')) (hm : SG P N l C early more e w Q) : SG P N l C early (.br i k more) e w Q :=
 ⟨fun a hf => ⟨⟨o, nthO_eq ho, fun m => h.go a m hf⟩, hm.go a hf⟩⟩
theorem SG.br1 (ho : nthO l i = some o) (h : WL P N l.toArray [o] e w (onlyN fun a' w' => (early i = true -> ∀ m, C (at' w' m)) /\ wpS P l.toArray C early (fun a w => Q .normal a w) k a' w')) : SG P N l C early (.br i k .stop) e w Q := SG.br ho h SG.stop
theorem Z.sg (hC : early i = true -> ∀ m, C (at' w m)) (h : SG P N l C early k e w Q) : Z N (onlyN fun a' w' => (early i = true -> ∀ m, C (at' w' m)) /\ wpS P l.toArray C early (fun a w => Q .normal a w) k a' w') .normal e w :=
 ⟨fun a m hf => ⟨fun he m' => hC he m', wpS_at m (h.go a hf)⟩⟩
theorem Z.sgL (hE : early i = false) (h : SG P N l C early k e w Q) : Z N (onlyN fun a' w' => (early i = true -> ∀ m, C (at' w' m)) /\ wpS P l.toArray C early (fun a w => Q .normal a w) k a' w') .normal e w := Z.sg (fun h => by rw [hE] at h; cases h) h
theorem Z.sgE (hC : ∀ m, C (at' w m)) (h : SG P N l C early k e w Q) : Z N (onlyN fun a' w' => (early i = true -> ∀ m, C (at' w' m)) /\ wpS P l.toArray C early (fun a w => Q .normal a w) k a' w') .normal e w := Z.sg (fun _ => hC) h
end rules

section more
variable {P : Program} {T : Tab} {N : Nat} {e : Env} {w w0 : World} {Q : Exit -> Act -> World -> Prop} {C : World -> Prop} {ops l : List Oper} {Kf : Act -> Prop} {K : Act -> World -> Prop}
 {d : Nat} {tt t ty : TypeId} {ps : String} {af : Array Edge} {g : Option (Nat × Bool)} {x y : Operand} {a b : Int}
theorem FL.loadG {bk : Option Nat} {p : Addr} {v : Value} {i : TI} (hT : OkTab P T) (hg : gate ops e g = some true) (hd : Nat.blt d N = true) (hx : ev e x = some (.pointer (some p))) (ht : tget T t = some i) (ha : isAggD i.desc = false) (hv : w0.cell? p = some v) (hb : bk ≠ some p.block)
  (k : FL P N ops.toArray (But w0 bk) l ((d, v) :: e) w Kf) : FL P N ops.toArray (But w0 bk) (⟨some d, .load t x, tt, ps, af, g⟩ :: l) e w Kf := by
 refine FL.step hg hd ?_ k
 intro ρ hρ w' hw'
 have h1 := run_isAgg' (hT.at ht); rw [ha] at h1
 have h2 := But.cell hw' hv hb
 simp [execOp, hρ _ _ hx, Instr.loadAt, Instr.sureAddr, loadVar, h1, h2]
theorem FL.loadAG {bk : Option Nat} {b off : Nat} {vs : List Value} {i : TI} (hT : OkTab P T) (hg : gate ops e g = some true) (hd : Nat.blt d N = true) (hx : ev e x = some (.pointer (some ⟨b, off, none⟩))) (ht : tget T t = some i) (ha : isAggD i.desc = true) (hv : Cells w0 b off vs) (hs : i.size = vs.length) (hb : bk ≠ some b)
  (k : FL P N ops.toArray (But w0 bk) l ((d, .agg vs.toArray) :: e) w Kf) : FL P N ops.toArray (But w0 bk) (⟨some d, .load t x, tt, ps, af, g⟩ :: l) e w Kf := by
 refine FL.step hg hd ?_ k
 intro ρ hρ w' hw'
 have h1 := run_isAgg' (hT.at ht); rw [ha] at h1
 have h3 := run_sizeOf' (hT.at ht); rw [hs] at h3
 have h2 := run_loadCellsFrom (P := P) (acc := #[]) (off := off) (i := 0) (But.cells hw' hb hv)
 simp [execOp, hρ _ _ hx, Instr.loadAt, Instr.sureAddr, loadVar, h1, h3, loadCells, h2]
theorem FL.build (hT : OkTab P T) {ti : TI} {fs : Array Field} {pl : List (Nat × Nat)} {parts : List (Nat × Operand)} {pvs : List (Nat × Value)} {cs : List Value} (hg : gate ops e g = some true) (hd : Nat.blt d N = true) (ht : tget T t = some ti) (htd : ti.desc = .struct fs) (hpl : places T fs.toList = some pl)
  (hp : evp e parts = some pvs) (hcs : fillL pl ti.zero.cells.toList pvs = cs) (hfill : Instr.fill (fun i : Nat => pl[i]?) ti.zero.cells pvs = some (fillL pl ti.zero.cells.toList pvs).toArray)
  (k : FL P N ops.toArray C l ((d, .agg cs.toArray) :: e) w Kf) : FL P N ops.toArray C (⟨some d, .build t ⟨parts⟩, tt, ps, af, g⟩ :: l) e w Kf := by
 refine FL.step hg hd ?_ k
 subst hcs
 exact ybuild (C := C) hT ht htd hpl hp rfl hfill
theorem xor1_all (a : Int) (h : 0 <= a /\ a <= 9223372036854775807) : IntKind.i64.wrap (BitVec.ofInt IntKind.i64.bits a ^^^ BitVec.ofInt IntKind.i64.bits 1).toNat = Lt.xor1 a := by
 by_cases h1 : a = 9223372036854775807
 ·subst h1; rfl
 ·exact xor1_eq a ⟨h.1, by omega⟩
theorem xor0_all (a : Int) (h : 0 <= a /\ a <= 9223372036854775807) : IntKind.i64.wrap (BitVec.ofInt IntKind.i64.bits a ^^^ BitVec.ofInt IntKind.i64.bits 0).toNat = a := by
 show IntKind.i64.wrap (BitVec.ofInt 64 a ^^^ BitVec.ofInt 64 0).toNat = a
 rw [show BitVec.ofInt 64 0 = 0#64 from rfl, BitVec.xor_zero, toNat_ofInt64 a h.1 (by omega), IntWalk.i64_in _ (by omega)]
 omega
def xorI (a b : Int) : Int := if b = 1 then Lt.xor1 a else a
theorem yxorI {dd : Option Tmp} (hx : ev e x = some (.int .i64 a)) (hy : ev e y = some (.int .i64 b)) (h : 0 <= a /\ a <= 9223372036854775807) (hb : b = 0 ∨ b = 1) : Yields P e ⟨dd, .binOp .xor t x y ty, tt, ps, af, g⟩ (.int .i64 (xorI a b)) := by
 have := Yields.bin (P := P) (d := dd) (op := .xor) (t := t) (ty := ty) (tt := tt) (ps := ps) (af := af) (g := g) hx hy (v := .int .i64 (IntKind.i64.wrap (BitVec.ofInt IntKind.i64.bits a ^^^ BitVec.ofInt IntKind.i64.bits b).toNat)) rfl
 rcases hb with rfl | rfl
 ·rwa [xor0_all a h, show a = xorI a 0 by unfold xorI; rw [if_neg (by decide)]] at this
 ·rwa [xor1_all a h, show Lt.xor1 a = xorI a 1 by unfold xorI; rw [if_pos rfl]] at this
theorem WL.xorI (hg : gate ops e g = some true) (hd : Nat.blt d N = true) (hx : ev e x = some (.int .i64 a)) (hy : ev e y = some (.int .i64 b)) (h : 0 <= a /\ a <= 9223372036854775807) (hb : b = 0 ∨ b = 1) (k : WL P N ops.toArray l ((d, .int .i64 (Lt.xorI a b)) :: e) w Q) : WL P N ops.toArray (⟨some d, .binOp .xor t x y ty, tt, ps, af, g⟩ :: l) e w Q := WL.step hg hd (yxorI hx hy h hb).in k
end more
end Go.Lt
namespace Go.Proofs.YteidpnpbfagaeaaGreat
open Go Go.Lt Go.RowKit

abbrev T3 := Int × Int × Int
abbrev enc3 : T3 -> List Value := fun x => [.int .i64 x.1, .int .i64 x.2.1, .int .i64 x.2.2]
theorem enc3_ok : Enc 3 enc3 := ⟨fun _ => rfl, by intro x u hu; simp only [enc3, List.mem_cons, List.not_mem_nil, or_false] at hu; rcases hu with rfl | rfl | rfl <;> rfl, by decide⟩

end Go.Proofs.YteidpnpbfagaeaaGreat
namespace Go.Lt
open Go.ChangeShapes Go.WideShapes Go.ChangeAt Go.RowKit Go.Deep

def ReadsF (P : Program) (fs : List Field) {α : Type} (enc : α -> List Value) (ok : World -> α -> Prop) : Prop :=
 ∀ {H : Type} (en : TypeId × Value -> H) (w : World) (base : Nat) (spare : Nat -> Bool) (held : Bool) (n : Nat) (cs : List Value) (xs : List (DataW H × List MemPlace)), cs.length = fs.length ->
  (∀ (j : Nat) (f : Field) (c : Value), fs[j]? = some f -> cs[j]? = some c -> ∃ x, DataW.trod en P w base spare held n f.type [c] = some x) -> ∃ a : α, cs = enc a /\ ok w a
theorem readsF_nil (P : Program) : ReadsF P [] (fun _ : Unit => []) (fun _ _ => True) := fun en w base spare held n cs xs hl _ =>
 ⟨(), List.eq_nil_of_length_eq_zero hl, trivial⟩
theorem readsF_cons {P : Program} {f : Field} {fs : List Field} {α β : Type} {ea : α -> List Value} {eb : β -> List Value} {ka : World -> α -> Prop} {kb : World -> β -> Prop} (ra : Reads P f.type ea ka) (rb : ReadsF P fs eb kb) :
  ReadsF P (f :: fs) (fun x : α × β => ea x.1 ++ eb x.2) (fun w x => ka w x.1 /\ kb w x.2) := by
 intro H en w base spare held n cs xs hl h
 match cs, hl with
 | c :: cs, hl =>
  obtain ⟨x, hx⟩ := h 0 f c rfl rfl
  obtain ⟨a, ha, ka'⟩ := ra en w base spare held n _ _ hx
  obtain ⟨b, hb, kb'⟩ := rb en w base spare held n cs xs (by simpa using hl) (fun j g d hj hd => h (j + 1) g d (by simpa using hj) (by simpa using hd))
  exact ⟨(a, b), by show c :: cs = ea a ++ eb b; rw [<- ha, <- hb]; rfl, ka', kb'⟩
def oneF (P : Program) : Nat -> List Field -> Bool
 | _, [] => true
 | i, f :: r => Nat.beq f.offset i && Nat.beq (P.cellsOf f.type) 1 && oneF P (i + 1) r
theorem oneF_at {P : Program} : ∀ {fs : List Field} {i : Nat}, oneF P i fs = true -> ∀ (j : Nat) (f : Field), fs[j]? = some f -> f.offset = i + j /\ P.cellsOf f.type = 1
 | [], i, _, j, f, hj => by simp at hj
 | g :: r, i, h, j, f, hj => by
  simp only [oneF, Bool.and_eq_true] at h
  cases j with
  | zero => simp at hj; subst hj; exact ⟨Nat.eq_of_beq_eq_true h.1.1, Nat.eq_of_beq_eq_true h.1.2⟩
  | succ j =>
   have := oneF_at h.2 j f (by simpa using hj)
   exact ⟨by omega, this.2⟩
theorem reads_struct {P : Program} {e : TypeId} {fs : List Field} {α : Type} {enc : α -> List Value} {ok : World -> α -> Prop} (ht : P.underlying e = some (.struct fs.toArray)) (hone : oneF P 0 fs = true) (hC : P.cellsOf e = fs.length) (hF : ReadsF P fs enc ok) : Reads P e enc ok := by
 intro H en w base spare held fuel cs x h
 obtain ⟨xs, n, _, _, hl, hxl, hf⟩ := DataW.trod_struct ht h
 refine hF en w base spare held n cs xs (by omega) fun j f c hj hc => ?_
 have h1 := hf j f (by simpa using hj)
 obtain ⟨o, k⟩ := oneF_at hone j f hj
 rw [o, k, Nat.zero_add] at h1
 have hlt : j < cs.length := (List.getElem?_eq_some_iff.1 hc).1
 have e1 : (cs.drop j).take 1 = [c] := by
  rw [List.drop_eq_getElem_cons hlt, (List.getElem?_eq_some_iff.1 hc).2]; rfl
 rw [e1] at h1
 have hxj : j < xs.length := by
  have := (List.getElem?_eq_some_iff.1 hj).1
  simp only [List.size_toArray] at hxl
  omega
 exact ⟨xs[j], by rw [h1, List.getElem?_eq_getElem hxj]⟩
theorem struct_of {P : Program} {t : TypeId} {fs : List Field} {α : Type} {enc : α -> List Value} {ok : World -> α -> Prop} (hR : Reads P t enc ok) (ht : P.underlying t = some (.struct fs.toArray))
  {H : Type} {en : TypeId × Value -> H} {w : World} {base : Nat} {spare : Nat -> Bool} {held : Bool} {r : Reach} {b0 : Nat} {v : Value} {d : DataW H} {ps : List MemPlace} (hval : Value.okWide P w r b0 t v) (hd : DataW.Trod en P w base spare held t v d ps) :
  ∃ a : α, v = .agg (enc a).toArray /\ ok w a := by
 obtain ⟨cs, rfl, hsz⟩ := okWide_struct ht hval
 obtain ⟨fuel, hf⟩ := hd
 obtain ⟨a, ha, hk⟩ := hR en w base spare held fuel _ _ hf
 refine ⟨a, ?_, hk⟩
 have : (Value.agg cs).cells.toList = cs.toList := rfl
 rw [this] at ha
 rw [<- ha]
end Go.Lt
namespace Go.Proofs.YteidpnpbfagaeaaGreat
open Go Go.Lt Go.RowKit

abbrev Sy := Int × Int × ByteArray
abbrev encY : Sy -> List Value := fun x => [.int .u8 x.1, .int .i64 x.2.1, .string x.2.2]
theorem encY_ok : Enc 3 encY := ⟨fun _ => rfl, by intro x u hu; simp only [encY, List.mem_cons, List.not_mem_nil, or_false] at hu; rcases hu with rfl | rfl | rfl <;> rfl, by decide⟩
structure Circ where
 max : Int
 ins : RowV Int
 lat : RowV T3
 outs : RowV Int
 bads : RowV Int
 cons : RowV Int
 gates : RowV T3
 syms : RowV Sy
 com : ByteArray
abbrev rowVal {α : Type} (r : RowV α) : Value := .slice r.1 r.2.2.length r.2.1
abbrev Circ.vals (c : Circ) : List Value := [.int .i64 c.max, rowVal c.ins, rowVal c.lat, rowVal c.outs, rowVal c.bads, rowVal c.cons, rowVal c.gates, rowVal c.syms, .string c.com]
abbrev Circ.val (c : Circ) : Value := .agg c.vals.toArray
structure RowK {α : Type} (s : Nat) (enc : α -> List Value) (w : World) (r : RowV α) : Prop where
 row : Row s enc w r.1 r.2.2
 cap : r.2.2.length <= r.2.1
 none : r.1 = none -> r.2.1 = 0
theorem RowK.ext {α : Type} {s : Nat} {enc : α -> List Value} {w w1 : World} {r : RowV α} (h : RowK s enc w r) (hx : Ext w w1) : RowK s enc w1 r := ⟨h.row.ext hx, h.cap, h.none⟩
structure CAt (w : World) (c : Circ) : Prop where
 ins : RowK 1 encI w c.ins
 lat : RowK 3 enc3 w c.lat
 outs : RowK 1 encI w c.outs
 bads : RowK 1 encI w c.bads
 cons : RowK 1 encI w c.cons
 gates : RowK 3 enc3 w c.gates
 syms : RowK 3 encY w c.syms
theorem CAt.ext {w w1 : World} {c : Circ} (h : CAt w c) (hx : Ext w w1) : CAt w1 c := ⟨h.1.ext hx, h.2.ext hx, h.3.ext hx, h.4.ext hx, h.5.ext hx, h.6.ext hx, h.7.ext hx⟩
structure CirT where
 max : Int
 ins : List Int
 lat : List T3
 outs : List Int
 bads : List Int
 cons : List Int
 gates : List T3
 syms : List Sy
 com : ByteArray
abbrev Circ.t (c : Circ) : CirT := ⟨c.max, c.ins.2.2, c.lat.2.2, c.outs.2.2, c.bads.2.2, c.cons.2.2, c.gates.2.2, c.syms.2.2, c.com⟩
abbrev CirT.own (c : CirT) : List Int := c.ins ++ c.lat.map (·.1) ++ c.gates.map (·.1)
abbrev CirT.used (c : CirT) : List Int := c.outs ++ c.bads ++ c.cons ++ c.lat.map (·.2.1) ++ c.gates.flatMap (fun g => [g.2.1, g.2.2])
def FewC (c : CirT) (m : Int) : Prop := (c.ins.length : Int) <= m /\ (c.lat.length : Int) <= m /\ (c.gates.length : Int) <= m /\ (c.outs.length : Int) <= m /\ (c.bads.length : Int) <= m /\ (c.cons.length : Int) <= m /\ (c.syms.length : Int) <= m /\ (c.com.size : Int) <= 300
def BadMax (c : CirT) : Prop := c.max < 0 ∨ 16777216 < c.max
def BadOwn (c : CirT) : Prop := ∃ x ∈ c.own, x < 2 ∨ x % 2 = 1 ∨ 2 * c.max < x
def BadUse (c : CirT) : Prop := ∃ x ∈ c.used, x < 0 ∨ 2 * c.max + 1 < x
def BadRes (c : CirT) : Prop := ∃ x ∈ c.lat, x.2.2 ≠ 0 /\ x.2.2 ≠ 1 /\ x.2.2 ≠ x.1
def Twice (c : CirT) : Prop := ∃ i x, c.own[i]? = some x /\ x ∈ c.own.take i
def NoneC (c : CirT) : Prop := ∃ x ∈ c.used, 1 < x /\ x - x % 2 ∉ c.own
open Classical in
noncomputable def chkC (c : CirT) : Int :=
 if BadMax c ∨ BadOwn c ∨ BadUse c ∨ BadRes c then 5 else if Twice c then 7 else if NoneC c then 9 else if (ordL c.gates).length < c.gates.length then 8 else 0
structure GoodC' (c : CirT) : Prop where
 max : 0 <= c.max /\ c.max <= 16777216
 own : ∀ x ∈ c.own, 2 <= x /\ x % 2 = 0 /\ x <= 2 * c.max
 used : ∀ x ∈ c.used, 0 <= x /\ x <= 2 * c.max + 1
 res : ∀ x ∈ c.lat, x.2.2 = 0 ∨ x.2.2 = 1 ∨ x.2.2 = x.1
 once : c.own.Nodup
 has : ∀ x ∈ c.used, 1 < x -> x - x % 2 ∈ c.own
 ord : (ordL c.gates).length = c.gates.length
theorem nodup_take {α : Type} {l : List α} (h : ∀ i x, l[i]? = some x -> x ∉ l.take i) : l.Nodup := by
 rw [List.nodup_iff_pairwise_ne, List.pairwise_iff_getElem]
 intro i j hi hj hij he
 refine h j l[j] (List.getElem?_eq_getElem hj) ?_
 rw [<- he]
 exact List.mem_take_iff_getElem.2 ⟨i, by omega, rfl⟩
theorem chkC_good {c : CirT} : chkC c = 0 ↔ GoodC' c := by
 unfold chkC
 constructor
 ·intro h
  split at h
  ·cases h
  ·rename_i h1
   split at h
   ·cases h
   ·rename_i h2
    split at h
    ·cases h
    ·rename_i h3
     split at h
     ·cases h
     ·rename_i h4
      have hm : ¬ BadMax c := fun hh => h1 (.inl hh)
      have ho : ¬ BadOwn c := fun hh => h1 (.inr (.inl hh))
      have hu : ¬ BadUse c := fun hh => h1 (.inr (.inr (.inl hh)))
      have hr : ¬ BadRes c := fun hh => h1 (.inr (.inr (.inr hh)))
      unfold BadMax at hm
      refine ⟨by omega, fun x hx => ?_, fun x hx => ?_, fun x hx => ?_, ?_, fun x hx h5 => ?_, ?_⟩
      ·have : ¬ (x < 2 ∨ x % 2 = 1 ∨ 2 * c.max < x) := fun hh => ho ⟨x, hx, hh⟩
       omega
      ·have : ¬ (x < 0 ∨ 2 * c.max + 1 < x) := fun hh => hu ⟨x, hx, hh⟩
       omega
      ·have : ¬ (x.2.2 ≠ 0 /\ x.2.2 ≠ 1 /\ x.2.2 ≠ x.1) := fun hh => hr ⟨x, hx, hh⟩
       omega
      ·exact nodup_take fun i x hx hm => h2 ⟨i, x, hx, hm⟩
      ·exact Classical.byContradiction fun hh => h3 ⟨x, hx, h5, hh⟩
      ·have := (ordL_is c.gates).1.le; omega
 ·intro h
  have hm := h.max
  rw [if_neg (fun hh => ?_), if_neg (fun hh => ?_), if_neg (fun hh => ?_), if_neg (fun hh => ?_)]
  ·have := h.ord; omega
  ·obtain ⟨x, h1, h2, h3⟩ := hh; exact h3 (h.has x h1 h2)
  ·obtain ⟨i, x, h1, h2⟩ := hh
   have h3 := List.pairwise_iff_getElem.1 (List.nodup_iff_pairwise_ne.1 h.once)
   obtain ⟨j, hj, he⟩ := List.mem_take_iff_getElem.1 h2
   obtain ⟨hi, he2⟩ := List.getElem?_eq_some_iff.1 h1
   exact h3 j i (by omega) hi (by omega) (by rw [he, he2])
  ·rcases hh with hh | ⟨x, h1, h2⟩ | ⟨x, h1, h2⟩ | ⟨x, h1, h2⟩
   ·unfold BadMax at hh; omega
   ·have := h.own x h1; omega
   ·have := h.used x h1; omega
   ·have := h.res x h1; omega
end Go.Proofs.YteidpnpbfagaeaaGreat
namespace Go.Lt
open Go.RowKit
section
variable {P : Program} {T : Tab} {e : Env} {dd : Option Tmp} {tt ty t el : TypeId} {x y : Operand} {ps : String} {af : Array Edge} {g : Option (Nat × Bool)} {i : TI} {a : Option Addr} {n c : Nat}
theorem run_eqSliceNil (hT : OkTab P T) (ht : tget T t = some i) (hd : i.desc = .slice el) (w : World) : (Op.equal t (.slice a n c) (.slice none 0 0)).run P w = .ok (dec (a = none)) w := by
 have hu := rUn (hT.at ht) w; rw [hd] at hu
 unfold Op.equal
 rw [show Op.maxDepth = 9999 + 1 from rfl, Op.equalIn]
 simp only [Sem.run_bind, hu, Result.andThen_ok]
 cases a with
 | none => simp [dTt]
 | some q => simp [dFf]
theorem yeqSl (hT : OkTab P T) (hx : ev e x = some (.slice a n c)) (hy : ev e y = some (.slice none 0 0)) (ht : tget T t = some i) (hd : i.desc = .slice el) : Yields P e ⟨dd, .binOp .eql t x y ty, tt, ps, af, g⟩ (.bool (dec (a = none))) := by
 intro ρ hρ w
 have h1 : (eqGuard .eql t x y (.slice a n c) (.slice none 0 0)).run P w = .ok () w := by simp [eqGuard]
 have h2 : (binOp .eql t (.slice a n c) (.slice none 0 0)).run P w = .ok (.bool (dec (a = none))) w := by simp [binOp, run_eqSliceNil hT ht hd]
 simp [execOp, hρ _ _ hx, hρ _ _ hy, h1, h2]
variable {N d : Nat} {w : World} {Q : Exit -> Act -> World -> Prop} {C : World -> Prop} {ops l : List Oper} {Kf : Act -> Prop}
theorem WL.eqSl (hT : OkTab P T) (hg : gate ops e g = some true) (hd : Nat.blt d N = true) (hx : ev e x = some (.slice a n c)) (hy : ev e y = some (.slice none 0 0)) (ht : tget T t = some i) (htd : i.desc = .slice el) (k : WL P N ops.toArray l ((d, .bool (dec (a = none))) :: e) w Q) : WL P N ops.toArray (⟨some d, .binOp .eql t x y ty, tt, ps, af, g⟩ :: l) e w Q := WL.step hg hd (yeqSl hT hx hy ht htd).in k
theorem FL.sliceH0 {ti ei : TI} {ao : Option Addr} {nn cap : Nat} {kk : IntKind} {h : Int} (hT : OkTab P T) (hg : gate ops e g = some true) (hd : Nat.blt d N = true)
  (hx : ev e x = some (.slice ao nn cap)) (hy : ev e y = some (.int kk h)) (ht : tget T t = some ti) (htd : ti.desc = .slice el) (he : tget T el = some ei) (h0 : 0 <= h /\ h <= cap)
  (k : FL P N ops.toArray C l ((d, .slice ao h.toNat cap) :: e) w Kf) : FL P N ops.toArray C (⟨some d, .slice t x none (some y) none, tt, ps, af, g⟩ :: l) e w Kf := by
 refine FL.step hg hd ?_ k
 intro ρ hρ w' _
 have := run_sliceH (P := P) hT (n := nn) (ao := ao) (k := kk) ht htd he h0 w'
 simp [execOp, hρ _ _ hx, hρ _ _ hy, this]
theorem FL.sliceL0 {ti ei : TI} {ao : Option Addr} {nn cap s : Nat} {kk : IntKind} {h : Int} (hT : OkTab P T) (hg : gate ops e g = some true) (hd : Nat.blt d N = true)
  (hx : ev e x = some (.slice ao nn cap)) (hy : ev e y = some (.int kk h)) (ht : tget T t = some ti) (htd : ti.desc = .slice el) (he : tget T el = some ei) (hs : ei.size = s) (h0 : 0 <= h /\ h <= nn)
  (k : FL P N ops.toArray C l ((d, .slice (subA ao cap h.toNat s) (nn - h.toNat) (cap - h.toNat)) :: e) w Kf) : FL P N ops.toArray C (⟨some d, .slice t x (some y) none none, tt, ps, af, g⟩ :: l) e w Kf := by
 refine FL.step hg hd ?_ k
 subst hs
 intro ρ hρ w' _
 have := run_sliceL (P := P) hT (n := nn) (cap := cap) (ao := ao) (k := kk) ht htd he h0 w'
 simp [execOp, hρ _ _ hx, hρ _ _ hy, this, subA]
end
section ext
variable {P : Program} {T : Tab} {N d : Nat} {e : Env} {w w0 : World} {C : World -> Prop} {ops l : List Oper} {Kf : Act -> Prop} {tt t ty : TypeId} {ps : String} {af : Array Edge} {g : Option (Nat × Bool)} {x y : Operand}
theorem FL.loadE {p : Addr} {v : Value} {i : TI} (hT : OkTab P T) (hg : gate ops e g = some true) (hd : Nat.blt d N = true) (hx : ev e x = some (.pointer (some p))) (ht : tget T t = some i) (ha : isAggD i.desc = false) (hv : w0.cell? p = some v)
  (k : FL P N ops.toArray (Ext w0) l ((d, v) :: e) w Kf) : FL P N ops.toArray (Ext w0) (⟨some d, .load t x, tt, ps, af, g⟩ :: l) e w Kf := by
 refine FL.step hg hd ?_ k
 intro ρ hρ w' hw'
 have h1 := run_isAgg' (hT.at ht); rw [ha] at h1
 have h2 := Ext.cell hw' hv
 simp [execOp, hρ _ _ hx, Instr.loadAt, Instr.sureAddr, loadVar, h1, h2]
theorem FL.loadAE {b off : Nat} {vs : List Value} {i : TI} (hT : OkTab P T) (hg : gate ops e g = some true) (hd : Nat.blt d N = true) (hx : ev e x = some (.pointer (some ⟨b, off, none⟩))) (ht : tget T t = some i) (ha : isAggD i.desc = true) (hv : Cells w0 b off vs) (hs : i.size = vs.length)
  (k : FL P N ops.toArray (Ext w0) l ((d, .agg vs.toArray) :: e) w Kf) : FL P N ops.toArray (Ext w0) (⟨some d, .load t x, tt, ps, af, g⟩ :: l) e w Kf := by
 refine FL.step hg hd ?_ k
 intro ρ hρ w' hw'
 have h1 := run_isAgg' (hT.at ht); rw [ha] at h1
 have h3 := run_sizeOf' (hT.at ht); rw [hs] at h3
 have h2 := run_loadCellsFrom (P := P) (acc := #[]) (off := off) (i := 0) (Cells.ext hw' hv)
 simp [execOp, hρ _ _ hx, Instr.loadAt, Instr.sureAddr, loadVar, h1, h3, loadCells, h2]
theorem FL.indexE {α : Type} {s : Nat} {enc : α -> List Value} {a : Option Addr} {xs : List α} {n cap : Nat} {kk : IntKind} {i : Int} {ti ei : TI} {el : TypeId} {z : α}
  (hT : OkTab P T) (hg : gate ops e g = some true) (hd : Nat.blt d N = true) (hx : ev e x = some (.slice a n cap)) (hy : ev e y = some (.int kk i)) (ht : tget T t = some ti) (htd : ti.desc = .slice el) (he : tget T el = some ei) (hs : ei.size = s)
  (R : Row s enc w0 a xs) (hn : xs.length = n) (h0 : 0 <= i) (hz : xs[i.toNat]? = some z)
  (k : ∀ b off, Cells w0 b off (enc z) -> FL P N ops.toArray C l ((d, .pointer (some ⟨b, off, none⟩)) :: e) w Kf) : FL P N ops.toArray C (⟨some d, .indexAddr t x y, tt, ps, af, g⟩ :: l) e w Kf := by
 obtain ⟨b, off, hc, hy'⟩ := yindex (P := P) (dd := some d) (t := t) (tt := tt) (x := x) (y := y) (ps := ps) (af := af) (g := g) hT hx hy ht htd he hs R (Ext.refl _) hn h0 hz
 exact FL.step hg hd hy'.in (k b off hc)
end ext
section remk
variable {P : Program} {N d : Nat} {e : Env} {w : World} {Q : Exit -> Act -> World -> Prop} {ops l : List Oper} {tt t ty : TypeId} {ps : String} {af : Array Edge} {g : Option (Nat × Bool)} {x y : Operand} {a b : Int} {kk : IntKind}
end remk
section cut
variable {P : Program} {N : Nat} {e : Env} {w : World} {Q : Exit -> Act -> World -> Prop}
theorem W.cutT {σ : Type} {x y : Code} (I : σ -> Prop) (E : σ -> Env) (U : σ -> World)
  (h : W P N x e w (Exit.then (fun a w' => ∃ s, I s /\ Fit N (E s) a /\ ∃ m, w' = at' (U s) m) Q))
  (k : ∀ s, I s -> W P N y (E s) (U s) Q) : W P N x e w (Exit.then (y.wp P Q) Q) := ⟨fun a m hf => by
 refine wp_mono (h.go a m hf) fun ex a' w' hq => ?_
 cases ex with
 | normal => obtain ⟨s, h1, h2, n, h3⟩ := hq; subst h3; exact (k s h1).go a' n h2
 | _ => exact hq⟩
end cut
theorem Sep.pick {B : Nat} {w : World} {ps qs : List Piece} (f : Nat -> Nat) (hS : Sep B w ps) (hf : ∀ i p, qs[i]? = some p -> ps[f i]? = some p) (hi : ∀ i j, i < qs.length -> j < qs.length -> i ≠ j -> f i ≠ f j) : Sep B w qs := by
 refine ⟨fun i p h => hS.holds _ _ (hf i p h), fun i j p q h1 h2 hne => hS.apart _ _ _ _ (hf i p h1) (hf j q h2) (hi i j ?_ ?_ hne)⟩
 ·exact (List.getElem?_eq_some_iff.1 h1).1
 ·exact (List.getElem?_eq_some_iff.1 h2).1
theorem Sep.re {B : Nat} {w : World} {ps : List Piece} {i : Nat} {p p' : Piece} (hS : Sep B w ps) (hi : ps[i]? = some p) (hb : p'.b = p.b) (hp : p'.P w) : Sep B w (ps.set i p') := by
 have hil := (List.getElem?_eq_some_iff.1 hi).1
 have key : ∀ (j : Nat) (q : Piece), (ps.set i p')[j]? = some q -> ∃ q0, ps[j]? = some q0 /\ q.b = q0.b /\ (q.P w ∨ q = q0) := by
  intro j q hq
  by_cases hij : i = j
  ·subst hij
   rw [List.getElem?_set_self hil] at hq
   cases hq
   exact ⟨p, hi, hb, .inl hp⟩
  ·rw [List.getElem?_set_ne hij] at hq
   exact ⟨q, hq, rfl, .inr rfl⟩
 refine ⟨fun j q hq => ?_, fun j k q r hq hr hne => ?_⟩
 ·obtain ⟨q0, h1, h2, h3⟩ := key j q hq
  have h4 := hS.holds j q0 h1
  refine ⟨?_, fun k hk => h4.2 k (by rw [<- h2]; exact hk)⟩
  rcases h3 with h3 | rfl
  ·exact h3
  ·exact h4.1
 ·obtain ⟨q0, h1, h2, _⟩ := key j q hq
  obtain ⟨r0, h3, h4, _⟩ := key k r hr
  rw [h2, h4]
  exact hS.apart j k q0 r0 h1 h3 hne
theorem Sep.swap12 {B : Nat} {w : World} {p q r : Piece} {ps : List Piece} (hS : Sep B w (p :: q :: r :: ps)) : Sep B w (p :: r :: q :: ps) := by
 refine hS.pick (fun i => if i = 1 then 2 else if i = 2 then 1 else i) (fun i x h => ?_) (fun i j _ _ hne => ?_)
 ·match i, h with
  | 0, h => exact h
  | 1, h => exact h
  | 2, h => exact h
  | i + 3, h => simpa using h
 ·show (if i = 1 then 2 else if i = 2 then 1 else i) ≠ (if j = 1 then 2 else if j = 2 then 1 else j)
  split <;> split <;> (try split) <;> (try split) <;> omega
theorem Sep.comm {B : Nat} {w : World} {ps qs : List Piece} (hS : Sep B w (ps ++ qs)) : Sep B w (qs ++ ps) := by
 refine hS.pick (fun i => if i < qs.length then ps.length + i else i - qs.length) (fun i x h => ?_) (fun i j hi hj hne => ?_)
 ·by_cases h1 : i < qs.length
  ·simp only [if_pos h1]
   rw [List.getElem?_append_left h1] at h
   rw [List.getElem?_append_right (by omega), Nat.add_sub_cancel_left]; exact h
  ·simp only [if_neg h1]
   rw [List.getElem?_append_right (by omega)] at h
   rw [List.getElem?_append_left (List.getElem?_eq_some_iff.1 h).1]; exact h
 ·rw [List.length_append] at hi hj
  show (if i < qs.length then ps.length + i else i - qs.length) ≠ (if j < qs.length then ps.length + j else j - qs.length)
  split <;> split <;> omega
theorem Sep.swap01 {B : Nat} {w : World} {p q : Piece} {ps : List Piece} (hS : Sep B w (p :: q :: ps)) : Sep B w (q :: p :: ps) := by
 refine hS.pick (fun i => if i = 0 then 1 else if i = 1 then 0 else i) (fun i x h => ?_) (fun i j _ _ hne => ?_)
 ·match i, h with
  | 0, h => exact h
  | 1, h => exact h
  | i + 2, h => simpa using h
 ·show (if i = 0 then 1 else if i = 1 then 0 else i) ≠ (if j = 0 then 1 else if j = 1 then 0 else j)
  split <;> split <;> (try split) <;> (try split) <;> omega
end Go.Lt
namespace Go.Proofs.YteidpnpbfagaeaaGreat
open Go Go.Lt Go.RowKit

def WaitsP (gs : List G3) (told : List Bool) (l : Int) : Prop := ∃ (j : Nat) (x : G3), gs[j]? = some x /\ told[j]? = some false /\ x.1 / 2 = l / 2
abbrev gsOk (gs : List G3) : Prop := ∀ g ∈ gs, (0 <= g.1 /\ g.1 <= 33554433) /\ (0 <= g.2.1 /\ g.2.1 <= 33554433) /\ (0 <= g.2.2 /\ g.2.2 <= 33554433)
theorem ref11_waits (c : Circ) (rt : Option Addr) (ct : Nat) (told : List Bool) (l : Int) (w : World) (hG : Row 3 enc3 w c.gates.1 c.gates.2.2) (Rt : Row 1 encB w rt told) (hl : told.length = c.gates.2.2.length) (hok : gsOk c.gates.2.2) (hn : c.gates.2.2.length <= 1048576) (h0 : 0 <= l /\ l <= 33554433) :
  Pure Tryz.prog 118 [c.val, .slice rt told.length ct, .int .i64 l] w (.bool (dec (WaitsP c.gates.2.2 told l))) := by
 refine Spec.of _ Tryz.func118 rfl Tryz.ntmps118 (by kernel_rfl) rfl ?_
 repeat' (first | (apply WL.box; (iterate 3 exact rfl); intro gc wc hb hge hc hxc; have hcc := hc; obtain ⟨h1, h2, h3, _⟩ := hc; (obtain ⟨y0, y1, y2, y3, y4, y5, y6, _⟩ := hcc)) | (first | apply WL.nil | refine WL.au (k := ?_)) | apply Z.tn | (first | apply W.seq | apply W.region | apply W.block))
 refine W.loop1 c.gates.2.2.length (fun k => k <= c.gates.2.2.length /\ ∀ (j : Nat) (x : G3), j < k -> c.gates.2.2[j]? = some x -> told[j]? = some false -> x.1 / 2 ≠ l / 2) (fun k => [(3, .pointer (some ⟨gc, 0, none⟩)), (1, .slice rt told.length ct), (2, .int .i64 l), (7, .int .i64 k)]) ⟨Nat.zero_le _, fun j x h => absurd h (Nat.not_lt_zero _)⟩ (fun k h => h.1) ⟨rfl, rfl, rfl, rfl, trivial⟩ ?_
 rintro k ⟨hk, hno⟩
 have Rtc := Rt.ext hxc
 have hGc := hG.ext hxc
 by_cases hlt : k < c.gates.2.2.length
 ·obtain ⟨g, hg⟩ := getI c.gates.2.2 hlt
  obtain ⟨bt, hbt⟩ := getI told (show k < told.length by omega)
  have hgo := hok g (List.mem_of_getElem? hg)
  cases bt
  ·by_cases he : g.1 / 2 = l / 2
   ·repeat' (first | (apply W.cKT; exact rfl; (focus (exact dTt (by omega)))) | (first | apply WL.nil | refine WL.au (k := ?_) | (apply WL.index tOk; (iterate 8 exact rfl); assumption; exact extA; exact rfl; omega; assumption; intro b off h; have hcc := h; first | (obtain ⟨h1, h2, h3, h4, h5, h6, _⟩ := h) | (obtain ⟨h1, h2, h3, _⟩ := h) | (obtain ⟨h1, h2, _⟩ := h) | (obtain ⟨h1, _⟩ := h))) | (first | apply Z.tn | apply Z.tnr | apply Z.bkr) | (first | apply W.seq | apply W.region | apply W.block | apply W.skip | apply W.ret))
    exact Z.bd1 Tryz.results118 rfl fun m => ⟨congrArg Value.bool (dTt ⟨k, g, hg, hbt, he⟩).symm, Ext.at extA m⟩
   ·repeat' (first | (apply W.cKT; exact rfl; (focus (exact dTt (by omega)))) | (apply W.cKF; exact rfl; exact dFf he) | (first | apply WL.nil | refine WL.au (k := ?_) | (apply WL.index tOk; (iterate 8 exact rfl); assumption; exact extA; exact rfl; omega; assumption; intro b off h; have hcc := h; first | (obtain ⟨h1, h2, h3, h4, h5, h6, _⟩ := h) | (obtain ⟨h1, h2, h3, _⟩ := h) | (obtain ⟨h1, h2, _⟩ := h) | (obtain ⟨h1, _⟩ := h))) | (first | apply Z.tn | apply Z.bkn) | (first | apply W.seq | apply W.region | apply W.block | apply W.skip))
    refine Z.again1 ⟨by omega, fun j x hj hx ht => ?_⟩ ⟨rfl, rfl, rfl, rfl, trivial⟩
    by_cases hjk : j = k
    ·subst hjk; rw [hg] at hx; cases hx; exact he
    ·exact hno j x (by omega) hx ht
  ·repeat' (first | (apply W.cKT; exact rfl; exact dTt (by omega)) | (first | apply WL.nil | refine WL.au (k := ?_) | (apply WL.index tOk; (iterate 8 exact rfl); assumption; exact extA; exact rfl; omega; assumption; intro b off h; have hcc := h; first | (obtain ⟨h1, h2, h3, h4, h5, h6, _⟩ := h) | (obtain ⟨h1, h2, h3, _⟩ := h) | (obtain ⟨h1, h2, _⟩ := h) | (obtain ⟨h1, _⟩ := h)) | (apply WL.gdF; exact rfl; exact rfl)) | (first | apply Z.tn | apply Z.bkn) | (first | apply W.seq | apply W.region | apply W.block | apply W.skip | (apply W.condF; exact rfl)))
   refine Z.again1 ⟨by omega, fun j x hj hx ht => ?_⟩ ⟨rfl, rfl, rfl, rfl, trivial⟩
   by_cases hjk : j = k
   ·subst hjk; rw [hbt] at ht; cases ht
   ·exact hno j x (by omega) hx ht
 ·obtain rfl : k = c.gates.2.2.length := by omega
  repeat' (first | (apply W.cKF; exact rfl; exact dFf (by omega)) | (first | apply WL.nil | refine WL.au (k := ?_)) | (first | apply Z.tn | apply Z.tnx | apply Z.bkx) | (first | apply W.seq | apply W.region | apply W.ret | apply W.exit))
  exact Z.bd1 Tryz.results118 rfl fun m => ⟨congrArg Value.bool (dFf fun ⟨j, x, h1, h2, h3⟩ => hno j x (lGt h1) h1 h2 h3).symm, Ext.at extA m⟩
structure TolD (gs : List G3) (L : List Nat) (told : List Bool) : Prop where
 len : told.length = gs.length
 yes : ∀ j : Nat, j ∈ L -> j < gs.length -> told[j]? = some true
 no : ∀ j : Nat, j ∉ L -> j < gs.length -> told[j]? = some false
theorem TolD.waits {gs : List G3} {L : List Nat} {told : List Bool} (h : TolD gs L told) (l : Int) : WaitsP gs told l ↔ ∃ (j : Nat) (x : G3), gs[j]? = some x /\ j ∉ L /\ x.1 / 2 = l / 2 := by
 constructor
 ·rintro ⟨j, x, h1, h2, h3⟩
  refine ⟨j, x, h1, fun hm => ?_, h3⟩
  rw [h.yes j hm (lGt h1)] at h2; cases h2
 ·rintro ⟨j, x, h1, h2, h3⟩
  exact ⟨j, x, h1, h.no j h2 (lGt h1), h3⟩
theorem TolD.rdy {gs : List G3} {L : List Nat} {told : List Bool} (h : TolD gs L told) {i : Nat} {g : G3} (hg : gs[i]? = some g) : Rdy gs L i ↔ (told[i]? = some false /\ ¬ WaitsP gs told g.2.1 /\ ¬ WaitsP gs told g.2.2) := by
 rw [h.waits, h.waits]
 constructor
 ·rintro ⟨g', hg', h1, h2⟩
  rw [hg] at hg'; cases hg'
  exact ⟨h.no i h1 (lGt hg), fun ⟨j, x, h3, h4, h5⟩ => (h2 j x h3 h4).1 h5, fun ⟨j, x, h3, h4, h5⟩ => (h2 j x h3 h4).2 h5⟩
 ·rintro ⟨h1, h2, h3⟩
  refine ⟨g, hg, fun hm => ?_, fun j x hx hj => ⟨fun he => h2 ⟨j, x, hx, hj, he⟩, fun he => h3 ⟨j, x, hx, hj, he⟩⟩⟩
  rw [h.yes i hm (lGt hg)] at h1; cases h1
theorem TolD.push {gs : List G3} {L : List Nat} {told : List Bool} (h : TolD gs L told) {i : Nat} (hi : i < gs.length) : TolD gs (L ++ [i]) (told.set i true) := by
 refine ⟨by rw [List.length_set]; exact h.len, fun j hj hl => ?_, fun j hj hl => ?_⟩
 ·rw [List.getElem?_set]
  split
  ·rename_i e; subst e; rw [if_pos (by rw [h.len]; exact hi)]
  ·rename_i e
   rcases List.mem_append.1 hj with hj | hj
   ·exact h.yes j hj hl
   ·exact absurd (List.mem_singleton.1 hj).symm e
 ·rw [List.getElem?_set_ne (fun e => hj (by subst e; simp))]
  exact h.no j (fun hm => hj (List.mem_append_left _ hm)) hl
theorem TolD.start (gs : List G3) : TolD gs [] (List.replicate gs.length false) := by
 refine ⟨by simp, (fun j h => by cases h), fun j _ hl => ?_⟩
 rw [List.getElem?_replicate, if_pos hl]
abbrev natI (L : List Nat) : List Int := L.map (fun n : Nat => (n : Int))
theorem ref11_Order (c : Circ) (w : World) (hG : Row 3 enc3 w c.gates.1 c.gates.2.2) (hok : gsOk c.gates.2.2) (hn : c.gates.2.2.length <= 1048576) :
  Lt.Spec Tryz.prog 54 [c.val] w (IsFresh 1 encI 3 w (natI (ordL c.gates.2.2))) := by
 refine Spec.of _ Tryz.func54 rfl Tryz.ntmps54 (by kernel_rfl) rfl ?_
 repeat' (first | (apply WL.box; (iterate 3 exact rfl); intro gc wc hb hge hc hxc; have hcc := hc; obtain ⟨h1, h2, h3, _⟩ := hc) | (first | apply WL.nil | refine WL.au (k := ?_)) | apply Z.tn | (first | apply W.seq | apply W.region))
 have hS0 : Lt.Sep w.heap.size wc [pcell gc c.vals.toArray 27] := Sep.newCell Sep.none' hxc hb hge (Nat.le_refl _)
 obtain ⟨y0, y1, y2, y3, y4, y5, y6, _⟩ := hcc
 refine W.cutT (σ := Nat × Nat × World) (fun s => Ext w s.2.2 /\ Lt.Sep w.heap.size s.2.2 [prow 1 encI 3 w.heap.size (some ⟨s.1, 0, none⟩) 0 [], prow 1 encB 4 w.heap.size (some ⟨s.2.1, 0, none⟩) c.gates.2.2.length (List.replicate c.gates.2.2.length false), pcell gc c.vals.toArray 27]) (fun s => [(1, .pointer (some ⟨gc, 0, none⟩)), (3, .slice (some ⟨s.1, 0, none⟩) 0 0), (4, .slice (some ⟨s.2.1, 0, none⟩) c.gates.2.2.length c.gates.2.2.length)]) (fun s => s.2.2) ?_ ?_
 ·have hS := hS0
  have ei : ((c.gates.2.2.length : Nat) : Int).toNat = c.gates.2.2.length := by omega
  repeat' (first | (show W _ _ (.region 1 _ _) _ _ _; apply W.regionGB (.fl true 1 (.fl false 2 (.fl true 3 (.br 0 (.fl true 5 (.br 4 (.fl true 6 .done) .stop)) (.br 4 (.br 0 (.fl true 5 (.fl true 6 .done)) .stop) .stop))))) [0, 4, 5] (none) tMix; kernel_rfl) | (apply WL.lit (len := 0) tOk; (iterate 6 exact rfl); kernel_rfl; exact rfl; intro gb w' hb hge hc hx; replace hS := Sep.newRow (Sep.ext hS extA) hx (Own.base (Own.ofB0 (enc := encI) (s := 1) hb hge) (Below.size (extA : Ext w _))) (fun k hk => by cases hk; exact hge) (Below.size (extA : Ext w _)); (try simp only [List.set_cons_zero, List.set_cons_succ] at hS); (try have hR0 := hS.row (i := 0) rfl); (try have hR1 := hS.row (i := 1) rfl); (try have hC1 := hS.cell (i := 1) rfl); (try have hD1 := (cHp hC1).1); (try have hE1 := (cHp hC1).2.1); (try have hF1 := (cHp hC1).2.2.1); (try have hG1 := (cHp hC1).2.2.2.1); (try have hC2 := hS.cell (i := 2) rfl); (try have hD2 := (cHp hC2).1); (try have hE2 := (cHp hC2).2.1); (try have hF2 := (cHp hC2).2.2.1); (try have hG2 := (cHp hC2).2.2.2.1)) | (apply WL.make (w0 := w) (z := false) tOk; (iterate 9 exact rfl); exact eBk; exact rfl; exact rfl; exact extA; omega; intro gb w' hO hge hx; replace hS := Sep.newRow (Sep.ext hS extA) hx hO (fun k hk => by cases hk; exact hge) (by (exact Below.size extA)); (try simp only [List.set_cons_zero, List.set_cons_succ] at hS); (try have hR0 := hS.row (i := 0) rfl); (try have hR1 := hS.row (i := 1) rfl); (try have hC1 := hS.cell (i := 1) rfl); (try have hD1 := (cHp hC1).1); (try have hE1 := (cHp hC1).2.1); (try have hF1 := (cHp hC1).2.2.1); (try have hG1 := (cHp hC1).2.2.2.1); (try have hC2 := hS.cell (i := 2) rfl); (try have hD2 := (cHp hC2).1); (try have hE2 := (cHp hC2).2.1); (try have hF2 := (cHp hC2).2.2.1); (try have hG2 := (cHp hC2).2.2.2.1)) | apply WL.nil | (first | apply SG.done | (apply SG.fl0; exact rfl) | (apply SG.fl1; exact rfl; (focus ((intro m; first | assumption | (apply Ext.at; exact extA) | apply But.of_at; first | exact But.upd (by assumption) | exact But.ext extA | (refine But.trans ?_ (But.upd (by assumption)); exact But.ext extA) | exact But.at _ _ _); done))) | (apply SG.br1; exact rfl) | (apply SG.br; exact rfl)) | (first | apply FL.nilS | refine FL.au (k := ?_) | (apply FL.loadG tOk; (iterate 5 exact rfl); assumption; ((focus (intro h; cases h; done))))) | (apply Z.sgE; (focus ((intro m; first | assumption | (apply Ext.at; exact extA) | apply But.of_at; first | exact But.upd (by assumption) | exact But.ext extA | (refine But.trans ?_ (But.upd (by assumption)); exact But.ext extA) | exact But.at _ _ _); done))))
  all_goals (rw [ei] at hS; rw [ei]; rw [List.length_replicate])
  ·exact Z.cut (_, _, _) ⟨extA, Sep.swap01 hS⟩ ⟨rfl, rfl, rfl, trivial⟩ rfl
  ·exact Z.cut (_, _, _) ⟨extA, hS⟩ ⟨rfl, rfl, rfl, trivial⟩ rfl
 rintro ⟨go, gt, w1⟩ ⟨hX1, hS1⟩
 dsimp only at hX1 hS1
 repeat' (first | apply W.block | fail)
 refine W.loop (fun s : List Nat × List Bool × Option Addr × Nat × Option Addr × Nat × World => PreOrd c.gates.2.2 s.1 /\ TolD c.gates.2.2 s.1 s.2.1 /\ Ext w s.2.2.2.2.2.2 /\ Lt.Sep w.heap.size s.2.2.2.2.2.2 [prow 1 encI 3 w.heap.size s.2.2.1 s.2.2.2.1 (natI s.1), prow 1 encB 4 w.heap.size s.2.2.2.2.1 s.2.2.2.2.2.1 s.2.1, pcell gc c.vals.toArray 27]) (fun s => [(1, .pointer (some ⟨gc, 0, none⟩)), (3, .slice s.2.2.1 (natI s.1).length s.2.2.2.1), (4, .slice s.2.2.2.2.1 s.2.1.length s.2.2.2.2.2.1)]) (fun s => s.2.2.2.2.2.2) (fun s => c.gates.2.2.length - s.1.length) ([], List.replicate c.gates.2.2.length false, some ⟨go, 0, none⟩, 0, some ⟨gt, 0, none⟩, c.gates.2.2.length, w1) ⟨PreOrd.nil _, TolD.start _, hX1, hS1⟩ ⟨rfl, rfl, (by show some (Value.slice _ c.gates.2.2.length _) = some (Value.slice _ (List.replicate c.gates.2.2.length false).length _); rw [List.length_replicate]), trivial⟩ rfl ?_
 rintro ⟨L, told, ao, co, rt, ct, w2⟩ ⟨hP, hT, hX2, hS⟩
 dsimp only at hP hT hX2 hS
 have hLle := hP.le
 have htl := hT.len
 have Rt := Own.row eBk (hS.row (i := 1) rfl)
 have hcells := cHp (hS.cell (i := 2) rfl)
 repeat' (first | (first | apply WL.nil | refine WL.au (k := ?_)) | apply Z.tn | (first | apply W.seq | apply W.region | apply W.block))
 refine W.loop (fun s : Nat × Option Nat × World => s.1 <= c.gates.2.2.length /\ Ext w2 s.2.2 /\ (s.2.1 = none -> ∀ j, j < s.1 -> ¬ Rdy c.gates.2.2 L j) /\ (∀ j, s.2.1 = some j -> Least c.gates.2.2 L j)) (fun s => [(1, .pointer (some ⟨gc, 0, none⟩)), (3, .slice ao (natI L).length co), (4, .slice rt told.length ct), (5, .int .i64 (match s.2.1 with | none => -1 | some j => (j : Int))), (6, .int .i64 s.1)]) (fun s => s.2.2) (fun s => c.gates.2.2.length - s.1) (0, none, w2) ⟨Nat.zero_le _, Ext.refl _, fun _ j h => absurd h (Nat.not_lt_zero _), (fun j h => by cases h)⟩ ⟨rfl, rfl, rfl, rfl, rfl, trivial⟩ rfl ?_
 rintro ⟨i, nx, w3⟩ ⟨hi, hX3, hn1, hn2⟩
 dsimp only at hi hX3 hn1 hn2
 have hcl3 := hcells.ext hX3
 have y6 : w3.cell? ⟨gc, 0 + 1 + 1 + 1 + 1 + 1 + 1, none⟩ = some (rowVal c.gates) := hcl3.2.2.2.2.2.2.1
 have hS3 := hS.ext hX3
 have hG3 := hG.ext (hX2.trans hX3)
 have Rt3 := Rt.ext hX3
 cases nx
 ·by_cases hlt : i < c.gates.2.2.length
  ·obtain ⟨g, hg⟩ := getI c.gates.2.2 hlt
   have hgo := hok g (List.mem_of_getElem? hg)
   have hrd := hT.rdy hg
   have hw1 := fun (w9 : World) (h9 : Ext w3 w9) => ref11_waits c rt ct told g.2.1 w9 (hG3.ext h9) (Rt3.ext h9) htl hok hn hgo.2.1
   have hw2 := fun (w9 : World) (h9 : Ext w3 w9) => ref11_waits c rt ct told g.2.2 w9 (hG3.ext h9) (Rt3.ext h9) htl hok hn hgo.2.2
   obtain ⟨bt, hbt⟩ := getI told (show i < told.length by omega)
   cases bt
   ·by_cases q1 : WaitsP c.gates.2.2 told g.2.1
    ·repeat' (first | (apply WL.gT; exact rfl; exact rfl; (focus (exact dTt (show ((i : Nat) : Int) < (c.gates.2.2.length : Int) by omega)))) | (apply QL.gF; exact rfl; exact rfl; (focus ((rw [dTt q1]; rfl); done))) | (apply W.cKT; exact rfl; (focus (exact dTt (show (-1 : Int) < 0 by decide)))) | (apply QL.callP; (iterate 4 exact rfl); exact hw1) | (first | apply WL.nil | refine WL.au (k := ?_)) | (first | (apply QL.nilX; intro w' hx) | refine QL.au (k := ?_) | (apply QL.index tOk; (iterate 8 exact rfl); assumption; exact extA; exact rfl; omega; assumption; intro b off h; have hcc := h; first | (obtain ⟨h1, h2, h3, h4, h5, h6, _⟩ := h) | (obtain ⟨h1, h2, h3, _⟩ := h) | (obtain ⟨h1, h2, _⟩ := h) | (obtain ⟨h1, _⟩ := h)) | (apply QL.gdF; exact rfl; exact rfl)) | (first | apply Z.tn | apply Z.bkn) | (first | apply W.seq | apply W.region | apply W.block | apply W.skip | (apply W.condF; exact rfl) | (apply W.regionX tMix; kernel_rfl)))
     refine Z.again (i + 1, none, w') ⟨by show i + 1 <= _; omega, hX3.trans hx, fun _ j hj hr => ?_, (fun j h => by cases h)⟩ (by show c.gates.2.2.length - (i + 1) < c.gates.2.2.length - i; omega) ⟨rfl, rfl, rfl, rfl, rfl, trivial⟩ rfl
     by_cases he : j = i
     ·subst he; rw [hrd] at hr; exact hr.2.1 q1
     ·exact hn1 rfl j (by have : j < i + 1 := hj; omega) hr
    ·by_cases q2 : WaitsP c.gates.2.2 told g.2.2
     ·repeat' (first | (apply WL.gT; exact rfl; exact rfl; (focus (exact dTt (show ((i : Nat) : Int) < (c.gates.2.2.length : Int) by omega)))) | (apply QL.gT; exact rfl; exact rfl; (focus ((rw [dFf q1]; rfl)))) | (apply W.cKT; exact rfl; (focus (exact dTt (show (-1 : Int) < 0 by decide)))) | (apply W.cKF; exact rfl; (focus ((rw [dTt q2]; rfl); done))) | (apply QL.callP; (iterate 4 exact rfl); exact hw1) | (apply QL.callP; (iterate 4 exact rfl); exact hw2) | (first | apply WL.nil | refine WL.au (k := ?_)) | (first | (apply QL.nilX; intro w' hx) | refine QL.au (k := ?_) | (apply QL.index tOk; (iterate 8 exact rfl); assumption; exact extA; exact rfl; omega; assumption; intro b off h; have hcc := h; first | (obtain ⟨h1, h2, h3, h4, h5, h6, _⟩ := h) | (obtain ⟨h1, h2, h3, _⟩ := h) | (obtain ⟨h1, h2, _⟩ := h) | (obtain ⟨h1, _⟩ := h))) | (first | apply Z.tn | apply Z.bkn) | (first | apply W.seq | apply W.region | apply W.block | apply W.skip | (apply W.regionX tMix; kernel_rfl)))
      refine Z.again (i + 1, none, w') ⟨by show i + 1 <= _; omega, hX3.trans hx, fun _ j hj hr => ?_, (fun j h => by cases h)⟩ (by show c.gates.2.2.length - (i + 1) < c.gates.2.2.length - i; omega) ⟨rfl, rfl, rfl, rfl, rfl, trivial⟩ rfl
      by_cases he : j = i
      ·subst he; rw [hrd] at hr; exact hr.2.2 q2
      ·exact hn1 rfl j (by have : j < i + 1 := hj; omega) hr
     ·repeat' (first | (apply WL.gT; exact rfl; exact rfl; (focus (exact dTt (show ((i : Nat) : Int) < (c.gates.2.2.length : Int) by omega)))) | (apply QL.gT; exact rfl; exact rfl; (focus ((rw [dFf q1]; rfl)))) | (apply W.cKT; exact rfl; (focus (first | exact dTt (show (-1 : Int) < 0 by decide) | (rw [dFf q2]; rfl); done))) | (apply QL.callP; (iterate 4 exact rfl); exact hw1) | (apply QL.callP; (iterate 4 exact rfl); exact hw2) | (first | apply WL.nil | refine WL.au (k := ?_)) | (first | (apply QL.nilX; intro w' hx) | refine QL.au (k := ?_) | (apply QL.index tOk; (iterate 8 exact rfl); assumption; exact extA; exact rfl; omega; assumption; intro b off h; have hcc := h; first | (obtain ⟨h1, h2, h3, h4, h5, h6, _⟩ := h) | (obtain ⟨h1, h2, h3, _⟩ := h) | (obtain ⟨h1, h2, _⟩ := h) | (obtain ⟨h1, _⟩ := h))) | (first | apply Z.tn | apply Z.bkn) | (first | apply W.seq | apply W.region | apply W.block | apply W.skip | (apply W.regionX tMix; kernel_rfl)))
      exact Z.again (i + 1, some i, w') ⟨by show i + 1 <= _; omega, hX3.trans hx, (fun h => by cases h), fun j hj => by
       obtain rfl : i = j := by have : some i = some j := hj; exact Option.some.inj this
       exact ⟨hrd.2 ⟨hbt, q1, q2⟩, fun q hq => Nat.le_of_not_lt fun hlt => hn1 rfl q hlt hq⟩⟩ (by show c.gates.2.2.length - (i + 1) < c.gates.2.2.length - i; omega) ⟨rfl, rfl, rfl, rfl, rfl, trivial⟩ rfl
   ·repeat' (first | (apply WL.gT; exact rfl; exact rfl; (focus (exact dTt (show ((i : Nat) : Int) < (c.gates.2.2.length : Int) by omega)))) | (apply W.cKT; exact rfl; exact dTt (show (-1 : Int) < 0 by decide)) | (first | apply WL.nil | refine WL.au (k := ?_)) | (first | (apply QL.nilX; intro w' hx) | refine QL.au (k := ?_) | (apply QL.index tOk; (iterate 8 exact rfl); assumption; exact extA; exact rfl; omega; assumption; intro b off h; have hcc := h; first | (obtain ⟨h1, h2, h3, h4, h5, h6, _⟩ := h) | (obtain ⟨h1, h2, h3, _⟩ := h) | (obtain ⟨h1, h2, _⟩ := h) | (obtain ⟨h1, _⟩ := h)) | (apply QL.gdF; exact rfl; exact rfl)) | (first | apply Z.tn | apply Z.bkn) | (first | apply W.seq | apply W.region | apply W.block | apply W.skip | (apply W.condF; exact rfl) | (apply W.regionX tMix; kernel_rfl)))
    refine Z.again (i + 1, none, w') ⟨by show i + 1 <= _; omega, hX3.trans hx, fun _ j hj hr => ?_, (fun j h => by cases h)⟩ (by show c.gates.2.2.length - (i + 1) < c.gates.2.2.length - i; omega) ⟨rfl, rfl, rfl, rfl, rfl, trivial⟩ rfl
    by_cases he : j = i
    ·subst he; rw [hrd] at hr; rw [hbt] at hr; exact absurd hr.1 (by decide)
    ·exact hn1 rfl j (by have : j < i + 1 := hj; omega) hr
  ·obtain rfl : i = c.gates.2.2.length := by omega
   have hfin : L = ordL c.gates.2.2 := IsOrd.ord ⟨hP, fun j hj => by
    by_cases hjl : j < c.gates.2.2.length
    ·exact hn1 rfl j hjl hj
    ·obtain ⟨g, hg, _⟩ := hj; exact hjl (lGt hg)⟩
   repeat' (first | (apply WL.gF; exact rfl; exact rfl; (focus (exact dFf (show ¬ ((c.gates.2.2.length : Nat) : Int) < (c.gates.2.2.length : Int) by omega)))) | (apply W.cKT; exact rfl; exact dTt (show (-1 : Int) < 0 by decide)) | (first | apply WL.nil | refine WL.au (k := ?_) | (apply WL.gdF; exact rfl; exact rfl)) | (first | apply Z.tn | apply Z.tnx | apply Z.bkx | apply Z.tnr | apply Z.bkr) | (first | apply W.seq | apply W.region | apply W.ret | apply W.exit | (apply W.condF; exact rfl)))
   exact Z.bd1 Tryz.results54 rfl fun m => ⟨Ext.at extA m, ao, co, by rw [<- hfin], by rw [<- hfin]; exact (hS3.row (i := 0) rfl).ext ((Ext.refl _).at m)⟩
 ·rename_i j
  have hj := hn2 j rfl
  obtain ⟨g, hg, _⟩ := hj.1
  have hjl := lGt hg
  obtain ⟨bt, hbt⟩ := getI told (show ((j : Nat) : Int).toNat < told.length by omega)
  have hpl := (hP.push hj).le
  rw [List.length_append, List.length_singleton] at hpl
  have hnl : (natI L).length = L.length := List.length_map _
  replace hS := hS3
  (try simp only [List.set_cons_zero, List.set_cons_succ] at hS); (try have hR0 := hS.row (i := 0) rfl); (try have hR1 := hS.row (i := 1) rfl); (try have hC2 := hS.cell (i := 2) rfl); (try have hD2 := (cHp hC2).1); (try have hE2 := (cHp hC2).2.1); (try have hF2 := (cHp hC2).2.2.1); (try have hG2 := (cHp hC2).2.2.2.1)
  refine W.sub [(1, .pointer (some ⟨gc, 0, none⟩)), (3, .slice ao (natI L).length co), (4, .slice rt told.length ct), (5, .int .i64 (j : Int)), (6, .int .i64 (i : Int))] ⟨rfl, rfl, rfl, rfl, rfl, trivial⟩ ?_
  repeat' (first | (apply W.cKF; exact rfl; (focus (exact dFf (show ¬ ((j : Nat) : Int) < 0 by omega)))) | (apply WL.lit tOk; (iterate 6 exact rfl); kernel_rfl; exact rfl; intro gb w' hb hge hc hx) | (apply WL.ap1 (z := ((j : Int))) tOk eIk; (iterate 10 exact rfl); assumption; exact extA; exact rfl; assumption; exact rfl; exact rfl; exact extA; omega; intro a' cap' w' hO hX' hU hF; (replace hS := Sep.uRw (i := 0) rfl hU hO hF hS extA (by (exact Below.size extA))); (try simp only [List.set_cons_zero, List.set_cons_succ] at hS); (try have hR0 := hS.row (i := 0) rfl); (try have hR1 := hS.row (i := 1) rfl); (try have hC2 := hS.cell (i := 2) rfl); (try have hD2 := (cHp hC2).1); (try have hE2 := (cHp hC2).2.1); (try have hF2 := (cHp hC2).2.2.1); (try have hG2 := (cHp hC2).2.2.2.1)) | (apply WL.storeO (z' := (true)) tOk; (iterate 4 exact rfl); assumption; exact extA; (iterate 3 exact rfl); exact eBk; assumption; exact rfl; exact extA; intro w' hO hX' hU; (replace hS := Sep.uRw (i := 1) rfl hU hO (.inl rfl) hS extA (by (exact Below.size extA))); (try simp only [List.set_cons_zero, List.set_cons_succ] at hS); (try have hR0 := hS.row (i := 0) rfl); (try have hR1 := hS.row (i := 1) rfl); (try have hC2 := hS.cell (i := 2) rfl); (try have hD2 := (cHp hC2).1); (try have hE2 := (cHp hC2).2.1); (try have hF2 := (cHp hC2).2.2.1); (try have hG2 := (cHp hC2).2.2.2.1)) | (apply WL.indexO tOk; (iterate 8 exact rfl); assumption; exact extA; exact eBk; exact rfl; omega; assumption; intro gb ha hc; cases ha; have hcc := hc; first | (obtain ⟨h1, h2, h3, _⟩ := hc) | (obtain ⟨h1, h2, _⟩ := hc) | (obtain ⟨h1, _⟩ := hc)) | (first | apply WL.nil | refine WL.au (k := ?_) | (apply WL.gdF; exact rfl; exact rfl) | (apply WL.gD; exact rfl; exact rfl; all_goals intro _)) | (first | apply Z.tn | apply Z.bkn | apply Z.tnx | apply Z.bkx) | (first | apply W.seq | apply W.region | apply W.skip | apply W.exit | (apply W.condF; exact rfl)))
  all_goals
   refine Z.again (L ++ [j], told.set j true, a', cap', some ⟨gb, 0, none⟩, ct, w') ⟨hP.push hj, hT.push hjl, hX', ?_⟩ (by show c.gates.2.2.length - (L ++ [j]).length < c.gates.2.2.length - L.length; rw [List.length_append, List.length_singleton]; omega) ⟨rfl, ?_, ?_, trivial⟩ rfl
   ·show Lt.Sep _ _ [prow 1 encI 3 _ _ _ (natI (L ++ [j])), _, _]
    rw [show natI (L ++ [j]) = natI L ++ [(j : Int)] from List.map_append]; exact hS
   ·show _ = some (Value.slice _ (natI (L ++ [j])).length _)
    rw [show natI (L ++ [j]) = natI L ++ [(j : Int)] from List.map_append]; exact rfl
   ·show _ = some (Value.slice _ (told.set j true).length _)
    rw [List.length_set]; exact rfl

theorem eq_snoc {α : Type} {a b : List α} {k : Nat} {x y : α} (h : ∀ i, i < k -> a[i]? = b[i]?) (hx : a[k]? = some x) (hy : b[k]? = some y) (hxy : x = y) : ∀ i, i < k + 1 -> a[i]? = b[i]? := by
 intro i hi
 by_cases hik : i < k
 ·exact h i hik
 ·obtain rfl : i = k := by omega
  rw [hx, hy, hxy]
theorem eq_all {α : Type} {a b : List α} {k : Nat} (h : ∀ i, i < k -> a[i]? = b[i]?) (hl : a.length = b.length) (hk : a.length <= k) : a = b := by
 apply List.ext_getElem?
 intro i
 by_cases hi : i < k
 ·exact h i hi
 ·rw [List.getElem?_eq_none (by omega), List.getElem?_eq_none (by omega)]
theorem ne_at {α : Type} {a b : List α} {k : Nat} {x y : α} (hx : a[k]? = some x) (hy : b[k]? = some y) (hxy : ¬ x = y) : ¬ a = b := by
 rintro rfl
 rw [hx] at hy
 exact hxy (Option.some.inj hy)

theorem rIn (aa ab : Option Addr) (ca cb : Nat) (la lb : List Int) (w : World) (Ra : Row 1 encI w aa la) (Rb : Row 1 encI w ab lb) : Still Tryz.prog 27 [.slice aa la.length ca, .slice ab lb.length cb] w (.bool (dec (la = lb))) := by
 have hla := Ra.len
 have hlb := Rb.len
 refine Spec.of _ Tryz.func27 rfl Tryz.ntmps27 (by kernel_rfl) rfl ?_
 by_cases hlen : la.length = lb.length
 ·repeat' (first | (apply W.cKF; exact rfl; exact dFf (by omega)) | (first | apply WL.nil | refine WL.au (k := ?_)) | apply Z.tn | (first | apply W.seq | apply W.region | apply W.block | apply W.skip))
  refine W.loop1 la.length (fun k => k <= la.length /\ ∀ i, i < k -> la[i]? = lb[i]?) (fun k => [(0, .slice aa la.length ca), (1, .slice ab lb.length cb), (5, .int .i64 k)]) ⟨by omega, fun i hi => by omega⟩ (fun k h => h.1) ⟨rfl, rfl, rfl, trivial⟩ ?_
  rintro k ⟨hk, heq⟩
  by_cases hlt : k < la.length
  ·obtain ⟨x, hx⟩ := getI la hlt
   obtain ⟨y, hy⟩ := getI lb (show k < lb.length by omega)
   repeat' (first | (apply W.cKT; exact rfl; exact dTt (by omega)) | (first | apply WL.nil | refine WL.au (k := ?_)) | (first | apply QL.nil | refine QL.au (k := ?_) | (apply QL.index tOk; (iterate 8 exact rfl); assumption; exact extA; exact rfl; omega; assumption; intro b off h; have hcc := h; first | (obtain ⟨h1, h2, h3, h4, h5, h6, _⟩ := h) | (obtain ⟨h1, h2, h3, _⟩ := h) | (obtain ⟨h1, h2, _⟩ := h) | (obtain ⟨h1, _⟩ := h))) | (first | apply Z.tn | apply Z.bkn | apply Z.tnr | apply Z.bkr) | (first | apply W.seq | apply W.region | apply W.block | apply W.skip | apply W.ret | (apply W.condD; exact rfl; all_goals intro _) | (apply W.rgD tMix; kernel_rfl)))
   ·exact Z.bd1 Tryz.results27 rfl fun m => ⟨congrArg Value.bool (dFf (ne_at hx hy (by assumption))).symm, m, rfl⟩
   ·exact Z.again1 ⟨by omega, eq_snoc heq hx hy (by omega)⟩ ⟨rfl, rfl, rfl, trivial⟩
  ·repeat' (first | (apply W.cKF; exact rfl; exact dFf (by omega)) | (first | apply WL.nil | refine WL.au (k := ?_)) | (first | apply Z.tn | apply Z.tnx | apply Z.bkx) | (first | apply W.seq | apply W.region | apply W.ret | apply W.exit))
   exact Z.bd1 Tryz.results27 rfl fun m => ⟨congrArg Value.bool (dTt (eq_all heq hlen (by omega))).symm, m, rfl⟩
 ·repeat' (first | (apply W.cKT; exact rfl; exact dTt (by omega)) | (first | apply WL.nil | refine WL.au (k := ?_)) | (first | apply Z.tn | apply Z.tnr) | (first | apply W.seq | apply W.region | apply W.ret))
  exact Z.bd1 Tryz.results27 rfl fun m => ⟨congrArg Value.bool (dFf (fun h => hlen (by rw [h]))).symm, m, rfl⟩

theorem ref_Has (aa : Option Addr) (ca : Nat) (la : List Int) (x : Int) (w : World) (Ra : Row 1 encI w aa la) : Still Tryz.prog 53 [.slice aa la.length ca, .int .i64 x] w (.bool (dec (x ∈ la))) := by
 have hla := Ra.len
 refine Spec.of _ Tryz.func53 rfl Tryz.ntmps53 (by kernel_rfl) rfl ?_
 repeat' (first | (first | apply WL.nil | refine WL.au (k := ?_)) | apply Z.tn | (first | apply W.seq | apply W.region | apply W.block))
 refine W.loop1 la.length (fun k => k <= la.length /\ ∀ i, i < k -> la[i]? ≠ some x) (fun k => [(0, .slice aa la.length ca), (1, .int .i64 x), (5, .int .i64 k)]) ⟨by omega, fun i hi => by omega⟩ (fun k h => h.1) ⟨rfl, rfl, rfl, trivial⟩ ?_
 rintro k ⟨hk, heq⟩
 by_cases hlt : k < la.length
 ·obtain ⟨y, hy⟩ := getI la hlt
  repeat' (first | (apply W.cKT; exact rfl; exact dTt (by omega)) | (first | apply WL.nil | refine WL.au (k := ?_) | (apply WL.index tOk; (iterate 8 exact rfl); assumption; exact extA; exact rfl; omega; assumption; intro b off h; have hcc := h; first | (obtain ⟨h1, h2, h3, h4, h5, h6, _⟩ := h) | (obtain ⟨h1, h2, h3, _⟩ := h) | (obtain ⟨h1, h2, _⟩ := h) | (obtain ⟨h1, _⟩ := h))) | (first | apply Z.tn | apply Z.bkn | apply Z.tnr | apply Z.bkr) | (first | apply W.seq | apply W.region | apply W.block | apply W.skip | apply W.ret | (apply W.condD; exact rfl; all_goals intro _)))
  ·refine Z.bd1 Tryz.results53 rfl fun m => ⟨congrArg Value.bool (dTt ?_).symm, m, rfl⟩
   have h : y = x := by assumption
   rw [<- h]; exact List.mem_of_getElem? hy
  ·refine Z.again1 ⟨by omega, fun i hi => ?_⟩ ⟨rfl, rfl, rfl, trivial⟩
   by_cases hik : i < k
   ·exact heq i hik
   ·obtain rfl : i = k := by omega
    rw [hy]; intro h; cases h; omega
 ·repeat' (first | (apply W.cKF; exact rfl; exact dFf (by omega)) | (first | apply WL.nil | refine WL.au (k := ?_)) | (first | apply Z.tn | apply Z.tnx | apply Z.bkx) | (first | apply W.seq | apply W.region | apply W.ret | apply W.exit))
  refine Z.bd1 Tryz.results53 rfl fun m => ⟨congrArg Value.bool (dFf ?_).symm, m, rfl⟩
  intro hx
  obtain ⟨i, hi⟩ := List.mem_iff_getElem?.1 hx
  exact heq i (by have := lGt hi; omega) hi

def badNode (i : Nat) (x : Int × Int) : Prop := 0 <= x.1 /\ (2 * (i : Int) + 1 < x.1 ∨ x.2 < 0 ∨ 2 * (i : Int) + 1 < x.2)
def GNt (n : List (Int × Int)) : Prop := ∀ i x, n[i]? = some x -> ¬ badNode i x
theorem GNt.gate {n : List (Int × Int)} (h : GNt n) {k : Nat} {x : Int × Int} (hx : n[k]? = some x) (h0 : 0 <= x.1) : x.1 <= 2 * k + 1 /\ 0 <= x.2 /\ x.2 <= 2 * k + 1 := by
 have := h k x hx; unfold badNode at this; omega
def ofL (v : List Bool) (l : Int) : Bool := (v.getD (l / 2).toNat false) != decide (l % 2 = 1)
def vstep (ins : List Bool) (s : List Bool × Nat) (x : Int × Int) : List Bool × Nat := if x.1 < 0 then (s.1 ++ [ins.getD s.2 false], s.2 + 1) else (s.1 ++ [ofL s.1 x.1 && ofL s.1 x.2], s.2)
def vto (n : List (Int × Int)) (ins : List Bool) (k : Nat) : List Bool × Nat := (n.take k).foldl (vstep ins) ([false], 0)
def values (n : List (Int × Int)) (ins : List Bool) : List Bool := (vto n ins n.length).1
theorem vto_succ {n : List (Int × Int)} {k : Nat} {x : Int × Int} (ins : List Bool) (h : n[k]? = some x) : vto n ins (k + 1) = vstep ins (vto n ins k) x := by
 unfold vto; rw [tkS h, List.foldl_append]; rfl
theorem vto_len (n : List (Int × Int)) (ins : List Bool) : ∀ k, k <= n.length -> (vto n ins k).1.length = k + 1 /\ (vto n ins k).2 <= k
 | 0, _ => by simp [vto]
 | k + 1, h => by
  obtain ⟨x, hx⟩ := getI n (show k < n.length by omega)
  have ih := vto_len n ins k (by omega)
  rw [vto_succ ins hx]; unfold vstep
  split <;> simp <;> omega

theorem ref07_Of (a : Option Addr) (cap : Nat) (v : List Bool) (l : Int) (w : World) (R : Row 1 encB w a v) (h : 0 <= l /\ l / 2 < v.length /\ l <= 9223372036854775807) : Still Tryz.prog 131 [.slice a v.length cap, .int .i64 l] w (.bool (ofL v l)) := by
 obtain ⟨z, hz⟩ := getI v (show (l / 2).toNat < v.length by omega)
 refine Spec.of _ Tryz.func131 rfl Tryz.ntmps131 (by kernel_rfl) rfl ?_
 repeat' (first | (first | apply WL.nil | refine WL.au (k := ?_) | (apply WL.index tOk; (iterate 8 exact rfl); assumption; exact extA; exact rfl; omega; assumption; intro b off h; have hcc := h; first | (obtain ⟨h1, h2, h3, h4, h5, h6, _⟩ := h) | (obtain ⟨h1, h2, h3, _⟩ := h) | (obtain ⟨h1, h2, _⟩ := h) | (obtain ⟨h1, _⟩ := h))) | apply Z.tn | (first | apply W.seq | apply W.region | apply W.ret))
 refine Z.bd1 Tryz.results131 rfl fun m => ⟨congrArg Value.bool ?_, m, rfl⟩
 rw [dec_ne_dec, ofL, gDo hz]

theorem ref07_Values (a b : Option Addr) (cap cb : Nat) (n : List (Int × Int)) (ins : List Bool) (w : World) (R : Row 2 encN w a n) (Rb : Row 1 encB w b ins) (hg : GNt n) (hn : n.length <= 1048576) :
    Lt.Spec Tryz.prog 72 [.slice a n.length cap, .slice b ins.length cb] w (IsFresh 1 encB 4 w (values n ins)) := by
  have hlen := Rb.len
  refine Spec.of _ Tryz.func72 rfl Tryz.ntmps72 (by kernel_rfl) rfl ?_
  repeat' (first | (apply WL.lit tOk; (iterate 6 exact rfl); kernel_rfl; exact rfl; intro gb w' hb hge hc hx; have hO := Own.of_block ([false]) eBk hb hge rfl) | (first | apply WL.nil | refine WL.au (k := ?_)) | apply Z.tn | (first | apply W.seq | apply W.region | apply W.block))
  refine W.loopO n.length (fun k c cp w' => k <= n.length /\ Ext w w' /\ Own 1 encB 4 w.heap.size w' c cp (vto n ins k).1)
    (fun k c cp => [(0, .slice a n.length cap), (1, .slice b ins.length cb), (5, .slice c (vto n ins k).1.length cp), (6, .int .i64 ((vto n ins k).2 : Nat)), (7, .int .i64 k)]) (some ⟨gb, 0, none⟩) 1 ⟨by omega, hx, hO⟩ (fun k c cp w' h => h.1) ⟨rfl, rfl, rfl, rfl, rfl, trivial⟩ ?_
  rintro k c cp w' ⟨hk, hx', hO'⟩
  have hvl := vto_len n ins k hk
  by_cases hlt : k < n.length
  · obtain ⟨x, hxn⟩ := getI n hlt
    have hs := vto_succ ins hxn
    by_cases hin : x.1 < 0
    · have e2 : (vto n ins (k + 1)).2 = (vto n ins k).2 + 1 := by rw [hs, vstep, if_pos hin]
      by_cases hki : (vto n ins k).2 < ins.length
      · obtain ⟨z, hz⟩ := getI ins hki
        have e1 : (vto n ins (k + 1)).1 = (vto n ins k).1 ++ [z] := by rw [hs, vstep, if_pos hin, gDo hz]
        repeat' (first | (apply WL.gT; exact rfl; exact rfl; (focus (exact dTt (by omega)))) | (apply W.cKT; exact rfl; (focus (exact dTt (by omega)))) | (apply WL.lit tOk; (iterate 6 exact rfl); kernel_rfl; exact rfl; intro gb w' hb hge hc hx) | (apply WL.ap1 tOk eBk; (iterate 10 exact rfl); assumption; exact extA; exact rfl; assumption; exact rfl; exact rfl; exact extA; omega; intro a' cap' w' hO hX' hU hF) | (first | apply WL.nil | refine WL.au (k := ?_) | (apply WL.index tOk; (iterate 8 exact rfl); assumption; exact extA; exact rfl; omega; assumption; intro b off h; have hcc := h; first | (obtain ⟨h1, h2, h3, h4, h5, h6, _⟩ := h) | (obtain ⟨h1, h2, h3, _⟩ := h) | (obtain ⟨h1, h2, _⟩ := h) | (obtain ⟨h1, _⟩ := h))) | (first | apply Z.tn | apply Z.bkn) | (first | apply W.seq | apply W.region | apply W.block | apply W.skip))
        exact Z.agO a' cap' ⟨by omega, hX', by rw [e1]; exact hO⟩ (by repeat' first | exact trivial | (refine And.intro ?_ ?_) | exact rfl | (rw [e1]; exact rfl) | (rw [e2]; exact rfl))
      · have e1 : (vto n ins (k + 1)).1 = (vto n ins k).1 ++ [false] := by
          rw [hs, vstep, if_pos hin, List.getD, List.getElem?_eq_none (by omega)]; rfl
        repeat' (first | (apply WL.gF; exact rfl; exact rfl; exact dFf (by omega)) | (apply W.cKT; exact rfl; (focus (exact dTt (by omega)))) | (apply WL.lit tOk; (iterate 6 exact rfl); kernel_rfl; exact rfl; intro gb w' hb hge hc hx) | (apply WL.ap1 tOk eBk; (iterate 10 exact rfl); assumption; exact extA; exact rfl; assumption; exact rfl; exact rfl; exact extA; omega; intro a' cap' w' hO hX' hU hF) | (first | apply WL.nil | refine WL.au (k := ?_) | (apply WL.index tOk; (iterate 8 exact rfl); assumption; exact extA; exact rfl; omega; assumption; intro b off h; have hcc := h; first | (obtain ⟨h1, h2, h3, h4, h5, h6, _⟩ := h) | (obtain ⟨h1, h2, h3, _⟩ := h) | (obtain ⟨h1, h2, _⟩ := h) | (obtain ⟨h1, _⟩ := h)) | (apply WL.gdF; exact rfl; exact rfl)) | (first | apply Z.tn | apply Z.bkn) | (first | apply W.seq | apply W.region | apply W.block | apply W.skip))
        exact Z.agO a' cap' ⟨by omega, hX', by rw [e1]; exact hO⟩ (by repeat' first | exact trivial | (refine And.intro ?_ ?_) | exact rfl | (rw [e1]; exact rfl) | (rw [e2]; exact rfl))
    · have hgt := hg.gate hxn (by omega)
      have e2 : (vto n ins (k + 1)).2 = (vto n ins k).2 := by rw [hs, vstep, if_neg hin]
      have e1 : (vto n ins (k + 1)).1 = (vto n ins k).1 ++ [ofL (vto n ins k).1 x.1 && ofL (vto n ins k).1 x.2] := by rw [hs, vstep, if_neg hin]
      repeat' (first | (apply W.cKT; exact rfl; (focus (exact dTt (by omega)))) | (apply W.cKF; exact rfl; exact dFf (by omega)) | (apply WL.lit tOk; (iterate 6 exact rfl); kernel_rfl; exact rfl; intro gb w' hb hge hc hx) | (apply WL.ap1 tOk eBk; (iterate 10 exact rfl); assumption; exact extA; exact rfl; assumption; exact rfl; exact rfl; exact extA; omega; intro a' cap' w' hO hX' hU hF) | (apply WL.callS (f := 131); (iterate 4 exact rfl); exact ref07_Of _ _ _ _ _ (Own.row eBk (by assumption)) ⟨by omega, by omega, by omega⟩) | (first | apply WL.nil | refine WL.au (k := ?_) | (apply WL.index tOk; (iterate 8 exact rfl); assumption; exact extA; exact rfl; omega; assumption; intro b off h; have hcc := h; first | (obtain ⟨h1, h2, h3, h4, h5, h6, _⟩ := h) | (obtain ⟨h1, h2, h3, _⟩ := h) | (obtain ⟨h1, h2, _⟩ := h) | (obtain ⟨h1, _⟩ := h)) | (apply WL.gdF; exact rfl; exact rfl) | (apply WL.gB; exact rfl; exact rfl; all_goals (intro h_9; fail_if_success (cases h_9; done)))) | (first | apply Z.tn | apply Z.bkn) | (first | apply W.seq | apply W.region | apply W.block | apply W.skip))
      all_goals
        first
          | (have hb1 : ofL (vto n ins k).1 x.1 = true := by assumption
             rw [hb1, Bool.true_and] at e1)
          | (have hb1 : ofL (vto n ins k).1 x.1 = false := by assumption
             rw [hb1, Bool.false_and] at e1)
        exact Z.agO a' cap' ⟨by omega, hX', by rw [e1]; exact hO⟩ (by repeat' first | exact trivial | (refine And.intro ?_ ?_) | exact rfl | (rw [e1]; exact rfl) | (rw [e2]; exact rfl))
  · repeat' (first | (apply W.cKF; exact rfl; exact dFf (by omega)) | (first | apply WL.nil | refine WL.au (k := ?_)) | (first | apply Z.tn | apply Z.tnx | apply Z.bkx) | (first | apply W.seq | apply W.region | apply W.ret | apply W.exit))
    obtain rfl : k = n.length := by omega
    exact Z.bd1 Tryz.results72 rfl fun m => ⟨hx'.at m, c, cp, rfl, hO'⟩

abbrev SzC (c : CirT) (m : Nat) : Prop := c.ins.length <= m /\ c.lat.length <= m /\ c.outs.length <= m /\ c.bads.length <= m /\ c.cons.length <= m /\ c.gates.length <= m
theorem map_take_succ {α β : Type} {l : List α} {k : Nat} {x : α} (f : α -> β) (h : l[k]? = some x) : (l.take (k + 1)).map f = (l.take k).map f ++ [f x] := by rw [tkS h, List.map_append]; rfl
theorem ref11_Owned (c : Circ) (w : World) (hC : CAt w c) (hz : SzC c.t 100000) :
  Lt.Spec Tryz.prog 51 [c.val] w (IsFresh 1 encI 3 w c.t.own) := by
 have z1 : c.ins.2.2.length <= 100000 := hz.1
 have z2 : c.lat.2.2.length <= 100000 := hz.2.1
 have z3 : c.outs.2.2.length <= 100000 := hz.2.2.1
 have z4 : c.bads.2.2.length <= 100000 := hz.2.2.2.1
 have z5 : c.cons.2.2.length <= 100000 := hz.2.2.2.2.1
 have z6 : c.gates.2.2.length <= 100000 := hz.2.2.2.2.2
 refine Spec.of _ Tryz.func51 rfl Tryz.ntmps51 (by kernel_rfl) rfl ?_
 repeat' (first | (apply WL.box; (iterate 3 exact rfl); intro gc wc hb hge hc hxc; have hcc := hc; obtain ⟨h1, h2, h3, _⟩ := hc; (obtain ⟨y0, y1, y2, y3, y4, y5, y6, _⟩ := hcc)) | (first | apply WL.nil | refine WL.au (k := ?_)) | apply Z.tn | (first | apply W.seq | apply W.region))
 have Ri := hC.ins.row.ext hxc
 have Rl := hC.lat.row.ext hxc
 have Rg := hC.gates.row.ext hxc
 have hni := hC.ins.none
 repeat' (first | (apply WL.lit (len := 0) tOk; (iterate 6 exact rfl); kernel_rfl; exact rfl; intro gb w' hb hge hc hx; have hO0 := Own.ofB0 (enc := encI) (s := 1) hb hge) | (apply WL.appendS tOk eIk; (iterate 10 exact rfl); assumption; exact extA; exact rfl; assumption; exact extA; exact rfl; assumption; exact rfl; exact extA; ((simp; omega)); intro a' cap' w' hO hX' hU hF) | (first | apply WL.nil | refine WL.au (k := ?_)) | apply Z.tn | (first | apply W.seq | apply W.region | apply W.block))
 rw [List.nil_append] at hO ⊢
 have hli := hxc.size
 refine W.loopO c.lat.2.2.length (fun k a cp w' => k <= c.lat.2.2.length /\ Ext wc w' /\ Own 1 encI 3 wc.heap.size w' a cp (c.ins.2.2 ++ (c.lat.2.2.take k).map (·.1))) (fun k a cp => [(1, .pointer (some ⟨gc, 0, none⟩)), (3, .slice a (c.ins.2.2 ++ (c.lat.2.2.take k).map (·.1)).length cp), (4, .int .i64 k)]) a' cap' ⟨Nat.zero_le _, hX', by simpa using hO⟩ (fun k a cp w' h => h.1) (by rw [List.take_zero, List.map_nil, List.append_nil]; exact ⟨rfl, rfl, rfl, trivial⟩) ?_
 clear hO hX'
 rintro k a cp w3 ⟨hk, hX3, hO3⟩
 have hlk : (c.ins.2.2 ++ (c.lat.2.2.take k).map (·.1)).length = c.ins.2.2.length + k := by simp; omega
 by_cases hlt : k < c.lat.2.2.length
 ·obtain ⟨x, hx⟩ := getI c.lat.2.2 hlt
  have e1 := map_take_succ (·.1) hx
  repeat' (first | (apply W.cKT; exact rfl; exact dTt (by omega)) | (apply WL.lit tOk; (iterate 6 exact rfl); kernel_rfl; exact rfl; intro gb w' hb hge hc hx) | (apply WL.ap1 (z := (x.1)) tOk eIk; (iterate 10 exact rfl); assumption; exact extA; exact rfl; assumption; exact rfl; exact rfl; exact extA; omega; intro a' cap' w' hO hX' hU hF) | (first | apply WL.nil | refine WL.au (k := ?_) | (apply WL.index tOk; (iterate 8 exact rfl); assumption; exact extA; exact rfl; omega; assumption; intro b off h; have hcc := h; first | (obtain ⟨h1, h2, h3, h4, h5, h6, _⟩ := h) | (obtain ⟨h1, h2, h3, _⟩ := h) | (obtain ⟨h1, h2, _⟩ := h) | (obtain ⟨h1, _⟩ := h))) | (first | apply Z.tn | apply Z.bkn) | (first | apply W.seq | apply W.region | apply W.block | apply W.skip))
  exact Z.agO a' cap' ⟨by omega, hX', by rw [e1, <- List.append_assoc]; exact hO⟩ ⟨rfl, by rw [e1, <- List.append_assoc]; exact rfl, rfl, trivial⟩
 obtain rfl : k = c.lat.2.2.length := by omega
 rw [List.take_length] at hO3 hlk ⊢
 repeat' (first | (apply W.cKF; exact rfl; exact dFf (by omega)) | (first | apply WL.nil | refine WL.au (k := ?_)) | (first | apply Z.tn | apply Z.tnx | apply Z.bkx) | (first | apply W.seq | apply W.region | apply W.block | apply W.exit))
 refine W.loopO c.gates.2.2.length (fun k a cp w' => k <= c.gates.2.2.length /\ Ext wc w' /\ Own 1 encI 3 wc.heap.size w' a cp (c.ins.2.2 ++ c.lat.2.2.map (·.1) ++ (c.gates.2.2.take k).map (·.1))) (fun k a cp => [(1, .pointer (some ⟨gc, 0, none⟩)), (3, .slice a (c.ins.2.2 ++ c.lat.2.2.map (·.1) ++ (c.gates.2.2.take k).map (·.1)).length cp), (5, .int .i64 k)]) a cp ⟨Nat.zero_le _, hX3, by simpa using hO3⟩ (fun k a cp w' h => h.1) (by rw [List.take_zero, List.map_nil, List.append_nil]; exact ⟨rfl, rfl, rfl, trivial⟩) ?_
 clear hO3 hX3
 rintro k a cp w3 ⟨hk, hX3, hO3⟩
 have hlk2 : (c.ins.2.2 ++ c.lat.2.2.map (·.1) ++ (c.gates.2.2.take k).map (·.1)).length = c.ins.2.2.length + c.lat.2.2.length + k := by simp; omega
 by_cases hlt : k < c.gates.2.2.length
 ·obtain ⟨x, hx⟩ := getI c.gates.2.2 hlt
  have e1 := map_take_succ (·.1) hx
  repeat' (first | (apply W.cKT; exact rfl; exact dTt (by omega)) | (apply WL.lit tOk; (iterate 6 exact rfl); kernel_rfl; exact rfl; intro gb w' hb hge hc hx) | (apply WL.ap1 (z := (x.1)) tOk eIk; (iterate 10 exact rfl); assumption; exact extA; exact rfl; assumption; exact rfl; exact rfl; exact extA; omega; intro a' cap' w' hO hX' hU hF) | (first | apply WL.nil | refine WL.au (k := ?_) | (apply WL.index tOk; (iterate 8 exact rfl); assumption; exact extA; exact rfl; omega; assumption; intro b off h; have hcc := h; first | (obtain ⟨h1, h2, h3, h4, h5, h6, _⟩ := h) | (obtain ⟨h1, h2, h3, _⟩ := h) | (obtain ⟨h1, h2, _⟩ := h) | (obtain ⟨h1, _⟩ := h))) | (first | apply Z.tn | apply Z.bkn) | (first | apply W.seq | apply W.region | apply W.block | apply W.skip))
  exact Z.agO a' cap' ⟨by omega, hX', by rw [e1, <- List.append_assoc]; exact hO⟩ ⟨rfl, by rw [e1, <- List.append_assoc]; exact rfl, rfl, trivial⟩
 obtain rfl : k = c.gates.2.2.length := by omega
 rw [List.take_length] at hO3 ⊢
 repeat' (first | (apply W.cKF; exact rfl; exact dFf (by omega)) | (first | apply WL.nil | refine WL.au (k := ?_)) | (first | apply Z.tn | apply Z.tnx | apply Z.bkx) | (first | apply W.seq | apply W.region | apply W.ret | apply W.exit))
 exact Z.bd1 Tryz.results51 rfl fun m => ⟨Ext.at extA m, a, cp, rfl, (hO3.base hli).ext ((Ext.refl _).at m)⟩
theorem flat_take_succ {l : List G3} {k : Nat} {x : G3} (h : l[k]? = some x) : (l.take (k + 1)).flatMap (fun g => [g.2.1, g.2.2]) = (l.take k).flatMap (fun g => [g.2.1, g.2.2]) ++ [x.2.1, x.2.2] := by rw [tkS h, List.flatMap_append]; simp
theorem flat_len (l : List G3) : (l.flatMap (fun g => [g.2.1, g.2.2])).length = 2 * l.length := by
 induction l with
 | nil => rfl
 | cons x r ih => rw [List.flatMap_cons, List.length_append, ih]; simp; omega
theorem ref11_Used (c : Circ) (w : World) (hC : CAt w c) (hz : SzC c.t 100000) :
  Lt.Spec Tryz.prog 52 [c.val] w (IsFresh 1 encI 3 w c.t.used) := by
 have z1 : c.ins.2.2.length <= 100000 := hz.1
 have z2 : c.lat.2.2.length <= 100000 := hz.2.1
 have z3 : c.outs.2.2.length <= 100000 := hz.2.2.1
 have z4 : c.bads.2.2.length <= 100000 := hz.2.2.2.1
 have z5 : c.cons.2.2.length <= 100000 := hz.2.2.2.2.1
 have z6 : c.gates.2.2.length <= 100000 := hz.2.2.2.2.2
 refine Spec.of _ Tryz.func52 rfl Tryz.ntmps52 (by kernel_rfl) rfl ?_
 repeat' (first | (apply WL.box; (iterate 3 exact rfl); intro gc wc hb hge hc hxc; have hcc := hc; obtain ⟨h1, h2, h3, _⟩ := hc; (obtain ⟨y0, y1, y2, y3, y4, y5, y6, _⟩ := hcc)) | (first | apply WL.nil | refine WL.au (k := ?_)) | apply Z.tn | (first | apply W.seq | apply W.region))
 have Ro := hC.outs.row.ext hxc
 have Rb := hC.bads.row.ext hxc
 have Rc := hC.cons.row.ext hxc
 have Rl := hC.lat.row.ext hxc
 have Rg := hC.gates.row.ext hxc
 have hn1 := hC.outs.none
 have hn2 := hC.bads.none
 have hn3 := hC.cons.none
 repeat' (first | (apply WL.lit (len := 0) tOk; (iterate 6 exact rfl); kernel_rfl; exact rfl; intro gb w' hb hge hc hx; have hO0 := Own.ofB0 (enc := encI) (s := 1) hb hge) | (apply WL.appendS tOk eIk; (iterate 10 exact rfl); assumption; exact extA; exact rfl; assumption; exact extA; exact rfl; assumption; exact rfl; exact extA; ((simp; omega)); intro a' cap' w' hO hX' hU hF) | (first | apply WL.nil | refine WL.au (k := ?_)) | apply Z.tn | (first | apply W.seq | apply W.region | apply W.block))
 rw [List.nil_append] at hO ⊢
 have hli := hxc.size
 have hlo : (c.outs.2.2 ++ c.bads.2.2 ++ c.cons.2.2).length = c.outs.2.2.length + c.bads.2.2.length + c.cons.2.2.length := by simp [Nat.add_assoc]
 generalize hU : c.outs.2.2 ++ c.bads.2.2 ++ c.cons.2.2 = U at hO hlo ⊢
 refine W.loopO c.lat.2.2.length (fun k a cp w' => k <= c.lat.2.2.length /\ Ext wc w' /\ Own 1 encI 3 wc.heap.size w' a cp (U ++ (c.lat.2.2.take k).map (·.2.1))) (fun k a cp => [(1, .pointer (some ⟨gc, 0, none⟩)), (3, .slice a (U ++ (c.lat.2.2.take k).map (·.2.1)).length cp), (4, .int .i64 k)]) a' cap' ⟨Nat.zero_le _, hX', by simpa using hO⟩ (fun k a cp w' h => h.1) (by rw [List.take_zero, List.map_nil, List.append_nil]; exact ⟨rfl, rfl, rfl, trivial⟩) ?_
 clear hO hX'
 rintro k a cp w3 ⟨hk, hX3, hO3⟩
 have hlk : (U ++ (c.lat.2.2.take k).map (·.2.1)).length = U.length + k := by simp; omega
 by_cases hlt : k < c.lat.2.2.length
 ·obtain ⟨x, hx⟩ := getI c.lat.2.2 hlt
  have e1 := map_take_succ (·.2.1) hx
  repeat' (first | (apply W.cKT; exact rfl; exact dTt (by omega)) | (apply WL.lit tOk; (iterate 6 exact rfl); kernel_rfl; exact rfl; intro gb w' hb hge hc hx) | (apply WL.ap1 (z := (x.2.1)) tOk eIk; (iterate 10 exact rfl); assumption; exact extA; exact rfl; assumption; exact rfl; exact rfl; exact extA; omega; intro a' cap' w' hO hX' hU hF) | (first | apply WL.nil | refine WL.au (k := ?_) | (apply WL.index tOk; (iterate 8 exact rfl); assumption; exact extA; exact rfl; omega; assumption; intro b off h; have hcc := h; first | (obtain ⟨h1, h2, h3, h4, h5, h6, _⟩ := h) | (obtain ⟨h1, h2, h3, _⟩ := h) | (obtain ⟨h1, h2, _⟩ := h) | (obtain ⟨h1, _⟩ := h))) | (first | apply Z.tn | apply Z.bkn) | (first | apply W.seq | apply W.region | apply W.block | apply W.skip))
  exact Z.agO a' cap' ⟨by omega, hX', by rw [e1, <- List.append_assoc]; exact hO⟩ ⟨rfl, by rw [e1, <- List.append_assoc]; exact rfl, rfl, trivial⟩
 obtain rfl : k = c.lat.2.2.length := by omega
 rw [List.take_length] at hO3 hlk ⊢
 repeat' (first | (apply W.cKF; exact rfl; exact dFf (by omega)) | (first | apply WL.nil | refine WL.au (k := ?_)) | (first | apply Z.tn | apply Z.tnx | apply Z.bkx) | (first | apply W.seq | apply W.region | apply W.block | apply W.exit))
 generalize hV : U ++ c.lat.2.2.map (·.2.1) = V at hO3 hlk ⊢
 refine W.loopO c.gates.2.2.length (fun k a cp w' => k <= c.gates.2.2.length /\ Ext wc w' /\ Own 1 encI 3 wc.heap.size w' a cp (V ++ (c.gates.2.2.take k).flatMap (fun g => [g.2.1, g.2.2]))) (fun k a cp => [(1, .pointer (some ⟨gc, 0, none⟩)), (3, .slice a (V ++ (c.gates.2.2.take k).flatMap (fun g => [g.2.1, g.2.2])).length cp), (5, .int .i64 k)]) a cp ⟨Nat.zero_le _, hX3, by simpa using hO3⟩ (fun k a cp w' h => h.1) (by rw [List.take_zero, List.flatMap_nil, List.append_nil]; exact ⟨rfl, rfl, rfl, trivial⟩) ?_
 clear hO3 hX3
 rintro k a cp w3 ⟨hk, hX3, hO3⟩
 have hfl := flat_len (c.gates.2.2.take k)
 rw [List.length_take] at hfl
 have hlk2 : (V ++ (c.gates.2.2.take k).flatMap (fun g => [g.2.1, g.2.2])).length = V.length + 2 * k := by rw [List.length_append, hfl]; omega
 by_cases hlt : k < c.gates.2.2.length
 ·obtain ⟨x, hx⟩ := getI c.gates.2.2 hlt
  have e1 := flat_take_succ hx
  repeat' (first | (apply W.cKT; exact rfl; exact dTt (by omega)) | (show W _ _ (.region 11 _ _) _ _ _; apply W.regionG (.fl true 0 (.fl true 1 (.fl true 3 (.fl true 7 (.fl true 9 (.fl false 2 (.fl true 4 (.fl true 5 (.fl false 6 (.fl false 8 (.fl true 10 (.fl true 11 (.fl false 12 (.br 13 (.br 14 (.fl true 15 .done) .stop) .stop)))))))))))))) [5, 6, 8, 10, 11, 12, 13, 14] (Ext wc) tMix; kernel_rfl) | (apply WL.lit tOk; (iterate 6 exact rfl); kernel_rfl; exact rfl; intro gb w' hb hge hc hxt; have hO := Own.of_block ([x.2.1, x.2.2]) eIk hb hge rfl; (have RLT := Own.row eIk hO; obtain ⟨hOt, rfl⟩ : ∃ x, x = hO := ⟨_, rfl⟩)) | (apply WL.appendS (w0 := wc) tOk eIk; (iterate 10 exact rfl); exact hO3; exact extA; exact rfl; exact RLT; exact extA; exact rfl; (intro h; cases h); exact rfl; exact extA; (show _ + 2 <= 137438953472; omega); intro a' cap' w' hO hX' hU hF) | (first | apply WL.nil | refine WL.au (k := ?_)) | (first | apply SG.done | (apply SG.fl0; exact rfl) | (apply SG.fl1; exact rfl; (focus ((intro m; first | assumption | (apply Ext.at; exact extA) | apply But.of_at; first | exact But.upd (by assumption) | exact But.ext extA | (refine But.trans ?_ (But.upd (by assumption)); exact But.ext extA) | exact But.at _ _ _); done))) | (apply SG.br1; exact rfl)) | (first | (apply FL.loadE tOk; (iterate 5 exact rfl); assumption) | (apply FL.indexE tOk; (iterate 8 exact rfl); assumption; exact rfl; omega; assumption; intro b off h; have hcc := h; first | (obtain ⟨h1, h2, h3, h4, h5, h6, _⟩ := h) | (obtain ⟨h1, h2, h3, _⟩ := h) | (obtain ⟨h1, h2, _⟩ := h) | (obtain ⟨h1, _⟩ := h))) | (first | apply FL.nilS | refine FL.au (k := ?_)) | (apply Z.sgE; (focus ((intro m; first | assumption | (apply Ext.at; exact extA) | apply But.of_at; first | exact But.upd (by assumption) | exact But.ext extA | (refine But.trans ?_ (But.upd (by assumption)); exact But.ext extA) | exact But.at _ _ _); done))) | (first | apply Z.tn | apply Z.bkn) | (first | apply W.seq | apply W.region | apply W.block | apply W.skip))
  exact Z.agO a' cap' ⟨by omega, hX', by rw [e1, <- List.append_assoc]; exact hO⟩ ⟨rfl, by rw [e1, <- List.append_assoc]; exact rfl, rfl, trivial⟩
 obtain rfl : k = c.gates.2.2.length := by omega
 rw [List.take_length] at hO3 ⊢
 repeat' (first | (apply W.cKF; exact rfl; exact dFf (by omega)) | (first | apply WL.nil | refine WL.au (k := ?_)) | (first | apply Z.tn | apply Z.tnx | apply Z.bkx) | (first | apply W.seq | apply W.region | apply W.ret | apply W.exit))
 subst hV; subst hU
 exact Z.bd1 Tryz.results52 rfl fun m => ⟨Ext.at extA m, a, cp, rfl, (hO3.base hli).ext ((Ext.refl _).at m)⟩
end Go.Proofs.YteidpnpbfagaeaaGreat
namespace Go.Lt
open Go.RowKit

section tree
variable {P : Program} {ops : Array Oper} {C : World -> Prop} {early : Nat -> Bool} {K : Act -> World -> Prop}

def wpX (P : Program) (ops : Array Oper) (C : World -> Prop) (early : Nat -> Bool) (K : Act -> World -> Prop) : Nat -> Array Bool -> Act -> World -> Prop
 | 0, listed, a, w => Region.ready .any ops listed = [] /\ ∀ w', Ext w w' -> K a w'
 | n + 1, listed, a, w => Region.ready .any ops listed ≠ [] /\ ∀ w', Ext w w' -> ∀ i ∈ Region.ready .any ops listed,
   wpOp P ops (onlyN K) i (fun a' w'' => (C w' -> early i = true -> C w'') /\ wpX P ops C early K n (listed.setIfInBounds i true) a' w'') a w'

theorem wpX_ext : ∀ {n : Nat} {listed : Array Bool} {a : Act} {w w2 : World} (_ : Ext w w2), wpX P ops C early K n listed a w -> wpX P ops C early K n listed a w2
 | 0, _, _, _, _, hx, h => ⟨h.1, fun w' h' => h.2 w' (hx.trans h')⟩
 | _ + 1, _, _, _, _, hx, h => ⟨h.1, fun w' h' => h.2 w' (hx.trans h')⟩

theorem wpAny_of_X {Q : Exit -> Act -> World -> Prop} (hQ : ∀ a w, K a w -> Q .normal a w) : ∀ (fuel : Nat) (listed : Array Bool) (a : Act) (w : World), wpX P ops C early K fuel listed a w -> wpAny P .any ops Q fuel listed a w
 | 0, _, _, w, h => ⟨h.1, hQ _ _ (h.2 w (Ext.refl w))⟩
 | fuel + 1, _, _, w, h => ⟨fun h0 => absurd h0 h.1, fun i hi => wpOp_mono' (fun a w hh => wpAny_of_X hQ fuel _ a w hh.2) (h.2 w (Ext.refl w) i hi)⟩

def PureAt (P : Program) (s : Sem Next) (w : World) (v : Value) : Prop :=
 s.run P w = .ok (.value v) w ∨ ∃ f args, s.run P w = .ok (.enter f args) w /\ Calls P f args w (fun x w' => x = .returned v /\ Ext w w')

def PYields (P : Program) (ops : Array Oper) (C : World -> Prop) (o : Oper) (v : Value) (a : Act) : Prop :=
 (Region.wanted o (yielded ops a.tmps) = true /\ ∀ w, C w -> PureAt P (execOp a.eval o) w v) ∨ (Region.wanted o (yielded ops a.tmps) = false /\ v = undef)

theorem PYields.wpOp {i : Nat} {o : Oper} {v : Value} {a : Act} {w : World} {Q : Exit -> Act -> World -> Prop} {K' : Act -> World -> Prop} (hi : ops[i]? = some o) (hy : PYields P ops C o v a) (hC : C w) (h : ∀ w', Ext w w' -> K' (a.put o.dst v) w') : wpOp P ops Q i K' a w := by
 unfold Go.wpOp
 simp only [hi]
 rcases hy with ⟨hw, hv⟩ | ⟨hw, rfl⟩
 ·simp only [hw, if_true]
  refine .inl ?_
  unfold Oper.wp
  rcases hv w hC with hv | ⟨f, args, hv, hc⟩
  ·rw [hv]; exact h w (Ext.refl w)
  ·rw [hv]
   refine Calls.mono hc ?_
   rintro x w' ⟨rfl, hx⟩
   exact h w' hx
 ·simp only [hw, Bool.false_eq_true, if_false]; exact h w (Ext.refl w)

theorem PYields.of_same {o : Oper} {v : Value} {a a' : Act} (hy : PYields P ops C o v a) (he : execOp a'.eval o = execOp a.eval o)
  (hw : Region.wanted o (yielded ops a'.tmps) = Region.wanted o (yielded ops a.tmps)) : PYields P ops C o v a' := by
 unfold PYields at *
 rw [he, hw]
 exact hy

theorem wpOp_putX {j : Nat} {oi oj : Oper} {v : Value} {C : World -> Prop} (hj : ops[j]? = some oj) (hap : oi.apart ops oj = true)
  (hsi : ∀ cs b, oi.op ≠ .select cs b) (hsj : ∀ cs b, oj.op ≠ .select cs b) {K0 K1 : Act -> World -> Prop} {a : Act} {w : World}
  (hy : PYields P ops C oi v a) (h : wpOp P ops (onlyN K0) j K1 (a.put oi.dst v) w) :
  wpOp P ops (onlyN K0) j (fun a' w' => PYields P ops C oi v a' /\ K1 (a'.put oi.dst v) w') a w := by
 obtain ⟨h1, h2, h3⟩ := Oper.apart_spec hap
 have keep : ∀ u, PYields P ops C oi v (a.put oj.dst u) := fun u => hy.of_same (execOp_put oi hsi a oj.dst u h3) (wanted_put oi a oj.dst u h3)
 have swap : ∀ u, (a.put oi.dst v).put oj.dst u = (a.put oj.dst u).put oi.dst v := fun u => Act.put_comm a v u h2
 have lets : ¬ LetsOut (onlyN K0) := fun ⟨_, _, hq⟩ => hq
 unfold Go.wpOp at *
 simp only [hj] at *
 rw [wanted_put oj a oi.dst v h1] at h
 split
 ·rename_i hw
  simp only [hw, if_true] at h
  rcases h with h | ⟨_, hq⟩
  ·refine .inl ?_
   unfold Oper.wp at h ⊢
   rw [execOp_put oj hsj a oi.dst v h1] at h
   revert h
   generalize (execOp a.eval oj).run P w = r
   intro h
   unfold Oper.upon at h ⊢
   split at h
   ·exact ⟨keep _, by rw [<- swap]; exact h⟩
   ·exact ⟨keep _, by rw [<- swap]; exact h⟩
   ·rename_i d w'
    have e1 : ({ a with defers := d :: a.defers }.put oj.dst undef).put oi.dst v = { a.put oi.dst v with defers := d :: (a.put oi.dst v).defers }.put oj.dst undef := by
     rw [Act.put_comm _ undef v (fun q hq hh => h2 q hh hq)]
     cases oi.dst <;> rfl
    have e2 : PYields P ops C oi v ({ a with defers := d :: a.defers }.put oj.dst undef) := by
     refine (keep undef).of_same ?_ ?_
     ·cases oj.dst <;> rfl
     ·cases oj.dst <;> rfl
    exact ⟨e2, by rw [e1]; exact h⟩
   ·refine Calls.mono h fun x w'' hx => ?_
    cases x with
    | returned u => exact ⟨keep _, by rw [<- swap]; exact hx⟩
    | panicked c => exact hx.elim
    | outgrown => exact (lets hx).elim
   ·exact Rows.mono h fun u w'' hx => ⟨keep _, by rw [<- swap]; exact hx⟩
   ·exact h.elim
   ·exact h
  ·exact (lets hq).elim
 ·rename_i hw
  simp only [hw] at h
  exact ⟨keep _, by rw [<- swap]; exact h⟩

theorem wpX_first {i : Nat} {oi : Oper} {v : Value} {b : Bool} (hup : ∀ w w', C w -> Ext w w' -> C w') (hi : ops[i]? = some oi) (hsel : ∀ (j : Nat) (o : Oper) cs b, ops[j]? = some o -> o.op ≠ .select cs b) :
  ∀ (fuel : Nat) (listed : Array Bool) (a : Act) (w : World), (b = true ∨ C w) ->
   (∀ j oj, ops[j]? = some oj -> j ≠ i -> listed.getD j true = false -> (∀ e ∈ oj.after, Region.binds .any e = true -> e.on ≠ i) -> oi.apart ops oj = true /\ (b = true ∨ early j = true)) ->
   i ∈ Region.ready .any ops listed -> PYields P ops (fun w => b = true ∨ C w) oi v a ->
   wpX P ops C early K fuel (listed.setIfInBounds i true) (a.put oi.dst v) w -> wpX P ops C early K (fuel + 1) listed a w := by
 intro fuel
 induction fuel with
 | zero =>
  intro listed a w hC _ hr hy H
  refine ⟨fun h => (by rw [h] at hr; cases hr), fun w1 hx j hj => ?_⟩
  by_cases hji : j = i
  ·subst hji; exact hy.wpOp hi (hC.imp id fun h => hup _ _ h hx) fun w' hx' => ⟨fun hc _ => hup _ _ hc hx', wpX_ext (hx.trans hx') H⟩
  ·have := ready_mono hj hji
   rw [H.1] at this
   cases this
 | succ fuel ih =>
  intro listed a w hC hfree hr hy H
  refine ⟨fun h => (by rw [h] at hr; cases hr), fun w1 hx j hj => ?_⟩
  by_cases hji : j = i
  ·subst hji; exact hy.wpOp hi (hC.imp id fun h => hup _ _ h hx) fun w' hx' => ⟨fun hc _ => hup _ _ hc hx', wpX_ext (hx.trans hx') H⟩
  ·have h1 := H.2 w1 hx j (ready_mono hj hji)
   obtain ⟨hjun, oj, hoj, hall⟩ := mem_ready.1 hj
   have hnot : ∀ e ∈ oj.after, Region.binds .any e = true -> e.on ≠ i := fun e he hb heq => by
    have h1 := hall e he hb
    have h0 := (mem_ready.1 hr).1
    rw [heq] at h1
    rcases Nat.lt_or_ge i listed.size with h' | h'
    ·simp [h'] at h0 h1; rw [h0] at h1; cases h1
    ·simp [Array.getElem?_eq_none h'] at h1
   obtain ⟨hap, hea⟩ := hfree j oj hoj hji hjun hnot
   have h2 := wpOp_putX hoj hap (fun cs b => hsel i oi cs b hi) (fun cs b => hsel j oj cs b hoj) hy h1
   have hfree' : ∀ k ok, ops[k]? = some ok -> k ≠ i -> (listed.setIfInBounds j true).getD k true = false ->
     (∀ e ∈ ok.after, Region.binds .any e = true -> e.on ≠ i) -> oi.apart ops ok = true /\ (b = true ∨ early k = true) := fun k ok hk hki hun hno => by
    refine hfree k ok hk hki ?_ hno
    by_cases hjk : j = k
    ·subst hjk; exact hjun
    ·rw [getD_set_ne true hjk] at hun; exact hun
   refine wpOp_mono' (fun a' w' h3 => ⟨h3.2.1, ih (listed.setIfInBounds j true) a' w' ?_ hfree' (ready_mono hr (Ne.symm hji)) h3.1 ?_⟩) h2
   ·rcases hea with hb | hea
    ·exact .inl hb
    ·rcases hC with hb | hc
     ·exact .inl hb
     ·exact .inr (h3.2.1 (hup _ _ hc hx) hea)
   ·rw [Array.setIfInBounds_comm _ _ hji]
    exact h3.2.2

def wpY (P : Program) (ops : Array Oper) (C : World -> Prop) (early : Nat -> Bool) (K : Act -> World -> Prop) : Strat -> Act -> World -> Prop
 | .done, a, w => ∀ w', Ext w w' -> K a w'
 | .fl b i k, a, w => ∃ o, ops[i]? = some o /\ ∃ v, PYields P ops (fun w => b = true ∨ C w) o v a /\ (b = true ∨ C w) /\ wpY P ops C early K k (a.put o.dst v) w
 | .br i k more, a, w => (∃ o, ops[i]? = some o /\ ∀ w', Ext w w' -> wpList P ops (onlyN fun a' w'' => (early i = true -> C w'') /\ wpY P ops C early K k a' w'') [o] a w') /\ wpY P ops C early K more a w
 | .stop, _, _ => True

theorem wpY_ext (hup : ∀ w w', C w -> Ext w w' -> C w') : ∀ {s : Strat} {a : Act} {w w2 : World} (_ : Ext w w2), wpY P ops C early K s a w -> wpY P ops C early K s a w2
 | .done, _, _, _, hx, h => fun w' h' => h w' (hx.trans h')
 | .fl b i k, _, _, _, hx, ⟨o, ho, v, h1, h2, h3⟩ => ⟨o, ho, v, h1, h2.imp id fun h => hup _ _ h hx, wpY_ext hup hx h3⟩
 | .br i k more, _, _, _, hx, ⟨⟨o, ho, h1⟩, h2⟩ => ⟨⟨o, ho, fun w' h' => h1 w' (hx.trans h')⟩, wpY_ext hup hx h2⟩
 | .stop, _, _, _, _, _ => trivial

theorem stratX_all (hup : ∀ w w', C w -> Ext w w' -> C w') (hsel : ∀ (j : Nat) (o : Oper) cs b, ops[j]? = some o -> o.op ≠ .select cs b) : ∀ (s : Strat),
  (∀ (L : Array Bool) (a : Act) (w : World), stratB ops early true s L = true -> wpY P ops C early K s a w -> wpX P ops C early K (slen s) L a w) /\
  (∀ (L : Array Bool) (a : Act) (w : World) (n : Nat), stratB ops early false s L = true -> (isStop s = true ∨ slen s = n + 1) -> wpY P ops C early K s a w -> ∀ i ∈ heads s, ∀ w', Ext w w' ->
   wpOp P ops (onlyN K) i (fun a' w'' => (C w' -> early i = true -> C w'') /\ wpX P ops C early K n (L.setIfInBounds i true) a' w'') a w')
 | .done => ⟨fun L a w hB h => ⟨by simpa [stratB] using hB, h⟩, fun L a w n hB => by simp [stratB] at hB⟩
 | .stop => ⟨fun L a w hB => by simp [stratB] at hB, fun L a w n hB hn h i hi => by simp [heads] at hi⟩
 | .fl b i k => by
  refine ⟨fun L a w hB h => ?_, fun L a w n hB => by simp [stratB] at hB⟩
  obtain ⟨o, ho, v, h1, h2, h3⟩ := h
  simp only [stratB, ho, Bool.true_and, Bool.and_eq_true] at hB
  obtain ⟨⟨hB1, hB2⟩, hB3⟩ := hB
  have hfree : ∀ j oj, ops[j]? = some oj -> j ≠ i -> L.getD j true = false -> (∀ e ∈ oj.after, Region.binds .any e = true -> e.on ≠ i) -> o.apart ops oj = true /\ (b = true ∨ early j = true) := by
   intro j oj hj hji hun hno
   have hjlt : j < ops.size := (Array.getElem?_eq_some_iff.1 hj).1
   have := List.all_eq_true.1 hB2 j (List.mem_range.2 hjlt)
   simp only [hj, Bool.or_eq_true, beq_iff_eq, hji, hun, Bool.false_eq_true, false_or, Bool.and_eq_true] at this
   rcases this with hw | hw
   ·exfalso
    simp only [waits, hj] at hw
    obtain ⟨e, he, hb⟩ := Array.any_eq_true'.1 hw
    simp only [Bool.and_eq_true, beq_iff_eq] at hb
    exact hno e he hb.1 hb.2
   ·exact hw
  exact wpX_first hup ho hsel (slen k) L a w h2 hfree (by simpa using hB1) h1 ((stratX_all hup hsel k).1 _ _ _ hB3 h3)
 | .br i k more => by
  have key : ∀ (L : Array Bool) (a : Act) (w : World), stratB ops early true k (L.setIfInBounds i true) = true ->
    (∃ o, ops[i]? = some o /\ ∀ w', Ext w w' -> wpList P ops (onlyN fun a' w'' => (early i = true -> C w'') /\ wpY P ops C early K k a' w'') [o] a w') -> ∀ w', Ext w w' ->
    wpOp P ops (onlyN K) i (fun a' w'' => (C w' -> early i = true -> C w'') /\ wpX P ops C early K (slen k) (L.setIfInBounds i true) a' w'') a w' := by
   rintro L a w hB ⟨o, ho, h⟩ w1 hx
   refine wpOp_of_list ho (h w1 hx) _ fun a' w' h' => ?_
   have h'' : (early i = true -> C w') /\ wpY P ops C early K k a' w' := h'
   exact ⟨fun _ he => h''.1 he, (stratX_all hup hsel k).1 _ _ _ hB h''.2⟩
  refine ⟨fun L a w hB h => ?_, fun L a w n hB hn h => ?_⟩
  ·simp only [stratB, Bool.not_true, Bool.false_or, Bool.and_eq_true, beq_iff_eq, Bool.or_eq_true] at hB
   obtain ⟨⟨⟨hB1, hB2⟩, hB3⟩, hB4⟩ := hB
   refine ⟨by rw [hB1]; simp, fun w1 hx j hj => ?_⟩
   rw [hB1] at hj
   rcases List.mem_cons.1 hj with rfl | hj
   ·exact key L a w hB3 h.1 w1 hx
   ·refine (stratX_all hup hsel more).2 L a w (slen k) hB4 ?_ h.2 j hj w1 hx
    rcases hB2 with hB2 | hB2
    ·exact .inl hB2
    ·exact .inr (Nat.eq_of_beq_eq_true hB2)
  ·simp only [stratB, Bool.not_false, Bool.true_or, Bool.true_and, Bool.and_eq_true, Bool.or_eq_true] at hB
   obtain ⟨⟨hB2, hB3⟩, hB4⟩ := hB
   have hk : slen k = n := by
    rcases hn with hn | hn
    ·cases hn
    ·exact Nat.succ.inj hn
   subst hk
   intro j hj w1 hx
   rcases List.mem_cons.1 hj with rfl | hj
   ·exact key L a w hB3 h.1 w1 hx
   ·refine (stratX_all hup hsel more).2 L a w (slen k) hB4 ?_ h.2 j hj w1 hx
    rcases hB2 with hB2 | hB2
    ·exact .inl hB2
    ·exact .inr (Nat.eq_of_beq_eq_true hB2)
end tree

structure SX (P : Program) (N : Nat) (l : List Oper) (w0 : World) (early : Nat -> Bool) (s : Strat) (e : Env) (w : World) (Q : Exit -> Act -> World -> Prop) : Prop where
 go : ∀ a, Fit N e a -> wpY P l.toArray (Ext w0) early (fun a w => Q .normal a w) s a w
theorem ext_up (w0 : World) : ∀ w w', Ext w0 w -> Ext w w' -> Ext w0 w' := fun _ _ h k => h.trans k

section rules
variable {P : Program} {N : Nat} {e : Env} {w w0 : World} {Q : Exit -> Act -> World -> Prop} {l : List Oper} {early : Nat -> Bool} {s k more : Strat} {o : Oper} {i : Nat}
theorem W.regionGX {id : Nat} (s : Strat) (E : List Nat) (hm : P.follows .mixedOrders = true) (hB : (Region.noSelect l.toArray && Nat.beq (slen s) l.toArray.size && stratB l.toArray (memN E) true s (Array.replicate l.toArray.size false)) = true)
  (h : SX P N l w (memN E) s e w Q) : W P N (.region id l.toArray true) e w Q := by
 refine ⟨fun a m hf => wp_region_any hm ?_⟩
 simp only [Bool.and_eq_true] at hB
 obtain ⟨⟨hB1, hB2⟩, hB3⟩ := hB
 have hsel : ∀ (j : Nat) (o : Oper) cs b, l.toArray[j]? = some o -> o.op ≠ .select cs b := fun j o cs b ho => Region.noSelect_spec hB1 j o cs b ho
 have hsz := Nat.eq_of_beq_eq_true hB2
 have key := (stratX_all (P := P) (C := Ext w) (K := fun a w => Q .normal a w) (ext_up w) hsel s).1 _ _ _ hB3 (h.go a hf)
 rw [hsz] at key
 exact wpAny_of_X (K := fun a w => Q .normal a w) (C := Ext w) (early := memN E) (fun _ _ h => h) _ _ _ _ (wpX_ext (w := w) ((Ext.refl w).at (m + 1)) key)
theorem SX.done (h : ∀ w', Ext w w' -> Z N Q .normal e w') : SX P N l w0 early .done e w Q := ⟨fun a hf w' hx => (h w' hx).go a w'.drawn hf⟩
theorem SX.stop : SX P N l w0 early .stop e w Q := ⟨fun a hf => trivial⟩
theorem SX.fl0 (ho : nthO l i = some o) (h : FL P N l.toArray (fun _ => True) [o] e w (fun a => wpY P l.toArray (Ext w0) early (fun a w => Q .normal a w) k a w)) : SX P N l w0 early (.fl true i k) e w Q := by
 refine ⟨fun a hf => ⟨o, nthO_eq ho, ?_⟩⟩
 have := h.go a hf
 unfold wpFl at this
 split at this
 ·rename_i hw
  obtain ⟨v, h1, h2⟩ := this
  exact ⟨v, .inl ⟨hw, fun w' _ => .inl (h1 w' trivial)⟩, .inl rfl, h2⟩
 ·rename_i hw
  exact ⟨undef, .inr ⟨by simpa using hw, rfl⟩, .inl rfl, this⟩
theorem SX.fl1 (ho : nthO l i = some o) (hC : Ext w0 w) (h : FL P N l.toArray (Ext w0) [o] e w (fun a => wpY P l.toArray (Ext w0) early (fun a w => Q .normal a w) k a w)) : SX P N l w0 early (.fl false i k) e w Q := by
 refine ⟨fun a hf => ⟨o, nthO_eq ho, ?_⟩⟩
 have := h.go a hf
 unfold wpFl at this
 split at this
 ·rename_i hw
  obtain ⟨v, h1, h2⟩ := this
  exact ⟨v, .inl ⟨hw, fun w' hc => .inl (h1 w' (hc.resolve_left (by simp)))⟩, .inr hC, h2⟩
 ·rename_i hw
  exact ⟨undef, .inr ⟨by simpa using hw, rfl⟩, .inr hC, this⟩
theorem FL.nilX {opsA : Array Oper} {C' : World -> Prop} (h : SX P N l w0 early k e w Q) : FL P N opsA C' [] e w (fun a => wpY P l.toArray (Ext w0) early (fun a w => Q .normal a w) k a w) := ⟨fun a hf => h.go a hf⟩
theorem SX.br (ho : nthO l i = some o) (h : ∀ w', Ext w w' -> WL P N l.toArray [o] e w' (onlyN fun a' w'' => (early i = true -> Ext w0 w'') /\ wpY P l.toArray (Ext w0) early (fun a w => Q .normal a w) k a' w'')) (hm : SX P N l w0 early more e w Q) : SX P N l w0 early (.br i k more) e w Q :=
 ⟨fun a hf => ⟨⟨o, nthO_eq ho, fun w' hx => (h w' hx).go a w'.drawn hf⟩, hm.go a hf⟩⟩
theorem SX.br1 (ho : nthO l i = some o) (h : ∀ w', Ext w w' -> WL P N l.toArray [o] e w' (onlyN fun a' w'' => (early i = true -> Ext w0 w'') /\ wpY P l.toArray (Ext w0) early (fun a w => Q .normal a w) k a' w'')) : SX P N l w0 early (.br i k .stop) e w Q := SX.br ho h SX.stop
theorem Z.sx (hC : early i = true -> Ext w0 w) (h : SX P N l w0 early k e w Q) : Z N (onlyN fun a' w'' => (early i = true -> Ext w0 w'') /\ wpY P l.toArray (Ext w0) early (fun a w => Q .normal a w) k a' w'') .normal e w :=
 ⟨fun a m hf => ⟨fun he => (hC he).at m, wpY_ext (ext_up w0) ((Ext.refl w).at m) (h.go a hf)⟩⟩
theorem Z.sxL (hE : early i = false) (h : SX P N l w0 early k e w Q) : Z N (onlyN fun a' w'' => (early i = true -> Ext w0 w'') /\ wpY P l.toArray (Ext w0) early (fun a w => Q .normal a w) k a' w'') .normal e w := Z.sx (fun h => by rw [hE] at h; cases h) h
theorem Z.sxE (hC : Ext w0 w) (h : SX P N l w0 early k e w Q) : Z N (onlyN fun a' w'' => (early i = true -> Ext w0 w'') /\ wpY P l.toArray (Ext w0) early (fun a w => Q .normal a w) k a' w'') .normal e w := Z.sx (fun _ => hC) h
end rules
end Go.Lt
namespace Go.Proofs.YteidpnpbfagaeaaGreat
open Go Go.Lt Go.RowKit

theorem chk_5 {c : CirT} (h : BadMax c ∨ BadOwn c ∨ BadUse c ∨ BadRes c) : chkC c = 5 := by unfold chkC; rw [if_pos h]
theorem chk_7 {c : CirT} (h5 : ¬ (BadMax c ∨ BadOwn c ∨ BadUse c ∨ BadRes c)) (h : Twice c) : chkC c = 7 := by unfold chkC; rw [if_neg h5, if_pos h]
theorem chk_9 {c : CirT} (h5 : ¬ (BadMax c ∨ BadOwn c ∨ BadUse c ∨ BadRes c)) (h7 : ¬ Twice c) (h : NoneC c) : chkC c = 9 := by unfold chkC; rw [if_neg h5, if_neg h7, if_pos h]
theorem chk_8 {c : CirT} (h5 : ¬ (BadMax c ∨ BadOwn c ∨ BadUse c ∨ BadRes c)) (h7 : ¬ Twice c) (h9 : ¬ NoneC c) (h : (ordL c.gates).length < c.gates.length) : chkC c = 8 := by unfold chkC; rw [if_neg h5, if_neg h7, if_neg h9, if_pos h]
theorem chk_0 {c : CirT} (h5 : ¬ (BadMax c ∨ BadOwn c ∨ BadUse c ∨ BadRes c)) (h7 : ¬ Twice c) (h9 : ¬ NoneC c) (h : ¬ (ordL c.gates).length < c.gates.length) : chkC c = 0 := by unfold chkC; rw [if_neg h5, if_neg h7, if_neg h9, if_neg h]
theorem mem_take_snoc {α : Type} {l : List α} {k : Nat} {x y : α} (hx : l[k]? = some x) (h : y ∈ l.take (k + 1)) : y ∈ l.take k ∨ y = x := by
 rw [tkS hx] at h
 rcases List.mem_append.1 h with h | h
 ·exact .inl h
 ·exact .inr (List.mem_singleton.1 h)
theorem ref11_Check (c : Circ) (w : World) (hC : CAt w c) (hz : SzC c.t 100000) :
  Pure Tryz.prog 18 [c.val] w (.int .i64 (chkC c.t)) := by
 have hcm : c.t.max = c.max := rfl
 have z1 : c.ins.2.2.length <= 100000 := hz.1
 have z2 : c.lat.2.2.length <= 100000 := hz.2.1
 have z3 : c.outs.2.2.length <= 100000 := hz.2.2.1
 have z4 : c.bads.2.2.length <= 100000 := hz.2.2.2.1
 have z5 : c.cons.2.2.length <= 100000 := hz.2.2.2.2.1
 have z6 : c.gates.2.2.length <= 100000 := hz.2.2.2.2.2
 have hol : c.t.own.length <= 300000 := by
  show (c.ins.2.2 ++ c.lat.2.2.map (·.1) ++ c.gates.2.2.map (·.1)).length <= _
  simp; omega
 have hul : c.t.used.length <= 600000 := by
  show (c.outs.2.2 ++ c.bads.2.2 ++ c.cons.2.2 ++ c.lat.2.2.map (·.2.1) ++ c.gates.2.2.flatMap (fun g => [g.2.1, g.2.2])).length <= _
  rw [List.length_append, flat_len]; simp; omega
 by_cases hmax : BadMax c.t
 ·rw [chk_5 (.inl hmax)]
  have hmax' : c.max < 0 ∨ 16777216 < c.max := hmax
  refine Spec.of _ Tryz.func18 rfl Tryz.ntmps18 (by kernel_rfl) rfl ?_
  repeat' (first | (apply WL.box; (iterate 3 exact rfl); intro gc wc hb hge hc hxc; have hcc := hc; obtain ⟨h1, h2, h3, _⟩ := hc; (obtain ⟨y0, _⟩ := hcc)) | (first | apply WL.nil | refine WL.au (k := ?_) | (apply WL.gdF; exact rfl; exact rfl) | (apply WL.gD; exact rfl; exact rfl; all_goals intro _)) | (first | apply Z.tn | apply Z.tnr) | (first | apply W.seq | apply W.region | apply W.skip | apply W.ret | (apply W.condT; exact rfl) | (apply W.condD; exact rfl; all_goals intro _)))
  all_goals first
   | exact Z.bd1 Tryz.results18 rfl fun m => ⟨rfl, Ext.at extA m⟩
   | (exfalso; omega)
   | skip
 have hm0 : ¬ (c.max < 0 ∨ 16777216 < c.max) := hmax
 refine Spec.of _ Tryz.func18 rfl Tryz.ntmps18 (by kernel_rfl) rfl ?_
 repeat' (first | (apply WL.box; (iterate 3 exact rfl); intro gc wc hb hge hc hxc; have hcc := hc; obtain ⟨h1, h2, h3, _⟩ := hc; (have hcells := hcc; obtain ⟨y0, y1, y2, y3, y4, y5, y6, _⟩ := hcc)) | (apply WL.gF; exact rfl; exact rfl; exact dFf (by omega)) | (apply W.cKF; exact rfl; exact dFf (by omega)) | (first | apply WL.nil | refine WL.au (k := ?_)) | apply Z.tn | (first | apply W.seq | apply W.region | apply W.skip))
 repeat' (first | (show W _ _ (.region 3 _ _) _ _ _; apply W.regionGX (.fl false 0 (.fl false 2 (.br 1 (.br 3 (.fl true 4 (.fl true 5 .done)) .stop) .stop))) [1, 2, 3, 4] tMix; kernel_rfl) | (apply WL.call (f := 51); (iterate 4 exact rfl); exact ref11_Owned c _ (hC.ext extA) hz; rintro v' wo ⟨hxo, ao, co, rfl, hOo⟩) | (apply WL.call (f := 52); (iterate 4 exact rfl); exact ref11_Used c _ (hC.ext extA) hz; rintro v' wu ⟨hxu, au, cu, rfl, hOu⟩) | (first | (apply SX.done; intro w' hx) | (apply SX.fl0; exact rfl) | (apply SX.fl1; exact rfl; exact extA) | (apply SX.br1; exact rfl; intro w' hx)) | (first | apply FL.nilX | (apply FL.loadAE tOk; (iterate 5 exact rfl); assumption; exact rfl)) | refine FL.au (k := ?_) | (apply Z.sxE; exact extA) | (first | apply WL.nil | refine WL.au (k := ?_)) | apply Z.tn | (first | apply W.seq | apply W.region | apply W.block))
 have hXu : Ext wc wu := extA
 have hXw : Ext w wu := hxc.trans hXu
 have Ro := (Own.row eIk hOo).ext (show Ext wo wu from extA)
 have Ru := Own.row eIk hOu
 have Rl := hC.lat.row.ext hXw
 have Rg := hC.gates.row.ext hXw
 have hcu := hcells.ext hXu
 have x0 : wu.cell? ⟨gc, 0, none⟩ = some (.int .i64 c.max) := hcu.1
 have x2 : wu.cell? ⟨gc, 0 + 1 + 1, none⟩ = some (rowVal c.lat) := hcu.2.2.1
 have x6 : wu.cell? ⟨gc, 0 + 1 + 1 + 1 + 1 + 1 + 1, none⟩ = some (rowVal c.gates) := hcu.2.2.2.2.2.2.1
 have hOr := hOo.capLe
 refine W.loop1 c.t.own.length (fun k => k <= c.t.own.length /\ ∀ x ∈ c.t.own.take k, 2 <= x /\ x % 2 = 0 /\ x <= 2 * c.max) (fun k => [(1, .pointer (some ⟨gc, 0, none⟩)), (3, .slice ao c.t.own.length co), (4, .slice au c.t.used.length cu), (5, .int .i64 k)]) ⟨Nat.zero_le _, fun x h => by simp at h⟩ (fun k h => h.1) ⟨rfl, rfl, rfl, rfl, trivial⟩ ?_
 rintro k ⟨hk, hq⟩
 by_cases hlt : k < c.t.own.length
 ·obtain ⟨x, hx⟩ := getI c.t.own hlt
  have hxm := List.mem_of_getElem? hx
  by_cases b1 : x < 2
  ·repeat' (first | (apply QL.gT; exact rfl; exact rfl; exact dTt (by omega)) | (apply W.cKT; exact rfl; exact dTt (by omega)) | (first | apply WL.nil | refine WL.au (k := ?_)) | (first | apply QL.nil | refine QL.au (k := ?_) | (apply QL.index tOk; (iterate 8 exact rfl); assumption; exact extA; exact rfl; omega; assumption; intro b off h; have hcc := h; first | (obtain ⟨h1, h2, h3, h4, h5, h6, _⟩ := h) | (obtain ⟨h1, h2, h3, _⟩ := h) | (obtain ⟨h1, h2, _⟩ := h) | (obtain ⟨h1, _⟩ := h)) | (apply QL.gdF; exact rfl; exact rfl)) | (first | apply Z.tn | apply Z.tnr | apply Z.bkr) | (first | apply W.seq | apply W.region | apply W.block | apply W.skip | apply W.ret | (apply W.condT; exact rfl) | (apply W.rgD tMix; kernel_rfl)))
   exact Z.bd1 Tryz.results18 rfl fun m => ⟨congrArg (Value.int IntKind.i64) (chk_5 (.inr (.inl ⟨x, hxm, .inl b1⟩))).symm, Ext.at extA m⟩
  by_cases b2 : x % 2 = 1
  ·repeat' (first | (apply QL.gT; exact rfl; exact rfl; (focus (exact dTt (by omega)))) | (apply QL.gF; exact rfl; exact rfl; exact dFf (by omega)) | (apply W.cKT; exact rfl; (focus (exact dTt (by omega)))) | (first | apply WL.nil | refine WL.au (k := ?_)) | (first | apply QL.nil | refine QL.au (k := ?_) | (apply QL.index tOk; (iterate 8 exact rfl); assumption; exact extA; exact rfl; omega; assumption; intro b off h; have hcc := h; first | (obtain ⟨h1, h2, h3, h4, h5, h6, _⟩ := h) | (obtain ⟨h1, h2, h3, _⟩ := h) | (obtain ⟨h1, h2, _⟩ := h) | (obtain ⟨h1, _⟩ := h)) | (apply QL.gdF; exact rfl; exact rfl)) | (first | apply Z.tn | apply Z.tnr | apply Z.bkr) | (first | apply W.seq | apply W.region | apply W.block | apply W.skip | apply W.ret | (apply W.condT; exact rfl) | (apply W.rgD tMix; kernel_rfl)))
   exact Z.bd1 Tryz.results18 rfl fun m => ⟨congrArg (Value.int IntKind.i64) (chk_5 (.inr (.inl ⟨x, hxm, .inr (.inl b2)⟩))).symm, Ext.at extA m⟩
  by_cases b3 : 2 * c.max < x
  ·repeat' (first | (apply QL.gF; exact rfl; exact rfl; exact dFf (by omega)) | (apply W.cKT; exact rfl; (focus (exact dTt (by omega)))) | (first | apply WL.nil | refine WL.au (k := ?_)) | (first | apply QL.nil | refine QL.au (k := ?_) | (apply QL.index tOk; (iterate 8 exact rfl); assumption; exact extA; exact rfl; omega; assumption; intro b off h; have hcc := h; first | (obtain ⟨h1, h2, h3, h4, h5, h6, _⟩ := h) | (obtain ⟨h1, h2, h3, _⟩ := h) | (obtain ⟨h1, h2, _⟩ := h) | (obtain ⟨h1, _⟩ := h))) | (first | apply Z.tn | apply Z.tnr | apply Z.bkr) | (first | apply W.seq | apply W.region | apply W.block | apply W.skip | apply W.ret | (apply W.rgD tMix; kernel_rfl)))
   exact Z.bd1 Tryz.results18 rfl fun m => ⟨congrArg (Value.int IntKind.i64) (chk_5 (.inr (.inl ⟨x, hxm, .inr (.inr b3)⟩))).symm, Ext.at extA m⟩
  ·repeat' (first | (apply QL.gF; exact rfl; exact rfl; exact dFf (by omega)) | (apply W.cKT; exact rfl; (focus (exact dTt (by omega)))) | (apply W.cKF; exact rfl; exact dFf (by omega)) | (first | apply WL.nil | refine WL.au (k := ?_)) | (first | apply QL.nil | refine QL.au (k := ?_) | (apply QL.index tOk; (iterate 8 exact rfl); assumption; exact extA; exact rfl; omega; assumption; intro b off h; have hcc := h; first | (obtain ⟨h1, h2, h3, h4, h5, h6, _⟩ := h) | (obtain ⟨h1, h2, h3, _⟩ := h) | (obtain ⟨h1, h2, _⟩ := h) | (obtain ⟨h1, _⟩ := h))) | (first | apply Z.tn | apply Z.bkn) | (first | apply W.seq | apply W.region | apply W.block | apply W.skip | (apply W.rgD tMix; kernel_rfl)))
   refine Z.again1 ⟨by omega, fun y hy => ?_⟩ ⟨rfl, rfl, rfl, rfl, trivial⟩
   rcases mem_take_snoc hx hy with hy | rfl
   ·exact hq y hy
   ·omega
 obtain rfl : k = c.t.own.length := by omega
 rw [List.take_length] at hq
 repeat' (first | (apply W.cKF; exact rfl; exact dFf (by omega)) | (first | apply WL.nil | refine WL.au (k := ?_)) | (first | apply Z.tn | apply Z.tnx | apply Z.bkx) | (first | apply W.seq | apply W.region | apply W.block | apply W.exit))
 have hown := hq
 clear hq hk hlt
 refine W.loop1 c.t.used.length (fun k => k <= c.t.used.length /\ ∀ x ∈ c.t.used.take k, 0 <= x /\ x <= 2 * c.max + 1) (fun k => [(1, .pointer (some ⟨gc, 0, none⟩)), (3, .slice ao c.t.own.length co), (4, .slice au c.t.used.length cu), (6, .int .i64 k)]) ⟨Nat.zero_le _, fun x h => by simp at h⟩ (fun k h => h.1) ⟨rfl, rfl, rfl, rfl, trivial⟩ ?_
 rintro k ⟨hk, hq⟩
 by_cases hlt : k < c.t.used.length
 ·obtain ⟨x, hx⟩ := getI c.t.used hlt
  have hxm := List.mem_of_getElem? hx
  by_cases b1 : x < 0
  ·repeat' (first | (apply QL.gT; exact rfl; exact rfl; exact dTt (by omega)) | (apply W.cKT; exact rfl; exact dTt (by omega)) | (first | apply WL.nil | refine WL.au (k := ?_)) | (first | apply QL.nil | refine QL.au (k := ?_) | (apply QL.index tOk; (iterate 8 exact rfl); assumption; exact extA; exact rfl; omega; assumption; intro b off h; have hcc := h; first | (obtain ⟨h1, h2, h3, h4, h5, h6, _⟩ := h) | (obtain ⟨h1, h2, h3, _⟩ := h) | (obtain ⟨h1, h2, _⟩ := h) | (obtain ⟨h1, _⟩ := h)) | (apply QL.gdF; exact rfl; exact rfl)) | (first | apply Z.tn | apply Z.tnr | apply Z.bkr) | (first | apply W.seq | apply W.region | apply W.block | apply W.skip | apply W.ret | (apply W.condT; exact rfl) | (apply W.rgD tMix; kernel_rfl)))
   exact Z.bd1 Tryz.results18 rfl fun m => ⟨congrArg (Value.int IntKind.i64) (chk_5 (.inr (.inr (.inl ⟨x, hxm, .inl b1⟩)))).symm, Ext.at extA m⟩
  by_cases b3 : 2 * c.max + 1 < x
  ·repeat' (first | (apply QL.gF; exact rfl; exact rfl; exact dFf (by omega)) | (apply W.cKT; exact rfl; (focus (exact dTt (by omega)))) | (first | apply WL.nil | refine WL.au (k := ?_)) | (first | apply QL.nil | refine QL.au (k := ?_) | (apply QL.index tOk; (iterate 8 exact rfl); assumption; exact extA; exact rfl; omega; assumption; intro b off h; have hcc := h; first | (obtain ⟨h1, h2, h3, h4, h5, h6, _⟩ := h) | (obtain ⟨h1, h2, h3, _⟩ := h) | (obtain ⟨h1, h2, _⟩ := h) | (obtain ⟨h1, _⟩ := h))) | (first | apply Z.tn | apply Z.tnr | apply Z.bkr) | (first | apply W.seq | apply W.region | apply W.block | apply W.skip | apply W.ret | (apply W.rgD tMix; kernel_rfl)))
   exact Z.bd1 Tryz.results18 rfl fun m => ⟨congrArg (Value.int IntKind.i64) (chk_5 (.inr (.inr (.inl ⟨x, hxm, .inr b3⟩)))).symm, Ext.at extA m⟩
  ·repeat' (first | (apply QL.gF; exact rfl; exact rfl; exact dFf (by omega)) | (apply W.cKT; exact rfl; (focus (exact dTt (by omega)))) | (apply W.cKF; exact rfl; exact dFf (by omega)) | (first | apply WL.nil | refine WL.au (k := ?_)) | (first | apply QL.nil | refine QL.au (k := ?_) | (apply QL.index tOk; (iterate 8 exact rfl); assumption; exact extA; exact rfl; omega; assumption; intro b off h; have hcc := h; first | (obtain ⟨h1, h2, h3, h4, h5, h6, _⟩ := h) | (obtain ⟨h1, h2, h3, _⟩ := h) | (obtain ⟨h1, h2, _⟩ := h) | (obtain ⟨h1, _⟩ := h))) | (first | apply Z.tn | apply Z.bkn) | (first | apply W.seq | apply W.region | apply W.block | apply W.skip | (apply W.rgD tMix; kernel_rfl)))
   refine Z.again1 ⟨by omega, fun y hy => ?_⟩ ⟨rfl, rfl, rfl, rfl, trivial⟩
   rcases mem_take_snoc hx hy with hy | rfl
   ·exact hq y hy
   ·omega
 obtain rfl : k = c.t.used.length := by omega
 rw [List.take_length] at hq
 repeat' (first | (apply W.cKF; exact rfl; exact dFf (by omega)) | (first | apply WL.nil | refine WL.au (k := ?_)) | (first | apply Z.tn | apply Z.tnx | apply Z.bkx) | (first | apply W.seq | apply W.region | apply W.block | apply W.exit))
 have hused := hq
 clear hq hk hlt
 refine W.loop1 c.lat.2.2.length (fun k => k <= c.lat.2.2.length /\ ∀ x ∈ c.lat.2.2.take k, x.2.2 = 0 ∨ x.2.2 = 1 ∨ x.2.2 = x.1) (fun k => [(1, .pointer (some ⟨gc, 0, none⟩)), (3, .slice ao c.t.own.length co), (4, .slice au c.t.used.length cu), (7, .int .i64 k)]) ⟨Nat.zero_le _, fun x h => by simp at h⟩ (fun k h => h.1) ⟨rfl, rfl, rfl, rfl, trivial⟩ ?_
 rintro k ⟨hk, hq⟩
 by_cases hlt : k < c.lat.2.2.length
 ·obtain ⟨x, hx⟩ := getI c.lat.2.2 hlt
  have hxm := List.mem_of_getElem? hx
  by_cases b1 : x.2.2 = 0
  ·repeat' (first | (apply WL.gF; exact rfl; exact rfl; exact dFf (fun h => h b1)) | (apply W.cKT; exact rfl; (focus (exact dTt (by omega)))) | (first | apply WL.nil | refine WL.au (k := ?_) | (apply WL.index tOk; (iterate 8 exact rfl); assumption; exact extA; exact rfl; omega; assumption; intro b off h; have hcc := h; first | (obtain ⟨h1, h2, h3, h4, h5, h6, _⟩ := h) | (obtain ⟨h1, h2, h3, _⟩ := h) | (obtain ⟨h1, h2, _⟩ := h) | (obtain ⟨h1, _⟩ := h)) | (apply WL.gdF; exact rfl; exact rfl)) | (first | apply Z.tn | apply Z.bkn) | (first | apply W.seq | apply W.region | apply W.block | apply W.skip | (apply W.condF; exact rfl)))
   refine Z.again1 ⟨by omega, fun y hy => ?_⟩ ⟨rfl, rfl, rfl, rfl, trivial⟩
   rcases mem_take_snoc hx hy with hy | rfl
   ·exact hq y hy
   ·exact .inl b1
  by_cases b2 : x.2.2 = 1
  ·repeat' (first | (apply WL.gT; exact rfl; exact rfl; (focus (exact dTt (by omega)))) | (apply WL.gF; exact rfl; exact rfl; exact dFf (fun h => h b2)) | (apply W.cKT; exact rfl; (focus (exact dTt (by omega)))) | (first | apply WL.nil | refine WL.au (k := ?_) | (apply WL.index tOk; (iterate 8 exact rfl); assumption; exact extA; exact rfl; omega; assumption; intro b off h; have hcc := h; first | (obtain ⟨h1, h2, h3, h4, h5, h6, _⟩ := h) | (obtain ⟨h1, h2, h3, _⟩ := h) | (obtain ⟨h1, h2, _⟩ := h) | (obtain ⟨h1, _⟩ := h)) | (apply WL.gdF; exact rfl; exact rfl)) | (first | apply Z.tn | apply Z.bkn) | (first | apply W.seq | apply W.region | apply W.block | apply W.skip | (apply W.condF; exact rfl)))
   refine Z.again1 ⟨by omega, fun y hy => ?_⟩ ⟨rfl, rfl, rfl, rfl, trivial⟩
   rcases mem_take_snoc hx hy with hy | rfl
   ·exact hq y hy
   ·exact .inr (.inl b2)
  by_cases b3 : x.2.2 = x.1
  ·repeat' (first | (apply WL.gT; exact rfl; exact rfl; (focus (exact dTt (by omega)))) | (apply W.cKT; exact rfl; (focus (exact dTt (by omega)))) | (apply W.cKF; exact rfl; exact dFf (fun h => h b3)) | (first | apply WL.nil | refine WL.au (k := ?_) | (apply WL.index tOk; (iterate 8 exact rfl); assumption; exact extA; exact rfl; omega; assumption; intro b off h; have hcc := h; first | (obtain ⟨h1, h2, h3, h4, h5, h6, _⟩ := h) | (obtain ⟨h1, h2, h3, _⟩ := h) | (obtain ⟨h1, h2, _⟩ := h) | (obtain ⟨h1, _⟩ := h))) | (first | apply Z.tn | apply Z.bkn) | (first | apply W.seq | apply W.region | apply W.block | apply W.skip))
   refine Z.again1 ⟨by omega, fun y hy => ?_⟩ ⟨rfl, rfl, rfl, rfl, trivial⟩
   rcases mem_take_snoc hx hy with hy | rfl
   ·exact hq y hy
   ·exact .inr (.inr b3)
  ·repeat' (first | (apply WL.gT; exact rfl; exact rfl; (focus (exact dTt (by omega)))) | (apply W.cKT; exact rfl; (focus (exact dTt (by omega)))) | (first | apply WL.nil | refine WL.au (k := ?_) | (apply WL.index tOk; (iterate 8 exact rfl); assumption; exact extA; exact rfl; omega; assumption; intro b off h; have hcc := h; first | (obtain ⟨h1, h2, h3, h4, h5, h6, _⟩ := h) | (obtain ⟨h1, h2, h3, _⟩ := h) | (obtain ⟨h1, h2, _⟩ := h) | (obtain ⟨h1, _⟩ := h))) | (first | apply Z.tn | apply Z.tnr | apply Z.bkr) | (first | apply W.seq | apply W.region | apply W.block | apply W.skip | apply W.ret))
   exact Z.bd1 Tryz.results18 rfl fun m => ⟨congrArg (Value.int IntKind.i64) (chk_5 (.inr (.inr (.inr ⟨x, hxm, b1, b2, b3⟩)))).symm, Ext.at extA m⟩
 obtain rfl : k = c.lat.2.2.length := by omega
 rw [List.take_length] at hq
 repeat' (first | (apply W.cKF; exact rfl; exact dFf (by omega)) | (first | apply WL.nil | refine WL.au (k := ?_)) | (first | apply Z.tn | apply Z.tnx | apply Z.bkx) | (first | apply W.seq | apply W.region | apply W.block | apply W.exit))
 have hres := hq
 clear hq hk hlt
 have hno5 : ¬ (BadMax c.t ∨ BadOwn c.t ∨ BadUse c.t ∨ BadRes c.t) := by
  rintro (h | ⟨x, h1, h2⟩ | ⟨x, h1, h2⟩ | ⟨x, h1, h2⟩)
  ·exact hmax h
  ·have := hown x h1; omega
  ·have := hused x h1; omega
  ·have := hres x h1; omega
 refine W.loop1 c.t.own.length (fun k => k <= c.t.own.length /\ ∀ (i : Nat) (x : Int), i < k -> c.t.own[i]? = some x -> x ∉ c.t.own.take i) (fun k => [(1, .pointer (some ⟨gc, 0, none⟩)), (3, .slice ao c.t.own.length co), (4, .slice au c.t.used.length cu), (9, .int .i64 k)]) ⟨Nat.zero_le _, fun i x h => absurd h (Nat.not_lt_zero _)⟩ (fun k h => h.1) ⟨rfl, rfl, rfl, rfl, trivial⟩ ?_
 rintro k ⟨hk, hq⟩
 by_cases hlt : k < c.t.own.length
 ·obtain ⟨x, hx⟩ := getI c.t.own hlt
  by_cases b1 : x ∈ c.t.own.take k
  ·repeat' (first | (apply W.cKT; exact rfl; (focus (exact dTt (by omega)))) | (apply QL.sliceH tOk; (iterate 7 exact rfl); assumption; exact rfl; assumption; omega; intro hR hc; (clear hR)) | (apply QL.callS (f := 53); (iterate 4 exact rfl); exact ref_Has _ _ (c.t.own.take k) x _ ((Ro.ext extA).take k)) | (first | apply WL.nil | refine WL.au (k := ?_)) | (first | apply QL.nil | refine QL.au (k := ?_) | (apply QL.index tOk; (iterate 8 exact rfl); assumption; exact extA; exact rfl; omega; assumption; intro b off h; have hcc := h; first | (obtain ⟨h1, h2, h3, h4, h5, h6, _⟩ := h) | (obtain ⟨h1, h2, h3, _⟩ := h) | (obtain ⟨h1, h2, _⟩ := h) | (obtain ⟨h1, _⟩ := h))) | (first | apply Z.tn | apply Z.tnr | apply Z.bkr) | (first | apply W.seq | apply W.region | apply W.block | apply W.skip | apply W.ret | (apply W.rgD tMix; kernel_rfl)))
   exact Z.bd1 Tryz.results18 rfl fun m => ⟨congrArg (Value.int IntKind.i64) (chk_7 hno5 ⟨k, x, hx, b1⟩).symm, Ext.at extA m⟩
  ·repeat' (first | (apply W.cKT; exact rfl; (focus (exact dTt (by omega)))) | (apply W.cKF; exact rfl; exact dFf b1) | (apply QL.sliceH tOk; (iterate 7 exact rfl); assumption; exact rfl; assumption; omega; intro hR hc; (clear hR)) | (apply QL.callS (f := 53); (iterate 4 exact rfl); exact ref_Has _ _ (c.t.own.take k) x _ ((Ro.ext extA).take k)) | (first | apply WL.nil | refine WL.au (k := ?_)) | (first | apply QL.nil | refine QL.au (k := ?_) | (apply QL.index tOk; (iterate 8 exact rfl); assumption; exact extA; exact rfl; omega; assumption; intro b off h; have hcc := h; first | (obtain ⟨h1, h2, h3, h4, h5, h6, _⟩ := h) | (obtain ⟨h1, h2, h3, _⟩ := h) | (obtain ⟨h1, h2, _⟩ := h) | (obtain ⟨h1, _⟩ := h))) | (first | apply Z.tn | apply Z.bkn) | (first | apply W.seq | apply W.region | apply W.block | apply W.skip | (apply W.rgD tMix; kernel_rfl)))
   refine Z.again1 ⟨by omega, fun i y hi hy => ?_⟩ ⟨rfl, rfl, rfl, rfl, trivial⟩
   rcases Nat.lt_succ_iff_lt_or_eq.1 hi with h | rfl
   ·exact hq i y h hy
   ·rw [hx] at hy; cases hy; exact b1
 obtain rfl : k = c.t.own.length := by omega
 repeat' (first | (apply W.cKF; exact rfl; exact dFf (by omega)) | (first | apply WL.nil | refine WL.au (k := ?_)) | (first | apply Z.tn | apply Z.tnx | apply Z.bkx) | (first | apply W.seq | apply W.region | apply W.block | apply W.exit))
 have hno7 : ¬ Twice c.t := by
  rintro ⟨i, x, h1, h2⟩
  exact hq i x (lGt h1) h1 h2
 clear hq hk hlt
 refine W.loop1 c.t.used.length (fun k => k <= c.t.used.length /\ ∀ x ∈ c.t.used.take k, 1 < x -> x - x % 2 ∈ c.t.own) (fun k => [(1, .pointer (some ⟨gc, 0, none⟩)), (3, .slice ao c.t.own.length co), (4, .slice au c.t.used.length cu), (10, .int .i64 k)]) ⟨Nat.zero_le _, fun x h => by simp at h⟩ (fun k h => h.1) ⟨rfl, rfl, rfl, rfl, trivial⟩ ?_
 rintro k ⟨hk, hq⟩
 by_cases hlt : k < c.t.used.length
 ·obtain ⟨x, hx⟩ := getI c.t.used hlt
  have hxm := List.mem_of_getElem? hx
  have hxb := hused x hxm
  by_cases r1 : 1 < x
  ·by_cases b2 : x - x % 2 ∈ c.t.own
   ·repeat' (first | (apply QL.gT; exact rfl; exact rfl; (focus (exact dTt (by omega)))) | (apply W.cKT; exact rfl; (focus (exact dTt (by omega)))) | (apply W.cKF; exact rfl; (focus ((rw [dTt b2]; rfl); done))) | (apply QL.callS (f := 53); (iterate 4 exact rfl); exact ref_Has _ _ c.t.own _ _ (Ro.ext extA)) | (first | apply WL.nil | refine WL.au (k := ?_)) | (first | apply QL.nil | refine QL.au (k := ?_) | (apply QL.index tOk; (iterate 8 exact rfl); assumption; exact extA; exact rfl; omega; assumption; intro b off h; have hcc := h; first | (obtain ⟨h1, h2, h3, h4, h5, h6, _⟩ := h) | (obtain ⟨h1, h2, h3, _⟩ := h) | (obtain ⟨h1, h2, _⟩ := h) | (obtain ⟨h1, _⟩ := h))) | (first | apply Z.tn | apply Z.bkn) | (first | apply W.seq | apply W.region | apply W.block | apply W.skip | (apply W.rgD tMix; kernel_rfl)))
    refine Z.again1 ⟨by omega, fun y hy q1 => ?_⟩ ⟨rfl, rfl, rfl, rfl, trivial⟩
    rcases mem_take_snoc hx hy with hy | rfl
    ·exact hq y hy q1
    ·exact b2
   ·repeat' (first | (apply QL.gT; exact rfl; exact rfl; (focus (exact dTt (by omega)))) | (apply W.cKT; exact rfl; (focus (first | exact dTt (by omega) | (rw [dFf b2]; rfl); done))) | (apply QL.callS (f := 53); (iterate 4 exact rfl); exact ref_Has _ _ c.t.own _ _ (Ro.ext extA)) | (first | apply WL.nil | refine WL.au (k := ?_)) | (first | apply QL.nil | refine QL.au (k := ?_) | (apply QL.index tOk; (iterate 8 exact rfl); assumption; exact extA; exact rfl; omega; assumption; intro b off h; have hcc := h; first | (obtain ⟨h1, h2, h3, h4, h5, h6, _⟩ := h) | (obtain ⟨h1, h2, h3, _⟩ := h) | (obtain ⟨h1, h2, _⟩ := h) | (obtain ⟨h1, _⟩ := h))) | (first | apply Z.tn | apply Z.tnr | apply Z.bkr) | (first | apply W.seq | apply W.region | apply W.block | apply W.skip | apply W.ret | (apply W.rgD tMix; kernel_rfl)))
    exact Z.bd1 Tryz.results18 rfl fun m => ⟨congrArg (Value.int IntKind.i64) (chk_9 hno5 hno7 ⟨x, hxm, r1, b2⟩).symm, Ext.at extA m⟩
  ·repeat' (first | (apply QL.gF; exact rfl; exact rfl; exact dFf (by omega)) | (apply W.cKT; exact rfl; (focus (exact dTt (by omega)))) | (first | apply WL.nil | refine WL.au (k := ?_)) | (first | apply QL.nil | refine QL.au (k := ?_) | (apply QL.index tOk; (iterate 8 exact rfl); assumption; exact extA; exact rfl; omega; assumption; intro b off h; have hcc := h; first | (obtain ⟨h1, h2, h3, h4, h5, h6, _⟩ := h) | (obtain ⟨h1, h2, h3, _⟩ := h) | (obtain ⟨h1, h2, _⟩ := h) | (obtain ⟨h1, _⟩ := h)) | (apply QL.gdF; exact rfl; exact rfl)) | (first | apply Z.tn | apply Z.bkn) | (first | apply W.seq | apply W.region | apply W.block | apply W.skip | (apply W.condF; exact rfl) | (apply W.rgD tMix; kernel_rfl)))
   refine Z.again1 ⟨by omega, fun y hy q1 => ?_⟩ ⟨rfl, rfl, rfl, rfl, trivial⟩
   rcases mem_take_snoc hx hy with hy | rfl
   ·exact hq y hy q1
   ·exact absurd q1 r1
 obtain rfl : k = c.t.used.length := by omega
 rw [List.take_length] at hq
 repeat' (first | (apply W.cKF; exact rfl; exact dFf (by omega)) | (first | apply WL.nil | refine WL.au (k := ?_)) | (first | apply Z.tn | apply Z.tnx | apply Z.bkx) | (first | apply W.seq | apply W.region | apply W.exit))
 have hno9 : ¬ NoneC c.t := by
  rintro ⟨x, h1, h2, h3⟩
  exact h3 (hq x h1 h2)
 have hgm : ∀ g ∈ c.gates.2.2, g.1 ∈ c.t.own /\ g.2.1 ∈ c.t.used /\ g.2.2 ∈ c.t.used := fun g hg =>
  ⟨List.mem_append.2 (.inr (List.mem_map.2 ⟨g, hg, rfl⟩)), List.mem_append.2 (.inr (List.mem_flatMap.2 ⟨g, hg, by simp⟩)), List.mem_append.2 (.inr (List.mem_flatMap.2 ⟨g, hg, by simp⟩))⟩
 have hok : gsOk c.gates.2.2 := fun g hg => by
  obtain ⟨r1, r2, r3⟩ := hgm g hg
  have := hown _ r1
  have := hused _ r2
  have := hused _ r3
  omega
 have hor : (ordL c.gates.2.2).length <= c.gates.2.2.length := (ordL_is c.gates.2.2).1.le
 have hcw : Cells w' gc 0 c.val.cells.toList := hcells.ext (show Ext wc w' from extA)
 have v6 : w'.cell? ⟨gc, 0 + 1 + 1 + 1 + 1 + 1 + 1, none⟩ = some (rowVal c.gates) := hcw.2.2.2.2.2.2.1
 repeat' (first | (show W _ _ (.region 30 _ _) _ _ _; apply W.regionGX (.fl true 3 (.fl false 0 (.fl false 4 (.fl true 5 (.br 1 (.fl true 2 (.fl true 6 .done)) .stop))))) [1, 2, 4, 5, 6] tMix; kernel_rfl) | (apply WL.call (f := 54); (iterate 4 exact rfl); exact ref11_Order c _ (Rg.ext extA) hok (by omega); rintro v' wd ⟨hxd, ad, cd, rfl, hOd⟩) | (first | (apply SX.done; intro w' hx) | (apply SX.fl0; exact rfl) | (apply SX.fl1; exact rfl; exact extA) | (apply SX.br1; exact rfl; intro w' hx)) | (first | apply FL.nilX | (apply FL.loadE tOk; (iterate 5 exact rfl); assumption) | (apply FL.loadAE tOk; (iterate 5 exact rfl); assumption; exact rfl)) | refine FL.au (k := ?_) | (apply Z.sxE; exact extA) | (first | apply WL.nil | refine WL.au (k := ?_)) | (first | apply Z.tn | apply Z.tnr) | (first | apply W.seq | apply W.region | apply W.skip | apply W.ret | (apply W.condD; exact rfl; all_goals intro _)))
 all_goals rename_i hlt9
 all_goals have hnl : (natI (ordL c.gates.2.2)).length = (ordL c.gates.2.2).length := by simp [natI]
 ·exact Z.bd1 Tryz.results18 rfl fun m => ⟨congrArg (Value.int IntKind.i64) (chk_8 hno5 hno7 hno9 (show (ordL c.gates.2.2).length < c.gates.2.2.length by omega)).symm, Ext.at extA m⟩
 ·exact Z.bd1 Tryz.results18 rfl fun m => ⟨congrArg (Value.int IntKind.i64) (chk_0 hno5 hno7 hno9 (show ¬ (ordL c.gates.2.2).length < c.gates.2.2.length by omega)).symm, Ext.at extA m⟩

theorem values_len' (n : List (Int × Int)) (ins : List Bool) : (values n ins).length = n.length + 1 := (vto_len n ins n.length (Nat.le_refl _)).1
def cnt (n : List (Int × Int)) : Nat -> Nat
 | 0 => 0
 | k + 1 => match n[k]? with | some x => if x.1 < 0 then cnt n k + 1 else cnt n k | none => cnt n k
theorem cnt_mono (n : List (Int × Int)) : ∀ {i k}, i <= k -> cnt n i <= cnt n k
  | i, 0, h => by obtain rfl : i = 0 := by omega
                  exact Nat.le_refl _
  | i, k + 1, h => by
    by_cases hik : i = k + 1
    · subst hik; exact Nat.le_refl _
    · refine Nat.le_trans (cnt_mono n (show i <= k by omega)) ?_
      rw [cnt]
      split
      · split <;> omega
      · omega
theorem cnt_in {n : List (Int × Int)} {k : Nat} {x : Int × Int} (h : n[k]? = some x) (hx : x.1 < 0) : cnt n (k + 1) = cnt n k + 1 := by rw [cnt, h]; exact if_pos hx
theorem cnt_gate {n : List (Int × Int)} {k : Nat} {x : Int × Int} (h : n[k]? = some x) (hx : ¬ x.1 < 0) : cnt n (k + 1) = cnt n k := by rw [cnt, h]; exact if_neg hx
theorem vto_cnt (n : List (Int × Int)) (ins : List Bool) : ∀ k, k <= n.length -> (vto n ins k).2 = cnt n k
 | 0, _ => rfl
 | k + 1, h => by
  obtain ⟨x, hx⟩ := getI n (show k < n.length by omega)
  rw [vto_succ ins hx, vstep]
  split
  ·rw [cnt_in hx (by assumption), <- vto_cnt n ins k (by omega)]
  ·rw [cnt_gate hx (by assumption), <- vto_cnt n ins k (by omega)]
theorem vto_pre (n : List (Int × Int)) (ins : List Bool) {j : Nat} : ∀ {k}, j <= k -> k <= n.length -> (vto n ins k).1.getD j false = (vto n ins j).1.getD j false
  | 0, h, _ => by obtain rfl : j = 0 := by omega
                  rfl
  | k + 1, h, hk => by
    by_cases hjk : j = k + 1
    · subst hjk; rfl
    · obtain ⟨x, hx⟩ := getI n (show k < n.length by omega)
      rw [<- vto_pre n ins (show j <= k by omega) (by omega), vto_succ ins hx]
      have hl := (vto_len n ins k (by omega)).1
      unfold vstep
      split <;> (simp only [List.getD]; rw [List.getElem?_append_left (by omega)])
theorem vto_val (n : List (Int × Int)) (ins : List Bool) {j k : Nat} (h : j <= k) (hk : k <= n.length) : (vto n ins k).1.getD j false = (values n ins).getD j false := by
 rw [vto_pre n ins h hk, values, vto_pre n ins (show j <= n.length by omega) (Nat.le_refl _)]
theorem vto_of (n : List (Int × Int)) (ins : List Bool) {l : Int} {k : Nat} (h : (l / 2).toNat <= k) (hk : k <= n.length) : ofL (vto n ins k).1 l = ofL (values n ins) l := by
 unfold ofL; rw [vto_val n ins h hk]
theorem values_zero (n : List (Int × Int)) (ins : List Bool) : (values n ins).getD 0 false = false := by
 rw [<- vto_val n ins (Nat.le_refl 0) (Nat.zero_le _)]; rfl
theorem values_in {n : List (Int × Int)} {k : Nat} {x : Int × Int} (ins : List Bool) (h : n[k]? = some x) (hx : x.1 < 0) : (values n ins).getD (k + 1) false = ins.getD (cnt n k) false := by
 have hk := lGt h
 have hl := (vto_len n ins k (by omega)).1
 rw [<- vto_val n ins (Nat.le_refl (k + 1)) (by omega), vto_succ ins h, vstep, if_pos hx, vto_cnt n ins k (by omega)]
 simp only [List.getD]
 rw [List.getElem?_append_right (by omega), hl]; simp
theorem values_gate {n : List (Int × Int)} (hg : GNt n) {k : Nat} {x : Int × Int} (ins : List Bool) (h : n[k]? = some x) (hx : 0 <= x.1) : (values n ins).getD (k + 1) false = (ofL (values n ins) x.1 && ofL (values n ins) x.2) := by
 have hk := lGt h
 have hl := (vto_len n ins k (by omega)).1
 have hgt := hg.gate h hx
 rw [<- vto_val n ins (Nat.le_refl (k + 1)) (by omega), vto_succ ins h, vstep, if_neg (by omega), vto_of n ins (by omega) (by omega), vto_of n ins (by omega) (by omega)]
 simp only [List.getD]
 rw [List.getElem?_append_right (by omega), hl]; simp


def Kid (n : List (Int × Int)) (u c : Nat) : Prop := ∃ k x, u = k + 1 /\ n[k]? = some x /\ 0 <= x.1 /\ (c = (x.1 / 2).toNat ∨ c = (x.2 / 2).toNat)
inductive Hang (n : List (Int × Int)) : Nat -> Nat -> Prop
 | refl (v : Nat) : Hang n v v
 | step {u c v : Nat} : Kid n u c -> Hang n c v -> Hang n u v
theorem Hang.snoc {n : List (Int × Int)} {u w c : Nat} (h : Hang n u w) : Kid n w c -> Hang n u c := by
 induction h with
 | refl v => exact fun k => .step k (.refl _)
 | step hk _ ih => exact fun k => .step hk (ih k)
theorem Kid.lt {n : List (Int × Int)} (hg : GNt n) {u c : Nat} (h : Kid n u c) : c < u := by
 obtain ⟨k, x, rfl, hx, h0, hc⟩ := h
 have := hg.gate hx h0
 omega
theorem Kid.le {n : List (Int × Int)} {u c : Nat} (h : Kid n u c) : 1 <= u /\ u <= n.length := by
 obtain ⟨k, x, rfl, hx, _⟩ := h
 have := lGt hx
 omega
theorem Hang.le {n : List (Int × Int)} (hg : GNt n) {u v : Nat} (h : Hang n u v) : v <= u := by
 induction h with
 | refl v => exact Nat.le_refl _
 | step hk _ ih => have := hk.lt hg; omega
theorem hang_cases {n : List (Int × Int)} {u v : Nat} : Hang n u v ↔ u = v ∨ ∃ c, Kid n u c /\ Hang n c v := by
 constructor
 ·intro h
  cases h with
  | refl => exact .inl rfl
  | step hk h => exact .inr ⟨_, hk, h⟩
 ·rintro (rfl | ⟨c, hk, h⟩)
  ·exact .refl _
  ·exact .step hk h
theorem hang_last {n : List (Int × Int)} {u v : Nat} (h : Hang n u v) : u = v ∨ ∃ g, Hang n u g /\ Kid n g v := by
 induction h with
 | refl v => exact .inl rfl
 | @step u c v hk hh ih =>
  right
  rcases ih with rfl | ⟨g, h1, h2⟩
  ·exact ⟨u, .refl _, hk⟩
  ·exact ⟨g, .step hk h1, h2⟩
theorem hang_node {n : List (Int × Int)} {i v : Nat} {x : Int × Int} (hx : n[i]? = some x) (hv : v <= i) : Hang n (i + 1) v ↔ 0 <= x.1 /\ (Hang n (x.1 / 2).toNat v ∨ Hang n (x.2 / 2).toNat v) := by
 rw [hang_cases]
 constructor
 ·rintro (h | ⟨c, ⟨k, y, hk, hy, h0, hc⟩, h⟩)
  ·omega
  ·obtain rfl : i = k := by omega
   rw [hx] at hy; cases hy
   rcases hc with rfl | rfl
   ·exact ⟨h0, .inl h⟩
   ·exact ⟨h0, .inr h⟩
 ·rintro ⟨h0, h | h⟩
  ·exact .inr ⟨_, ⟨i, x, rfl, hx, h0, .inl rfl⟩, h⟩
  ·exact .inr ⟨_, ⟨i, x, rfl, hx, h0, .inr rfl⟩, h⟩

def HangL (n : List (Int × Int)) (l v : Int) : Prop := 2 <= l /\ l / 2 <= n.length /\ 1 <= v /\ v <= l / 2 /\ Hang n (l / 2).toNat v.toNat

noncomputable def inH (n : List (Int × Int)) (v i : Nat) : List Bool := tab (n.length + 1) (fun u => dec (u <= i /\ Hang n u v))
theorem inH_start {n : List (Int × Int)} (hg : GNt n) (v : Nat) : (List.replicate (n.length + 1) false).set v true = inH n v v := by
 rw [tab_rep, inH]
 refine tab_set fun u hu => ?_
 by_cases h : u = v
 ·rw [if_pos h, dTt ⟨by omega, by rw [h]; exact .refl _⟩]
 ·rw [if_neg h, dFf (fun hh => by have := hh.2.le hg; omega)]
theorem inH_step {n : List (Int × Int)} {v i : Nat} {b : Bool} (h : b = dec (Hang n (i + 1) v)) : (inH n v i).set (i + 1) b = inH n v (i + 1) := by
 refine tab_set fun u hu => ?_
 by_cases hui : u = i + 1
 ·rw [if_pos hui, h, hui]; exact dCg ⟨fun h => h.2, fun h => ⟨Nat.le_refl _, h⟩⟩
 ·rw [if_neg hui]; exact dCg ⟨fun h => ⟨by omega, h.2⟩, fun h => ⟨by omega, h.2⟩⟩
theorem inH_len (n : List (Int × Int)) (v i : Nat) : (inH n v i).length = n.length + 1 := tab_len _ _
theorem inH_get {n : List (Int × Int)} {v i u : Nat} (hu : u <= i) (hi : i <= n.length) : (inH n v i)[u]? = some (dec (Hang n u v)) := by
 rw [inH, tab_get _ (by omega)]; exact congrArg some (dCg ⟨fun h => h.2, fun h => ⟨hu, h⟩⟩)

theorem ref08_Hangs (a : Option Addr) (cap : Nat) (n : List (Int × Int)) (l v : Int) (w : World) (R : Row 2 encN w a n) (hg : GNt n) (hn : n.length <= 1048576) (hl : inI64 l) :
  Pure Tryz.prog 149 [.slice a n.length cap, .int .i64 l, .int .i64 v] w (.bool (dec (HangL n l v))) := by
 unfold inI64 at hl
 by_cases hlt : l < 2
 ·refine Spec.of _ Tryz.func149 rfl Tryz.ntmps149 (by kernel_rfl) rfl ?_
  repeat' (first | (apply WL.gT; exact rfl; exact rfl; exact dTt (by omega)) | (first | apply WL.nil | refine WL.au (k := ?_) | (apply WL.gdF; exact rfl; exact rfl)) | (first | apply Z.tn | apply Z.tnr) | (first | apply W.seq | apply W.region | apply W.ret | (apply W.condT; exact rfl)))
  exact Z.bd1 Tryz.results149 rfl fun m => ⟨congrArg Value.bool (dFf (fun h => by have := h.1; omega)).symm, (Ext.refl w).at m⟩
 by_cases hbad : ¬ (l / 2 <= n.length /\ 1 <= v /\ v <= l / 2)
 ·refine Spec.of _ Tryz.func149 rfl Tryz.ntmps149 (by kernel_rfl) rfl ?_
  repeat' (first | (apply WL.gF; exact rfl; exact rfl; exact dFf (by omega)) | (first | apply WL.nil | refine WL.au (k := ?_) | (apply WL.gdF; exact rfl; exact rfl) | (apply WL.gD; exact rfl; exact rfl; all_goals intro _)) | (first | apply Z.tn | apply Z.tnr) | (first | apply W.seq | apply W.region | apply W.skip | apply W.ret | (apply W.condT; exact rfl) | (apply W.condD; exact rfl; all_goals intro _)))
  all_goals first
   | (exfalso; omega)
   | exact Z.bd1 Tryz.results149 rfl fun m => ⟨congrArg Value.bool (dFf (fun h => hbad ⟨h.2.1, h.2.2.1, h.2.2.2.1⟩)).symm, (Ext.refl w).at m⟩
 ·obtain ⟨hb1, hb2, hb3⟩ := Classical.not_not.1 hbad
  obtain ⟨v, rfl⟩ := Int.eq_ofNat_of_zero_le (show 0 <= v by omega)
  have hz0 : (List.replicate (n.length + 1) false)[v]? = some false := by rw [List.getElem?_replicate, if_pos (by omega)]
  refine Spec.of _ Tryz.func149 rfl Tryz.ntmps149 (by kernel_rfl) rfl ?_
  repeat' (first | (apply WL.gF; exact rfl; exact rfl; (focus (exact dFf (by omega)))) | (apply W.cKF; exact rfl; (focus (exact dFf (by omega)))) | (apply WL.make (w0 := w) tOk; (iterate 9 exact rfl); exact eBk; exact rfl; exact rfl; exact extA; omega; intro gb w' hO hge hx) | (first | apply WL.nil | refine WL.au (k := ?_)) | apply Z.tn | (first | apply W.seq | apply W.region | apply W.skip))
  have en : ((n.length : Int) + 1).toNat = n.length + 1 := by omega
  rw [en] at hO ⊢
  have e0l : (List.replicate (n.length + 1) false).length = n.length + 1 := List.length_replicate
  repeat' (first | (apply WL.indexO tOk; (iterate 8 exact rfl); assumption; exact extA; exact eBk; exact rfl; omega; assumption; intro gb ha hc; cases ha; have hcc := hc; first | (obtain ⟨h1, h2, h3, _⟩ := hc) | (obtain ⟨h1, h2, _⟩ := hc) | (obtain ⟨h1, _⟩ := hc)) | (apply WL.storeO tOk; (iterate 4 exact rfl); assumption; exact extA; (iterate 3 exact rfl); exact eBk; assumption; exact rfl; exact extA; intro w' hO hX' hU) | (first | apply WL.nil | refine WL.au (k := ?_)) | apply Z.tn | (first | apply W.seq | apply W.region | apply W.block))
  rw [Int.toNat_natCast, inH_start hg] at hO
  refine W.loopW ((l / 2).toNat - v) (fun k w' => k <= (l / 2).toNat - v /\ Ext w w' /\ Own 1 encB 4 w.heap.size w' (some ⟨gb, 0, none⟩) (n.length + 1) (inH n v (v + k)))
   (fun k => [(0, .slice a n.length cap), (1, .int .i64 l), (2, .int .i64 v), (7, .slice (some ⟨gb, 0, none⟩) (n.length + 1) (n.length + 1)), (8, .int .i64 ((v + k : Nat) : Int))]) ⟨by omega, hX', hO⟩ (fun k w' h => h.1) (by repeat' first | exact trivial | (refine And.intro ?_ ?_) | exact rfl | (rw [e0l]; exact rfl)) ?_
  rintro k w' ⟨hk, hx', hO'⟩
  have hil := inH_len n v (v + k)
  by_cases hlt : k < (l / 2).toNat - v
  ·obtain ⟨x, hx⟩ := getI n (show v + k < n.length by omega)
   have hnode := hang_node (v := v) hx (by omega)
   obtain ⟨zo, hzo⟩ := getI (inH n v (v + k)) (show v + k + 1 < _ by omega)
   by_cases h0 : 0 <= x.1
   ·have hgt := hg.gate hx h0
    have hA := inH_get (n := n) (v := v) (i := v + k) (u := (x.1 / 2).toNat) (by omega) (by omega)
    have hB := inH_get (n := n) (v := v) (i := v + k) (u := (x.2 / 2).toNat) (by omega) (by omega)
    repeat' (first | (apply WL.gT; exact rfl; exact rfl; (focus (exact dTt (by omega)))) | (apply W.cKT; exact rfl; (focus (exact dTt (by omega)))) | (apply WL.indexO tOk; (iterate 8 exact rfl); assumption; exact extA; exact eBk; ((focus (simp [*]; done))); omega; assumption; intro gb ha hc; cases ha; have hcc := hc; first | (obtain ⟨h1, h2, h3, _⟩ := hc) | (obtain ⟨h1, h2, _⟩ := hc) | (obtain ⟨h1, _⟩ := hc)) | (apply WL.storeO tOk; (iterate 4 exact rfl); assumption; exact extA; (iterate 3 exact rfl); exact eBk; assumption; exact rfl; exact extA; intro w' hO hX' hU) | (first | apply WL.nil | refine WL.au (k := ?_) | (apply WL.index tOk; (iterate 8 exact rfl); assumption; exact extA; exact rfl; omega; assumption; intro b off h; have hcc := h; first | (obtain ⟨h1, h2, h3, h4, h5, h6, _⟩ := h) | (obtain ⟨h1, h2, h3, _⟩ := h) | (obtain ⟨h1, h2, _⟩ := h) | (obtain ⟨h1, _⟩ := h)) | (apply WL.gdF; exact rfl; exact rfl) | (apply WL.gD; exact rfl; exact rfl; all_goals intro _)) | (first | apply Z.tn | apply Z.bkn) | (first | apply W.seq | apply W.region | apply W.block | apply W.skip))
    all_goals
     have e3 : ((v + k : Nat) + 1 : Int).toNat = v + k + 1 := by omega
     rw [e3, inH_step (by first | exact (dTt (hnode.2 ⟨h0, .inl (by assumption)⟩)).symm | exact dCg ⟨fun h => hnode.2 ⟨h0, .inr h⟩, fun h => (hnode.1 h).2.resolve_left (by assumption)⟩)] at hO
     exact Z.agW (k := k) ⟨by omega, hX', by rw [<- Nat.add_assoc]; exact hO⟩ ⟨rfl, rfl, rfl, rfl, by rw [<- Nat.add_assoc]; exact rfl, trivial⟩
   ·repeat' (first | (apply WL.gF; exact rfl; exact rfl; exact dFf (by omega)) | (apply W.cKT; exact rfl; (focus (exact dTt (by omega)))) | (apply WL.indexO tOk; (iterate 8 exact rfl); assumption; exact extA; exact eBk; ((focus (simp [*]; done))); omega; assumption; intro gb ha hc; cases ha; have hcc := hc; first | (obtain ⟨h1, h2, h3, _⟩ := hc) | (obtain ⟨h1, h2, _⟩ := hc) | (obtain ⟨h1, _⟩ := hc)) | (apply WL.storeO tOk; (iterate 4 exact rfl); assumption; exact extA; (iterate 3 exact rfl); exact eBk; assumption; exact rfl; exact extA; intro w' hO hX' hU) | (first | apply WL.nil | refine WL.au (k := ?_) | (apply WL.index tOk; (iterate 8 exact rfl); assumption; exact extA; exact rfl; omega; assumption; intro b off h; have hcc := h; first | (obtain ⟨h1, h2, h3, h4, h5, h6, _⟩ := h) | (obtain ⟨h1, h2, h3, _⟩ := h) | (obtain ⟨h1, h2, _⟩ := h) | (obtain ⟨h1, _⟩ := h)) | (apply WL.gdF; exact rfl; exact rfl)) | (first | apply Z.tn | apply Z.bkn) | (first | apply W.seq | apply W.region | apply W.block | apply W.skip))
    have e3 : ((v + k : Nat) + 1 : Int).toNat = v + k + 1 := by omega
    rw [e3, inH_step (dFf (fun h => h0 (hnode.1 h).1)).symm] at hO
    exact Z.agW (k := k) ⟨by omega, hX', by rw [<- Nat.add_assoc]; exact hO⟩ ⟨rfl, rfl, rfl, rfl, by rw [<- Nat.add_assoc]; exact rfl, trivial⟩
  ·have hfin := inH_get (n := n) (v := v) (i := v + k) (u := (l / 2).toNat) (by omega) (by omega)
   repeat' (first | (apply W.cKF; exact rfl; exact dFf (by omega)) | (apply WL.indexO tOk; (iterate 8 exact rfl); assumption; exact extA; exact eBk; ((focus (simp [*]; done))); omega; assumption; intro gb ha hc; cases ha; have hcc := hc; first | (obtain ⟨h1, h2, h3, _⟩ := hc) | (obtain ⟨h1, h2, _⟩ := hc) | (obtain ⟨h1, _⟩ := hc)) | (first | apply WL.nil | refine WL.au (k := ?_)) | (first | apply Z.tn | apply Z.tnx | apply Z.bkx) | (first | apply W.seq | apply W.region | apply W.ret | apply W.exit))
   exact Z.bd1 Tryz.results149 rfl fun m => ⟨congrArg Value.bool (dCg ⟨fun h => ⟨by omega, hb1, hb2, hb3, by simpa using h⟩, fun h => by simpa using h.2.2.2.2⟩), hx'.at m⟩

noncomputable def sel (m : Nat) (p : Nat -> Prop) : List Int := ((List.range m).filter (fun u => dec (p u))).map (fun u => ((u : Nat) : Int))
theorem sel_yes {m : Nat} {p : Nat -> Prop} (h : p m) : sel (m + 1) p = sel m p ++ [(m : Int)] := by simp [sel, List.range_succ, dTt h]
theorem sel_no {m : Nat} {p : Nat -> Prop} (h : ¬ p m) : sel (m + 1) p = sel m p := by simp [sel, List.range_succ, dFf h]
theorem sel_zero (p : Nat -> Prop) : sel 0 p = [] := rfl
theorem sel_le (m : Nat) (p : Nat -> Prop) : (sel m p).length <= m := by
 rw [sel, List.length_map]; exact Nat.le_trans (List.length_filter_le _ _) (by simp)
theorem sel_congr {m : Nat} {p q : Nat -> Prop} (h : ∀ u, u < m -> (p u ↔ q u)) : sel m p = sel m q := by
 unfold sel; congr 1
 exact List.filter_congr (fun u hu => dCg (h u (List.mem_range.1 hu)))
theorem sel_mem {m : Nat} {p : Nat -> Prop} {v : Int} : v ∈ sel m p ↔ ∃ u : Nat, v = u /\ u < m /\ p u := by
 simp only [sel, List.mem_map, List.mem_filter, List.mem_range]
 constructor
 ·rintro ⟨u, ⟨h1, h2⟩, rfl⟩; exact ⟨u, rfl, h1, of_dec h2⟩
 ·rintro ⟨u, rfl, h1, h2⟩; exact ⟨u, ⟨h1, dTt h2⟩, rfl⟩
theorem sel_filter (m : Nat) (p : Nat -> Prop) (q : Int -> Prop) : (sel m p).filter (fun v => dec (q v)) = sel m (fun u => p u /\ q u) := by
 induction m with
 | zero => rfl
 | succ m ih =>
  by_cases hp : p m
  ·rw [sel_yes hp, List.filter_append, ih]
   by_cases hq : q m
   ·rw [sel_yes (p := fun u : Nat => p u /\ q (u : Int)) ⟨hp, hq⟩]; simp [dTt hq]
   ·rw [sel_no (p := fun u : Nat => p u /\ q (u : Int)) (fun h => hq h.2)]; simp [dFf hq]
  ·rw [sel_no hp, ih, sel_no (p := fun u : Nat => p u /\ q (u : Int)) (fun h => hp h.1)]

def OfP (n : List (Int × Int)) (l : List Int) (v : Nat) : Prop := 1 <= v /\ ∃ x ∈ l, HangL n x v
noncomputable def onL (n : List (Int × Int)) (l : List Int) : List Int := sel (n.length + 1) (OfP n l)

theorem take_ex {α : Type} {l : List α} {k : Nat} {x : α} {p : α -> Prop} (hx : l[k]? = some x) : (∃ y ∈ l.take (k + 1), p y) ↔ (∃ y ∈ l.take k, p y) ∨ p x := by
 rw [tkS hx]
 constructor
 ·rintro ⟨y, hy, h⟩
  rcases List.mem_append.1 hy with hy | hy
  ·exact .inl ⟨y, hy, h⟩
  ·rw [List.mem_singleton.1 hy] at h; exact .inr h
 ·rintro (⟨y, hy, h⟩ | h)
  ·exact ⟨y, List.mem_append_left _ hy, h⟩
  ·exact ⟨x, by simp, h⟩

theorem ref08_Of (a b : Option Addr) (cap cb : Nat) (n : List (Int × Int)) (l : List Int) (w : World) (R : Row 2 encN w a n) (Rb : Row 1 encI w b l) (hg : GNt n) (hn : n.length <= 1048576) (hl : ∀ x ∈ l, inI64 x) :
  Lt.Spec Tryz.prog 96 [.slice a n.length cap, .slice b l.length cb] w (IsFresh 1 encI 3 w (onL n l)) := by
 have hlen := Rb.len
 refine Spec.of _ Tryz.func96 rfl Tryz.ntmps96 (by kernel_rfl) rfl ?_
 repeat' (first | (apply WL.lit (len := 0) tOk; (iterate 6 exact rfl); kernel_rfl; exact rfl; intro gb w' hb hge hc hx; have hO0 := Own.ofB0 (enc := encI) (s := 1) hb hge) | (first | apply WL.nil | refine WL.au (k := ?_)) | apply Z.tn | (first | apply W.seq | apply W.region | apply W.block))
 have h00 : sel 1 (OfP n l) = [] := by rw [sel_no (fun h => by have := h.1; omega)]; rfl
 refine W.loopO n.length (fun k c cp w' => k <= n.length /\ Ext w w' /\ Own 1 encI 3 w.heap.size w' c cp (sel (k + 1) (OfP n l)))
  (fun k c cp => [(0, .slice a n.length cap), (1, .slice b l.length cb), (5, .slice c (sel (k + 1) (OfP n l)).length cp), (6, .int .i64 ((k + 1 : Nat) : Int))]) (some ⟨gb, 0, none⟩) 0 ⟨by omega, hx, by rw [h00]; exact hO0⟩ (fun k c cp w' h => h.1) (by repeat' first | exact trivial | (refine And.intro ?_ ?_) | exact rfl | (rw [h00]; exact rfl)) ?_
 rintro k c cp w' ⟨hk, hx', hO'⟩
 have hsl := sel_le (k + 1) (OfP n l)
 by_cases hlt : k < n.length
 ·repeat' (first | (apply W.cKT; exact rfl; exact dTt (by omega)) | (first | apply WL.nil | refine WL.au (k := ?_)) | apply Z.tn | (first | apply W.seq | apply W.region | apply W.block | apply W.skip))
  refine W.loopW l.length (fun i w'' => i <= l.length /\ Ext w' w'')
   (fun i => [(0, .slice a n.length cap), (1, .slice b l.length cb), (5, .slice c (sel (k + 1) (OfP n l)).length cp), (6, .int .i64 ((k + 1 : Nat) : Int)), (7, .bool (dec (∃ x ∈ l.take i, HangL n x ((k + 1 : Nat) : Int)))), (8, .int .i64 i)]) ⟨by omega, Ext.refl _⟩ (fun k w' h => h.1) ⟨rfl, rfl, rfl, rfl, by rw [dFf (p := ∃ x ∈ l.take 0, HangL n x ((k + 1 : Nat) : Int)) (by simp)]; rfl, rfl, trivial⟩ ?_
  rintro i w2 ⟨hi, hx2⟩
  have R2 := R.ext (hx'.trans hx2)
  have Rb2 := Rb.ext (hx'.trans hx2)
  by_cases hdone : ∃ x ∈ l.take i, HangL n x ((k + 1 : Nat) : Int)
  ·have hyes : OfP n l (k + 1) := by
    obtain ⟨x, hx, h⟩ := hdone
    exact ⟨by omega, x, List.mem_of_mem_take hx, h⟩
   have e1 := sel_yes hyes
   repeat' (first | (apply W.cKT; exact rfl; (focus (exact dTt hdone))) | (apply W.cKF; exact rfl; (focus ((rw [dTt hdone]; rfl); done))) | (apply WL.lit tOk; (iterate 6 exact rfl); kernel_rfl; exact rfl; intro gb w' hb hge hc hx) | (apply WL.ap1 (z := ((k + 1 : Nat) : Int)) tOk eIk; (iterate 10 exact rfl); exact hO'; exact extA; exact rfl; assumption; exact rfl; exact rfl; exact extA; omega; intro a' cap' w' hO hX' hU hF) | (first | apply WL.nil | refine WL.au (k := ?_) | (apply WL.gdF; exact rfl; exact rfl) | (apply WL.gD; exact rfl; exact rfl; all_goals intro _)) | (first | apply Z.tn | apply Z.bkn | apply Z.tnx | apply Z.bkx) | (first | apply W.seq | apply W.region | apply W.exit | (apply W.condF; exact rfl)))
   all_goals exact Z.agO a' cap' ⟨by omega, hX', by rw [e1]; exact hO⟩ (by repeat' first | exact trivial | (refine And.intro ?_ ?_) | exact rfl | (rw [e1]; exact rfl))
  ·by_cases hit : i < l.length
   ·obtain ⟨x, hx⟩ := getI l hit
    have hxr := hl x (List.mem_of_getElem? hx)
    have e2 := take_ex (p := fun x => HangL n x ((k + 1 : Nat) : Int)) hx
    repeat' (first | (apply WL.gT; exact rfl; exact rfl; (focus (exact dTt (by omega)))) | (apply W.cKT; exact rfl; (focus ((rw [dFf hdone]; rfl); done))) | (apply WL.callP (f := 149); (iterate 4 exact rfl); exact ref08_Hangs _ _ _ _ _ _ R2 hg hn hxr; intro w' hx) | (first | apply WL.nil | refine WL.au (k := ?_) | (apply WL.index tOk; (iterate 8 exact rfl); assumption; exact extA; exact rfl; omega; assumption; intro b off h; have hcc := h; first | (obtain ⟨h1, h2, h3, h4, h5, h6, _⟩ := h) | (obtain ⟨h1, h2, h3, _⟩ := h) | (obtain ⟨h1, h2, _⟩ := h) | (obtain ⟨h1, _⟩ := h))) | (first | apply Z.tn | apply Z.bkn) | (first | apply W.seq | apply W.region | apply W.block | apply W.skip))
    exact Z.agW ⟨by omega, hx2.trans (by assumption)⟩ ⟨rfl, rfl, rfl, rfl, by rw [dCg (e2.trans ⟨fun h => h.resolve_left hdone, .inr⟩)]; rfl, rfl, trivial⟩
   ·have hno : ¬ OfP n l (k + 1) := fun ⟨_, h⟩ => hdone (by rw [List.take_of_length_le (by omega)]; exact h)
    have e1 := sel_no hno
    repeat' (first | (apply WL.gF; exact rfl; exact rfl; (focus (exact dFf (by omega)))) | (apply W.cKF; exact rfl; (focus (exact dFf (by omega)))) | (first | apply WL.nil | refine WL.au (k := ?_) | (apply WL.gdF; exact rfl; exact rfl)) | (first | apply Z.tn | apply Z.bkn | apply Z.tnx | apply Z.bkx) | (first | apply W.seq | apply W.region | apply W.skip | apply W.exit | (apply W.condF; exact rfl)))
    exact Z.agO c cp ⟨by omega, hx'.trans hx2, by rw [e1]; exact hO'.ext hx2⟩ (by repeat' first | exact trivial | (refine And.intro ?_ ?_) | exact rfl | (rw [e1]; exact rfl))
 ·repeat' (first | (apply W.cKF; exact rfl; exact dFf (by omega)) | (first | apply WL.nil | refine WL.au (k := ?_)) | (first | apply Z.tn | apply Z.tnx | apply Z.bkx) | (first | apply W.seq | apply W.region | apply W.ret | apply W.exit))
  obtain rfl : k = n.length := by omega
  exact Z.bd1 Tryz.results96 rfl fun m => ⟨hx'.at m, c, cp, rfl, hO'⟩

def InP (n : List (Int × Int)) (v : Nat) : Prop := ∃ x, n[v - 1]? = some x /\ x.1 < 0
noncomputable def supL (n : List (Int × Int)) (l : List Int) : List Int := sel (n.length + 1) (fun v => OfP n l v /\ InP n v)
theorem filter_take {α : Type} {l : List α} {k : Nat} {x : α} (q : α -> Bool) (hx : l[k]? = some x) : (l.take (k + 1)).filter q = (l.take k).filter q ++ (if q x then [x] else []) := by
 rw [tkS hx, List.filter_append]; simp [List.filter_cons]
noncomputable def inQ (n : List (Int × Int)) (v : Int) : Bool := dec (InP n v.toNat)
theorem sup_eq (n : List (Int × Int)) (l : List Int) : (onL n l).filter (inQ n) = supL n l := sel_filter (n.length + 1) (OfP n l) (fun v : Int => InP n v.toNat)
theorem of_mem {n : List (Int × Int)} {l : List Int} {v : Int} (h : v ∈ onL n l) : 1 <= v /\ v <= n.length := by
 obtain ⟨u, rfl, h1, h2⟩ := sel_mem.1 h
 have := h2.1
 omega

theorem ref08_Support (a b : Option Addr) (cap cb : Nat) (n : List (Int × Int)) (l : List Int) (w : World) (R : Row 2 encN w a n) (Rb : Row 1 encI w b l) (hg : GNt n) (hn : n.length <= 1048576) (hl : ∀ x ∈ l, inI64 x) :
  Lt.Spec Tryz.prog 91 [.slice a n.length cap, .slice b l.length cb] w (IsFresh 1 encI 3 w (supL n l)) := by
 have hol : (onL n l).length <= n.length + 1 := sel_le _ _
 refine Spec.of _ Tryz.func91 rfl Tryz.ntmps91 (by kernel_rfl) rfl ?_
 repeat' (first | (apply WL.lit (len := 0) tOk; (iterate 6 exact rfl); kernel_rfl; exact rfl; intro gb w' hb hge hc hx; have hO0 := Own.ofB0 (enc := encI) (s := 1) hb hge) | (first | apply WL.nil | refine WL.au (k := ?_)) | apply Z.tn | (first | apply W.seq | apply W.region))
 obtain ⟨g0, rfl⟩ : ∃ x, x = gb := ⟨_, rfl⟩; obtain ⟨w1, rfl⟩ : ∃ x, x = w' := ⟨_, rfl⟩
 have R1 := R.ext hx
 have Rb1 := Rb.ext hx
 have hx1 := hx
 repeat' (first | (apply WL.call (f := 96); (iterate 4 exact rfl); exact ref08_Of _ _ _ _ _ l _ R1 Rb1 hg hn hl; rintro v' w' ⟨hx, a', cap', rfl, hO⟩) | (first | apply WL.nil | refine WL.au (k := ?_)) | apply Z.tn | (first | apply W.seq | apply W.region | apply W.block))
 obtain ⟨ao, rfl⟩ : ∃ x, x = a' := ⟨_, rfl⟩; obtain ⟨co, rfl⟩ : ∃ x, x = cap' := ⟨_, rfl⟩; obtain ⟨w2, rfl⟩ : ∃ x, x = w' := ⟨_, rfl⟩
 have hx2 := hx1.trans hx
 have hO1 := hO0.ext hx
 have hne := hO.newer (o := 0) (heap_lt hb)
 refine W.loopO (onL n l).length (fun k c cp w' => k <= (onL n l).length /\ Ext w w' /\ Own 1 encI 3 w.heap.size w' c cp (((onL n l).take k).filter (inQ n)) /\ Own 1 encI 3 w1.heap.size w' ao co (onL n l) /\ (blk ao = none ∨ blk ao ≠ blk c))
  (fun k c cp => [(0, .slice a n.length cap), (1, .slice b l.length cb), (5, .slice c (((onL n l).take k).filter (inQ n)).length cp), (6, .slice ao (onL n l).length co), (7, .int .i64 k)]) (some ⟨g0, 0, none⟩) 0 ⟨by omega, hx2, hO1, hO, hne⟩ (fun k c cp w' h => h.1) ⟨rfl, rfl, rfl, rfl, rfl, trivial⟩ ?_
 clear hO hne hO1 hO0 hx hx1 R1 Rb1
 rintro k c cp w' ⟨hk, hx', hO', hOn, hne⟩
 have hOf := Own.row eIk hOn
 have hfl : (((onL n l).take k).filter (inQ n)).length <= n.length + 1 := Nat.le_trans (List.length_filter_le _ _) (by rw [List.length_take]; omega)
 by_cases hlt : k < (onL n l).length
 ·obtain ⟨v, hv⟩ := getI (onL n l) hlt
  have hvr := of_mem (List.mem_of_getElem? hv)
  obtain ⟨x, hxn⟩ := getI n (show (v - 1).toNat < n.length by omega)
  have e1 := filter_take (inQ n) hv
  have hq : inQ n v = dec (x.1 < 0) := dCg ⟨fun ⟨y, hy, h⟩ => by rw [show v.toNat - 1 = (v - 1).toNat by omega, hxn] at hy; cases hy; exact h, fun h => ⟨x, by rw [show v.toNat - 1 = (v - 1).toNat by omega]; exact hxn, h⟩⟩
  by_cases hin : x.1 < 0
  ·rw [hq, dTt hin, if_pos rfl] at e1
   repeat' (first | (apply W.cKT; exact rfl; exact dTt (by omega)) | (apply WL.lit tOk; (iterate 6 exact rfl); kernel_rfl; exact rfl; intro gb w' hb hge hc hx) | (apply WL.ap1 tOk eIk; (iterate 10 exact rfl); assumption; exact extA; exact rfl; assumption; exact rfl; exact rfl; exact extA; omega; intro a' cap' w' hO hX' hU hF) | (first | apply WL.nil | refine WL.au (k := ?_) | (apply WL.index tOk; (iterate 8 exact rfl); assumption; exact extA; exact rfl; omega; assumption; intro b off h; have hcc := h; first | (obtain ⟨h1, h2, h3, h4, h5, h6, _⟩ := h) | (obtain ⟨h1, h2, h3, _⟩ := h) | (obtain ⟨h1, h2, _⟩ := h) | (obtain ⟨h1, _⟩ := h))) | (first | apply Z.tn | apply Z.bkn) | (first | apply W.seq | apply W.region | apply W.block | apply W.skip))
   obtain ⟨hOn', hne'⟩ := hU.apart hF (hOn.ext hx) hne
   exact Z.agO a' cap' ⟨by omega, hX', by rw [e1]; exact hO, hOn', hne'⟩ (by repeat' first | exact trivial | (refine And.intro ?_ ?_) | exact rfl | (rw [e1]; exact rfl))
  ·rw [hq, dFf hin, if_neg (by decide), List.append_nil] at e1
   repeat' (first | (apply W.cKT; exact rfl; (focus (exact dTt (by omega)))) | (apply W.cKF; exact rfl; exact dFf (by omega)) | (first | apply WL.nil | refine WL.au (k := ?_) | (apply WL.index tOk; (iterate 8 exact rfl); assumption; exact extA; exact rfl; omega; assumption; intro b off h; have hcc := h; first | (obtain ⟨h1, h2, h3, h4, h5, h6, _⟩ := h) | (obtain ⟨h1, h2, h3, _⟩ := h) | (obtain ⟨h1, h2, _⟩ := h) | (obtain ⟨h1, _⟩ := h))) | (first | apply Z.tn | apply Z.bkn) | (first | apply W.seq | apply W.region | apply W.block | apply W.skip))
   exact Z.agO c cp ⟨by omega, hx', by rw [e1]; exact hO', hOn, hne⟩ (by repeat' first | exact trivial | (refine And.intro ?_ ?_) | exact rfl | (rw [e1]; exact rfl))
 ·repeat' (first | (apply W.cKF; exact rfl; exact dFf (by omega)) | (first | apply WL.nil | refine WL.au (k := ?_)) | (first | apply Z.tn | apply Z.tnx | apply Z.bkx) | (first | apply W.seq | apply W.region | apply W.ret | apply W.exit))
  obtain rfl : k = (onL n l).length := by omega
  rw [List.take_length, sup_eq] at hO'
  exact Z.bd1 Tryz.results91 rfl fun m => ⟨hx'.at m, c, cp, by rw [List.take_length, sup_eq], hO'⟩

def rootL (n : List (Int × Int)) (x : Int) : Prop := 1 < x /\ x / 2 <= n.length
theorem known_yes (a : Option Addr) (cap : Nat) (n : List (Int × Int)) (x : Int) (w : World) (h : rootL n x) (hx : inI64 x) : Still Tryz.prog 160 [.slice a n.length cap, .int .i64 x] w (.tuple #[.int .i64 (x / 2), .bool true]) := by
 unfold inI64 at hx
 have h1 := h.1
 have h2 := h.2
 refine Spec.of _ Tryz.func160 rfl Tryz.ntmps160 (by kernel_rfl) rfl ?_
 repeat' (first | (apply WL.gT; exact rfl; exact rfl; exact dTt (by omega)) | (first | apply WL.nil | refine WL.au (k := ?_)) | apply Z.tn | (first | apply W.seq | apply W.region | apply W.ret))
 exact Z.body2 Tryz.results160 rfl rfl fun m => ⟨by rw [dTt (show x / 2 <= (n.length : Int) from h2)], m, rfl⟩
theorem known_no (a : Option Addr) (cap : Nat) (n : List (Int × Int)) (x : Int) (w : World) (h : ¬ rootL n x) (hx : inI64 x) : Still Tryz.prog 160 [.slice a n.length cap, .int .i64 x] w (.tuple #[.int .i64 (x.tdiv 2), .bool false]) := by
 have hx' := hx
 unfold inI64 at hx
 by_cases h1 : 1 < x
 ·have h2 : ¬ x / 2 <= (n.length : Int) := fun hh => h ⟨h1, hh⟩
  refine Spec.of _ Tryz.func160 rfl Tryz.ntmps160 (by kernel_rfl) rfl ?_
  repeat' (first | (apply WL.gT; exact rfl; exact rfl; exact dTt (by omega)) | (first | apply WL.nil | refine WL.au (k := ?_)) | apply Z.tn | (first | apply W.seq | apply W.region | apply W.ret))
  exact Z.body2 Tryz.results160 rfl rfl fun m => ⟨by rw [dFf h2, Int.tdiv_eq_ediv_of_nonneg (by omega)], m, rfl⟩
 ·refine Spec.of _ Tryz.func160 rfl Tryz.ntmps160 (by kernel_rfl) rfl ?_
  repeat' (first | (apply WL.quow; (iterate 4 exact rfl); exact ⟨hx', by omega⟩) | (apply WL.gF; exact rfl; exact rfl; exact dFf (by omega)) | (first | apply WL.nil | refine WL.au (k := ?_) | (apply WL.gdF; exact rfl; exact rfl)) | apply Z.tn | (first | apply W.seq | apply W.region | apply W.ret))
  exact Z.body2 Tryz.results160 rfl rfl fun m => ⟨rfl, m, rfl⟩

def MarkP (n : List (Int × Int)) (l : List Int) (t u : Nat) : Prop := ∃ x ∈ l, rootL n x /\ ((x / 2).toNat = u ∨ ∃ g, t < g /\ Hang n (x / 2).toNat g /\ Kid n g u)
noncomputable def markTo (n : List (Int × Int)) (l : List Int) (t : Nat) : List Bool := tab (n.length + 1) (fun u => dec (MarkP n l t u))
noncomputable def rootTo (n : List (Int × Int)) (l : List Int) (k : Nat) : List Bool := tab (n.length + 1) (fun u => dec (∃ x ∈ l.take k, rootL n x /\ (x / 2).toNat = u))
theorem rootTo_yes {n : List (Int × Int)} {l : List Int} {k : Nat} {x : Int} (hx : l[k]? = some x) (h : rootL n x) : (rootTo n l k).set (x / 2).toNat true = rootTo n l (k + 1) := by
 refine tab_set fun u hu => ?_
 have e := take_ex (p := fun x => rootL n x /\ (x / 2).toNat = u) hx
 by_cases hux : u = (x / 2).toNat
 ·rw [if_pos hux, dTt (e.2 (.inr ⟨h, hux.symm⟩))]
 ·rw [if_neg hux]; exact dCg (e.trans ⟨fun h => h.resolve_right (fun hh => hux hh.2.symm), .inl⟩)
theorem rootTo_no {n : List (Int × Int)} {l : List Int} {k : Nat} {x : Int} (hx : l[k]? = some x) (h : ¬ rootL n x) : rootTo n l (k + 1) = rootTo n l k :=
 tab_congr fun u hu => dCg ((take_ex (p := fun x => rootL n x /\ (x / 2).toNat = u) hx).trans ⟨fun h' => h'.resolve_right (fun hh => h hh.1), .inl⟩)
theorem rootTo_mark (n : List (Int × Int)) (l : List Int) : rootTo n l l.length = markTo n l n.length := by
 refine tab_congr fun u hu => dCg ?_
 rw [List.take_length]
 constructor
 ·rintro ⟨x, hx, h1, h2⟩; exact ⟨x, hx, h1, .inl h2⟩
 ·rintro ⟨x, hx, h1, h2 | ⟨g, hg, _, hk⟩⟩
  ·exact ⟨x, hx, h1, h2⟩
  ·have := hk.le; omega
theorem rootTo_len (n : List (Int × Int)) (l : List Int) (k : Nat) : (rootTo n l k).length = n.length + 1 := tab_len _ _
theorem markTo_len (n : List (Int × Int)) (l : List Int) (k : Nat) : (markTo n l k).length = n.length + 1 := tab_len _ _

theorem mark_at {n : List (Int × Int)} (hg : GNt n) (l : List Int) (t : Nat) : MarkP n l t t ↔ ∃ x ∈ l, rootL n x /\ Hang n (x / 2).toNat t := by
 constructor
 ·rintro ⟨x, hx, h1, rfl | ⟨g, hgt, h2, hk⟩⟩
  ·exact ⟨x, hx, h1, .refl _⟩
  ·exact ⟨x, hx, h1, h2.snoc hk⟩
 ·rintro ⟨x, hx, h1, h2⟩
  rcases hang_last h2 with h3 | ⟨g, h3, hk⟩
  ·exact ⟨x, hx, h1, .inl h3⟩
  ·exact ⟨x, hx, h1, .inr ⟨g, hk.lt hg, h3, hk⟩⟩
theorem mark_succ {n : List (Int × Int)} (hg : GNt n) (l : List Int) (t u : Nat) : MarkP n l t u ↔ MarkP n l (t + 1) u ∨ (MarkP n l (t + 1) (t + 1) /\ Kid n (t + 1) u) := by
 constructor
 ·rintro ⟨x, hx, h1, h2 | ⟨g, hgt, h2, hk⟩⟩
  ·exact .inl ⟨x, hx, h1, .inl h2⟩
  ·by_cases hgt' : g = t + 1
   ·subst hgt'
    exact .inr ⟨(mark_at hg l _).2 ⟨x, hx, h1, h2⟩, hk⟩
   ·exact .inl ⟨x, hx, h1, .inr ⟨g, by omega, h2, hk⟩⟩
 ·rintro (⟨x, hx, h1, h2 | ⟨g, hgt, h2, hk⟩⟩ | ⟨h1, hk⟩)
  ·exact ⟨x, hx, h1, .inl h2⟩
  ·exact ⟨x, hx, h1, .inr ⟨g, by omega, h2, hk⟩⟩
  ·obtain ⟨x, hx, h2, h3⟩ := (mark_at hg l _).1 h1
   exact ⟨x, hx, h2, .inr ⟨t + 1, by omega, h3, hk⟩⟩
theorem kid_node {n : List (Int × Int)} {k : Nat} {x : Int × Int} (hx : n[k]? = some x) (u : Nat) : Kid n (k + 1) u ↔ 0 <= x.1 /\ (u = (x.1 / 2).toNat ∨ u = (x.2 / 2).toNat) := by
 constructor
 ·rintro ⟨q, y, hq, hy, h⟩
  obtain rfl : k = q := by omega
  rw [hx] at hy; cases hy
  exact h
 ·intro h; exact ⟨k, x, rfl, hx, h⟩
theorem markTo_skip {n : List (Int × Int)} (hg : GNt n) {l : List Int} {t : Nat} {x : Int × Int} (hx : n[t]? = some x) (h : ¬ (MarkP n l (t + 1) (t + 1) /\ 0 <= x.1)) : markTo n l t = markTo n l (t + 1) :=
 tab_congr fun u hu => dCg ((mark_succ hg l t u).trans ⟨fun h' => h'.resolve_right (fun hh => h ⟨hh.1, ((kid_node hx u).1 hh.2).1⟩), .inl⟩)
theorem markTo_two {n : List (Int × Int)} (hg : GNt n) {l : List Int} {t : Nat} {x : Int × Int} (hx : n[t]? = some x) (h : MarkP n l (t + 1) (t + 1)) (h0 : 0 <= x.1) :
  ((markTo n l (t + 1)).set (x.1 / 2).toNat true).set (x.2 / 2).toNat true = markTo n l t := by
 have e1 : (markTo n l (t + 1)).set (x.1 / 2).toNat true = tab (n.length + 1) (fun u => if u = (x.1 / 2).toNat then true else dec (MarkP n l (t + 1) u)) := tab_set fun u hu => rfl
 rw [e1]
 refine tab_set fun u hu => ?_
 have e := mark_succ hg l t u
 have hk := kid_node hx u
 by_cases h2 : u = (x.2 / 2).toNat
 ·rw [if_pos h2, dTt (e.2 (.inr ⟨h, hk.2 ⟨h0, .inr h2⟩⟩))]
 ·rw [if_neg h2]
  by_cases h1 : u = (x.1 / 2).toNat
  ·rw [if_pos h1, dTt (e.2 (.inr ⟨h, hk.2 ⟨h0, .inl h1⟩⟩))]
  ·rw [if_neg h1]
   exact dCg (e.trans ⟨fun h' => h'.resolve_right (fun hh => by rcases (hk.1 hh.2).2 with h3 | h3 <;> contradiction), .inl⟩)

noncomputable def markL (n : List (Int × Int)) (l : List Int) : List Bool := tab (n.length + 1) (fun u => dec (OfP n l u))
theorem mark_zero {n : List (Int × Int)} (hg : GNt n) (l : List Int) : (markTo n l 0).set 0 false = markL n l := by
 refine tab_set fun u hu => ?_
 by_cases h : u = 0
 ·rw [if_pos h]; exact dFf (fun hh => by have := hh.1; omega)
 ·rw [if_neg h]
  refine dCg ?_
  constructor
  ·rintro ⟨h1, x, hx, h2, h3, _, _, h4⟩
   rcases hang_last h4 with h5 | ⟨g, h5, hk⟩
   ·exact ⟨x, hx, ⟨by omega, h3⟩, .inl (by simpa using h5)⟩
   ·exact ⟨x, hx, ⟨by omega, h3⟩, .inr ⟨g, by have := hk.le; omega, h5, by simpa using hk⟩⟩
  ·rintro ⟨x, hx, ⟨h1, h2⟩, h3⟩
   have h4 : Hang n (x / 2).toNat u := by
    rcases h3 with h3 | ⟨g, _, h3, hk⟩
    ·rw [h3]; exact .refl _
    ·exact h3.snoc hk
   have := h4.le hg
   exact ⟨by omega, x, hx, by omega, h2, by omega, by omega, by simpa using h4⟩

theorem cone_marked (a b : Option Addr) (cap cb : Nat) (n : List (Int × Int)) (l : List Int) (w : World) (R : Row 2 encN w a n) (Rb : Row 1 encI w b l) (hg : GNt n) (hn : n.length <= 1048576) (hl : ∀ x ∈ l, inI64 x) :
  Lt.Spec Tryz.prog 133 [.slice a n.length cap, .slice b l.length cb] w (IsFresh 1 encB 4 w (markL n l)) := by
 have hlen := Rb.len
 refine Spec.of _ Tryz.func133 rfl Tryz.ntmps133 (by kernel_rfl) rfl ?_
 repeat' (first | (apply WL.make (w0 := w) tOk; (iterate 9 exact rfl); exact eBk; exact rfl; exact rfl; exact extA; omega; intro gb w' hO hge hx) | (first | apply WL.nil | refine WL.au (k := ?_)) | apply Z.tn | (first | apply W.seq | apply W.region | apply W.block))
 have en : ((n.length : Int) + 1).toNat = n.length + 1 := by omega
 rw [en] at hO ⊢
 have e0l : (List.replicate (n.length + 1) false).length = n.length + 1 := List.length_replicate
 have e0 : List.replicate (n.length + 1) false = rootTo n l 0 := by
  rw [tab_rep]; exact tab_congr fun u hu => (dFf (p := ∃ x ∈ l.take 0, rootL n x /\ (x / 2).toNat = u) (by simp)).symm
 rw [e0] at hO
 obtain ⟨g0, rfl⟩ : ∃ x, x = gb := ⟨_, rfl⟩
 refine W.loopW l.length (fun k w' => k <= l.length /\ Ext w w' /\ Own 1 encB 4 w.heap.size w' (some ⟨g0, 0, none⟩) (n.length + 1) (rootTo n l k))
  (fun k => [(0, .slice a n.length cap), (1, .slice b l.length cb), (5, .slice (some ⟨g0, 0, none⟩) (n.length + 1) (n.length + 1)), (16, .slice b l.length cb), (17, .int .i64 l.length), (18, .int .i64 k)]) ⟨by omega, hx, hO⟩ (fun k w' h => h.1) (by repeat' first | exact trivial | (refine And.intro ?_ ?_) | exact rfl | (rw [e0l]; exact rfl)) ?_
 rintro k w' ⟨hk, hx', hO'⟩
 have hrl := rootTo_len n l k
 by_cases hlt : k < l.length
 ·obtain ⟨x, hxl⟩ := getI l hlt
  have hxr := hl x (List.mem_of_getElem? hxl)
  by_cases hr : rootL n x
  ·have hr2 := hr.2
   have hr1 := hr.1
   obtain ⟨z, hz⟩ := getI (rootTo n l k) (show (x / 2).toNat < _ by omega)
   repeat' (first | (apply W.cKT; exact rfl; exact dTt (by omega)) | (apply WL.callS (f := 160); (iterate 4 exact rfl); exact known_yes _ _ n x _ hr hxr) | (apply WL.indexO tOk; (iterate 8 exact rfl); assumption; exact extA; exact eBk; ((focus (simp [*]; done))); omega; assumption; intro gb ha hc; cases ha; have hcc := hc; first | (obtain ⟨h1, h2, h3, _⟩ := hc) | (obtain ⟨h1, h2, _⟩ := hc) | (obtain ⟨h1, _⟩ := hc)) | (apply WL.storeO tOk; (iterate 4 exact rfl); assumption; exact extA; (iterate 3 exact rfl); exact eBk; assumption; exact rfl; exact extA; intro w' hO hX' hU) | (first | apply WL.nil | refine WL.au (k := ?_) | (apply WL.index tOk; (iterate 8 exact rfl); assumption; exact extA; exact rfl; omega; assumption; intro b off h; have hcc := h; first | (obtain ⟨h1, h2, h3, h4, h5, h6, _⟩ := h) | (obtain ⟨h1, h2, h3, _⟩ := h) | (obtain ⟨h1, h2, _⟩ := h) | (obtain ⟨h1, _⟩ := h))) | (first | apply Z.tn | apply Z.bkn) | (first | apply W.seq | apply W.region | apply W.block | apply W.skip | (apply W.condT; exact rfl)))
   rw [rootTo_yes hxl hr] at hO
   exact Z.agW ⟨by omega, hX', hO⟩ ⟨rfl, rfl, rfl, rfl, rfl, rfl, trivial⟩
  ·repeat' (first | (apply W.cKT; exact rfl; exact dTt (by omega)) | (apply WL.callS (f := 160); (iterate 4 exact rfl); exact known_no _ _ n x _ hr hxr) | (first | apply WL.nil | refine WL.au (k := ?_) | (apply WL.index tOk; (iterate 8 exact rfl); assumption; exact extA; exact rfl; omega; assumption; intro b off h; have hcc := h; first | (obtain ⟨h1, h2, h3, h4, h5, h6, _⟩ := h) | (obtain ⟨h1, h2, h3, _⟩ := h) | (obtain ⟨h1, h2, _⟩ := h) | (obtain ⟨h1, _⟩ := h))) | (first | apply Z.tn | apply Z.bkn) | (first | apply W.seq | apply W.region | apply W.block | apply W.skip | (apply W.condF; exact rfl)))
   exact Z.agW ⟨by omega, hx', by rw [rootTo_no hxl hr]; exact hO'⟩ ⟨rfl, rfl, rfl, rfl, rfl, rfl, trivial⟩
 ·obtain rfl : k = l.length := by omega
  rw [rootTo_mark] at hO'
  repeat' (first | (apply W.cKF; exact rfl; exact dFf (by omega)) | (first | apply WL.nil | refine WL.au (k := ?_)) | (first | apply Z.tn | apply Z.tnx | apply Z.bkx) | (first | apply W.seq | apply W.region | apply W.block | apply W.exit))
  refine W.loopW n.length (fun k w' => k <= n.length /\ Ext w w' /\ Own 1 encB 4 w.heap.size w' (some ⟨g0, 0, none⟩) (n.length + 1) (markTo n l (n.length - k)))
   (fun k => [(0, .slice a n.length cap), (5, .slice (some ⟨g0, 0, none⟩) (n.length + 1) (n.length + 1)), (10, .int .i64 ((n.length - k : Nat) : Int))]) ⟨by omega, hx', hO'⟩ (fun k w' h => h.1) ⟨rfl, rfl, rfl, trivial⟩ ?_
  clear hO'
  rintro k w' ⟨hk, hx', hO'⟩
  have hg0 := (hO'.blk_lt g0 rfl).2
  have hml := markTo_len n l (n.length - k)
  by_cases hlt : k < n.length
  ·obtain ⟨t, ht⟩ : ∃ t, n.length - k = t + 1 := ⟨n.length - k - 1, by omega⟩
   have ht2 : n.length - (k + 1) = t := by omega
   have htn : t < n.length := by omega
   rw [ht] at hO' hml ⊢
   obtain ⟨x, hxn⟩ := getI n htn
   have hmt : (markTo n l (t + 1))[t + 1]? = some (dec (MarkP n l (t + 1) (t + 1))) := tab_get _ (by omega)
   have hxn1 : n[(((t + 1 : Nat) : Int) - 1).toNat]? = some x := by rw [show (((t + 1 : Nat) : Int) - 1).toNat = t by omega]; exact hxn
   by_cases hm : MarkP n l (t + 1) (t + 1) /\ 0 <= x.1
   ·have hgt := hg.gate hxn hm.2
    have hm0 := hm.2
    obtain ⟨z1, hz1⟩ := getI (markTo n l (t + 1)) (show (x.1 / 2).toNat < _ by omega)
    obtain ⟨z2, hz2⟩ := getI ((markTo n l (t + 1)).set (x.1 / 2).toNat true) (show (x.2 / 2).toNat < _ by rw [List.length_set]; omega)
    have hsl : ((markTo n l (t + 1)).set (x.1 / 2).toNat true).length = n.length + 1 := by rw [List.length_set]; exact hml
    have e2 := markTo_two hg hxn hm.1 hm.2
    repeat' (first | (apply WL.gT; exact rfl; exact rfl; exact dTt hm.1) | (apply W.cKT; exact rfl; (focus (exact dTt (by omega)))) | (apply WL.alloc tOk; (iterate 3 exact rfl); intro gb w' hb hge hx) | (apply WL.storeB (w0 := w) tOk; (iterate 4 exact rfl); assumption; exact extA; (iterate 3 exact rfl); exact extA; omega; intro w' hb hc hX' hU; have hcc := hc; obtain ⟨h1, h2, _⟩ := hc; have hO3 := Upd.own hU (Own.ext hO' hx) (Own.blk_ne hO' hge)) | (apply WL.indexO tOk; (iterate 8 exact rfl); assumption; exact extA; exact eBk; ((focus (simp [*]; done))); omega; assumption; intro gb ha hc; cases ha; have hcc := hc; first | (obtain ⟨h1, h2, h3, _⟩ := hc) | (obtain ⟨h1, h2, _⟩ := hc) | (obtain ⟨h1, _⟩ := hc)) | (apply WL.storeO tOk; (iterate 4 exact rfl); assumption; exact extA; (iterate 3 exact rfl); exact eBk; assumption; exact rfl; exact extA; intro w' hO hX' hU) | (apply W.regionF [0, 1, 2, 3, 4, 5, 6, 7] [8, 9] [10, 11] (But _ (some g0)) tMix; kernel_rfl; (iterate 3 exact rfl); exact fun m => But.at _ _ m) | (first | apply WL.nil | refine WL.au (k := ?_) | (apply WL.index tOk; (iterate 8 exact rfl); assumption; exact extA; exact rfl; omega; assumption; intro b off h; have hcc := h; first | (obtain ⟨h1, h2, h3, h4, h5, h6, _⟩ := h) | (obtain ⟨h1, h2, h3, _⟩ := h) | (obtain ⟨h1, h2, _⟩ := h) | (obtain ⟨h1, _⟩ := h))) | (first | apply FL.nil | refine FL.au (k := ?_) | (apply FL.load tOk; (iterate 5 exact rfl); assumption; ((focus (intro h; simp only [blk, Option.map_some, Option.some.injEq] at h; omega))))) | (first | apply CL.nil | apply CL.cons) | (first | apply Z.only | (apply Z.early; (focus (intro m; apply But.of_at; first | exact But.upd (by assumption) | exact But.ext extA | (refine But.trans ?_ (But.upd (by assumption)); exact But.ext extA) | exact But.at _ _ _; done)))) | (first | apply Z.tn | apply Z.bkn) | (first | apply W.seq | apply W.region | apply W.block | apply W.skip))
    rw [e2] at hO
    have e5 : ((t + 1 : Nat) : Int) - 1 = ((n.length - (k + 1) : Nat) : Int) := by omega
    exact Z.agW ⟨by omega, by assumption, by rw [ht2]; exact hO⟩ ⟨rfl, rfl, by rw [<- e5]; exact rfl, trivial⟩
   ·have e2 := markTo_skip hg hxn hm
    have e5 : ((t + 1 : Nat) : Int) - 1 = ((n.length - (k + 1) : Nat) : Int) := by omega
    by_cases hmm : MarkP n l (t + 1) (t + 1)
    ·have hx0 : ¬ 0 <= x.1 := fun h => hm ⟨hmm, h⟩
     repeat' (first | (apply WL.gT; exact rfl; exact rfl; (focus (exact dTt (by omega)))) | (apply W.cKT; exact rfl; (focus (exact dTt (by omega)))) | (apply W.cKF; exact rfl; exact dFf hx0) | (apply WL.alloc tOk; (iterate 3 exact rfl); intro gb w' hb hge hx) | (apply WL.storeB (w0 := w) tOk; (iterate 4 exact rfl); assumption; exact extA; (iterate 3 exact rfl); exact extA; omega; intro w' hb hc hX' hU; have hcc := hc; obtain ⟨h1, h2, _⟩ := hc; have hO3 := Upd.own hU (Own.ext hO' hx) (Own.blk_ne hO' hge)) | (apply WL.indexO tOk; (iterate 8 exact rfl); assumption; exact extA; exact eBk; ((focus (simp [*]; done))); omega; assumption; intro gb ha hc; cases ha; have hcc := hc; first | (obtain ⟨h1, h2, h3, _⟩ := hc) | (obtain ⟨h1, h2, _⟩ := hc) | (obtain ⟨h1, _⟩ := hc)) | (first | apply WL.nil | refine WL.au (k := ?_) | (apply WL.index tOk; (iterate 8 exact rfl); assumption; exact extA; exact rfl; omega; assumption; intro b off h; have hcc := h; first | (obtain ⟨h1, h2, h3, h4, h5, h6, _⟩ := h) | (obtain ⟨h1, h2, h3, _⟩ := h) | (obtain ⟨h1, h2, _⟩ := h) | (obtain ⟨h1, _⟩ := h))) | (first | apply Z.tn | apply Z.bkn) | (first | apply W.seq | apply W.region | apply W.block | apply W.skip))
     exact Z.agW ⟨by omega, by assumption, by rw [ht2, e2]; exact hO3⟩ ⟨rfl, rfl, by rw [<- e5]; exact rfl, trivial⟩
    ·repeat' (first | (apply WL.gF; exact rfl; exact rfl; exact dFf hmm) | (apply W.cKT; exact rfl; (focus (exact dTt (by omega)))) | (apply WL.alloc tOk; (iterate 3 exact rfl); intro gb w' hb hge hx) | (apply WL.storeB (w0 := w) tOk; (iterate 4 exact rfl); assumption; exact extA; (iterate 3 exact rfl); exact extA; omega; intro w' hb hc hX' hU; have hcc := hc; obtain ⟨h1, h2, _⟩ := hc; have hO3 := Upd.own hU (Own.ext hO' hx) (Own.blk_ne hO' hge)) | (apply WL.indexO tOk; (iterate 8 exact rfl); assumption; exact extA; exact eBk; ((focus (simp [*]; done))); omega; assumption; intro gb ha hc; cases ha; have hcc := hc; first | (obtain ⟨h1, h2, h3, _⟩ := hc) | (obtain ⟨h1, h2, _⟩ := hc) | (obtain ⟨h1, _⟩ := hc)) | (first | apply WL.nil | refine WL.au (k := ?_) | (apply WL.index tOk; (iterate 8 exact rfl); assumption; exact extA; exact rfl; omega; assumption; intro b off h; have hcc := h; first | (obtain ⟨h1, h2, h3, h4, h5, h6, _⟩ := h) | (obtain ⟨h1, h2, h3, _⟩ := h) | (obtain ⟨h1, h2, _⟩ := h) | (obtain ⟨h1, _⟩ := h)) | (apply WL.gdF; exact rfl; exact rfl)) | (first | apply Z.tn | apply Z.bkn) | (first | apply W.seq | apply W.region | apply W.block | apply W.skip | (apply W.condF; exact rfl)))
     exact Z.agW ⟨by omega, by assumption, by rw [ht2, e2]; exact hO3⟩ ⟨rfl, rfl, by rw [<- e5]; exact rfl, trivial⟩
  ·obtain rfl : k = n.length := by omega
   rw [Nat.sub_self] at hO' hml ⊢
   obtain ⟨z, hz⟩ := getI (markTo n l 0) (show 0 < _ by omega)
   repeat' (first | (apply W.cKF; exact rfl; exact dFf (by omega)) | (apply WL.indexO tOk; (iterate 8 exact rfl); assumption; exact extA; exact eBk; ((focus (simp [*]; done))); omega; assumption; intro gb ha hc; cases ha; have hcc := hc; first | (obtain ⟨h1, h2, h3, _⟩ := hc) | (obtain ⟨h1, h2, _⟩ := hc) | (obtain ⟨h1, _⟩ := hc)) | (apply WL.storeO tOk; (iterate 4 exact rfl); assumption; exact extA; (iterate 3 exact rfl); exact eBk; assumption; exact rfl; exact extA; intro w' hO hX' hU) | (first | apply WL.nil | refine WL.au (k := ?_)) | (first | apply Z.tn | apply Z.tnx | apply Z.bkx) | (first | apply W.seq | apply W.region | apply W.ret | apply W.exit))
   rw [show (0 : Int).toNat = 0 from rfl, mark_zero hg] at hO
   have hfl : (markL n l).length = n.length + 1 := tab_len _ _
   exact Z.bd1 Tryz.results133 rfl fun m => ⟨Ext.at (by assumption) m, some ⟨g0, 0, none⟩, n.length + 1, by rw [hfl], hO⟩

noncomputable def selB (L : List Bool) : List Int := sel L.length (fun u => L.getD u false = true)
theorem cone_numbers (a : Option Addr) (cap : Nat) (L : List Bool) (w : World) (R : Row 1 encB w a L) (hn : L.length <= 2097152) :
  Lt.Spec Tryz.prog 164 [.slice a L.length cap] w (IsFresh 1 encI 3 w (selB L)) := by
 refine Spec.of _ Tryz.func164 rfl Tryz.ntmps164 (by kernel_rfl) rfl ?_
 repeat' (first | (first | apply WL.nil | refine WL.au (k := ?_)) | apply Z.tn | (first | apply W.seq | apply W.region | apply W.block))
 refine W.loopO L.length (fun k c cp w' => k <= L.length /\ Ext w w' /\ Own 1 encI 3 w.heap.size w' c cp (sel k (fun u => L.getD u false = true)))
  (fun k c cp => [(3, .slice c (sel k (fun u => L.getD u false = true)).length cp), (6, .slice a L.length cap), (7, .int .i64 L.length), (8, .int .i64 k)]) none 0 ⟨by omega, Ext.refl _, Own.nil⟩ (fun k c cp w' h => h.1) ⟨rfl, rfl, rfl, rfl, trivial⟩ ?_
 rintro k c cp w' ⟨hk, hx', hO'⟩
 have hsl := sel_le k (fun u => L.getD u false = true)
 by_cases hlt : k < L.length
 ·obtain ⟨z, hz⟩ := getI L hlt
  have hd : L.getD k false = z := gDo hz
  cases z with
  | true =>
   have e1 := sel_yes (p := fun u => L.getD u false = true) hd
   repeat' (first | (apply W.cKT; exact rfl; exact dTt (by omega)) | (apply WL.lit tOk; (iterate 6 exact rfl); kernel_rfl; exact rfl; intro gb w' hb hge hc hx) | (apply WL.ap1 (z := (k : Int)) tOk eIk; (iterate 10 exact rfl); assumption; exact extA; exact rfl; assumption; exact rfl; exact rfl; exact extA; omega; intro a' cap' w' hO hX' hU hF) | (first | apply WL.nil | refine WL.au (k := ?_) | (apply WL.index tOk; (iterate 8 exact rfl); assumption; exact extA; exact rfl; omega; assumption; intro b off h; have hcc := h; first | (obtain ⟨h1, h2, h3, h4, h5, h6, _⟩ := h) | (obtain ⟨h1, h2, h3, _⟩ := h) | (obtain ⟨h1, h2, _⟩ := h) | (obtain ⟨h1, _⟩ := h))) | (first | apply Z.tn | apply Z.bkn) | (first | apply W.seq | apply W.region | apply W.block | apply W.skip | (apply W.condT; exact rfl)))
   exact Z.agO a' cap' ⟨by omega, hX', by rw [e1]; exact hO⟩ (by repeat' first | exact trivial | (refine And.intro ?_ ?_) | exact rfl | (rw [e1]; exact rfl))
  | false =>
   have e1 := sel_no (m := k) (p := fun u => L.getD u false = true) (by rw [hd]; decide)
   repeat' (first | (apply W.cKT; exact rfl; exact dTt (by omega)) | (first | apply WL.nil | refine WL.au (k := ?_) | (apply WL.index tOk; (iterate 8 exact rfl); assumption; exact extA; exact rfl; omega; assumption; intro b off h; have hcc := h; first | (obtain ⟨h1, h2, h3, h4, h5, h6, _⟩ := h) | (obtain ⟨h1, h2, h3, _⟩ := h) | (obtain ⟨h1, h2, _⟩ := h) | (obtain ⟨h1, _⟩ := h))) | (first | apply Z.tn | apply Z.bkn) | (first | apply W.seq | apply W.region | apply W.block | apply W.skip | (apply W.condF; exact rfl)))
   exact Z.agO c cp ⟨by omega, hx', by rw [e1]; exact hO'⟩ (by repeat' first | exact trivial | (refine And.intro ?_ ?_) | exact rfl | (rw [e1]; exact rfl))
 ·repeat' (first | (apply W.cKF; exact rfl; exact dFf (by omega)) | (first | apply WL.nil | refine WL.au (k := ?_)) | (first | apply Z.tn | apply Z.tnx | apply Z.bkx) | (first | apply W.seq | apply W.region | apply W.ret | apply W.exit))
  obtain rfl : k = L.length := by omega
  exact Z.bd1 Tryz.results164 rfl fun m => ⟨hx'.at m, c, cp, rfl, hO'⟩
theorem mark_on (n : List (Int × Int)) (l : List Int) : selB (markL n l) = onL n l := by
 unfold selB
 rw [show (markL n l).length = n.length + 1 from tab_len _ _]
 refine sel_congr fun u hu => ?_
 show (tab _ _).getD u false = true ↔ _
 rw [tab_getD _ _ hu]
 exact dec_iff
theorem cone_Of (a b : Option Addr) (cap cb : Nat) (n : List (Int × Int)) (l : List Int) (w : World) (R : Row 2 encN w a n) (Rb : Row 1 encI w b l) (hg : GNt n) (hn : n.length <= 1048576) (hl : ∀ x ∈ l, inI64 x) :
  Lt.Spec Tryz.prog 141 [.slice a n.length cap, .slice b l.length cb] w (IsFresh 1 encI 3 w (onL n l)) := by
 have hml : (markL n l).length = n.length + 1 := tab_len _ _
 refine Spec.of _ Tryz.func141 rfl Tryz.ntmps141 (by kernel_rfl) rfl ?_
 repeat' (first | (apply WL.call (f := 133); (iterate 4 exact rfl); exact cone_marked _ _ _ _ n l _ R Rb hg hn hl; rintro v' w' ⟨hx, a', cap', rfl, hO⟩) | (first | apply WL.nil | refine WL.au (k := ?_)) | apply Z.tn | (first | apply W.seq | apply W.region))
 have hx1 := hx
 repeat' (first | (apply WL.call (f := 164); (iterate 4 exact rfl); exact cone_numbers _ _ (markL n l) _ (Own.row eBk (by assumption)) (by omega); rintro v' w' ⟨hx, a', cap', rfl, hO⟩) | (first | apply WL.nil | refine WL.au (k := ?_)) | apply Z.tn | apply W.ret)
 rw [mark_on] at hO ⊢
 exact Z.bd1 Tryz.results141 rfl fun m => ⟨(hx1.trans hx).at m, a', cap', rfl, hO.base hx1.size⟩

abbrev fnv (f : Nat) (us : List Value) : Value := .func (.func f) #[] us.toArray
theorem slices_IndexFunc (a : Option Addr) (cap : Nat) (l : List Int) (f : Nat) (us : List Value) (p : Int -> Bool) (w w0 : World) (R : Row 1 encI w0 a l) (E : Ext w0 w)
  (hf : ∀ x ∈ l, Still Tryz.prog f ([.int .i64 x] ++ us) w (.bool (p x))) :
  Still Tryz.prog 140 [.slice a l.length cap, fnv f us] w (.int .i64 (if l.findIdx p < l.length then (l.findIdx p : Int) else -1)) := by
 have hlen := R.len
 refine Spec.of _ Tryz.func140 rfl Tryz.ntmps140 (by kernel_rfl) rfl ?_
 repeat' (first | (first | apply WL.nil | refine WL.au (k := ?_)) | apply Z.tn | (first | apply W.seq | apply W.region | apply W.block))
 refine W.loop1 l.length (fun k => k <= l.length /\ ∀ i x, i < k -> l[i]? = some x -> p x = false) (fun k => [(0, .slice a l.length cap), (1, fnv f us), (7, .int .i64 l.length), (8, .int .i64 k)]) ⟨by omega, fun i x hi => by omega⟩ (fun k h => h.1) ⟨rfl, rfl, rfl, rfl, trivial⟩ ?_
 rintro k ⟨hk, hno⟩
 by_cases hlt : k < l.length
 ·obtain ⟨x, hx⟩ := getI l hlt
  have hfx := hf x (List.mem_of_getElem? hx)
  have hlx : l[k] = x := by rw [List.getElem?_eq_getElem hlt] at hx; exact Option.some.inj hx
  cases hp : p x with
  | true =>
   rw [hp] at hfx
   repeat' (first | (apply W.cKT; exact rfl; exact dTt (by omega)) | (apply WL.callS; (iterate 4 exact rfl); exact hfx) | (first | apply WL.nil | refine WL.au (k := ?_) | (apply WL.index tOk; (iterate 8 exact rfl); assumption; exact extA; exact rfl; omega; assumption; intro b off h; have hcc := h; first | (obtain ⟨h1, h2, h3, h4, h5, h6, _⟩ := h) | (obtain ⟨h1, h2, h3, _⟩ := h) | (obtain ⟨h1, h2, _⟩ := h) | (obtain ⟨h1, _⟩ := h))) | (first | apply Z.tn | apply Z.tnr | apply Z.bkr) | (first | apply W.seq | apply W.region | apply W.block | apply W.skip | apply W.ret | (apply W.condT; exact rfl)))
   have hi : l.findIdx p = k := by
    refine (List.findIdx_eq hlt).2 ⟨by rw [hlx]; exact hp, fun j hj => ?_⟩
    exact hno j l[j] hj (List.getElem?_eq_getElem (by omega))
   exact Z.bd1 Tryz.results140 rfl fun m => ⟨by rw [hi, if_pos hlt], m, rfl⟩
  | false =>
   rw [hp] at hfx
   repeat' (first | (apply W.cKT; exact rfl; exact dTt (by omega)) | (apply WL.callS; (iterate 4 exact rfl); exact hfx) | (first | apply WL.nil | refine WL.au (k := ?_) | (apply WL.index tOk; (iterate 8 exact rfl); assumption; exact extA; exact rfl; omega; assumption; intro b off h; have hcc := h; first | (obtain ⟨h1, h2, h3, h4, h5, h6, _⟩ := h) | (obtain ⟨h1, h2, h3, _⟩ := h) | (obtain ⟨h1, h2, _⟩ := h) | (obtain ⟨h1, _⟩ := h))) | (first | apply Z.tn | apply Z.bkn) | (first | apply W.seq | apply W.region | apply W.block | apply W.skip | (apply W.condF; exact rfl)))
   refine Z.again1 ⟨by omega, fun i y hi hy => ?_⟩ ⟨rfl, rfl, rfl, rfl, trivial⟩
   by_cases hik : i < k
   ·exact hno i y hik hy
   ·obtain rfl : i = k := by omega
    rw [hx] at hy; cases hy; exact hp
 ·repeat' (first | (apply W.cKF; exact rfl; exact dFf (by omega)) | (first | apply WL.nil | refine WL.au (k := ?_)) | (first | apply Z.tn | apply Z.tnx | apply Z.bkx) | (first | apply W.seq | apply W.region | apply W.ret | apply W.exit))
  have hi : ¬ l.findIdx p < l.length := fun h => by
   have := List.findIdx_getElem (w := h)
   rw [hno (l.findIdx p) _ (by omega) (List.getElem?_eq_getElem h)] at this
   cases this
  exact Z.bd1 Tryz.results140 rfl fun m => ⟨by rw [if_neg hi], m, rfl⟩

theorem filter_prefix {l : List Int} {p : Int -> Bool} {i : Nat} (h : ∀ j x, j < i -> l[j]? = some x -> p x = false) : (l.take i).filter (fun x => !p x) = l.take i := by
 rw [List.filter_eq_self]
 intro x hx
 obtain ⟨j, hj⟩ := List.mem_iff_getElem?.1 hx
 have hji : j < i := by have := lGt hj; rw [List.length_take] at this; omega
 rw [List.getElem?_take, if_pos hji] at hj
 rw [h j x hji hj]; rfl

theorem slices_DeleteFuncU (a : Option Addr) (cap : Nat) (l : List Int) (f : Nat) (us : List Value) (p : Int -> Bool) (w w0 : World) (ho : Own 1 encI 3 w0.heap.size w a cap l) (hX : Ext w0 w) (hl : l.length <= 9223372036854775800)
  (hf : ∀ w', Ext w0 w' -> Upd w0.heap.size a w w' -> ∀ x ∈ l, Still Tryz.prog f ([.int .i64 x] ++ us) w' (.bool (p x))) :
  Lt.Spec Tryz.prog 85 [.slice a l.length cap, fnv f us] w (fun v w' => Ext w0 w' /\ Upd w0.heap.size a w w' /\ v = .slice a (l.filter (fun x => !p x)).length cap /\ Own 1 encI 3 w0.heap.size w' a cap (l.filter (fun x => !p x))) := by
 have hrefl : ∀ m, Upd w0.heap.size a w (at' w m) := fun m => ⟨⟨rfl, rfl, rfl, Nat.le_refl _, fun _ _ _ => rfl⟩, fun q hq => (ho.blk_lt q hq).1⟩
 have hIF := slices_IndexFunc a cap l f us p w w (Own.row eIk ho) (Ext.refl _) (hf w hX (hrefl w.drawn))
 by_cases hany : l.findIdx p < l.length
 ·rw [if_pos hany] at hIF
  obtain ⟨q, hq⟩ : ∃ q, l.findIdx p = q := ⟨_, rfl⟩
  rw [hq] at hIF hany
  have hpre : ∀ j x, j < q -> l[j]? = some x -> p x = false := fun j x hj hx => by
   have := List.not_of_lt_findIdx (p := p) (xs := l) (i := j) (by omega)
   have hlx : l[j]'(by omega) = x := by rw [List.getElem?_eq_getElem (by omega)] at hx; exact Option.some.inj hx
   rw [hlx] at this
   simpa using this
  have hpq : p (l[q]'hany) = true := by
   have := List.findIdx_getElem (p := p) (xs := l) (w := by omega)
   simpa only [hq] using this
  have hfq : (l.take (q + 1)).filter (fun x => !p x) = l.take q := by
   rw [tkS (List.getElem?_eq_getElem hany), List.filter_append, filter_prefix hpre]
   simp [hpq]
  have hfql : ((l.take (q + 1)).filter (fun x => !p x)).length = q := by rw [hfq, List.length_take]; omega
  refine Spec.of _ Tryz.func85 rfl Tryz.ntmps85 (by kernel_rfl) rfl ?_
  repeat' (first | (apply WL.callS; (iterate 4 exact rfl); exact hIF) | (apply W.cKF; exact rfl; exact dFf (by omega)) | (first | apply WL.nil | refine WL.au (k := ?_)) | apply Z.tn | (first | apply W.seq | apply W.region | apply W.block | apply W.skip))
  refine W.loopW (l.length - (q + 1)) (fun k w' => k <= l.length - (q + 1) /\ Ext w0 w' /\ Upd w0.heap.size a w w' /\ ∃ cur, Own 1 encI 3 w0.heap.size w' a cap cur /\ cur.length = l.length /\ cur.drop (q + 1 + k) = l.drop (q + 1 + k) /\ cur.take ((l.take (q + 1 + k)).filter (fun x => !p x)).length = (l.take (q + 1 + k)).filter (fun x => !p x))
   (fun k => [(0, .slice a l.length cap), (1, fnv f us), (5, .int .i64 (((l.take (q + 1 + k)).filter (fun x => !p x)).length : Nat)), (6, .int .i64 ((q + 1 + k : Nat) : Int))]) ⟨by omega, hX, hrefl w.drawn, l, ho, rfl, rfl, by rw [Nat.add_zero, hfql, hfq]⟩ (fun k w' h => h.1) ⟨rfl, rfl, by rw [Nat.add_zero, hfql]; rfl, rfl, trivial⟩ ?_
  rintro k w' ⟨hk, hX', hU', cur, hO', hcl, hcd, hct⟩
  by_cases hlt : k < l.length - (q + 1)
  ·obtain ⟨x, hx⟩ := getI l (show q + 1 + k < l.length by omega)
   have hcx : cur[q + 1 + k]? = some x := by
    have : (cur.drop (q + 1 + k))[0]? = (l.drop (q + 1 + k))[0]? := by rw [hcd]
    rw [List.getElem?_drop, List.getElem?_drop, Nat.add_zero, hx] at this
    exact this
   have hfx := hf w' hX' hU' x (List.mem_of_getElem? hx)
   have hcd' : cur.drop (q + 1 + (k + 1)) = l.drop (q + 1 + (k + 1)) := by
    rw [<- Nat.add_assoc, <- List.drop_drop, hcd, List.drop_drop]
   have hfk := filter_take (fun x => !p x) hx
   have hfl : ((l.take (q + 1 + k)).filter (fun x => !p x)).length < q + 1 + k := by
    have h1 : l.take (q + 1 + k) = l.take (q + 1) ++ (l.drop (q + 1)).take k := by
     rw [List.take_add]
    rw [h1, List.filter_append, List.length_append, hfql]
    have h2 := List.length_filter_le (fun x => !p x) ((l.drop (q + 1)).take k)
    rw [List.length_take] at h2
    omega
   cases hp : p x with
   | true =>
    rw [hp] at hfx hfk
    rw [if_neg (by simp), List.append_nil] at hfk
    repeat' (first | (apply W.cKT; exact rfl; exact dTt (by omega)) | (apply WL.callS; (iterate 4 exact rfl); exact hfx) | (apply WL.indexO tOk; (iterate 8 exact rfl); assumption; exact extA; exact eIk; ((focus (simp [*]; done))); omega; assumption; intro gb ha hc; cases ha; have hcc := hc; first | (obtain ⟨h1, h2, h3, _⟩ := hc) | (obtain ⟨h1, h2, _⟩ := hc) | (obtain ⟨h1, _⟩ := hc)) | (first | apply WL.nil | refine WL.au (k := ?_)) | (first | apply Z.tn | apply Z.bkn) | (first | apply W.seq | apply W.region | apply W.block | apply W.skip | (apply W.condF; exact rfl)))
    exact Z.agW ⟨by omega, hX', hU', cur, hO', hcl, hcd', by rw [<- Nat.add_assoc, hfk]; exact hct⟩ ⟨rfl, rfl, by rw [<- Nat.add_assoc, hfk]; exact rfl, by rw [<- Nat.add_assoc]; exact rfl, trivial⟩
   | false =>
    rw [hp] at hfx hfk
    rw [if_pos (by simp)] at hfk
    obtain ⟨z, hz⟩ := getI cur (show ((l.take (q + 1 + k)).filter (fun x => !p x)).length < cur.length by omega)
    repeat' (first | (apply W.cKT; exact rfl; exact dTt (by omega)) | (apply WL.callS; (iterate 4 exact rfl); exact hfx) | (apply WL.indexO tOk; (iterate 8 exact rfl); assumption; exact extA; exact eIk; ((focus (simp [*]; done))); omega; assumption; intro gb ha hc; cases ha; have hcc := hc; first | (obtain ⟨h1, h2, h3, _⟩ := hc) | (obtain ⟨h1, h2, _⟩ := hc) | (obtain ⟨h1, _⟩ := hc)) | (apply WL.storeO tOk; (iterate 4 exact rfl); assumption; exact extA; (iterate 3 exact rfl); exact eIk; assumption; exact rfl; exact extA; intro w' hO hX' hU) | (first | apply WL.nil | refine WL.au (k := ?_)) | (first | apply Z.tn | apply Z.bkn) | (first | apply W.seq | apply W.region | apply W.block | apply W.skip | (apply W.condT; exact rfl)))
    rw [Int.toNat_natCast] at hO
    have hfk2 : ((l.take (q + 1 + (k + 1))).filter (fun x => !p x)).length = ((l.take (q + 1 + k)).filter (fun x => !p x)).length + 1 := by rw [<- Nat.add_assoc, hfk]; simp
    refine Z.agW ⟨by omega, hX', hU'.trans hU, _, hO, by rw [List.length_set]; exact hcl, ?_, ?_⟩ ⟨rfl, rfl, by rw [hfk2]; exact rfl, by rw [<- Nat.add_assoc]; exact rfl, trivial⟩
    ·rw [List.drop_set, if_pos (by omega)]; exact hcd'
    ·have hcl0 : (cur.take ((l.take (q + 1 + k)).filter (fun x => !p x)).length).length = ((l.take (q + 1 + k)).filter (fun x => !p x)).length := by rw [List.length_take]; omega
     rw [hfk2, List.take_set, tkS hz, List.set_append_right _ _ (by omega), hcl0, Nat.sub_self, hct, <- Nat.add_assoc, hfk]
     rfl
  ·obtain rfl : k = l.length - (q + 1) := by omega
   have hqe : q + 1 + (l.length - (q + 1)) = l.length := by omega
   rw [hqe, List.take_length] at hct ⊢
   rw [hqe] at hcd
   have hfl : (l.filter (fun x => !p x)).length <= l.length := List.length_filter_le _ _
   have hfin : cur.take (l.filter (fun x => !p x)).length ++ List.replicate (l.length - (l.filter (fun x => !p x)).length) (0 : Int) = l.filter (fun x => !p x) ++ List.replicate (l.length - (l.filter (fun x => !p x)).length) 0 := by rw [hct]
   have hfin2 : (l.filter (fun x => !p x) ++ List.replicate (l.length - (l.filter (fun x => !p x)).length) (0 : Int)).length = l.length := by rw [List.length_append, List.length_replicate]; omega
   repeat' (first | (apply W.cKF; exact rfl; exact dFf (by omega)) | (apply WL.sliceLO (s := 1) tOk; (iterate 8 exact rfl); omega) | (apply WL.clearT (z := (0 : Int)) tOk eIk; (iterate 7 exact rfl); exact hO'; exact Ext.refl _; exact hcl; omega; exact rfl; assumption; intro w2 hO2 hX2 hU2) | (first | apply WL.nil | refine WL.au (k := ?_)) | (first | apply Z.tn | apply Z.tnx | apply Z.bkx) | (first | apply W.seq | apply W.region | apply W.exit))
   rw [Int.toNat_natCast, hfin] at hO2
   repeat' (first | (apply WL.sliceHO tOk eIk; (iterate 7 exact rfl); exact hO2; exact Ext.refl _; exact hfin2; omega; intro hO3) | (first | apply WL.nil | refine WL.au (k := ?_)) | apply Z.tn | apply W.ret)
   have e9 : (l.filter (fun x => !p x) ++ List.replicate (l.length - (l.filter (fun x => !p x)).length) (0 : Int)).take ((l.filter (fun x => !p x)).length : Int).toNat = l.filter (fun x => !p x) := by
    rw [Int.toNat_natCast, List.take_left']; rfl
   rw [e9] at hO3
   exact Z.bd1 Tryz.results85 rfl fun m => ⟨hX2.at m, (hU'.trans hU2).trans ⟨⟨rfl, rfl, rfl, Nat.le_refl _, fun _ _ _ => rfl⟩, fun q hq => (ho.blk_lt q hq).1⟩, by rw [e9], hO3⟩
 ·rw [if_neg hany] at hIF
  have hfa : l.filter (fun x => !p x) = l := by
   rw [List.filter_eq_self]
   intro x hx
   cases hp : p x with
   | false => rfl
   | true => exact absurd (List.findIdx_lt_length_of_exists ⟨x, hx, hp⟩) hany
  refine Spec.of _ Tryz.func85 rfl Tryz.ntmps85 (by kernel_rfl) rfl ?_
  repeat' (first | (apply WL.callS; (iterate 4 exact rfl); exact hIF) | (apply W.cKT; exact rfl; exact dTt rfl) | (first | apply WL.nil | refine WL.au (k := ?_)) | (first | apply Z.tn | apply Z.tnr) | (first | apply W.seq | apply W.region | apply W.ret))
  exact Z.bd1 Tryz.results85 rfl fun m => ⟨hX.at m, hrefl m, by rw [hfa], by rw [hfa]; exact ho.ext ((Ext.refl w).at m)⟩
theorem slices_DeleteFunc (a : Option Addr) (cap : Nat) (l : List Int) (f : Nat) (us : List Value) (p : Int -> Bool) (w w0 : World) (ho : Own 1 encI 3 w0.heap.size w a cap l) (hX : Ext w0 w) (hl : l.length <= 9223372036854775800)
  (hf : ∀ w', Ext w0 w' -> ∀ x ∈ l, Still Tryz.prog f ([.int .i64 x] ++ us) w' (.bool (p x))) :
  Lt.Spec Tryz.prog 85 [.slice a l.length cap, fnv f us] w (fun v w' => Ext w0 w' /\ Upd w0.heap.size a w w' /\ v = .slice a (l.filter (fun x => !p x)).length cap /\ Own 1 encI 3 w0.heap.size w' a cap (l.filter (fun x => !p x))) :=
 slices_DeleteFuncU a cap l f us p w w0 ho hX hl fun w' h1 _ => hf w' h1

theorem inQ_node {n : List (Int × Int)} {v : Int} {x : Int × Int} (h : 1 <= v) (hx : n[(v - 1).toNat]? = some x) : inQ n v = dec (x.1 < 0) :=
 dCg ⟨fun ⟨y, hy, h'⟩ => by rw [show v.toNat - 1 = (v - 1).toNat by omega, hx] at hy; cases hy; exact h', fun h' => ⟨x, by rw [show v.toNat - 1 = (v - 1).toNat by omega]; exact hx, h'⟩⟩
theorem cone_Support1 (a : Option Addr) (cap gb : Nat) (n : List (Int × Int)) (v : Int) (w : World) (R : Row 2 encN w a n) (hb : w.cell? ⟨gb, 0, none⟩ = some (.slice a n.length cap)) (h1 : 1 <= v) (h2 : v <= n.length) (hn : n.length <= 1048576) :
  Still Tryz.prog 142 ([.int .i64 v] ++ [.pointer (some ⟨gb, 0, none⟩)]) w (.bool (!inQ n v)) := by
 obtain ⟨x, hx⟩ := getI n (show (v - 1).toNat < n.length by omega)
 have hq := inQ_node h1 hx
 refine Spec.of _ Tryz.func142 rfl Tryz.ntmps142 (by kernel_rfl) rfl ?_
 repeat' (first | (first | apply WL.nil | refine WL.au (k := ?_) | (apply WL.index tOk; (iterate 8 exact rfl); assumption; exact extA; exact rfl; omega; assumption; intro b off h; have hcc := h; first | (obtain ⟨h1, h2, h3, h4, h5, h6, _⟩ := h) | (obtain ⟨h1, h2, h3, _⟩ := h) | (obtain ⟨h1, h2, _⟩ := h) | (obtain ⟨h1, _⟩ := h))) | apply Z.tn | (first | apply W.seq | apply W.region | apply W.ret))
 refine Z.bd1 Tryz.results142 rfl fun m => ⟨congrArg Value.bool ?_, m, rfl⟩
 rw [hq]
 by_cases h : x.1 < 0
 ·rw [dTt h, dFf (by omega)]; rfl
 ·rw [dFf h, dTt (by omega)]; rfl
theorem cone_Support (a b : Option Addr) (cap cb : Nat) (n : List (Int × Int)) (l : List Int) (w : World) (R : Row 2 encN w a n) (Rb : Row 1 encI w b l) (hg : GNt n) (hn : n.length <= 1048576) (hl : ∀ x ∈ l, inI64 x) :
  Lt.Spec Tryz.prog 88 [.slice a n.length cap, .slice b l.length cb] w (IsFresh 1 encI 3 w (supL n l)) := by
 have hol : (onL n l).length <= n.length + 1 := sel_le _ _
 have hnot : (onL n l).filter (fun x => !(!inQ n x)) = supL n l := by
  rw [<- sup_eq]; congr 1; funext x; simp
 refine Spec.of _ Tryz.func88 rfl Tryz.ntmps88 (by kernel_rfl) rfl ?_
 repeat' (first | (apply WL.box; (iterate 3 exact rfl); intro gb w' hb hge hc hx; have hcc := hc; obtain ⟨h1, h2, h3, _⟩ := hc) | (first | apply WL.nil | refine WL.au (k := ?_)) | apply Z.tn | (first | apply W.seq | apply W.region))
 obtain ⟨g0, rfl⟩ : ∃ x, x = gb := ⟨_, rfl⟩; obtain ⟨w1, rfl⟩ : ∃ x, x = w' := ⟨_, rfl⟩
 have hc1 : w1.cell? ⟨g0, 0, none⟩ = some (.slice a n.length cap) := h1
 have hx1 := hx
 repeat' (first | (apply WL.call (f := 141); (iterate 4 exact rfl); exact cone_Of _ _ _ _ n l _ (R.ext hx1) (Rb.ext hx1) hg hn hl; rintro v' w' ⟨hx, a', cap', rfl, hO⟩) | refine WL.au (k := ?_))
 have hx2 := hx
 repeat' (first | (apply WL.call; (iterate 4 exact rfl); exact slices_DeleteFunc a' cap' (onL n l) 142 [.pointer (some ⟨g0, 0, none⟩)] (fun v => !inQ n v) _ w1 hO hx2 (by omega) (fun w' hX x hx => cone_Support1 a cap g0 n x w' (R.ext (hx1.trans hX)) (hX.cell hc1) (of_mem hx).1 (of_mem hx).2 hn); rintro v' w' ⟨hX3, hU3, rfl, hO3⟩) | (first | apply WL.nil | refine WL.au (k := ?_)) | apply Z.tn | apply W.ret)
 rw [hnot] at hO3 ⊢
 exact Z.bd1 Tryz.results88 rfl fun m => ⟨(hx1.trans hX3).at m, a', cap', rfl, hO3.base hx1.size⟩

abbrev kvN : Int × Int -> Value := fun x => .agg (encN x).toArray
abbrev vvI : Int -> Value := fun n => .int .i64 n
theorem encN_inj (a b : Int × Int) (h : encN a = encN b) : a = b := by
 simp only [encN, List.cons.injEq, Value.int.injEq, true_and, and_true] at h
 exact Prod.ext h.1 h.2
theorem keyN : KeyOk Tryz.prog 84 kvN := by
 apply keyOk_struct tOk encN
 ·exact rfl
 ·exact rfl
 ·kernel_rfl
 ·intro a b; exact rfl
 ·intro a; exact rfl
 ·exact encN_inj

def gm (N : List (Int × Int)) : Nat -> List ((Int × Int) × Int)
 | 0 => []
 | k + 1 => match N[k]? with | some x => if 0 <= x.1 then gm N k ++ [(x, 2 * ((k : Int) + 1))] else gm N k | none => gm N k
abbrev stP (B gs : Nat) (a : Option Addr) (cap r : Nat) (N : List (Int × Int)) (M : List ((Int × Int) × Int)) : List Piece :=
 [pcell gs #[.slice a N.length cap, .map (some r)] 136, prow 2 encN 84 B a cap N, pmap kvN vvI r M]

theorem aig_put (gs r cap : Nat) (a : Option Addr) (N : List (Int × Int)) (M : List ((Int × Int) × Int)) (x : Int × Int) (rest : List Piece) (w w0 : World) (hX : Ext w0 w) (hS : Sep w0.heap.size w (stP w0.heap.size gs a cap r N M ++ rest)) (hN : N.length < 1048576) :
  Lt.Spec Tryz.prog 117 [.pointer (some ⟨gs, 0, none⟩), .agg (encN x).toArray] w (fun v w' => Ext w0 w' /\ ∃ a' cap', v = .int .i64 (2 * ((N.length : Int) + 1)) /\ Sep w0.heap.size w' (stP w0.heap.size gs a' cap' r (N ++ [x]) M ++ rest)) := by
 have hR1 := hS.row (i := 1) rfl
 have hC0 := hS.cell (i := 0) rfl
 have hgs := (hS.lt (i := 0) rfl rfl)
 obtain ⟨hD0, hD1, _⟩ := cHp hC0
 have hBC : ∀ k, blk a = some k -> w0.heap.size <= k := fun k hk => (hR1.blk_lt k hk).1
 have hne : blk a ≠ some gs := fun h => by
  rcases hS.apart 1 0 _ _ rfl rfl (by decide) with h1 | h1
  ·rw [show (prow 2 encN 84 w0.heap.size a cap N).b = blk a from rfl] at h1; rw [h1] at h; cases h
  ·exact h1 h
 refine Spec.of _ Tryz.func117 rfl Tryz.ntmps117 (by kernel_rfl) rfl ?_
 repeat' (first | (apply WL.box; (iterate 3 exact rfl); intro gb w' hb hge hc hx; have hcc := hc; obtain ⟨h1, h2, h3, _⟩ := hc) | (apply WL.nilc; (iterate 3 exact rfl)) | (apply W.cKF; exact rfl; exact dFf (by omega)) | (first | apply WL.nil | refine WL.au (k := ?_)) | apply Z.tn | (first | apply W.seq | apply W.region | apply W.skip))
 have hx1 := hx
 obtain ⟨g3, rfl⟩ : ∃ x, x = gb := ⟨_, rfl⟩
 have hnx : blk a ≠ some g3 := fun h => by have := (hR1.blk_lt g3 h).2; omega
 have hD0' := hx1.cell hD0
 have hNl : (N ++ [x]).length = N.length + 1 := by simp
 repeat' (first | (apply WL.nilc; (iterate 3 exact rfl)) | (apply FL.nilc; (iterate 3 exact rfl)) | (apply W.regionF [0, 1, 2, 3, 4, 5] [6, 7, 8, 9] [10] (But _ (blk a)) tMix; kernel_rfl; (iterate 3 exact rfl); exact fun m => But.at _ _ m) | (apply WL.lit tOk; (iterate 6 exact rfl); kernel_rfl; exact rfl; intro gb w' hb hge hc hx) | (apply WL.ap1 (z := (x)) tOk encN_ok; (iterate 10 exact rfl); assumption; exact extA; exact rfl; assumption; exact rfl; exact rfl; exact extA; omega; intro a' cap' w' hO hX' hU hF; (replace hS := Sep.uRw (i := 1) rfl hU hO hF hS extA (by (exact Below.size extA))); (try simp only [List.set_cons_zero, List.set_cons_succ] at hS); (try have hR1 := hS.row (i := 1) rfl); (try have hC0 := hS.cell (i := 0) rfl); (try have hD0 := (cHp hC0).1); (try have hE0 := (cHp hC0).2.1); (try have hM2 := hS.map (i := 2) rfl)) | (apply WL.storeF (w0 := w0) tOk; (iterate 4 exact rfl); assumption; exact extA; (iterate 4 exact rfl); exact extA; omega; intro w' hb hX' hU; replace hS := Sep.uCl (i := 0) rfl hU hb hS extA (by (exact Below.size extA)); (try simp only [List.set_cons_zero, List.set_cons_succ] at hS); (try have hR1 := hS.row (i := 1) rfl); (try have hC0 := hS.cell (i := 0) rfl); (try have hD0 := (cHp hC0).1); (try have hE0 := (cHp hC0).2.1); (try have hM2 := hS.map (i := 2) rfl)) | (first | apply WL.nil | refine WL.au (k := ?_)) | (first | apply FL.nil | refine FL.au (k := ?_) | (apply FL.load tOk; (iterate 5 exact rfl); assumption; assumption) | (apply FL.loadA tOk; (iterate 5 exact rfl); assumption; exact rfl; assumption)) | (first | apply CL.nil | apply CL.cons) | (first | apply Z.only | (apply Z.early; (focus (intro m; apply But.of_at; first | exact But.upd (by assumption) | exact But.ext extA | (refine But.trans ?_ (But.upd (by assumption)); exact But.ext extA) | exact But.at _ _ _; done)))) | apply Z.tn | (first | apply W.seq | apply W.region | apply W.ret))
 refine Z.bd1 Tryz.results117 rfl fun m => ⟨Ext.at (by assumption) m, a', cap', ?_, hS.ext ((Ext.refl _).at m)⟩
 rw [hNl]; rfl

theorem aig_Input (gs r cap : Nat) (a : Option Addr) (N : List (Int × Int)) (M : List ((Int × Int) × Int)) (rest : List Piece) (w w0 : World) (hX : Ext w0 w) (hS : Sep w0.heap.size w (stP w0.heap.size gs a cap r N M ++ rest)) (hN : N.length < 1048576) :
  Lt.Spec Tryz.prog 50 [.pointer (some ⟨gs, 0, none⟩)] w (fun v w' => Ext w0 w' /\ ∃ a' cap', v = .int .i64 (2 * ((N.length : Int) + 1)) /\ Sep w0.heap.size w' (stP w0.heap.size gs a' cap' r (N ++ [(-1, 0)]) M ++ rest)) := by
 refine Spec.of _ Tryz.func50 rfl Tryz.ntmps50 (by kernel_rfl) rfl ?_
 repeat' (first | (apply WL.eqNilS tOk; (iterate 6 exact rfl)) | (apply WL.build tOk; (iterate 7 exact rfl); kernel_rfl) | (apply WL.call (f := 117); (iterate 4 exact rfl); exact aig_put gs r cap a N M (-1, 0) rest _ w0 hX hS hN; rintro v' w' ⟨hX2, a', cap', rfl, hS2⟩) | (first | apply WL.nil | refine WL.au (k := ?_)) | apply Z.tn | (first | apply W.seq | apply W.region | apply W.skip | apply W.ret | (apply W.condF; exact rfl)))
 exact Z.bd1 Tryz.results50 rfl fun m => ⟨hX2.at m, a', cap', rfl, hS2.ext ((Ext.refl _).at m)⟩
def hasL (N : List (Int × Int)) (x : Int) : Prop := 0 <= x /\ x < 2 * ((N.length : Int) + 1)
theorem aig_below (l m : Int) (w : World) (hm : 0 <= m /\ m <= 4611686018427387903) : Still Tryz.prog 167 [.int .i64 l, .int .i64 m] w (.bool (dec (0 <= l /\ l < 2 * m))) := by
 refine Spec.of _ Tryz.func167 rfl Tryz.ntmps167 (by kernel_rfl) rfl ?_
 repeat' (first | (first | apply WL.nil | refine WL.au (k := ?_) | (apply WL.gdF; exact rfl; exact rfl) | (apply WL.gD; exact rfl; exact rfl; all_goals intro _)) | apply Z.tn | (first | apply W.seq | apply W.region | apply W.ret))
 all_goals (refine Z.bd1 Tryz.results167 rfl fun m => ⟨?_, m, rfl⟩; (first | exact congrArg Value.bool (dTt (by omega)).symm | exact congrArg Value.bool (dFf (by omega)).symm | exact congrArg Value.bool (dTt (by omega)) | exact congrArg Value.bool (dFf (by omega)) | exact congrArg Value.bool (dCg (by omega))))
theorem aig_has1 (gs g2 cap : Nat) (a : Option Addr) (N : List (Int × Int)) (v2 : Value) (x : Int) (w : World) (hc : w.heap[gs]? = some (.cells #[.slice a N.length cap, v2] 136 (0, 0))) (h2 : w.cell? ⟨g2, 0, none⟩ = some (.pointer (some ⟨gs, 0, none⟩))) (hN : N.length <= 1048576) :
  Still Tryz.prog 166 ([.int .i64 x] ++ [.pointer (some ⟨g2, 0, none⟩)]) w (.bool (!dec (hasL N x))) := by
 obtain ⟨h1, _⟩ := cHp hc
 refine Spec.of _ Tryz.func166 rfl Tryz.ntmps166 (by kernel_rfl) rfl ?_
 repeat' (first | (apply WL.nilc; (iterate 3 exact rfl)) | (apply WL.callS (f := 167); (iterate 4 exact rfl); exact aig_below _ _ _ (by omega)) | (first | apply WL.nil | refine WL.au (k := ?_)) | apply Z.tn | (first | apply W.seq | apply W.region | apply W.ret))
 exact Z.bd1 Tryz.results166 rfl fun m => ⟨rfl, m, rfl⟩
theorem slices_ContainsFunc (a : Option Addr) (cap : Nat) (l : List Int) (f : Nat) (us : List Value) (p : Int -> Bool) (w w0 : World) (R : Row 1 encI w0 a l) (E : Ext w0 w)
  (hf : ∀ x ∈ l, Still Tryz.prog f ([.int .i64 x] ++ us) w (.bool (p x))) :
  Still Tryz.prog 165 [.slice a l.length cap, fnv f us] w (.bool (dec (∃ x ∈ l, p x = true))) := by
 refine Spec.of _ Tryz.func165 rfl Tryz.ntmps165 (by kernel_rfl) rfl ?_
 repeat' (first | (apply WL.callS (f := 140); (iterate 4 exact rfl); exact slices_IndexFunc _ _ l f us p _ w0 R E hf) | (first | apply WL.nil | refine WL.au (k := ?_)) | apply Z.tn | (first | apply W.seq | apply W.region | apply W.ret))
 refine Z.bd1 Tryz.results165 rfl fun m => ⟨congrArg Value.bool (dCg ?_), m, rfl⟩
 by_cases h : l.findIdx p < l.length
 ·rw [if_pos h]
  exact ⟨fun _ => ⟨l[l.findIdx p], List.getElem_mem h, List.findIdx_getElem⟩, fun _ => by omega⟩
 ·rw [if_neg h]
  exact ⟨fun hh => by omega, fun hh => absurd (List.findIdx_lt_length_of_exists hh) h⟩
def notL (l : Int) : Int := if l < 0 then l else xor1 l

theorem aig_has (gs cap cl : Nat) (a al : Option Addr) (N : List (Int × Int)) (L : List Int) (v2 : Value) (w : World) (hc : w.heap[gs]? = some (.cells #[.slice a N.length cap, v2] 136 (0, 0))) (RL : Row 1 encI w al L) (hN : N.length <= 1048576) :
  Pure Tryz.prog 150 [.pointer (some ⟨gs, 0, none⟩), .slice al L.length cl] w (.bool (dec (∀ x ∈ L, hasL N x))) := by
 refine Spec.of _ Tryz.func150 rfl Tryz.ntmps150 (by kernel_rfl) rfl ?_
 repeat' (first | (apply WL.box; (iterate 3 exact rfl); intro gb w' hb hge hc hx; have hcc := hc; (first | (obtain ⟨h1, h2, h3, _⟩ := hc) | (obtain ⟨h1, h2, _⟩ := hc))) | (apply WL.neNilS tOk; (iterate 6 exact rfl)) | (apply WL.callS (f := 165); (iterate 4 exact rfl); exact slices_ContainsFunc _ _ L 166 [.pointer (some ⟨gb, 0, none⟩)] (fun x => !dec (hasL N x)) _ _ RL hx (fun x _ => aig_has1 gs gb cap a N v2 x _ (Ext.heap hx hc) h1 hN)) | (first | apply WL.nil | refine WL.au (k := ?_)) | apply Z.tn | (first | apply W.seq | apply W.region | apply W.ret))
 refine Z.bd1 Tryz.results150 rfl fun m => ⟨congrArg Value.bool ?_, Ext.at extA m⟩
 by_cases h : ∀ x ∈ L, hasL N x
 ·rw [dTt h, dFf]
  ·rfl
  ·rintro ⟨x, hx, hp⟩; rw [dTt (h x hx)] at hp; cases hp
 ·rw [dFf h, dTt]
  ·rfl
  ·have h' : ∃ x, ¬ (x ∈ L -> hasL N x) := Classical.not_forall.1 h
   obtain ⟨x, hx⟩ := h'
   have h2 : x ∈ L /\ ¬ hasL N x := Classical.not_imp.1 hx
   exact ⟨x, h2.1, by rw [dFf h2.2]; rfl⟩
end Go.Proofs.YteidpnpbfagaeaaGreat
